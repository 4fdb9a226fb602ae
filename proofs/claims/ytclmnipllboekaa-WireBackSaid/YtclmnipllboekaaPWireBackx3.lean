/- Written by a program of this session's: functions that the law reaches, their walks, the row; no conditions beyond the statement's own. -/
import Derived.Test.YtclmnipllboekaaPWireBackx0
import Derived.Test.YtclmnipllboekaaPWireBackx1
import Derived.Test.YtclmnipllboekaaPWireBackx2
namespace Go.Proofs.Ytclmnipllboekaa.PWireBack
open Go.RowKit Go.Proofs.YtclmnipllboekaaW.PrintWords Go.Proofs.YtclmnipllboekaaW.PrintLast Go.Proofs.YtclmnipllboekaaW.PrintMore
attribute [local go_sem] max2_int min2_int max_two min_two max_three min_three max_four min_four   -- for this text's walks alone
set_option linter.unusedVariables false
set_option linter.unusedSimpArgs false

/-! ### trammellaw01_WireBack: function 8 -/
mutual
def trammellaw01_WireBack.j0 : Nat → Int → List Int → List Int → Bool → Option (Bool)
  | 0, _, _, _, _ => none
  | k + 1, x0, x1, x2, x32 => if x32 = true then ((trammellaw01_works.f k).bind fun t128 => (some t128)) else ((wire_Put.f k x0).bind fun t129 => ((wire_PutInt.f k (wrap64 (x0))).bind fun t132 => ((wire_Fixed.f k x0 8).bind fun t135 => (if ([] : List Int).length + x1.length < 140737488355328 then ((some (([] : List Int) ++ x1 : List Int)).bind fun y138 => (if y138.length + t129.length < 140737488355328 then ((some (y138 ++ t129 : List Int)).bind fun y141 => (if y141.length + t132.length < 140737488355328 then ((some (y141 ++ t132 : List Int)).bind fun y144 => (if y144.length + t135.length < 140737488355328 then ((some (y144 ++ t135 : List Int)).bind fun y147 => (if y147.length + x2.length < 140737488355328 then ((some (y147 ++ x2 : List Int)).bind fun y150 => ((wire_Get.f k y150 (x1.length : Int)).bind fun bt153 => ((wire_GetInt.f k y150 bt153.2.1).bind fun bt156 => ((wire_Wide.f k y150 bt156.2.1 8).bind fun bt159 => (if bt153.1 = x0 then (if bt156.1 = (wrap64 (x0)) then (if bt159.1 = x0 then (if bt153.2.2 = 0 then (if bt156.2.2 = 0 then (if bt159.2.2 = 0 then (if bt153.2.1 = (wrap64 ((x1.length : Int) + (t129.length : Int))) then (if bt156.2.1 = (wrap64 (bt153.2.1 + (t132.length : Int))) then (if bt159.2.1 = (wrap64 (bt156.2.1 + 8)) then (if (t129.length : Int) < 1 then (trammellaw01_WireBack.j1 k t129 true) else (trammellaw01_WireBack.j1 k t129 (decide ((t129.length : Int) > 10)))) else (trammellaw01_WireBack.j1 k t129 true)) else (trammellaw01_WireBack.j1 k t129 true)) else (trammellaw01_WireBack.j1 k t129 true)) else (trammellaw01_WireBack.j1 k t129 true)) else (trammellaw01_WireBack.j1 k t129 true)) else (trammellaw01_WireBack.j1 k t129 true)) else (trammellaw01_WireBack.j1 k t129 true)) else (trammellaw01_WireBack.j1 k t129 true)) else (trammellaw01_WireBack.j1 k t129 true)))))) else (none))) else (none))) else (none))) else (none))) else (none)))))
def trammellaw01_WireBack.j1 : Nat → List Int → Bool → Option (Bool)
  | 0, _, _ => none
  | k + 1, x7, x136 => if x136 = true then (some false) else (trammellaw01_WireBack.l0 k x7 0)
def trammellaw01_WireBack.l0 : Nat → List Int → Int → Option (Bool)
  | 0, _, _ => none
  | k + 1, x7, x21 => if x21 < (x7.length : Int) then (if 0 ≤ x21 then (if x21 ≤ (x7.length : Int) then ((wire_Get.f k (x7.take (x21 : Int).toNat) 0).bind fun bt166 => (if bt166.2.2 = 10 then (if bt166.2.1 = 0 then (trammellaw01_WireBack.l0 k x7 (wrap64 (x21 + 1))) else (some false)) else (some false))) else (none)) else (none)) else ((trammellaw01_works.f k).bind fun t169 => (some t169))
end
def trammellaw01_WireBack.f (k : Nat) (a0 : Int) (l1 : List Int) (l2 : List Int) : Option (Bool) := if (l1.length : Int) > 4096 then (trammellaw01_WireBack.j0 k a0 l1 l2 true) else (trammellaw01_WireBack.j0 k a0 l1 l2 (decide ((l2.length : Int) > 4096)))
theorem trammellaw01_WireBack.mono_l : ∀ k, (∀ y0 y1 y2 y3, LeO (trammellaw01_WireBack.j0 k y0 y1 y2 y3) (trammellaw01_WireBack.j0 (k + 1) y0 y1 y2 y3)) ∧ (∀ y0 y1, LeO (trammellaw01_WireBack.j1 k y0 y1) (trammellaw01_WireBack.j1 (k + 1) y0 y1)) ∧ (∀ y0 y1, LeO (trammellaw01_WireBack.l0 k y0 y1) (trammellaw01_WireBack.l0 (k + 1) y0 y1))
  | 0 => ⟨fun _ _ _ _ r h => by simp [trammellaw01_WireBack.j0] at h, fun _ _ r h => by simp [trammellaw01_WireBack.j1] at h, fun _ _ r h => by simp [trammellaw01_WireBack.l0] at h⟩
  | k + 1 => by
    obtain ⟨ih0, ih1, ih2⟩ := trammellaw01_WireBack.mono_l k
    refine ⟨?_, ?_, ?_⟩
    · intro y0 y1 y2 y3
      unfold trammellaw01_WireBack.j0
      repeat' first
      | (with_reducible exact ih0 _ _ _ _)
      | (with_reducible exact ih1 _ _)
      | (with_reducible exact ih2 _ _)
      | (with_reducible exact trammellaw01_works.mono _)
      | (with_reducible exact wire_Fixed.mono _ _ _)
      | (with_reducible exact wire_Get.mono _ _ _)
      | (with_reducible exact wire_GetInt.mono _ _ _)
      | (with_reducible exact wire_Put.mono _ _)
      | (with_reducible exact wire_PutInt.mono _ _)
      | (with_reducible exact wire_Wide.mono _ _ _ _)
      | (with_reducible exact LeO.refl _)
      | (with_reducible exact LeO.none _)
      | (with_reducible refine LeO.ite ?_ ?_)
      | (with_reducible refine LeO.bind ?_ (fun _ => ?_))
      | exact ih0 _ _ _ _
      | exact ih1 _ _
      | exact ih2 _ _
      | exact trammellaw01_works.mono _
      | exact wire_Fixed.mono _ _ _
      | exact wire_Get.mono _ _ _
      | exact wire_GetInt.mono _ _ _
      | exact wire_Put.mono _ _
      | exact wire_PutInt.mono _ _
      | exact wire_Wide.mono _ _ _ _
      | exact LeO.none _
      | refine LeO.ite ?_ ?_
      | refine LeO.bind ?_ (fun _ => ?_)
    · intro y0 y1
      unfold trammellaw01_WireBack.j1
      repeat' first
      | (with_reducible exact ih0 _ _ _ _)
      | (with_reducible exact ih1 _ _)
      | (with_reducible exact ih2 _ _)
      | (with_reducible exact trammellaw01_works.mono _)
      | (with_reducible exact wire_Fixed.mono _ _ _)
      | (with_reducible exact wire_Get.mono _ _ _)
      | (with_reducible exact wire_GetInt.mono _ _ _)
      | (with_reducible exact wire_Put.mono _ _)
      | (with_reducible exact wire_PutInt.mono _ _)
      | (with_reducible exact wire_Wide.mono _ _ _ _)
      | (with_reducible exact LeO.refl _)
      | (with_reducible exact LeO.none _)
      | (with_reducible refine LeO.ite ?_ ?_)
      | (with_reducible refine LeO.bind ?_ (fun _ => ?_))
      | exact ih0 _ _ _ _
      | exact ih1 _ _
      | exact ih2 _ _
      | exact trammellaw01_works.mono _
      | exact wire_Fixed.mono _ _ _
      | exact wire_Get.mono _ _ _
      | exact wire_GetInt.mono _ _ _
      | exact wire_Put.mono _ _
      | exact wire_PutInt.mono _ _
      | exact wire_Wide.mono _ _ _ _
      | exact LeO.none _
      | refine LeO.ite ?_ ?_
      | refine LeO.bind ?_ (fun _ => ?_)
    · intro y0 y1
      unfold trammellaw01_WireBack.l0
      repeat' first
      | (with_reducible exact ih0 _ _ _ _)
      | (with_reducible exact ih1 _ _)
      | (with_reducible exact ih2 _ _)
      | (with_reducible exact trammellaw01_works.mono _)
      | (with_reducible exact wire_Fixed.mono _ _ _)
      | (with_reducible exact wire_Get.mono _ _ _)
      | (with_reducible exact wire_GetInt.mono _ _ _)
      | (with_reducible exact wire_Put.mono _ _)
      | (with_reducible exact wire_PutInt.mono _ _)
      | (with_reducible exact wire_Wide.mono _ _ _ _)
      | (with_reducible exact LeO.refl _)
      | (with_reducible exact LeO.none _)
      | (with_reducible refine LeO.ite ?_ ?_)
      | (with_reducible refine LeO.bind ?_ (fun _ => ?_))
      | exact ih0 _ _ _ _
      | exact ih1 _ _
      | exact ih2 _ _
      | exact trammellaw01_works.mono _
      | exact wire_Fixed.mono _ _ _
      | exact wire_Get.mono _ _ _
      | exact wire_GetInt.mono _ _ _
      | exact wire_Put.mono _ _
      | exact wire_PutInt.mono _ _
      | exact wire_Wide.mono _ _ _ _
      | exact LeO.none _
      | refine LeO.ite ?_ ?_
      | refine LeO.bind ?_ (fun _ => ?_)
theorem trammellaw01_WireBack.mono : ∀ a0 a1 a2 k, LeO (trammellaw01_WireBack.f k a0 a1 a2) (trammellaw01_WireBack.f (k + 1) a0 a1 a2) := by
  intro a0 a1 a2 k
  obtain ⟨ih0, ih1, ih2⟩ := trammellaw01_WireBack.mono_l k
  unfold trammellaw01_WireBack.f
  repeat' first
      | (with_reducible exact ih0 _ _ _ _)
      | (with_reducible exact ih1 _ _)
      | (with_reducible exact ih2 _ _)
      | (with_reducible exact trammellaw01_works.mono _)
      | (with_reducible exact wire_Fixed.mono _ _ _)
      | (with_reducible exact wire_Get.mono _ _ _)
      | (with_reducible exact wire_GetInt.mono _ _ _)
      | (with_reducible exact wire_Put.mono _ _)
      | (with_reducible exact wire_PutInt.mono _ _)
      | (with_reducible exact wire_Wide.mono _ _ _ _)
      | (with_reducible exact LeO.refl _)
      | (with_reducible exact LeO.none _)
      | (with_reducible refine LeO.ite ?_ ?_)
      | (with_reducible refine LeO.bind ?_ (fun _ => ?_))
      | exact ih0 _ _ _ _
      | exact ih1 _ _
      | exact ih2 _ _
      | exact trammellaw01_works.mono _
      | exact wire_Fixed.mono _ _ _
      | exact wire_Get.mono _ _ _
      | exact wire_GetInt.mono _ _ _
      | exact wire_Put.mono _ _
      | exact wire_PutInt.mono _ _
      | exact wire_Wide.mono _ _ _ _
      | exact LeO.none _
      | refine LeO.ite ?_ ?_
      | refine LeO.bind ?_ (fun _ => ?_)
set_option maxHeartbeats 8000000 in
set_option maxRecDepth 100000 in
theorem trammellaw01_WireBack.calls (k : Nat) (a0 : Int) (A1 : Option Addr) (c1 : Nat) (l1 : List Int) (A2 : Option Addr) (c2 : Nat) (l2 : List Int) (r : Bool) (w : World) (hr1 : Kd.C (Kd.int .u8) w A1 l1.length l1) (hc1 : l1.length ≤ c1) (hr2 : Kd.C (Kd.int .u8) w A2 l2.length l2) (hc2 : l2.length ≤ c2) (h : trammellaw01_WireBack.f k a0 l1 l2 = some r) :
    Calls Try.prog 8 #[.int .u64 a0, .slice A1 l1.length c1, .slice A2 l2.length c2] w fun e w' => e = .returned (.bool r) ∧ Below w.heap.size w w' := by
  have HR1 := Aside0.mk hr1
  have HC1 := Aside0.mk hc1
  clear hr1 hc1
  have HR2 := Aside0.mk hr2
  have HC2 := Aside0.mk hc2
  clear hr2 hc2
  have HB := Aside0.mk (Below.refl w.heap.size w)
  have H : (if (l1.length : Int) > 4096 then (trammellaw01_WireBack.j0 k a0 l1 l2 true) else (trammellaw01_WireBack.j0 k a0 l1 l2 (decide ((l2.length : Int) > 4096)))) = some r := h
  clear h
  have HC4 := Aside0.mk H
  clear H
  go_enter Try.func8, Try.ntmps8
  go_upto_region 1 with (fail)
  go_cut [32] (fun v32 wc => ∃ (kq : Nat) (x32_3 : Bool), v32 = .bool x32_3 ∧ Aside0 (trammellaw01_WireBack.j0 kq a0 l1 l2 x32_3 = some r) ∧ Aside0 (kq ≤ k) ∧ Aside0 (Below w.heap.size w wc))
  case first =>
    have H := HC4.out
    clear HC4
    by_cases c5 : (l1.length : Int) > 4096
    · rw [if_pos c5] at H
      have c5b0 : decide (4096 < (l1.length : Int)) = true := decide_eq_true c5
      have c5b1 : decide (4096 < l1.length) = true := decide_eq_true (by omega)
      clear c5
      (first | rw [c5b0] | (simp only [i64_w, i32_w]; rw [c5b0]) | skip)
      have H' := Aside0.mk H
      clear H
      go_wp2
      go_meet
      case rel => exact ⟨_, (true), (by first | rfl | (simp; done) | (simp [*]; done)), H', ⟨by first | omega | exact Nat.le_refl _⟩, ⟨by repeat (first | (with_reducible first | exact HB.out | apply below_alloc | apply pw_below_drewN | apply below_drew1) | exact HB.out)⟩⟩
    · rw [if_neg c5] at H
      have c5b0 : decide (4096 < (l1.length : Int)) = false := decide_eq_false c5
      have c5b1 : decide (4096 < l1.length) = false := decide_eq_false (by omega)
      clear c5
      (first | rw [c5b0] | (simp only [i64_w, i32_w]; rw [c5b0]) | skip)
      have H' := Aside0.mk H
      clear H
      go_wp2
      go_meet
      case rel => exact ⟨_, (decide ((l2.length : Int) > 4096)), (by first | rfl | (simp; done) | (simp [*]; done)), H', ⟨by first | omega | exact Nat.le_refl _⟩, ⟨by repeat (first | (with_reducible first | exact HB.out | apply below_alloc | apply pw_below_drewN | apply below_drew1) | exact HB.out)⟩⟩
  case rest =>
    clear HC4
    try clear c1
    try clear c2
    try clear p2
    try clear c5
    try clear c5b0
    try clear c5b1
    obtain ⟨kq, x32_3, rfl, HA, HJ3, HB⟩ := hcut
    cases kq with
    | zero => exact absurd HA.out (by simp [trammellaw01_WireBack.j0])
    | succ kj3 =>
      have H := HA.out
      clear HA
      simp only [trammellaw01_WireBack.j0] at H
      by_cases c6 : x32_3 = true
      · subst c6
        have H1 : ((trammellaw01_works.f kj3).bind fun t128 => (some t128)) = some r := by rw [if_pos rfl] at H; exact H
        clear H
        have H := H1
        clear H1
        replace H := Option.bind_eq_some_iff.mp H
        obtain ⟨t128, A70, H⟩ := H
        replace H : (some t128) = some r := H
        have A7 := Aside0.mk A70
        clear A70
        obtain rfl := Option.some.inj H
        go_wp2_with (first | ((with_reducible refine gate_callee (f := 10) rfl ?_); refine goesL_ (some 33) rfl rfl Try.func10 (by kernel_rfl) rfl #[] rfl (by (try simp only [List.map_toArray, List.map_cons, List.map_nil]); first | done | rfl | (simp only [List.length_drop, List.length_take]; rfl)) ?_; (with_reducible refine (trammellaw01_works.calls kj3  t128 _ A7.out).mono ?_); rintro e w8 ⟨rfl, hb⟩; refine ⟨_, rfl, ?_⟩; have n0_ := Aside0.mk (below_step (by repeat (first | (with_reducible first | exact HB.out | apply below_alloc | apply pw_below_drewN | apply below_drew1) | exact HB.out)) hb); clear HB; have HB := n0_; clear n0_; (try clear hb); (try clear hb2); (try clear hk); (try clear hi)))
        go_ret
        exact ⟨by first | rfl | (simp [errW_none, errW_some] <;> rfl) | (simp [*, errW_none, errW_some] <;> rfl), by repeat (first | (with_reducible first | exact HB.out | apply below_alloc | apply pw_below_drewN | apply below_drew1) | exact HB.out)⟩
      · replace c6 := Bool.eq_false_iff.mpr c6
        subst c6
        have H1 : ((wire_Put.f kj3 a0).bind fun t129 => ((wire_PutInt.f kj3 (wrap64 (a0))).bind fun t132 => ((wire_Fixed.f kj3 a0 8).bind fun t135 => (if ([] : List Int).length + l1.length < 140737488355328 then ((some (([] : List Int) ++ l1 : List Int)).bind fun y138 => (if y138.length + t129.length < 140737488355328 then ((some (y138 ++ t129 : List Int)).bind fun y141 => (if y141.length + t132.length < 140737488355328 then ((some (y141 ++ t132 : List Int)).bind fun y144 => (if y144.length + t135.length < 140737488355328 then ((some (y144 ++ t135 : List Int)).bind fun y147 => (if y147.length + l2.length < 140737488355328 then ((some (y147 ++ l2 : List Int)).bind fun y150 => ((wire_Get.f kj3 y150 (l1.length : Int)).bind fun bt153 => ((wire_GetInt.f kj3 y150 bt153.2.1).bind fun bt156 => ((wire_Wide.f kj3 y150 bt156.2.1 8).bind fun bt159 => (if bt153.1 = a0 then (if bt156.1 = (wrap64 (a0)) then (if bt159.1 = a0 then (if bt153.2.2 = 0 then (if bt156.2.2 = 0 then (if bt159.2.2 = 0 then (if bt153.2.1 = (wrap64 ((l1.length : Int) + (t129.length : Int))) then (if bt156.2.1 = (wrap64 (bt153.2.1 + (t132.length : Int))) then (if bt159.2.1 = (wrap64 (bt156.2.1 + 8)) then (if (t129.length : Int) < 1 then (trammellaw01_WireBack.j1 kj3 t129 true) else (trammellaw01_WireBack.j1 kj3 t129 (decide ((t129.length : Int) > 10)))) else (trammellaw01_WireBack.j1 kj3 t129 true)) else (trammellaw01_WireBack.j1 kj3 t129 true)) else (trammellaw01_WireBack.j1 kj3 t129 true)) else (trammellaw01_WireBack.j1 kj3 t129 true)) else (trammellaw01_WireBack.j1 kj3 t129 true)) else (trammellaw01_WireBack.j1 kj3 t129 true)) else (trammellaw01_WireBack.j1 kj3 t129 true)) else (trammellaw01_WireBack.j1 kj3 t129 true)) else (trammellaw01_WireBack.j1 kj3 t129 true)))))) else (none))) else (none))) else (none))) else (none))) else (none))))) = some r := by rw [if_neg (show ¬ (false = true) by decide)] at H; exact H
        clear H
        have H := H1
        clear H1
        replace H := Option.bind_eq_some_iff.mp H
        obtain ⟨t129, A90, H⟩ := H
        replace H : ((wire_PutInt.f kj3 (wrap64 (a0))).bind fun t132 => ((wire_Fixed.f kj3 a0 8).bind fun t135 => (if ([] : List Int).length + l1.length < 140737488355328 then ((some (([] : List Int) ++ l1 : List Int)).bind fun y138 => (if y138.length + t129.length < 140737488355328 then ((some (y138 ++ t129 : List Int)).bind fun y141 => (if y141.length + t132.length < 140737488355328 then ((some (y141 ++ t132 : List Int)).bind fun y144 => (if y144.length + t135.length < 140737488355328 then ((some (y144 ++ t135 : List Int)).bind fun y147 => (if y147.length + l2.length < 140737488355328 then ((some (y147 ++ l2 : List Int)).bind fun y150 => ((wire_Get.f kj3 y150 (l1.length : Int)).bind fun bt153 => ((wire_GetInt.f kj3 y150 bt153.2.1).bind fun bt156 => ((wire_Wide.f kj3 y150 bt156.2.1 8).bind fun bt159 => (if bt153.1 = a0 then (if bt156.1 = (wrap64 (a0)) then (if bt159.1 = a0 then (if bt153.2.2 = 0 then (if bt156.2.2 = 0 then (if bt159.2.2 = 0 then (if bt153.2.1 = (wrap64 ((l1.length : Int) + (t129.length : Int))) then (if bt156.2.1 = (wrap64 (bt153.2.1 + (t132.length : Int))) then (if bt159.2.1 = (wrap64 (bt156.2.1 + 8)) then (if (t129.length : Int) < 1 then (trammellaw01_WireBack.j1 kj3 t129 true) else (trammellaw01_WireBack.j1 kj3 t129 (decide ((t129.length : Int) > 10)))) else (trammellaw01_WireBack.j1 kj3 t129 true)) else (trammellaw01_WireBack.j1 kj3 t129 true)) else (trammellaw01_WireBack.j1 kj3 t129 true)) else (trammellaw01_WireBack.j1 kj3 t129 true)) else (trammellaw01_WireBack.j1 kj3 t129 true)) else (trammellaw01_WireBack.j1 kj3 t129 true)) else (trammellaw01_WireBack.j1 kj3 t129 true)) else (trammellaw01_WireBack.j1 kj3 t129 true)) else (trammellaw01_WireBack.j1 kj3 t129 true)))))) else (none))) else (none))) else (none))) else (none))) else (none)))) = some r := H
        have A9 := Aside0.mk A90
        clear A90
        replace H := Option.bind_eq_some_iff.mp H
        obtain ⟨t132, A100, H⟩ := H
        replace H : ((wire_Fixed.f kj3 a0 8).bind fun t135 => (if ([] : List Int).length + l1.length < 140737488355328 then ((some (([] : List Int) ++ l1 : List Int)).bind fun y138 => (if y138.length + t129.length < 140737488355328 then ((some (y138 ++ t129 : List Int)).bind fun y141 => (if y141.length + t132.length < 140737488355328 then ((some (y141 ++ t132 : List Int)).bind fun y144 => (if y144.length + t135.length < 140737488355328 then ((some (y144 ++ t135 : List Int)).bind fun y147 => (if y147.length + l2.length < 140737488355328 then ((some (y147 ++ l2 : List Int)).bind fun y150 => ((wire_Get.f kj3 y150 (l1.length : Int)).bind fun bt153 => ((wire_GetInt.f kj3 y150 bt153.2.1).bind fun bt156 => ((wire_Wide.f kj3 y150 bt156.2.1 8).bind fun bt159 => (if bt153.1 = a0 then (if bt156.1 = (wrap64 (a0)) then (if bt159.1 = a0 then (if bt153.2.2 = 0 then (if bt156.2.2 = 0 then (if bt159.2.2 = 0 then (if bt153.2.1 = (wrap64 ((l1.length : Int) + (t129.length : Int))) then (if bt156.2.1 = (wrap64 (bt153.2.1 + (t132.length : Int))) then (if bt159.2.1 = (wrap64 (bt156.2.1 + 8)) then (if (t129.length : Int) < 1 then (trammellaw01_WireBack.j1 kj3 t129 true) else (trammellaw01_WireBack.j1 kj3 t129 (decide ((t129.length : Int) > 10)))) else (trammellaw01_WireBack.j1 kj3 t129 true)) else (trammellaw01_WireBack.j1 kj3 t129 true)) else (trammellaw01_WireBack.j1 kj3 t129 true)) else (trammellaw01_WireBack.j1 kj3 t129 true)) else (trammellaw01_WireBack.j1 kj3 t129 true)) else (trammellaw01_WireBack.j1 kj3 t129 true)) else (trammellaw01_WireBack.j1 kj3 t129 true)) else (trammellaw01_WireBack.j1 kj3 t129 true)) else (trammellaw01_WireBack.j1 kj3 t129 true)))))) else (none))) else (none))) else (none))) else (none))) else (none))) = some r := H
        have A10 := Aside0.mk A100
        clear A100
        replace H := Option.bind_eq_some_iff.mp H
        obtain ⟨t135, A110, H⟩ := H
        replace H : (if ([] : List Int).length + l1.length < 140737488355328 then ((some (([] : List Int) ++ l1 : List Int)).bind fun y138 => (if y138.length + t129.length < 140737488355328 then ((some (y138 ++ t129 : List Int)).bind fun y141 => (if y141.length + t132.length < 140737488355328 then ((some (y141 ++ t132 : List Int)).bind fun y144 => (if y144.length + t135.length < 140737488355328 then ((some (y144 ++ t135 : List Int)).bind fun y147 => (if y147.length + l2.length < 140737488355328 then ((some (y147 ++ l2 : List Int)).bind fun y150 => ((wire_Get.f kj3 y150 (l1.length : Int)).bind fun bt153 => ((wire_GetInt.f kj3 y150 bt153.2.1).bind fun bt156 => ((wire_Wide.f kj3 y150 bt156.2.1 8).bind fun bt159 => (if bt153.1 = a0 then (if bt156.1 = (wrap64 (a0)) then (if bt159.1 = a0 then (if bt153.2.2 = 0 then (if bt156.2.2 = 0 then (if bt159.2.2 = 0 then (if bt153.2.1 = (wrap64 ((l1.length : Int) + (t129.length : Int))) then (if bt156.2.1 = (wrap64 (bt153.2.1 + (t132.length : Int))) then (if bt159.2.1 = (wrap64 (bt156.2.1 + 8)) then (if (t129.length : Int) < 1 then (trammellaw01_WireBack.j1 kj3 t129 true) else (trammellaw01_WireBack.j1 kj3 t129 (decide ((t129.length : Int) > 10)))) else (trammellaw01_WireBack.j1 kj3 t129 true)) else (trammellaw01_WireBack.j1 kj3 t129 true)) else (trammellaw01_WireBack.j1 kj3 t129 true)) else (trammellaw01_WireBack.j1 kj3 t129 true)) else (trammellaw01_WireBack.j1 kj3 t129 true)) else (trammellaw01_WireBack.j1 kj3 t129 true)) else (trammellaw01_WireBack.j1 kj3 t129 true)) else (trammellaw01_WireBack.j1 kj3 t129 true)) else (trammellaw01_WireBack.j1 kj3 t129 true)))))) else (none))) else (none))) else (none))) else (none))) else (none)) = some r := H
        have A11 := Aside0.mk A110
        clear A110
        by_cases c12 : ([] : List Int).length + l1.length < 140737488355328
        · rw [if_pos c12] at H
          have LMc12 := Aside0.mk c12
          clear c12
          obtain ⟨y138, hy138⟩ : ∃ y_ : List Int, y_ = (([] : List Int) ++ l1) := ⟨_, rfl⟩
          replace H : (if y138.length + t129.length < 140737488355328 then ((some (y138 ++ t129 : List Int)).bind fun y141 => (if y141.length + t132.length < 140737488355328 then ((some (y141 ++ t132 : List Int)).bind fun y144 => (if y144.length + t135.length < 140737488355328 then ((some (y144 ++ t135 : List Int)).bind fun y147 => (if y147.length + l2.length < 140737488355328 then ((some (y147 ++ l2 : List Int)).bind fun y150 => ((wire_Get.f kj3 y150 (l1.length : Int)).bind fun bt153 => ((wire_GetInt.f kj3 y150 bt153.2.1).bind fun bt156 => ((wire_Wide.f kj3 y150 bt156.2.1 8).bind fun bt159 => (if bt153.1 = a0 then (if bt156.1 = (wrap64 (a0)) then (if bt159.1 = a0 then (if bt153.2.2 = 0 then (if bt156.2.2 = 0 then (if bt159.2.2 = 0 then (if bt153.2.1 = (wrap64 ((l1.length : Int) + (t129.length : Int))) then (if bt156.2.1 = (wrap64 (bt153.2.1 + (t132.length : Int))) then (if bt159.2.1 = (wrap64 (bt156.2.1 + 8)) then (if (t129.length : Int) < 1 then (trammellaw01_WireBack.j1 kj3 t129 true) else (trammellaw01_WireBack.j1 kj3 t129 (decide ((t129.length : Int) > 10)))) else (trammellaw01_WireBack.j1 kj3 t129 true)) else (trammellaw01_WireBack.j1 kj3 t129 true)) else (trammellaw01_WireBack.j1 kj3 t129 true)) else (trammellaw01_WireBack.j1 kj3 t129 true)) else (trammellaw01_WireBack.j1 kj3 t129 true)) else (trammellaw01_WireBack.j1 kj3 t129 true)) else (trammellaw01_WireBack.j1 kj3 t129 true)) else (trammellaw01_WireBack.j1 kj3 t129 true)) else (trammellaw01_WireBack.j1 kj3 t129 true)))))) else (none))) else (none))) else (none))) else (none)) = some r := by first | (rw [hy138]; with_reducible exact H) | (have H2_ := (Option.bind_some _ _).symm.trans H; rw [hy138]; with_reducible exact H2_) | (have H2_ := (Option.bind_some _ _).symm.trans H; with_reducible exact H2_) | with_reducible exact H | (rw [hy138]; exact H) | exact H
          have Ny138 := Aside0.mk hy138
          clear hy138
          by_cases c13 : y138.length + t129.length < 140737488355328
          · rw [if_pos c13] at H
            have LMc13 := Aside0.mk c13
            clear c13
            obtain ⟨y141, hy141⟩ : ∃ y_ : List Int, y_ = (y138 ++ t129) := ⟨_, rfl⟩
            replace H : (if y141.length + t132.length < 140737488355328 then ((some (y141 ++ t132 : List Int)).bind fun y144 => (if y144.length + t135.length < 140737488355328 then ((some (y144 ++ t135 : List Int)).bind fun y147 => (if y147.length + l2.length < 140737488355328 then ((some (y147 ++ l2 : List Int)).bind fun y150 => ((wire_Get.f kj3 y150 (l1.length : Int)).bind fun bt153 => ((wire_GetInt.f kj3 y150 bt153.2.1).bind fun bt156 => ((wire_Wide.f kj3 y150 bt156.2.1 8).bind fun bt159 => (if bt153.1 = a0 then (if bt156.1 = (wrap64 (a0)) then (if bt159.1 = a0 then (if bt153.2.2 = 0 then (if bt156.2.2 = 0 then (if bt159.2.2 = 0 then (if bt153.2.1 = (wrap64 ((l1.length : Int) + (t129.length : Int))) then (if bt156.2.1 = (wrap64 (bt153.2.1 + (t132.length : Int))) then (if bt159.2.1 = (wrap64 (bt156.2.1 + 8)) then (if (t129.length : Int) < 1 then (trammellaw01_WireBack.j1 kj3 t129 true) else (trammellaw01_WireBack.j1 kj3 t129 (decide ((t129.length : Int) > 10)))) else (trammellaw01_WireBack.j1 kj3 t129 true)) else (trammellaw01_WireBack.j1 kj3 t129 true)) else (trammellaw01_WireBack.j1 kj3 t129 true)) else (trammellaw01_WireBack.j1 kj3 t129 true)) else (trammellaw01_WireBack.j1 kj3 t129 true)) else (trammellaw01_WireBack.j1 kj3 t129 true)) else (trammellaw01_WireBack.j1 kj3 t129 true)) else (trammellaw01_WireBack.j1 kj3 t129 true)) else (trammellaw01_WireBack.j1 kj3 t129 true)))))) else (none))) else (none))) else (none)) = some r := by first | (rw [hy141]; with_reducible exact H) | (have H2_ := (Option.bind_some _ _).symm.trans H; rw [hy141]; with_reducible exact H2_) | (have H2_ := (Option.bind_some _ _).symm.trans H; with_reducible exact H2_) | with_reducible exact H | (rw [hy141]; exact H) | exact H
            have Ny141 := Aside0.mk hy141
            clear hy141
            by_cases c14 : y141.length + t132.length < 140737488355328
            · rw [if_pos c14] at H
              have LMc14 := Aside0.mk c14
              clear c14
              obtain ⟨y144, hy144⟩ : ∃ y_ : List Int, y_ = (y141 ++ t132) := ⟨_, rfl⟩
              replace H : (if y144.length + t135.length < 140737488355328 then ((some (y144 ++ t135 : List Int)).bind fun y147 => (if y147.length + l2.length < 140737488355328 then ((some (y147 ++ l2 : List Int)).bind fun y150 => ((wire_Get.f kj3 y150 (l1.length : Int)).bind fun bt153 => ((wire_GetInt.f kj3 y150 bt153.2.1).bind fun bt156 => ((wire_Wide.f kj3 y150 bt156.2.1 8).bind fun bt159 => (if bt153.1 = a0 then (if bt156.1 = (wrap64 (a0)) then (if bt159.1 = a0 then (if bt153.2.2 = 0 then (if bt156.2.2 = 0 then (if bt159.2.2 = 0 then (if bt153.2.1 = (wrap64 ((l1.length : Int) + (t129.length : Int))) then (if bt156.2.1 = (wrap64 (bt153.2.1 + (t132.length : Int))) then (if bt159.2.1 = (wrap64 (bt156.2.1 + 8)) then (if (t129.length : Int) < 1 then (trammellaw01_WireBack.j1 kj3 t129 true) else (trammellaw01_WireBack.j1 kj3 t129 (decide ((t129.length : Int) > 10)))) else (trammellaw01_WireBack.j1 kj3 t129 true)) else (trammellaw01_WireBack.j1 kj3 t129 true)) else (trammellaw01_WireBack.j1 kj3 t129 true)) else (trammellaw01_WireBack.j1 kj3 t129 true)) else (trammellaw01_WireBack.j1 kj3 t129 true)) else (trammellaw01_WireBack.j1 kj3 t129 true)) else (trammellaw01_WireBack.j1 kj3 t129 true)) else (trammellaw01_WireBack.j1 kj3 t129 true)) else (trammellaw01_WireBack.j1 kj3 t129 true)))))) else (none))) else (none)) = some r := by first | (rw [hy144]; with_reducible exact H) | (have H2_ := (Option.bind_some _ _).symm.trans H; rw [hy144]; with_reducible exact H2_) | (have H2_ := (Option.bind_some _ _).symm.trans H; with_reducible exact H2_) | with_reducible exact H | (rw [hy144]; exact H) | exact H
              have Ny144 := Aside0.mk hy144
              clear hy144
              by_cases c15 : y144.length + t135.length < 140737488355328
              · rw [if_pos c15] at H
                have LMc15 := Aside0.mk c15
                clear c15
                obtain ⟨y147, hy147⟩ : ∃ y_ : List Int, y_ = (y144 ++ t135) := ⟨_, rfl⟩
                replace H : (if y147.length + l2.length < 140737488355328 then ((some (y147 ++ l2 : List Int)).bind fun y150 => ((wire_Get.f kj3 y150 (l1.length : Int)).bind fun bt153 => ((wire_GetInt.f kj3 y150 bt153.2.1).bind fun bt156 => ((wire_Wide.f kj3 y150 bt156.2.1 8).bind fun bt159 => (if bt153.1 = a0 then (if bt156.1 = (wrap64 (a0)) then (if bt159.1 = a0 then (if bt153.2.2 = 0 then (if bt156.2.2 = 0 then (if bt159.2.2 = 0 then (if bt153.2.1 = (wrap64 ((l1.length : Int) + (t129.length : Int))) then (if bt156.2.1 = (wrap64 (bt153.2.1 + (t132.length : Int))) then (if bt159.2.1 = (wrap64 (bt156.2.1 + 8)) then (if (t129.length : Int) < 1 then (trammellaw01_WireBack.j1 kj3 t129 true) else (trammellaw01_WireBack.j1 kj3 t129 (decide ((t129.length : Int) > 10)))) else (trammellaw01_WireBack.j1 kj3 t129 true)) else (trammellaw01_WireBack.j1 kj3 t129 true)) else (trammellaw01_WireBack.j1 kj3 t129 true)) else (trammellaw01_WireBack.j1 kj3 t129 true)) else (trammellaw01_WireBack.j1 kj3 t129 true)) else (trammellaw01_WireBack.j1 kj3 t129 true)) else (trammellaw01_WireBack.j1 kj3 t129 true)) else (trammellaw01_WireBack.j1 kj3 t129 true)) else (trammellaw01_WireBack.j1 kj3 t129 true)))))) else (none)) = some r := by first | (rw [hy147]; with_reducible exact H) | (have H2_ := (Option.bind_some _ _).symm.trans H; rw [hy147]; with_reducible exact H2_) | (have H2_ := (Option.bind_some _ _).symm.trans H; with_reducible exact H2_) | with_reducible exact H | (rw [hy147]; exact H) | exact H
                have Ny147 := Aside0.mk hy147
                clear hy147
                by_cases c16 : y147.length + l2.length < 140737488355328
                · rw [if_pos c16] at H
                  have LMc16 := Aside0.mk c16
                  clear c16
                  obtain ⟨y150, hy150⟩ : ∃ y_ : List Int, y_ = (y147 ++ l2) := ⟨_, rfl⟩
                  replace H : ((wire_Get.f kj3 y150 (l1.length : Int)).bind fun bt153 => ((wire_GetInt.f kj3 y150 bt153.2.1).bind fun bt156 => ((wire_Wide.f kj3 y150 bt156.2.1 8).bind fun bt159 => (if bt153.1 = a0 then (if bt156.1 = (wrap64 (a0)) then (if bt159.1 = a0 then (if bt153.2.2 = 0 then (if bt156.2.2 = 0 then (if bt159.2.2 = 0 then (if bt153.2.1 = (wrap64 ((l1.length : Int) + (t129.length : Int))) then (if bt156.2.1 = (wrap64 (bt153.2.1 + (t132.length : Int))) then (if bt159.2.1 = (wrap64 (bt156.2.1 + 8)) then (if (t129.length : Int) < 1 then (trammellaw01_WireBack.j1 kj3 t129 true) else (trammellaw01_WireBack.j1 kj3 t129 (decide ((t129.length : Int) > 10)))) else (trammellaw01_WireBack.j1 kj3 t129 true)) else (trammellaw01_WireBack.j1 kj3 t129 true)) else (trammellaw01_WireBack.j1 kj3 t129 true)) else (trammellaw01_WireBack.j1 kj3 t129 true)) else (trammellaw01_WireBack.j1 kj3 t129 true)) else (trammellaw01_WireBack.j1 kj3 t129 true)) else (trammellaw01_WireBack.j1 kj3 t129 true)) else (trammellaw01_WireBack.j1 kj3 t129 true)) else (trammellaw01_WireBack.j1 kj3 t129 true))))) = some r := by first | (rw [hy150]; with_reducible exact H) | (have H2_ := (Option.bind_some _ _).symm.trans H; rw [hy150]; with_reducible exact H2_) | (have H2_ := (Option.bind_some _ _).symm.trans H; with_reducible exact H2_) | with_reducible exact H | (rw [hy150]; exact H) | exact H
                  have Ny150 := Aside0.mk hy150
                  clear hy150
                  replace H := Option.bind_eq_some_iff.mp H
                  obtain ⟨⟨t153, t154, t155⟩, A170, H⟩ := H
                  replace H : ((wire_GetInt.f kj3 y150 t154).bind fun bt156 => ((wire_Wide.f kj3 y150 bt156.2.1 8).bind fun bt159 => (if t153 = a0 then (if bt156.1 = (wrap64 (a0)) then (if bt159.1 = a0 then (if t155 = 0 then (if bt156.2.2 = 0 then (if bt159.2.2 = 0 then (if t154 = (wrap64 ((l1.length : Int) + (t129.length : Int))) then (if bt156.2.1 = (wrap64 (t154 + (t132.length : Int))) then (if bt159.2.1 = (wrap64 (bt156.2.1 + 8)) then (if (t129.length : Int) < 1 then (trammellaw01_WireBack.j1 kj3 t129 true) else (trammellaw01_WireBack.j1 kj3 t129 (decide ((t129.length : Int) > 10)))) else (trammellaw01_WireBack.j1 kj3 t129 true)) else (trammellaw01_WireBack.j1 kj3 t129 true)) else (trammellaw01_WireBack.j1 kj3 t129 true)) else (trammellaw01_WireBack.j1 kj3 t129 true)) else (trammellaw01_WireBack.j1 kj3 t129 true)) else (trammellaw01_WireBack.j1 kj3 t129 true)) else (trammellaw01_WireBack.j1 kj3 t129 true)) else (trammellaw01_WireBack.j1 kj3 t129 true)) else (trammellaw01_WireBack.j1 kj3 t129 true)))) = some r := H
                  have A17 := Aside0.mk A170
                  clear A170
                  replace H := Option.bind_eq_some_iff.mp H
                  obtain ⟨⟨t156, t157, t158⟩, A180, H⟩ := H
                  replace H : ((wire_Wide.f kj3 y150 t157 8).bind fun bt159 => (if t153 = a0 then (if t156 = (wrap64 (a0)) then (if bt159.1 = a0 then (if t155 = 0 then (if t158 = 0 then (if bt159.2.2 = 0 then (if t154 = (wrap64 ((l1.length : Int) + (t129.length : Int))) then (if t157 = (wrap64 (t154 + (t132.length : Int))) then (if bt159.2.1 = (wrap64 (t157 + 8)) then (if (t129.length : Int) < 1 then (trammellaw01_WireBack.j1 kj3 t129 true) else (trammellaw01_WireBack.j1 kj3 t129 (decide ((t129.length : Int) > 10)))) else (trammellaw01_WireBack.j1 kj3 t129 true)) else (trammellaw01_WireBack.j1 kj3 t129 true)) else (trammellaw01_WireBack.j1 kj3 t129 true)) else (trammellaw01_WireBack.j1 kj3 t129 true)) else (trammellaw01_WireBack.j1 kj3 t129 true)) else (trammellaw01_WireBack.j1 kj3 t129 true)) else (trammellaw01_WireBack.j1 kj3 t129 true)) else (trammellaw01_WireBack.j1 kj3 t129 true)) else (trammellaw01_WireBack.j1 kj3 t129 true))) = some r := H
                  have A18 := Aside0.mk A180
                  clear A180
                  replace H := Option.bind_eq_some_iff.mp H
                  obtain ⟨⟨t159, t160, t161⟩, A190, H⟩ := H
                  replace H : (if t153 = a0 then (if t156 = (wrap64 (a0)) then (if t159 = a0 then (if t155 = 0 then (if t158 = 0 then (if t161 = 0 then (if t154 = (wrap64 ((l1.length : Int) + (t129.length : Int))) then (if t157 = (wrap64 (t154 + (t132.length : Int))) then (if t160 = (wrap64 (t157 + 8)) then (if (t129.length : Int) < 1 then (trammellaw01_WireBack.j1 kj3 t129 true) else (trammellaw01_WireBack.j1 kj3 t129 (decide ((t129.length : Int) > 10)))) else (trammellaw01_WireBack.j1 kj3 t129 true)) else (trammellaw01_WireBack.j1 kj3 t129 true)) else (trammellaw01_WireBack.j1 kj3 t129 true)) else (trammellaw01_WireBack.j1 kj3 t129 true)) else (trammellaw01_WireBack.j1 kj3 t129 true)) else (trammellaw01_WireBack.j1 kj3 t129 true)) else (trammellaw01_WireBack.j1 kj3 t129 true)) else (trammellaw01_WireBack.j1 kj3 t129 true)) else (trammellaw01_WireBack.j1 kj3 t129 true)) = some r := H
                  have A19 := Aside0.mk A190
                  clear A190
                  have HC20 := Aside0.mk H
                  clear H
                  go_upto_region 14 with (first | ((with_reducible refine gate_callee (f := 13) rfl ?_); refine goesL_ (some 35) rfl rfl Try.func13 (by kernel_rfl) rfl #[.int .u64 a0] rfl (by (try simp only [List.map_toArray, List.map_cons, List.map_nil]); first | done | rfl | (simp only [List.length_drop, List.length_take]; rfl)) ?_; (with_reducible refine (wire_Put.calls kj3 a0 t129 _ A9.out).mono ?_); rintro e w21 ⟨v130, rfl, ho0, hb⟩; refine ⟨_, rfl, ?_⟩; have n0_ := Aside0.mk (Kd.R_lower ho0 (below_size (by repeat (first | (with_reducible first | exact HB.out | apply below_alloc | apply pw_below_drewN | apply below_drew1) | exact HB.out)))); have n1_ := Aside0.mk (below_step (by repeat (first | (with_reducible first | exact HB.out | apply below_alloc | apply pw_below_drewN | apply below_drew1) | exact HB.out)) hb); clear HB; have HO131 := n0_; have HB := n1_; clear n0_ n1_; (try clear hb); (try clear hb2); (try clear hk); (try clear hi); (try clear ho0)) | ((with_reducible refine gate_callee (f := 14) rfl ?_); refine goesL_ (some 38) rfl rfl Try.func14 (by kernel_rfl) rfl #[.int .i64 (wrap64 (a0))] rfl (by (try simp only [List.map_toArray, List.map_cons, List.map_nil]); first | done | rfl | (simp only [List.length_drop, List.length_take]; rfl)) ?_; (with_reducible refine (wire_PutInt.calls kj3 (wrap64 (a0)) t132 _ A10.out).mono ?_); rintro e w22 ⟨v133, rfl, ho0, hb⟩; refine ⟨_, rfl, ?_⟩; have n0_ := Aside0.mk (Kd.R_elder' (by (with_reducible repeat (first | apply Kd.R_alloc | apply Kd.R_drewN | apply Kd.R_drew)); exact HO131.out) (Kd.R_base ho0) hb); have n1_ := Aside0.mk (Kd.R_lower (Kd.R_new' ho0 (Kd.R_lt (by (with_reducible repeat (first | apply Kd.R_alloc | apply Kd.R_drewN | apply Kd.R_drew)); exact HO131.out))) (below_size (by repeat (first | (with_reducible first | exact HB.out | apply below_alloc | apply pw_below_drewN | apply below_drew1) | exact HB.out)))); have n2_ := Aside0.mk (below_step (by repeat (first | (with_reducible first | exact HB.out | apply below_alloc | apply pw_below_drewN | apply below_drew1) | exact HB.out)) hb); clear HO131; clear HB; have HO131 := n0_; have HO134 := n1_; have HB := n2_; clear n0_ n1_ n2_; (try clear hb); (try clear hb2); (try clear hk); (try clear hi); (try clear ho0)) | ((with_reducible refine gate_callee (f := 16) rfl ?_); refine goesL_ (some 40) rfl rfl Try.func16 (by kernel_rfl) rfl #[.int .u64 a0, .int .i64 8] rfl (by (try simp only [List.map_toArray, List.map_cons, List.map_nil]); first | done | rfl | (simp only [List.length_drop, List.length_take]; rfl)) ?_; (with_reducible refine (wire_Fixed.calls kj3 a0 8 t135 _ A11.out).mono ?_); rintro e w23 ⟨v136, rfl, ho0, hb⟩; refine ⟨_, rfl, ?_⟩; have n0_ := Aside0.mk (Kd.R_elder' (by (with_reducible repeat (first | apply Kd.R_alloc | apply Kd.R_drewN | apply Kd.R_drew)); exact HO131.out) (Kd.R_base ho0) hb); have n1_ := Aside0.mk (Kd.R_elder' (by (with_reducible repeat (first | apply Kd.R_alloc | apply Kd.R_drewN | apply Kd.R_drew)); exact HO134.out) (Kd.R_base ho0) hb); have n2_ := Aside0.mk (Kd.R_lower (Kd.R_new' (Kd.R_new' ho0 (Kd.R_lt (by (with_reducible repeat (first | apply Kd.R_alloc | apply Kd.R_drewN | apply Kd.R_drew)); exact HO131.out))) (Kd.R_lt (by (with_reducible repeat (first | apply Kd.R_alloc | apply Kd.R_drewN | apply Kd.R_drew)); exact HO134.out))) (below_size (by repeat (first | (with_reducible first | exact HB.out | apply below_alloc | apply pw_below_drewN | apply below_drew1) | exact HB.out)))); have n3_ := Aside0.mk (below_step (by repeat (first | (with_reducible first | exact HB.out | apply below_alloc | apply pw_below_drewN | apply below_drew1) | exact HB.out)) hb); clear HO131; clear HO134; clear HB; have HO131 := n0_; have HO134 := n1_; have HO137 := n2_; have HB := n3_; clear n0_ n1_ n2_ n3_; (try clear hb); (try clear hb2); (try clear hk); (try clear hi); (try clear ho0)) | ((with_reducible refine gate_builtin (b := .append) (xs := #[.tmp 41, .tmp 42]) rfl ?_); (try (refine gate_guard (by rfl) ?_; dsimp only)); at_builtin; refine Kd.R_append_rows (Kd.int .u8) (w0 := w) w.heap.size rfl (.tmp 41) (.tmp 42) 22 5 (.int .u8 0) 1 rfl Try.underlying22 info5 rfl (by decide) (by omega) (.slice none 0 0) ([] : List Int) l1 _ _ _ (fun k_ => some k_ ≠ (v130 : Value).ownBlock ∧ some k_ ≠ (v133 : Value).ownBlock ∧ some k_ ≠ (v136 : Value).ownBlock) (fun _ => False) rfl rfl ?aO ?aR (fun _ _ h => h) (fun _ h => h.elim) ?aF ?aB ?aS ?aL ?_; (case aR => repeat (first | exact (Kd.C_below HR1.out HB.out) | (with_reducible refine Kd.C_alloc ?_ _) | (with_reducible refine Kd.C_drewN ?_ _) | (with_reducible refine Kd.C_drew ?_))); (case aB => exact (by repeat (first | (with_reducible first | exact HB.out | apply below_alloc | apply pw_below_drewN | apply below_drew1) | exact HB.out))); (case aF => exact (fun k_ hk => ⟨Kd.fresh' (Kd.R_lt (by (with_reducible repeat (first | apply Kd.R_alloc | apply Kd.R_drewN | apply Kd.R_drew)); exact HO131.out)) k_ hk, Kd.fresh' (Kd.R_lt (by (with_reducible repeat (first | apply Kd.R_alloc | apply Kd.R_drewN | apply Kd.R_drew)); exact HO134.out)) k_ hk, Kd.fresh' (Kd.R_lt (by (with_reducible repeat (first | apply Kd.R_alloc | apply Kd.R_drewN | apply Kd.R_drew)); exact HO137.out)) k_ hk⟩)); (case aO => exact ((Kd.R_nil _ _ _ _ (fun k_ => some k_ ≠ (v130 : Value).ownBlock ∧ some k_ ≠ (v133 : Value).ownBlock ∧ some k_ ≠ (v136 : Value).ownBlock)))); (case aS => exact (below_size (by repeat (first | (with_reducible first | exact HB.out | apply below_alloc | apply pw_below_drewN | apply below_drew1) | exact HB.out)))); (case aL => have := LMc12.out; omega); intro v139 w24 ho hb hg hat; rw [← Ny138.out] at ho; have n0_ := Aside0.mk (Kd.R_after (Kd.R_apart_nil (by (with_reducible repeat (first | apply Kd.R_alloc | apply Kd.R_drewN | apply Kd.R_drew)); exact HO131.out)) hg hat); have n1_ := Aside0.mk (Kd.R_after (Kd.R_apart_nil (by (with_reducible repeat (first | apply Kd.R_alloc | apply Kd.R_drewN | apply Kd.R_drew)); exact HO134.out)) hg hat); have n2_ := Aside0.mk (Kd.R_after (Kd.R_apart_nil (by (with_reducible repeat (first | apply Kd.R_alloc | apply Kd.R_drewN | apply Kd.R_drew)); exact HO137.out)) hg hat); have n3_ := Aside0.mk (hb); have n4_ := Aside0.mk (ho); clear HO131; clear HO134; clear HO137; clear HB; have HO131 := n0_; have HO134 := n1_; have HO137 := n2_; have HB := n3_; have HO140 := n4_; clear n0_ n1_ n2_ n3_ n4_; clear ho hb hg hat; obtain ⟨Ao26, co26, eo26⟩ := Kd.R_slice HO131.out; subst eo26) | ((with_reducible refine gate_builtin (b := .append) (xs := #[.tmp 44, .tmp 45]) rfl ?_); (try (refine gate_guard (by rfl) ?_; dsimp only)); at_builtin; refine Kd.R_append_rows (Kd.int .u8) (w0 := w) w.heap.size rfl (.tmp 44) (.tmp 45) 22 5 (.int .u8 0) 1 rfl Try.underlying22 info5 rfl (by decide) (by omega) v139 y138 t129 _ _ _ (fun k_ => some k_ ≠ (.slice Ao26 t129.length co26 : Value).ownBlock ∧ some k_ ≠ (v133 : Value).ownBlock ∧ some k_ ≠ (v136 : Value).ownBlock) (fun _ => False) rfl rfl ?aO ?aR (fun _ _ h => h) (fun _ h => h.elim) ?aF ?aB ?aS ?aL ?_; (case aR => repeat (first | exact (Kd.R_reads' HO131.out).2.2 | (with_reducible refine Kd.C_alloc ?_ _) | (with_reducible refine Kd.C_drewN ?_ _) | (with_reducible refine Kd.C_drew ?_))); (case aB => exact (by repeat (first | (with_reducible first | exact HB.out | apply below_alloc | apply pw_below_drewN | apply below_drew1) | exact HB.out))); (case aF => exact (fun k_ hk => ⟨Kd.fresh' (Kd.R_lt (by (with_reducible repeat (first | apply Kd.R_alloc | apply Kd.R_drewN | apply Kd.R_drew)); exact HO131.out)) k_ hk, Kd.fresh' (Kd.R_lt (by (with_reducible repeat (first | apply Kd.R_alloc | apply Kd.R_drewN | apply Kd.R_drew)); exact HO134.out)) k_ hk, Kd.fresh' (Kd.R_lt (by (with_reducible repeat (first | apply Kd.R_alloc | apply Kd.R_drewN | apply Kd.R_drew)); exact HO137.out)) k_ hk⟩)); (case aO => exact (by (with_reducible repeat (first | apply Kd.R_alloc | apply Kd.R_drewN | apply Kd.R_drew)); exact HO140.out)); (case aS => exact (below_size (by repeat (first | (with_reducible first | exact HB.out | apply below_alloc | apply pw_below_drewN | apply below_drew1) | exact HB.out)))); (case aL => have := LMc13.out; omega); intro v142 w25 ho hb hg hat; rw [← Ny141.out] at ho; have n0_ := Aside0.mk (Kd.R_after (ok := (fun k_ => some k_ ≠ (v133 : Value).ownBlock ∧ some k_ ≠ (v136 : Value).ownBlock)) (by (with_reducible repeat (first | apply Kd.R_alloc | apply Kd.R_drewN | apply Kd.R_drew)); exact Kd.R_mono HO131.out (fun _ hk => ⟨⟨hk.1.1.2, hk.1.2⟩, hk.2⟩)) hg hat); have n1_ := Aside0.mk (Kd.R_after (ok := (fun k_ => some k_ ≠ (.slice Ao26 t129.length co26 : Value).ownBlock ∧ some k_ ≠ (v136 : Value).ownBlock)) (by (with_reducible repeat (first | apply Kd.R_alloc | apply Kd.R_drewN | apply Kd.R_drew)); exact Kd.R_mono HO134.out (fun _ hk => ⟨⟨hk.1.1.2, hk.1.2⟩, hk.2⟩)) hg hat); have n2_ := Aside0.mk (Kd.R_after (ok := (fun k_ => some k_ ≠ (.slice Ao26 t129.length co26 : Value).ownBlock ∧ some k_ ≠ (v133 : Value).ownBlock)) (by (with_reducible repeat (first | apply Kd.R_alloc | apply Kd.R_drewN | apply Kd.R_drew)); exact Kd.R_mono HO137.out (fun _ hk => ⟨⟨hk.1.1.2, hk.1.2⟩, hk.2⟩)) hg hat); have n3_ := Aside0.mk (hb); have n4_ := Aside0.mk (ho); clear HO131; clear HO134; clear HO137; clear HB; clear HO140; have HO131 := n0_; have HO134 := n1_; have HO137 := n2_; have HB := n3_; have HO143 := n4_; clear n0_ n1_ n2_ n3_ n4_; clear ho hb hg hat; obtain ⟨Ao28, co28, eo28⟩ := Kd.R_slice HO134.out; subst eo28) | ((with_reducible refine gate_builtin (b := .append) (xs := #[.tmp 47, .tmp 48]) rfl ?_); (try (refine gate_guard (by rfl) ?_; dsimp only)); at_builtin; refine Kd.R_append_rows (Kd.int .u8) (w0 := w) w.heap.size rfl (.tmp 47) (.tmp 48) 22 5 (.int .u8 0) 1 rfl Try.underlying22 info5 rfl (by decide) (by omega) v142 y141 t132 _ _ _ (fun k_ => some k_ ≠ (.slice Ao26 t129.length co26 : Value).ownBlock ∧ some k_ ≠ (.slice Ao28 t132.length co28 : Value).ownBlock ∧ some k_ ≠ (v136 : Value).ownBlock) (fun _ => False) rfl rfl ?aO ?aR (fun _ _ h => h) (fun _ h => h.elim) ?aF ?aB ?aS ?aL ?_; (case aR => repeat (first | exact (Kd.R_reads' HO134.out).2.2 | (with_reducible refine Kd.C_alloc ?_ _) | (with_reducible refine Kd.C_drewN ?_ _) | (with_reducible refine Kd.C_drew ?_))); (case aB => exact (by repeat (first | (with_reducible first | exact HB.out | apply below_alloc | apply pw_below_drewN | apply below_drew1) | exact HB.out))); (case aF => exact (fun k_ hk => ⟨Kd.fresh' (Kd.R_lt (by (with_reducible repeat (first | apply Kd.R_alloc | apply Kd.R_drewN | apply Kd.R_drew)); exact HO131.out)) k_ hk, Kd.fresh' (Kd.R_lt (by (with_reducible repeat (first | apply Kd.R_alloc | apply Kd.R_drewN | apply Kd.R_drew)); exact HO134.out)) k_ hk, Kd.fresh' (Kd.R_lt (by (with_reducible repeat (first | apply Kd.R_alloc | apply Kd.R_drewN | apply Kd.R_drew)); exact HO137.out)) k_ hk⟩)); (case aO => exact (by (with_reducible repeat (first | apply Kd.R_alloc | apply Kd.R_drewN | apply Kd.R_drew)); exact HO143.out)); (case aS => exact (below_size (by repeat (first | (with_reducible first | exact HB.out | apply below_alloc | apply pw_below_drewN | apply below_drew1) | exact HB.out)))); (case aL => have := LMc14.out; omega); intro v145 w27 ho hb hg hat; rw [← Ny144.out] at ho; have n0_ := Aside0.mk (Kd.R_after (ok := (fun k_ => some k_ ≠ (.slice Ao28 t132.length co28 : Value).ownBlock ∧ some k_ ≠ (v136 : Value).ownBlock)) (by (with_reducible repeat (first | apply Kd.R_alloc | apply Kd.R_drewN | apply Kd.R_drew)); exact HO131.out) hg hat); have n1_ := Aside0.mk (Kd.R_after (ok := (fun k_ => some k_ ≠ (.slice Ao26 t129.length co26 : Value).ownBlock ∧ some k_ ≠ (v136 : Value).ownBlock)) (by (with_reducible repeat (first | apply Kd.R_alloc | apply Kd.R_drewN | apply Kd.R_drew)); exact HO134.out) hg hat); have n2_ := Aside0.mk (Kd.R_after (ok := (fun k_ => some k_ ≠ (.slice Ao26 t129.length co26 : Value).ownBlock ∧ some k_ ≠ (.slice Ao28 t132.length co28 : Value).ownBlock)) (by (with_reducible repeat (first | apply Kd.R_alloc | apply Kd.R_drewN | apply Kd.R_drew)); exact HO137.out) hg hat); have n3_ := Aside0.mk (hb); have n4_ := Aside0.mk (ho); clear HO131; clear HO134; clear HO137; clear HB; clear HO143; have HO131 := n0_; have HO134 := n1_; have HO137 := n2_; have HB := n3_; have HO146 := n4_; clear n0_ n1_ n2_ n3_ n4_; clear ho hb hg hat; obtain ⟨Ao30, co30, eo30⟩ := Kd.R_slice HO137.out; subst eo30) | ((with_reducible refine gate_builtin (b := .append) (xs := #[.tmp 50, .tmp 51]) rfl ?_); (try (refine gate_guard (by rfl) ?_; dsimp only)); at_builtin; refine Kd.R_append_rows (Kd.int .u8) (w0 := w) w.heap.size rfl (.tmp 50) (.tmp 51) 22 5 (.int .u8 0) 1 rfl Try.underlying22 info5 rfl (by decide) (by omega) v145 y144 t135 _ _ _ (fun k_ => some k_ ≠ (.slice Ao26 t129.length co26 : Value).ownBlock ∧ some k_ ≠ (.slice Ao28 t132.length co28 : Value).ownBlock ∧ some k_ ≠ (.slice Ao30 t135.length co30 : Value).ownBlock) (fun _ => False) rfl rfl ?aO ?aR (fun _ _ h => h) (fun _ h => h.elim) ?aF ?aB ?aS ?aL ?_; (case aR => repeat (first | exact (Kd.R_reads' HO137.out).2.2 | (with_reducible refine Kd.C_alloc ?_ _) | (with_reducible refine Kd.C_drewN ?_ _) | (with_reducible refine Kd.C_drew ?_))); (case aB => exact (by repeat (first | (with_reducible first | exact HB.out | apply below_alloc | apply pw_below_drewN | apply below_drew1) | exact HB.out))); (case aF => exact (fun k_ hk => ⟨Kd.fresh' (Kd.R_lt (by (with_reducible repeat (first | apply Kd.R_alloc | apply Kd.R_drewN | apply Kd.R_drew)); exact HO131.out)) k_ hk, Kd.fresh' (Kd.R_lt (by (with_reducible repeat (first | apply Kd.R_alloc | apply Kd.R_drewN | apply Kd.R_drew)); exact HO134.out)) k_ hk, Kd.fresh' (Kd.R_lt (by (with_reducible repeat (first | apply Kd.R_alloc | apply Kd.R_drewN | apply Kd.R_drew)); exact HO137.out)) k_ hk⟩)); (case aO => exact (by (with_reducible repeat (first | apply Kd.R_alloc | apply Kd.R_drewN | apply Kd.R_drew)); exact HO146.out)); (case aS => exact (below_size (by repeat (first | (with_reducible first | exact HB.out | apply below_alloc | apply pw_below_drewN | apply below_drew1) | exact HB.out)))); (case aL => have := LMc15.out; omega); intro v148 w29 ho hb hg hat; rw [← Ny147.out] at ho; have n0_ := Aside0.mk (Kd.R_after (ok := (fun k_ => some k_ ≠ (.slice Ao28 t132.length co28 : Value).ownBlock ∧ some k_ ≠ (.slice Ao30 t135.length co30 : Value).ownBlock)) (by (with_reducible repeat (first | apply Kd.R_alloc | apply Kd.R_drewN | apply Kd.R_drew)); exact HO131.out) hg hat); have n1_ := Aside0.mk (Kd.R_after (ok := (fun k_ => some k_ ≠ (.slice Ao26 t129.length co26 : Value).ownBlock ∧ some k_ ≠ (.slice Ao30 t135.length co30 : Value).ownBlock)) (by (with_reducible repeat (first | apply Kd.R_alloc | apply Kd.R_drewN | apply Kd.R_drew)); exact HO134.out) hg hat); have n2_ := Aside0.mk (Kd.R_after (ok := (fun k_ => some k_ ≠ (.slice Ao26 t129.length co26 : Value).ownBlock ∧ some k_ ≠ (.slice Ao28 t132.length co28 : Value).ownBlock)) (by (with_reducible repeat (first | apply Kd.R_alloc | apply Kd.R_drewN | apply Kd.R_drew)); exact HO137.out) hg hat); have n3_ := Aside0.mk (hb); have n4_ := Aside0.mk (ho); clear HO131; clear HO134; clear HO137; clear HB; clear HO146; have HO131 := n0_; have HO134 := n1_; have HO137 := n2_; have HB := n3_; have HO149 := n4_; clear n0_ n1_ n2_ n3_ n4_; clear ho hb hg hat) | ((with_reducible refine gate_builtin (b := .append) (xs := #[.tmp 53, .tmp 54]) rfl ?_); (try (refine gate_guard (by rfl) ?_; dsimp only)); at_builtin; refine Kd.R_append_rows (Kd.int .u8) (w0 := w) w.heap.size rfl (.tmp 53) (.tmp 54) 22 5 (.int .u8 0) 1 rfl Try.underlying22 info5 rfl (by decide) (by omega) v148 y147 l2 _ _ _ (fun k_ => some k_ ≠ (.slice Ao26 t129.length co26 : Value).ownBlock ∧ some k_ ≠ (.slice Ao28 t132.length co28 : Value).ownBlock ∧ some k_ ≠ (.slice Ao30 t135.length co30 : Value).ownBlock) (fun _ => False) rfl rfl ?aO ?aR (fun _ _ h => h) (fun _ h => h.elim) ?aF ?aB ?aS ?aL ?_; (case aR => repeat (first | exact (Kd.C_below HR2.out HB.out) | (with_reducible refine Kd.C_alloc ?_ _) | (with_reducible refine Kd.C_drewN ?_ _) | (with_reducible refine Kd.C_drew ?_))); (case aB => exact (by repeat (first | (with_reducible first | exact HB.out | apply below_alloc | apply pw_below_drewN | apply below_drew1) | exact HB.out))); (case aF => exact (fun k_ hk => ⟨Kd.fresh' (Kd.R_lt (by (with_reducible repeat (first | apply Kd.R_alloc | apply Kd.R_drewN | apply Kd.R_drew)); exact HO131.out)) k_ hk, Kd.fresh' (Kd.R_lt (by (with_reducible repeat (first | apply Kd.R_alloc | apply Kd.R_drewN | apply Kd.R_drew)); exact HO134.out)) k_ hk, Kd.fresh' (Kd.R_lt (by (with_reducible repeat (first | apply Kd.R_alloc | apply Kd.R_drewN | apply Kd.R_drew)); exact HO137.out)) k_ hk⟩)); (case aO => exact (by (with_reducible repeat (first | apply Kd.R_alloc | apply Kd.R_drewN | apply Kd.R_drew)); exact HO149.out)); (case aS => exact (below_size (by repeat (first | (with_reducible first | exact HB.out | apply below_alloc | apply pw_below_drewN | apply below_drew1) | exact HB.out)))); (case aL => have := LMc16.out; omega); intro v151 w31 ho hb hg hat; rw [← Ny150.out] at ho; have n0_ := Aside0.mk (Kd.R_after (ok := (fun k_ => some k_ ≠ (.slice Ao28 t132.length co28 : Value).ownBlock ∧ some k_ ≠ (.slice Ao30 t135.length co30 : Value).ownBlock)) (by (with_reducible repeat (first | apply Kd.R_alloc | apply Kd.R_drewN | apply Kd.R_drew)); exact HO131.out) hg hat); have n1_ := Aside0.mk (Kd.R_after (ok := (fun k_ => some k_ ≠ (.slice Ao26 t129.length co26 : Value).ownBlock ∧ some k_ ≠ (.slice Ao30 t135.length co30 : Value).ownBlock)) (by (with_reducible repeat (first | apply Kd.R_alloc | apply Kd.R_drewN | apply Kd.R_drew)); exact HO134.out) hg hat); have n2_ := Aside0.mk (Kd.R_after (ok := (fun k_ => some k_ ≠ (.slice Ao26 t129.length co26 : Value).ownBlock ∧ some k_ ≠ (.slice Ao28 t132.length co28 : Value).ownBlock)) (by (with_reducible repeat (first | apply Kd.R_alloc | apply Kd.R_drewN | apply Kd.R_drew)); exact HO137.out) hg hat); have n3_ := Aside0.mk (hb); have n4_ := Aside0.mk (ho); clear HO131; clear HO134; clear HO137; clear HB; clear HO149; have HO131 := n0_; have HO134 := n1_; have HO137 := n2_; have HB := n3_; have HO152 := n4_; clear n0_ n1_ n2_ n3_ n4_; clear ho hb hg hat; obtain ⟨Ao32, co32, eo32⟩ := Kd.R_slice HO152.out; subst eo32) | ((with_reducible refine gate_callee (f := 11) rfl ?_); refine goesL_ (some 61) rfl rfl Try.func11 (by kernel_rfl) rfl #[.slice Ao32 y150.length co32, .int .i64 (l1.length : Int)] rfl (by (try simp only [List.map_toArray, List.map_cons, List.map_nil]); first | done | rfl | (simp only [List.length_drop, List.length_take]; rfl)) ?_; (with_reducible refine (wire_Get.calls kj3 _ _ y150 (l1.length : Int) t153 t154 t155 _ ?side1 ?side2 A17.out).mono ?_); (case side1 => repeat (first | exact (Kd.R_reads' HO152.out).2.2 | (with_reducible refine Kd.C_alloc ?_ _) | (with_reducible refine Kd.C_drewN ?_ _) | (with_reducible refine Kd.C_drew ?_))); (case side2 => exact (Kd.R_reads' HO152.out).2.1); rintro e w' ⟨rfl, ⟨nd, rfl⟩⟩; refine ⟨_, rfl, ?_⟩) | ((with_reducible refine gate_callee (f := 12) rfl ?_); refine goesL_ (some 68) rfl rfl Try.func12 (by kernel_rfl) rfl #[.slice Ao32 y150.length co32, .int .i64 t154] rfl (by (try simp only [List.map_toArray, List.map_cons, List.map_nil]); first | done | rfl | (simp only [List.length_drop, List.length_take]; rfl)) ?_; (with_reducible refine (wire_GetInt.calls kj3 _ _ y150 t154 t156 t157 t158 _ ?side1 ?side2 A18.out).mono ?_); (case side1 => repeat (first | exact (Kd.R_reads' HO152.out).2.2 | (with_reducible refine Kd.C_alloc ?_ _) | (with_reducible refine Kd.C_drewN ?_ _) | (with_reducible refine Kd.C_drew ?_))); (case side2 => exact (Kd.R_reads' HO152.out).2.1); rintro e w' ⟨rfl, ⟨nd, rfl⟩⟩; refine ⟨_, rfl, ?_⟩) | ((with_reducible refine gate_callee (f := 21) rfl ?_); refine goesL_ (some 75) rfl rfl Try.func21 (by kernel_rfl) rfl #[.slice Ao32 y150.length co32, .int .i64 t157, .int .i64 8] rfl (by (try simp only [List.map_toArray, List.map_cons, List.map_nil]); first | done | rfl | (simp only [List.length_drop, List.length_take]; rfl)) ?_; (with_reducible refine (wire_Wide.calls kj3 _ _ y150 t157 8 t159 t160 t161 _ ?side1 ?side2 A19.out).mono ?_); (case side1 => repeat (first | exact (Kd.R_reads' HO152.out).2.2 | (with_reducible refine Kd.C_alloc ?_ _) | (with_reducible refine Kd.C_drewN ?_ _) | (with_reducible refine Kd.C_drew ?_))); (case side2 => exact (Kd.R_reads' HO152.out).2.1); rintro e w' ⟨rfl, ⟨nd, rfl⟩⟩; refine ⟨_, rfl, ?_⟩))
                  (try simp only [Act.put, List.setIfInBounds_toArray, List.set_cons_zero, List.set_cons_succ])
                  go_cut [136] (fun v136 wc => ∃ (kq : Nat) (x136_19 : Bool), v136 = .bool x136_19 ∧ Aside0 (trammellaw01_WireBack.j1 kq t129 x136_19 = some r) ∧ Aside0 (kq ≤ kj3) ∧ Aside0 (Kd.R (Kd.int .u8) 5 wc w.heap.size (fun _ => True) (.slice Ao26 t129.length co26) t129) ∧ Aside0 (Below w.heap.size w wc))
                  case first =>
                    have H := HC20.out
                    clear HC20
                    by_cases c33 : t153 = a0
                    · rw [if_pos c33] at H
                      have c33b0 : (t153 == a0) = true := beq_iff_eq.mpr c33
                      have c33b1 : (t153 != a0) = false := bne_eq_false_iff_eq.mpr c33
                      clear c33
                      (first | rw [c33b0] | (simp only [i64_w, i32_w]; rw [c33b0]) | skip)
                      by_cases c34 : t156 = (wrap64 (a0))
                      · rw [if_pos c34] at H
                        have c34b0 : (t156 == (wrap64 (a0))) = true := beq_iff_eq.mpr c34
                        have c34b1 : (t156 != (wrap64 (a0))) = false := bne_eq_false_iff_eq.mpr c34
                        clear c34
                        by_cases c35 : t159 = a0
                        · rw [if_pos c35] at H
                          have c35b0 : (t159 == a0) = true := beq_iff_eq.mpr c35
                          have c35b1 : (t159 != a0) = false := bne_eq_false_iff_eq.mpr c35
                          clear c35
                          by_cases c36 : t155 = 0
                          · rw [if_pos c36] at H
                            have c36b0 : (t155 == 0) = true := beq_iff_eq.mpr c36
                            have c36b1 : (t155 != 0) = false := bne_eq_false_iff_eq.mpr c36
                            clear c36
                            by_cases c37 : t158 = 0
                            · rw [if_pos c37] at H
                              have c37b0 : (t158 == 0) = true := beq_iff_eq.mpr c37
                              have c37b1 : (t158 != 0) = false := bne_eq_false_iff_eq.mpr c37
                              clear c37
                              by_cases c38 : t161 = 0
                              · rw [if_pos c38] at H
                                have c38b0 : (t161 == 0) = true := beq_iff_eq.mpr c38
                                have c38b1 : (t161 != 0) = false := bne_eq_false_iff_eq.mpr c38
                                clear c38
                                by_cases c39 : t154 = (wrap64 ((l1.length : Int) + (t129.length : Int)))
                                · rw [if_pos c39] at H
                                  have c39b0 : (t154 == (wrap64 ((l1.length : Int) + (t129.length : Int)))) = true := beq_iff_eq.mpr c39
                                  have c39b1 : (t154 != (wrap64 ((l1.length : Int) + (t129.length : Int)))) = false := bne_eq_false_iff_eq.mpr c39
                                  clear c39
                                  by_cases c40 : t157 = (wrap64 (t154 + (t132.length : Int)))
                                  · rw [if_pos c40] at H
                                    have c40b0 : (t157 == (wrap64 (t154 + (t132.length : Int)))) = true := beq_iff_eq.mpr c40
                                    have c40b1 : (t157 != (wrap64 (t154 + (t132.length : Int)))) = false := bne_eq_false_iff_eq.mpr c40
                                    clear c40
                                    by_cases c41 : t160 = (wrap64 (t157 + 8))
                                    · rw [if_pos c41] at H
                                      have c41b0 : (t160 == (wrap64 (t157 + 8))) = true := beq_iff_eq.mpr c41
                                      have c41b1 : (t160 != (wrap64 (t157 + 8))) = false := bne_eq_false_iff_eq.mpr c41
                                      clear c41
                                      by_cases c42 : (t129.length : Int) < 1
                                      · rw [if_pos c42] at H
                                        have c42b0 : decide ((t129.length : Int) < 1) = true := decide_eq_true c42
                                        have c42b1 : decide (t129.length < 1) = true := decide_eq_true (by omega)
                                        clear c42
                                        have H' := Aside0.mk H
                                        clear H
                                        go_wp2
                                        go_meet
                                        case rel => exact ⟨_, (true), (by first | rfl | (simp; done) | (simp [*]; done)), H', ⟨by have := HJ3.out; first | omega | exact Nat.le_refl _⟩, ⟨by (with_reducible repeat (first | apply Kd.R_alloc | apply Kd.R_drewN | apply Kd.R_drew)); exact Kd.R_mono HO131.out (fun _ hk => trivial)⟩, ⟨by repeat (first | (with_reducible first | exact HB.out | apply below_alloc | apply pw_below_drewN | apply below_drew1) | exact HB.out)⟩⟩
                                      · rw [if_neg c42] at H
                                        have c42b0 : decide ((t129.length : Int) < 1) = false := decide_eq_false c42
                                        have c42b1 : decide (t129.length < 1) = false := decide_eq_false (by omega)
                                        clear c42
                                        have H' := Aside0.mk H
                                        clear H
                                        go_wp2
                                        go_meet
                                        case rel => exact ⟨_, (decide ((t129.length : Int) > 10)), (by first | rfl | (simp; done) | (simp [*]; done)), H', ⟨by have := HJ3.out; first | omega | exact Nat.le_refl _⟩, ⟨by (with_reducible repeat (first | apply Kd.R_alloc | apply Kd.R_drewN | apply Kd.R_drew)); exact Kd.R_mono HO131.out (fun _ hk => trivial)⟩, ⟨by repeat (first | (with_reducible first | exact HB.out | apply below_alloc | apply pw_below_drewN | apply below_drew1) | exact HB.out)⟩⟩
                                    · rw [if_neg c41] at H
                                      have c41b0 : (t160 == (wrap64 (t157 + 8))) = false := beq_eq_false_iff_ne.mpr c41
                                      have c41b1 : (t160 != (wrap64 (t157 + 8))) = true := bne_iff_ne.mpr c41
                                      have H' := Aside0.mk H
                                      clear H
                                      go_wp2
                                      go_meet
                                      case rel => exact ⟨_, (true), (by first | rfl | (simp; done) | (simp [*]; done)), H', ⟨by have := HJ3.out; first | omega | exact Nat.le_refl _⟩, ⟨by (with_reducible repeat (first | apply Kd.R_alloc | apply Kd.R_drewN | apply Kd.R_drew)); exact Kd.R_mono HO131.out (fun _ hk => trivial)⟩, ⟨by repeat (first | (with_reducible first | exact HB.out | apply below_alloc | apply pw_below_drewN | apply below_drew1) | exact HB.out)⟩⟩
                                  · rw [if_neg c40] at H
                                    have c40b0 : (t157 == (wrap64 (t154 + (t132.length : Int)))) = false := beq_eq_false_iff_ne.mpr c40
                                    have c40b1 : (t157 != (wrap64 (t154 + (t132.length : Int)))) = true := bne_iff_ne.mpr c40
                                    have H' := Aside0.mk H
                                    clear H
                                    go_wp2
                                    go_meet
                                    case rel => exact ⟨_, (true), (by first | rfl | (simp; done) | (simp [*]; done)), H', ⟨by have := HJ3.out; first | omega | exact Nat.le_refl _⟩, ⟨by (with_reducible repeat (first | apply Kd.R_alloc | apply Kd.R_drewN | apply Kd.R_drew)); exact Kd.R_mono HO131.out (fun _ hk => trivial)⟩, ⟨by repeat (first | (with_reducible first | exact HB.out | apply below_alloc | apply pw_below_drewN | apply below_drew1) | exact HB.out)⟩⟩
                                · rw [if_neg c39] at H
                                  have c39b0 : (t154 == (wrap64 ((l1.length : Int) + (t129.length : Int)))) = false := beq_eq_false_iff_ne.mpr c39
                                  have c39b1 : (t154 != (wrap64 ((l1.length : Int) + (t129.length : Int)))) = true := bne_iff_ne.mpr c39
                                  have H' := Aside0.mk H
                                  clear H
                                  go_wp2
                                  go_meet
                                  case rel => exact ⟨_, (true), (by first | rfl | (simp; done) | (simp [*]; done)), H', ⟨by have := HJ3.out; first | omega | exact Nat.le_refl _⟩, ⟨by (with_reducible repeat (first | apply Kd.R_alloc | apply Kd.R_drewN | apply Kd.R_drew)); exact Kd.R_mono HO131.out (fun _ hk => trivial)⟩, ⟨by repeat (first | (with_reducible first | exact HB.out | apply below_alloc | apply pw_below_drewN | apply below_drew1) | exact HB.out)⟩⟩
                              · rw [if_neg c38] at H
                                have c38b0 : (t161 == 0) = false := beq_eq_false_iff_ne.mpr c38
                                have c38b1 : (t161 != 0) = true := bne_iff_ne.mpr c38
                                have H' := Aside0.mk H
                                clear H
                                go_wp2
                                go_meet
                                case rel => exact ⟨_, (true), (by first | rfl | (simp; done) | (simp [*]; done)), H', ⟨by have := HJ3.out; first | omega | exact Nat.le_refl _⟩, ⟨by (with_reducible repeat (first | apply Kd.R_alloc | apply Kd.R_drewN | apply Kd.R_drew)); exact Kd.R_mono HO131.out (fun _ hk => trivial)⟩, ⟨by repeat (first | (with_reducible first | exact HB.out | apply below_alloc | apply pw_below_drewN | apply below_drew1) | exact HB.out)⟩⟩
                            · rw [if_neg c37] at H
                              have c37b0 : (t158 == 0) = false := beq_eq_false_iff_ne.mpr c37
                              have c37b1 : (t158 != 0) = true := bne_iff_ne.mpr c37
                              have H' := Aside0.mk H
                              clear H
                              go_wp2
                              go_meet
                              case rel => exact ⟨_, (true), (by first | rfl | (simp; done) | (simp [*]; done)), H', ⟨by have := HJ3.out; first | omega | exact Nat.le_refl _⟩, ⟨by (with_reducible repeat (first | apply Kd.R_alloc | apply Kd.R_drewN | apply Kd.R_drew)); exact Kd.R_mono HO131.out (fun _ hk => trivial)⟩, ⟨by repeat (first | (with_reducible first | exact HB.out | apply below_alloc | apply pw_below_drewN | apply below_drew1) | exact HB.out)⟩⟩
                          · rw [if_neg c36] at H
                            have c36b0 : (t155 == 0) = false := beq_eq_false_iff_ne.mpr c36
                            have c36b1 : (t155 != 0) = true := bne_iff_ne.mpr c36
                            have H' := Aside0.mk H
                            clear H
                            go_wp2
                            go_meet
                            case rel => exact ⟨_, (true), (by first | rfl | (simp; done) | (simp [*]; done)), H', ⟨by have := HJ3.out; first | omega | exact Nat.le_refl _⟩, ⟨by (with_reducible repeat (first | apply Kd.R_alloc | apply Kd.R_drewN | apply Kd.R_drew)); exact Kd.R_mono HO131.out (fun _ hk => trivial)⟩, ⟨by repeat (first | (with_reducible first | exact HB.out | apply below_alloc | apply pw_below_drewN | apply below_drew1) | exact HB.out)⟩⟩
                        · rw [if_neg c35] at H
                          have c35b0 : (t159 == a0) = false := beq_eq_false_iff_ne.mpr c35
                          have c35b1 : (t159 != a0) = true := bne_iff_ne.mpr c35
                          have H' := Aside0.mk H
                          clear H
                          go_wp2
                          go_meet
                          case rel => exact ⟨_, (true), (by first | rfl | (simp; done) | (simp [*]; done)), H', ⟨by have := HJ3.out; first | omega | exact Nat.le_refl _⟩, ⟨by (with_reducible repeat (first | apply Kd.R_alloc | apply Kd.R_drewN | apply Kd.R_drew)); exact Kd.R_mono HO131.out (fun _ hk => trivial)⟩, ⟨by repeat (first | (with_reducible first | exact HB.out | apply below_alloc | apply pw_below_drewN | apply below_drew1) | exact HB.out)⟩⟩
                      · rw [if_neg c34] at H
                        have c34b0 : (t156 == (wrap64 (a0))) = false := beq_eq_false_iff_ne.mpr c34
                        have c34b1 : (t156 != (wrap64 (a0))) = true := bne_iff_ne.mpr c34
                        have H' := Aside0.mk H
                        clear H
                        go_wp2
                        go_meet
                        case rel => exact ⟨_, (true), (by first | rfl | (simp; done) | (simp [*]; done)), H', ⟨by have := HJ3.out; first | omega | exact Nat.le_refl _⟩, ⟨by (with_reducible repeat (first | apply Kd.R_alloc | apply Kd.R_drewN | apply Kd.R_drew)); exact Kd.R_mono HO131.out (fun _ hk => trivial)⟩, ⟨by repeat (first | (with_reducible first | exact HB.out | apply below_alloc | apply pw_below_drewN | apply below_drew1) | exact HB.out)⟩⟩
                    · rw [if_neg c33] at H
                      have c33b0 : (t153 == a0) = false := beq_eq_false_iff_ne.mpr c33
                      have c33b1 : (t153 != a0) = true := bne_iff_ne.mpr c33
                      (first | rw [c33b0] | (simp only [i64_w, i32_w]; rw [c33b0]) | skip)
                      have H' := Aside0.mk H
                      clear H
                      go_wp2
                      go_meet
                      case rel => exact ⟨_, (true), (by first | rfl | (simp; done) | (simp [*]; done)), H', ⟨by have := HJ3.out; first | omega | exact Nat.le_refl _⟩, ⟨by (with_reducible repeat (first | apply Kd.R_alloc | apply Kd.R_drewN | apply Kd.R_drew)); exact Kd.R_mono HO131.out (fun _ hk => trivial)⟩, ⟨by repeat (first | (with_reducible first | exact HB.out | apply below_alloc | apply pw_below_drewN | apply below_drew1) | exact HB.out)⟩⟩
                  case rest =>
                    clear HC20
                    try clear c1
                    try clear c2
                    try clear p2
                    try clear c3
                    try clear c4
                    try clear c5
                    try clear c5b0
                    try clear c5b1
                    try clear c6
                    try clear p6
                    try clear c8
                    try clear c10
                    try clear c11
                    try clear c12
                    try clear c13
                    try clear c14
                    try clear c15
                    try clear c16
                    try clear c21
                    try clear c33
                    try clear c33b0
                    try clear c33b1
                    try clear c34
                    try clear c34b0
                    try clear c34b1
                    try clear c35
                    try clear c35b0
                    try clear c35b1
                    try clear c36
                    try clear c36b0
                    try clear c36b1
                    try clear c37
                    try clear c37b0
                    try clear c37b1
                    try clear c38
                    try clear c38b0
                    try clear c38b1
                    try clear c39
                    try clear c39b0
                    try clear c39b1
                    try clear c40
                    try clear c40b0
                    try clear c40b1
                    try clear c41
                    try clear c41b0
                    try clear c41b1
                    try clear c42
                    try clear c42b0
                    try clear c42b1
                    try clear p2
                    obtain ⟨kq, x136_19, rfl, HA, HJ19, HO_7, HB⟩ := hcut
                    cases kq with
                    | zero => exact absurd HA.out (by simp [trammellaw01_WireBack.j1])
                    | succ kj19 =>
                      have H := HA.out
                      clear HA
                      simp only [trammellaw01_WireBack.j1] at H
                      by_cases c43 : x136_19 = true
                      · subst c43
                        have H1 : (some false) = some r := by rw [if_pos rfl] at H; exact H
                        clear H
                        have H := H1
                        clear H1
                        obtain rfl := Option.some.inj H
                        go_wp2
                        go_ret
                        exact ⟨by first | rfl | (simp [errW_none, errW_some] <;> rfl) | (simp [*, errW_none, errW_some] <;> rfl), by repeat (first | (with_reducible first | exact HB.out | apply below_alloc | apply pw_below_drewN | apply below_drew1) | exact HB.out)⟩
                      · replace c43 := Bool.eq_false_iff.mpr c43
                        subst c43
                        have H1 : (trammellaw01_WireBack.l0 kj19 t129 0) = some r := by rw [if_neg (show ¬ (false = true) by decide)] at H; exact H
                        clear H
                        have H := H1
                        clear H1
                        have H' := Aside0.mk H
                        clear H
                        go_wp2
                        go_loopg [21] kj19 (fun kq v21 w' => ∃ (x21_3 : Int), v21 = .int .i64 x21_3 ∧ Aside0 (trammellaw01_WireBack.l0 kq t129 x21_3 = some r) ∧ Aside0 (kq ≤ kj19) ∧ Aside0 (Kd.R (Kd.int .u8) 5 w' w.heap.size (fun _ => True) (.slice Ao26 t129.length co26) t129) ∧ Aside0 (Below w.heap.size w w'))
                        case atStart => exact ⟨(0), (by first | rfl | (simp; done) | (simp [*]; done)), H', ⟨Nat.le_refl _⟩, ⟨by (with_reducible repeat (first | apply Kd.R_alloc | apply Kd.R_drewN | apply Kd.R_drew)); exact HO_7.out⟩, ⟨by repeat (first | (with_reducible first | exact HB.out | apply below_alloc | apply pw_below_drewN | apply below_drew1) | exact HB.out)⟩⟩
                        case round =>
                          clear H'
                          try clear c1
                          try clear c2
                          try clear p2
                          try clear c3
                          try clear c4
                          try clear c5
                          try clear c5b0
                          try clear c5b1
                          try clear c6
                          try clear p6
                          try clear c8
                          try clear c10
                          try clear c11
                          try clear c12
                          try clear c13
                          try clear c14
                          try clear c15
                          try clear c16
                          try clear c21
                          try clear c33
                          try clear c33b0
                          try clear c33b1
                          try clear c34
                          try clear c34b0
                          try clear c34b1
                          try clear c35
                          try clear c35b0
                          try clear c35b1
                          try clear c36
                          try clear c36b0
                          try clear c36b1
                          try clear c37
                          try clear c37b0
                          try clear c37b1
                          try clear c38
                          try clear c38b0
                          try clear c38b1
                          try clear c39
                          try clear c39b0
                          try clear c39b1
                          try clear c40
                          try clear c40b0
                          try clear c40b1
                          try clear c41
                          try clear c41b0
                          try clear c41b1
                          try clear c42
                          try clear c42b0
                          try clear c42b1
                          try clear c43
                          try clear p2
                          try clear p6
                          obtain ⟨x21_3, rfl, HA, HK3, HO_7, HB⟩ := hrel
                          cases gk with
                          | zero => exact absurd HA.out (by simp [trammellaw01_WireBack.l0])
                          | succ k3 =>
                            have H := HA.out
                            clear HA
                            simp only [trammellaw01_WireBack.l0] at H
                            by_cases c44 : x21_3 < (t129.length : Int)
                            · rw [if_pos c44] at H
                              have c44b0 : decide (x21_3 < (t129.length : Int)) = true := decide_eq_true c44
                              clear c44
                              by_cases c45 : 0 ≤ x21_3
                              · rw [if_pos c45] at H
                                have c45b0 := eq_true c45
                                have c45b1 : decide (0 ≤ x21_3) = true := decide_eq_true c45
                                clear c45
                                by_cases c46 : x21_3 ≤ (t129.length : Int)
                                · rw [if_pos c46] at H
                                  have c46b0 := eq_true c46
                                  have c46b1 : decide (x21_3 ≤ (t129.length : Int)) = true := decide_eq_true c46
                                  clear c46
                                  obtain ⟨y162, hy162⟩ : ∃ y_ : List Int, y_ = (t129.take (x21_3 : Int).toNat) := ⟨_, rfl⟩
                                  replace H : ((wire_Get.f k3 y162 0).bind fun bt166 => (if bt166.2.2 = 10 then (if bt166.2.1 = 0 then (trammellaw01_WireBack.l0 k3 t129 (wrap64 (x21_3 + 1))) else (some false)) else (some false))) = some r := by first | (rw [hy162]; with_reducible exact H) | (have H2_ := (Option.bind_some _ _).symm.trans H; rw [hy162]; with_reducible exact H2_) | (have H2_ := (Option.bind_some _ _).symm.trans H; with_reducible exact H2_) | with_reducible exact H | (rw [hy162]; exact H) | exact H
                                  have Ny162 := Aside0.mk hy162
                                  clear hy162
                                  replace H := Option.bind_eq_some_iff.mp H
                                  obtain ⟨⟨t166, t167, t168⟩, A470, H⟩ := H
                                  replace H : (if t168 = 10 then (if t167 = 0 then (trammellaw01_WireBack.l0 k3 t129 (wrap64 (x21_3 + 1))) else (some false)) else (some false)) = some r := H
                                  have A47 := Aside0.mk A470
                                  clear A470
                                  by_cases c48 : t168 = 10
                                  · rw [if_pos c48] at H
                                    have c48b0 : (t168 == 10) = true := beq_iff_eq.mpr c48
                                    have c48b1 : (t168 != 10) = false := bne_eq_false_iff_eq.mpr c48
                                    clear c48
                                    by_cases c49 : t167 = 0
                                    · rw [if_pos c49] at H
                                      have c49b0 : (t167 == 0) = true := beq_iff_eq.mpr c49
                                      have c49b1 : (t167 != 0) = false := bne_eq_false_iff_eq.mpr c49
                                      clear c49
                                      have H' := Aside0.mk H
                                      clear H
                                      have q50 : (x21_3 : Int) ≤ ((t129.length : Int) : Int) := of_decide_eq_true (by first | (with_reducible assumption) | assumption)
                                      obtain ⟨i050, hi050, _, hsz50, _⟩ := info_parts info5
                                      have hroom50 : t129.length ≤ co26 := (Kd.R_reads' HO_7.out).2.1
                                      have hC50 : Kd.C (Kd.int .u8) _ Ao26 t129.length t129 := (Kd.R_reads' HO_7.out).2.2
                                      have hcut50 := cut_to (P := Try.prog) 22 5 .i64 Try.underlying22 hi050 Ao26 t129.length co26 x21_3 (of_decide_eq_true (by first | (with_reducible assumption) | assumption)) q50 hroom50
                                      have hr50 := Kd.C_take (m := (x21_3 : Int).toNat) hC50 (by omega)
                                      have hy50 : y162.length = (x21_3 : Int).toNat := (by rw [Ny162.out, List.length_take]; omega)
                                      rw [← Ny162.out] at hr50
                                      rw [← hy50] at hcut50
                                      have HR165 := Aside0.mk hr50
                                      have HC165 := Aside0.mk (show y162.length ≤ co26 from by omega)
                                      clear hr50 hC50 hroom50 hi050 hsz50
                                      have KY50 := Aside0.mk hy50
                                      clear hy50
                                      have KL50 := Aside0.mk (show (x21_3 : Int).toNat ≤ t129.length from by omega)
                                      replace q50 := eq_true q50
                                      go_wp2_with (first | ((with_reducible refine gate_callee (f := 11) rfl ?_); refine goesL_ (some 147) rfl rfl Try.func11 (by kernel_rfl) rfl #[.slice Ao26 y162.length co26, .int .i64 0] rfl (by (try simp only [List.map_toArray, List.map_cons, List.map_nil]); first | done | rfl | (simp only [List.length_drop, List.length_take]; rfl)) ?_; (with_reducible refine (wire_Get.calls k3 _ _ y162 0 t166 t167 t168 _ ?side1 ?side2 A47.out).mono ?_); (case side1 => repeat (first | exact (by repeat (first | (with_reducible exact HR165.out) | (with_reducible refine Kd.C_alloc ?_ _) | (with_reducible refine Kd.C_drewN ?_ _) | (with_reducible refine Kd.C_drew ?_) | exact HR165.out)) | (with_reducible refine Kd.C_alloc ?_ _) | (with_reducible refine Kd.C_drewN ?_ _) | (with_reducible refine Kd.C_drew ?_))); (case side2 => exact HC165.out); rintro e w' ⟨rfl, ⟨nd, rfl⟩⟩; refine ⟨_, rfl, ?_⟩))
                                      go_roundg k3
                                      case measure => have := HJ3.out; have := HJ19.out; have := HK3.out; omega
                                      case rel => exact ⟨(wrap64 (x21_3 + 1)), (by first | rfl | (simp; done) | (simp [*]; done)), H', ⟨by have := HJ3.out; have := HJ19.out; have := HK3.out; omega⟩, ⟨by (with_reducible repeat (first | apply Kd.R_alloc | apply Kd.R_drewN | apply Kd.R_drew)); exact HO_7.out⟩, ⟨by repeat (first | (with_reducible first | exact HB.out | apply below_alloc | apply pw_below_drewN | apply below_drew1) | exact HB.out)⟩⟩
                                    · rw [if_neg c49] at H
                                      have c49b0 : (t167 == 0) = false := beq_eq_false_iff_ne.mpr c49
                                      have c49b1 : (t167 != 0) = true := bne_iff_ne.mpr c49
                                      obtain rfl := Option.some.inj H
                                      have q51 : (x21_3 : Int) ≤ ((t129.length : Int) : Int) := of_decide_eq_true (by first | (with_reducible assumption) | assumption)
                                      obtain ⟨i051, hi051, _, hsz51, _⟩ := info_parts info5
                                      have hroom51 : t129.length ≤ co26 := (Kd.R_reads' HO_7.out).2.1
                                      have hC51 : Kd.C (Kd.int .u8) _ Ao26 t129.length t129 := (Kd.R_reads' HO_7.out).2.2
                                      have hcut51 := cut_to (P := Try.prog) 22 5 .i64 Try.underlying22 hi051 Ao26 t129.length co26 x21_3 (of_decide_eq_true (by first | (with_reducible assumption) | assumption)) q51 hroom51
                                      have hr51 := Kd.C_take (m := (x21_3 : Int).toNat) hC51 (by omega)
                                      have hy51 : y162.length = (x21_3 : Int).toNat := (by rw [Ny162.out, List.length_take]; omega)
                                      rw [← Ny162.out] at hr51
                                      rw [← hy51] at hcut51
                                      have HR165 := Aside0.mk hr51
                                      have HC165 := Aside0.mk (show y162.length ≤ co26 from by omega)
                                      clear hr51 hC51 hroom51 hi051 hsz51
                                      have KY51 := Aside0.mk hy51
                                      clear hy51
                                      have KL51 := Aside0.mk (show (x21_3 : Int).toNat ≤ t129.length from by omega)
                                      replace q51 := eq_true q51
                                      go_wp2_with (first | ((with_reducible refine gate_callee (f := 11) rfl ?_); refine goesL_ (some 147) rfl rfl Try.func11 (by kernel_rfl) rfl #[.slice Ao26 y162.length co26, .int .i64 0] rfl (by (try simp only [List.map_toArray, List.map_cons, List.map_nil]); first | done | rfl | (simp only [List.length_drop, List.length_take]; rfl)) ?_; (with_reducible refine (wire_Get.calls k3 _ _ y162 0 t166 t167 t168 _ ?side1 ?side2 A47.out).mono ?_); (case side1 => repeat (first | exact (by repeat (first | (with_reducible exact HR165.out) | (with_reducible refine Kd.C_alloc ?_ _) | (with_reducible refine Kd.C_drewN ?_ _) | (with_reducible refine Kd.C_drew ?_) | exact HR165.out)) | (with_reducible refine Kd.C_alloc ?_ _) | (with_reducible refine Kd.C_drewN ?_ _) | (with_reducible refine Kd.C_drew ?_))); (case side2 => exact HC165.out); rintro e w' ⟨rfl, ⟨nd, rfl⟩⟩; refine ⟨_, rfl, ?_⟩))
                                      go_ret
                                      exact ⟨by first | rfl | (simp [errW_none, errW_some] <;> rfl) | (simp [*, errW_none, errW_some] <;> rfl), by repeat (first | (with_reducible first | exact HB.out | apply below_alloc | apply pw_below_drewN | apply below_drew1) | exact HB.out)⟩
                                  · rw [if_neg c48] at H
                                    have c48b0 : (t168 == 10) = false := beq_eq_false_iff_ne.mpr c48
                                    have c48b1 : (t168 != 10) = true := bne_iff_ne.mpr c48
                                    obtain rfl := Option.some.inj H
                                    have q52 : (x21_3 : Int) ≤ ((t129.length : Int) : Int) := of_decide_eq_true (by first | (with_reducible assumption) | assumption)
                                    obtain ⟨i052, hi052, _, hsz52, _⟩ := info_parts info5
                                    have hroom52 : t129.length ≤ co26 := (Kd.R_reads' HO_7.out).2.1
                                    have hC52 : Kd.C (Kd.int .u8) _ Ao26 t129.length t129 := (Kd.R_reads' HO_7.out).2.2
                                    have hcut52 := cut_to (P := Try.prog) 22 5 .i64 Try.underlying22 hi052 Ao26 t129.length co26 x21_3 (of_decide_eq_true (by first | (with_reducible assumption) | assumption)) q52 hroom52
                                    have hr52 := Kd.C_take (m := (x21_3 : Int).toNat) hC52 (by omega)
                                    have hy52 : y162.length = (x21_3 : Int).toNat := (by rw [Ny162.out, List.length_take]; omega)
                                    rw [← Ny162.out] at hr52
                                    rw [← hy52] at hcut52
                                    have HR165 := Aside0.mk hr52
                                    have HC165 := Aside0.mk (show y162.length ≤ co26 from by omega)
                                    clear hr52 hC52 hroom52 hi052 hsz52
                                    have KY52 := Aside0.mk hy52
                                    clear hy52
                                    have KL52 := Aside0.mk (show (x21_3 : Int).toNat ≤ t129.length from by omega)
                                    replace q52 := eq_true q52
                                    go_wp2_with (first | ((with_reducible refine gate_callee (f := 11) rfl ?_); refine goesL_ (some 147) rfl rfl Try.func11 (by kernel_rfl) rfl #[.slice Ao26 y162.length co26, .int .i64 0] rfl (by (try simp only [List.map_toArray, List.map_cons, List.map_nil]); first | done | rfl | (simp only [List.length_drop, List.length_take]; rfl)) ?_; (with_reducible refine (wire_Get.calls k3 _ _ y162 0 t166 t167 t168 _ ?side1 ?side2 A47.out).mono ?_); (case side1 => repeat (first | exact (by repeat (first | (with_reducible exact HR165.out) | (with_reducible refine Kd.C_alloc ?_ _) | (with_reducible refine Kd.C_drewN ?_ _) | (with_reducible refine Kd.C_drew ?_) | exact HR165.out)) | (with_reducible refine Kd.C_alloc ?_ _) | (with_reducible refine Kd.C_drewN ?_ _) | (with_reducible refine Kd.C_drew ?_))); (case side2 => exact HC165.out); rintro e w' ⟨rfl, ⟨nd, rfl⟩⟩; refine ⟨_, rfl, ?_⟩))
                                    go_ret
                                    exact ⟨by first | rfl | (simp [errW_none, errW_some] <;> rfl) | (simp [*, errW_none, errW_some] <;> rfl), by repeat (first | (with_reducible first | exact HB.out | apply below_alloc | apply pw_below_drewN | apply below_drew1) | exact HB.out)⟩
                                · rw [if_neg c46] at H
                                  exact absurd H (by simp)
                              · rw [if_neg c45] at H
                                exact absurd H (by simp)
                            · rw [if_neg c44] at H
                              have c44b0 : decide (x21_3 < (t129.length : Int)) = false := decide_eq_false c44
                              clear c44
                              replace H := Option.bind_eq_some_iff.mp H
                              obtain ⟨t169, A530, H⟩ := H
                              replace H : (some t169) = some r := H
                              have A53 := Aside0.mk A530
                              clear A530
                              obtain rfl := Option.some.inj H
                              go_wp2_with (first | ((with_reducible refine gate_callee (f := 10) rfl ?_); refine goesL_ (some 157) rfl rfl Try.func10 (by kernel_rfl) rfl #[] rfl (by (try simp only [List.map_toArray, List.map_cons, List.map_nil]); first | done | rfl | (simp only [List.length_drop, List.length_take]; rfl)) ?_; (with_reducible refine (trammellaw01_works.calls k3  t169 _ A53.out).mono ?_); rintro e w54 ⟨rfl, hb⟩; refine ⟨_, rfl, ?_⟩; have n0_ := Aside0.mk (Kd.R_below (by (with_reducible repeat (first | apply Kd.R_alloc | apply Kd.R_drewN | apply Kd.R_drew)); exact HO_7.out) hb); have n1_ := Aside0.mk (below_step (by repeat (first | (with_reducible first | exact HB.out | apply below_alloc | apply pw_below_drewN | apply below_drew1) | exact HB.out)) hb); clear HO_7; clear HB; have HO_7 := n0_; have HB := n1_; clear n0_ n1_; (try clear hb); (try clear hb2); (try clear hk); (try clear hi)))
                              go_ret
                              exact ⟨by first | rfl | (simp [errW_none, errW_some] <;> rfl) | (simp [*, errW_none, errW_some] <;> rfl), by repeat (first | (with_reducible first | exact HB.out | apply below_alloc | apply pw_below_drewN | apply below_drew1) | exact HB.out)⟩
                · rw [if_neg c16] at H
                  exact absurd H (by simp)
              · rw [if_neg c15] at H
                exact absurd H (by simp)
            · rw [if_neg c14] at H
              exact absurd H (by simp)
          · rw [if_neg c13] at H
            exact absurd H (by simp)
        · rw [if_neg c12] at H
          exact absurd H (by simp)

/-- THE ONE PURE STATEMENT of trammellaw01_WireBack: yours. -/
def trammellaw01_WireBack.Pure : Prop := ∀ (a0 : Int) (l1 : List Int) (l2 : List Int), (Lit.int .u64 a0).wf = true → l1.length ≤ maxLen → l1.length * 1 ≤ 140737488351232 → (∀ x ∈ l1, (Lit.int .u8 x).wf = true) → l2.length ≤ maxLen → l2.length * 1 ≤ 140737488351232 → (∀ x ∈ l2, (Lit.int .u8 x).wf = true) → ∃ k, trammellaw01_WireBack.f k a0 l1 l2 = some true
theorem trammellaw01_WireBack.walk (P : trammellaw01_WireBack.Pure) (a0 : Int) (a1 : Option Addr) (len1 cap1 : Nat) (z1 : List Int) (a2 : Option Addr) (len2 cap2 : Nat) (z2 : List Int) (w : World) (w0 : (Lit.int .u64 a0).wf = true) (w1 : (a1 = none ∧ len1 = 0 ∧ cap1 = 0 ∧ z1 = []) ∨ ∃ x, a1 = some x ∧ len1 ≤ cap1 ∧ cap1 ≤ maxLen ∧ z1.length = cap1 ∧ (∀ i, i < z1.length → w.cell? (x.add i) = some (.int .u8 (z1.getD i 0))) ∧ ∀ n ∈ z1, (Lit.int .u8 n).wf = true) (y1 : len1 * 1 ≤ 140737488351232) (w2 : (a2 = none ∧ len2 = 0 ∧ cap2 = 0 ∧ z2 = []) ∨ ∃ x, a2 = some x ∧ len2 ≤ cap2 ∧ cap2 ≤ maxLen ∧ z2.length = cap2 ∧ (∀ i, i < z2.length → w.cell? (x.add i) = some (.int .u8 (z2.getD i 0))) ∧ ∀ n ∈ z2, (Lit.int .u8 n).wf = true) (y2 : len2 * 1 ≤ 140737488351232) :
    Calls Try.prog 8 #[.int .u64 a0, .slice a1 len1 cap1, .slice a2 len2 cap2] w fun e w' => e = .returned (.bool true) ∧ Below w.heap.size w w' := by
  obtain ⟨l1, rfl, hr1, hm1, hw1, hc1⟩ := ReadsInt.ofRowC w1
  obtain ⟨l2, rfl, hr2, hm2, hw2, hc2⟩ := ReadsInt.ofRowC w2
  obtain ⟨k, h⟩ := P a0 l1 l2 w0 hm1 y1 hw1 hm2 y2 hw2
  refine (trammellaw01_WireBack.calls k a0 _ _ l1 _ _ l2 true w (Kd.C_of_reads (d := (0 : Int)) (h1 := fun _ => rfl) hr1) hc1 (Kd.C_of_reads (d := (0 : Int)) (h1 := fun _ => rfl) hr2) hc2 h).mono ?_
  rintro e w' ⟨rfl, hd⟩
  exact ⟨rfl, hd⟩

end Go.Proofs.Ytclmnipllboekaa.PWireBack
