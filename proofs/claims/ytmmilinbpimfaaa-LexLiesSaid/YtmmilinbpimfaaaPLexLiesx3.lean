/- Written by a program of this session's: functions that the law reaches, their walks, the row; no conditions beyond the statement's own. -/
import Derived.Test.YtmmilinbpimfaaaPLexLiesx2
import Derived.Test.YtmmilinbpimfaaaPLexLiesx0
import Derived.Test.YtmmilinbpimfaaaPLexLiesx1
import Derived.Test.YtmmilinbpimfaaaPLexKnownx0
import Derived.Test.YtmmilinbpimfaaaPLexKnownx1
import Derived.Test.YtmmilinbpimfaaaPLexKnownx8
namespace Go.Proofs.Ytmmilinbpimfaaa.PLexLies
open Go.RowKit Go.Proofs.YtmmilinbpimfaaaW.PrintWords Go.Proofs.YtmmilinbpimfaaaW.PrintLast Go.Proofs.YtmmilinbpimfaaaW.PrintMore
open Go.Proofs.Ytmmilinbpimfaaa.PLexKnown Go.Proofs.Ytmmilinbpimfaaa.Given
attribute [local go_sem] max2_int min2_int max_two min_two max_three min_three max_four min_four   -- for this text's walks alone
set_option linter.unusedVariables false
set_option linter.unusedSimpArgs false

attribute [local go_sem high] eqA31
def trammellaw03_LexLies.T10 : Bool × List (List Nat × List Nat) := (true, [([], []), ([], []), ([0, 1], [0, 1]), ([2], [2]), ([3], [3]), ([], []), ([4, 5], [4, 5]), ([6], [6]), ([7], [7]), ([7], [7]), ([8, 9, 7], [7, 8, 9]), ([10, 7], [7, 10]), ([11, 7], [7, 11]), ([7], [7]), ([7], [7]), ([13, 14, 7], [7, 13, 14]), ([15, 7], [7, 15]), ([16, 7], [7, 16]), ([12, 17, 7], [7, 12, 17]), ([7, 18], [7, 18]), ([19, 7], [19]), ([20], [20]), ([20], [20]), ([21, 22, 20], [20, 21, 22]), ([23, 20], [20, 23]), ([24, 20], [20, 24]), ([20], [20]), ([26, 20], [20, 26]), ([25, 27, 20], [20, 25, 27]), ([20, 28], [20, 28])])
def trammellaw03_LexLies.B10 : List Nat := [0, 0, 3, 7, 15, 0, 63, 127, 255, 255, 1023, 2047, 4095, 255, 255, 24831, 57599, 123135, 262143, 524287, 1048575, 2097151, 2097151, 8388607, 16777215, 33554431, 2097151, 69206015, 268435455, 536870911]
theorem trammellaw03_LexLies.tab10 : rtab .any (opsOf Try.f7 10) = trammellaw03_LexLies.T10 := by kernel_rfl
theorem trammellaw03_LexLies.bits10 : waitsOk trammellaw03_LexLies.T10.2 trammellaw03_LexLies.B10 = true := by kernel_rfl
def trammellaw03_LexLies.T14 : Bool × List (List Nat × List Nat) := (true, [([], []), ([], []), ([], []), ([1, 2], [1, 2]), ([3], [3]), ([4], [4]), ([], []), ([], []), ([6, 7], [6, 7]), ([8], [8]), ([9], [9]), ([0, 5, 10], [0, 5, 10]), ([11], [11]), ([12], [12]), ([13], [13]), ([13], [13]), ([13], [13]), ([14, 12, 0, 1, 2, 3, 4, 5, 6, 7, 8, 9, 10, 11, 12, 13, 14], [14]), ([15, 17, 0, 1, 2, 3, 4, 5, 6, 7, 8, 9, 10, 11, 12, 13, 14, 15, 17], [15]), ([16, 18, 0, 1, 2, 3, 4, 5, 6, 7, 8, 9, 10, 11, 12, 13, 14, 15, 16, 17, 18], [16])])
def trammellaw03_LexLies.B14 : List Nat := [0, 0, 0, 6, 14, 30, 0, 0, 192, 448, 960, 2047, 4095, 8191, 16383, 16383, 16383, 32767, 196607, 524287]
theorem trammellaw03_LexLies.tab14 : rtab .any (opsOf Try.f7 14) = trammellaw03_LexLies.T14 := by kernel_rfl
theorem trammellaw03_LexLies.bits14 : waitsOk trammellaw03_LexLies.T14.2 trammellaw03_LexLies.B14 = true := by kernel_rfl
def trammellaw03_LexLies.T15 : Bool × List (List Nat × List Nat) := (true, [([], []), ([0], [0]), ([1], [1]), ([2], [2]), ([3, 2], [2, 3]), ([4, 2], [2, 4]), ([2, 5], [2, 5]), ([6, 2], [6]), ([7], [7]), ([8, 7], [7, 8]), ([9, 7], [7, 9]), ([10, 7], [7, 10]), ([7], [7]), ([7], [7]), ([12, 13, 7], [7, 12, 13]), ([14, 7], [7, 14]), ([15, 7], [7, 15]), ([11, 16, 7], [7, 11, 16]), ([7, 17], [7, 17]), ([18, 7], [18]), ([19], [19]), ([20, 19], [19, 20]), ([21, 19], [19, 21]), ([22, 19], [19, 22]), ([19], [19]), ([19], [19]), ([24, 25, 19], [19, 24, 25]), ([26, 19], [19, 26]), ([27, 19], [19, 27]), ([23, 28, 19], [19, 23, 28]), ([19, 29], [19, 29]), ([30, 19], [30]), ([31], [31]), ([32, 31], [31, 32]), ([33, 31], [31, 33]), ([34, 31], [31, 34]), ([31], [31]), ([31], [31]), ([36, 37, 31], [31, 36, 37]), ([38, 31], [31, 38]), ([39, 31], [31, 39]), ([35, 40, 31], [31, 35, 40]), ([31, 41], [31, 41])])
def trammellaw03_LexLies.B15 : List Nat := [0, 1, 3, 7, 15, 31, 63, 127, 255, 511, 1023, 2047, 255, 255, 12543, 28927, 61695, 131071, 262143, 524287, 1048575, 2097151, 4194303, 8388607, 1048575, 1048575, 51380223, 118489087, 252706815, 536870911, 1073741823, 2147483647, 4294967295, 8589934591, 17179869183, 34359738367, 4294967295, 4294967295, 210453397503, 485331304447, 1035087118335, 2199023255551, 4398046511103]
theorem trammellaw03_LexLies.tab15 : rtab .any (opsOf Try.f7 15) = trammellaw03_LexLies.T15 := by kernel_rfl
theorem trammellaw03_LexLies.bits15 : waitsOk trammellaw03_LexLies.T15.2 trammellaw03_LexLies.B15 = true := by kernel_rfl
def trammellaw03_LexLies.T22 : Bool × List (List Nat × List Nat) := (true, [([], []), ([], []), ([0, 1], [0, 1]), ([], []), ([2, 3], [2, 3]), ([], []), ([], []), ([5, 6], [5, 6]), ([4, 7], [4, 7]), ([8], [8]), ([9], [9]), ([10], [10]), ([10], [10]), ([10], [10]), ([11, 9, 0, 1, 2, 3, 4, 5, 6, 7, 8, 9, 10, 11], [11]), ([12, 14, 0, 1, 2, 3, 4, 5, 6, 7, 8, 9, 10, 11, 12, 14], [12]), ([13, 15, 0, 1, 2, 3, 4, 5, 6, 7, 8, 9, 10, 11, 12, 13, 14, 15], [13])])
def trammellaw03_LexLies.B22 : List Nat := [0, 0, 3, 0, 15, 0, 0, 96, 255, 511, 1023, 2047, 2047, 2047, 4095, 24575, 65535]
theorem trammellaw03_LexLies.tab22 : rtab .any (opsOf Try.f7 22) = trammellaw03_LexLies.T22 := by kernel_rfl
theorem trammellaw03_LexLies.bits22 : waitsOk trammellaw03_LexLies.T22.2 trammellaw03_LexLies.B22 = true := by kernel_rfl
set_option maxHeartbeats 80000000 in
set_option maxRecDepth 100000 in
theorem trammellaw03_LexLies.calls (k : Nat) (a0 : ByteArray) (a1 : Int) (a2 : Int) (r : Bool) (w : World) (h : trammellaw03_LexLies.f k a0 a1 a2 = some r) :
    Calls Try.prog 7 #[.string a0, .int .i64 a1, .int .i64 a2] w fun e w' => e = .returned (.bool r) ∧ Below w.heap.size w w' := by
  have hu31 := Try.underlying31
  have HB := Aside0.mk (Below.refl w.heap.size w)
  have H : (if (a0.size : Int) > 8192 then (some true) else ((lex_Tokens.f a0).bind fun bt201 => (if bt201.2.2 = 0 then (trammellaw03_LexLies.l0 k a0 a1 a2 bt201.1 0 0) else (if (bt201.1.length : Int) = 0 then (if bt201.2.1 ≥ 0 then (if bt201.2.1 ≤ (a0.size : Int) then ((trammellaw03_works.f k).bind fun t206 => (some t206)) else (none)) else (none)) else (none))))) = some r := h
  clear h
  by_cases c4 : (a0.size : Int) > 8192
  · rw [if_pos c4] at H
    have c4b0 : decide (8192 < (a0.size : Int)) = true := decide_eq_true c4
    have c4b1 : decide (8192 < a0.size) = true := decide_eq_true (by omega)
    clear c4
    as_aux_lemma =>
      obtain rfl := Option.some.inj H
      go_enter Try.func7, Try.ntmps7
      go_wp2
      go_ret
      exact ⟨by first | rfl | (simp [errW_none, errW_some] <;> rfl) | (simp [*, errW_none, errW_some] <;> rfl), by repeat (first | (with_reducible first | exact HB.out | apply below_alloc | apply pw_below_drewN | apply below_drew1) | exact HB.out)⟩
  · rw [if_neg c4] at H
    have c4b0 : decide (8192 < (a0.size : Int)) = false := decide_eq_false c4
    have c4b1 : decide (8192 < a0.size) = false := decide_eq_false (by omega)
    clear c4
    replace H := Option.bind_eq_some_iff.mp H
    obtain ⟨⟨t201, t202, t203⟩, A50, H⟩ := H
    replace H : (if t203 = 0 then (trammellaw03_LexLies.l0 k a0 a1 a2 t201 0 0) else (if (t201.length : Int) = 0 then (if t202 ≥ 0 then (if t202 ≤ (a0.size : Int) then ((trammellaw03_works.f k).bind fun t206 => (some t206)) else (none)) else (none)) else (none))) = some r := H
    have A5 := Aside0.mk A50
    clear A50
    by_cases c6 : t203 = 0
    · rw [if_pos c6] at H
      have c6b0 : (t203 == 0) = true := beq_iff_eq.mpr c6
      have c6b1 : (t203 != 0) = false := bne_eq_false_iff_eq.mpr c6
      clear c6
      have H' := Aside0.mk H
      clear H
      go_enter Try.func7, Try.ntmps7
      go_wp2_with (first | ((with_reducible refine gate_callee (f := 18) rfl ?_); refine goesL_ (some 28) rfl rfl Try.func18 (by kernel_rfl) rfl #[.string a0] rfl (by (try simp only [List.map_toArray, List.map_cons, List.map_nil]); first | done | rfl | (simp only [List.length_drop, List.length_take]; rfl)) ?_; (with_reducible refine (lex_Tokens.calls a0 t201 t202 t203 _ A5.out).mono ?_); rintro e w7 ⟨v204, rfl, ho0, hb⟩; refine ⟨_, rfl, ?_⟩; have n0_ := Aside0.mk (Kd.R_lower ho0 (below_size (by repeat (first | (with_reducible first | exact HB.out | apply below_alloc | apply pw_below_drewN | apply below_drew1) | exact HB.out)))); have n1_ := Aside0.mk (below_step (by repeat (first | (with_reducible first | exact HB.out | apply below_alloc | apply pw_below_drewN | apply below_drew1) | exact HB.out)) hb); clear HB; have HO205 := n0_; have HB := n1_; clear n0_ n1_; (try clear hb); (try clear hb2); (try clear hk); (try clear hi); (try clear ho0)))
      (try simp only [Act.put, List.setIfInBounds_toArray, List.set_cons_zero, List.set_cons_succ])
      go_loopg [10, 11] k (fun kq v10 v11 w' => ∃ (x10_1 : Int) (x11_1 : Int), v10 = .int .i64 x10_1 ∧ v11 = .int .i64 x11_1 ∧ Aside0 (trammellaw03_LexLies.l0 kq a0 a1 a2 t201 x10_1 x11_1 = some r) ∧ Aside0 (kq ≤ k) ∧ Aside0 (Kd.R k31 31 w' w.heap.size (fun _ => True) v204 t201) ∧ Aside0 (Below w.heap.size w w'))
      case atStart => exact ⟨(0), (0), (by first | rfl | (simp; done) | (simp [*]; done)), (by first | rfl | (simp; done) | (simp [*]; done)), H', ⟨Nat.le_refl _⟩, ⟨by (with_reducible repeat (first | apply Kd.R_alloc | apply Kd.R_drewN | apply Kd.R_drew)); exact HO205.out⟩, ⟨by repeat (first | (with_reducible first | exact HB.out | apply below_alloc | apply pw_below_drewN | apply below_drew1) | exact HB.out)⟩⟩
      case round =>
        clear H'
        try clear c1
        try clear p2
        try clear c4
        try clear c4b0
        try clear c4b1
        try clear c6
        try clear c6b0
        try clear c6b1
        try clear c7
        obtain ⟨x10_1, x11_1, rfl, rfl, HA, HK1, HO_7, HB⟩ := hrel
        cases gk with
        | zero => exact absurd HA.out (by simp [trammellaw03_LexLies.l0])
        | succ k1 =>
          have H := HA.out
          clear HA
          simp only [trammellaw03_LexLies.l0] at H
          by_cases c8 : x11_1 < (t201.length : Int)
          · rw [if_pos c8] at H
            have c8b0 : decide (x11_1 < (t201.length : Int)) = true := decide_eq_true c8
            clear c8
            have HC9 := Aside0.mk H
            clear H
            obtain ⟨Ao10, co10, eo10⟩ := Kd.R_slice HO_7.out
            subst eo10
            go_upto_region 10 with (fail)
            go_cut [85] (fun v85 wc => ∃ (kq : Nat) (x85_8 : Bool), v85 = .bool x85_8 ∧ Aside0 (trammellaw03_LexLies.j1 kq a0 a1 a2 t201 x11_1 x85_8 = some r) ∧ Aside0 (kq ≤ k1) ∧ Aside0 (Kd.R k31 31 wc w.heap.size (fun _ => True) (.slice Ao10 t201.length co10) t201) ∧ Aside0 (Below w.heap.size w wc))
            case first =>
              have H := HC9.out
              clear HC9
              by_cases c11 : 0 ≤ x11_1
              · rw [if_pos c11] at H
                have c11b0 : decide (0 ≤ x11_1) = true := decide_eq_true c11
                clear c11
                (first | rw [c11b0] | (simp only [i64_w, i32_w]; rw [c11b0]) | skip)
                by_cases c12 : ((rd_T31 t201 x11_1).f3) < x10_1
                · rw [if_pos c12] at H
                  have c12b0 : decide (((rd_T31 t201 x11_1).f3) < x10_1) = true := decide_eq_true c12
                  clear c12
                  as_aux_lemma =>
                    have H' := Aside0.mk H
                    clear H
                    try go_wp2
                    have n0_ := Aside0.mk (Kd.R_drew HO_7.out)
                    have n1_ := Aside0.mk (below_drew1 HB.out)
                    clear HO_7
                    clear HB
                    have HO_7 := n0_
                    have HB := n1_
                    clear n0_ n1_
                    have p207 : 0 ≤ (x11_1 : Int) := of_decide_eq_true (by first | (with_reducible assumption) | assumption)
                    have q207 : x11_1 < (t201.length : Int) := of_decide_eq_true (by first | (with_reducible assumption) | assumption)
                    obtain ⟨ad207, e207, hx207_0, hx207_1, hx207_2, hx207_3, hx207_4⟩ := at_T31 (Kd.R_reads' HO_7.out).2.2 x11_1 p207 q207
                    cases e207
                    replace p207 := eq_true p207
                    replace q207 := eq_true q207
                    refine start_ (n := 30) (S := fun w' => w'.cell? (ad207.add ((x11_1).toNat * 5)) = some (.int .u8 ((rd_T31 t201 x11_1).f0)) ∧ w'.cell? ⟨(ad207.add ((x11_1).toNat * 5)).block, (ad207.add ((x11_1).toNat * 5)).off + 1, none⟩ = some (.string ((rd_T31 t201 x11_1).f1)) ∧ w'.cell? ⟨(ad207.add ((x11_1).toNat * 5)).block, (ad207.add ((x11_1).toNat * 5)).off + 2, none⟩ = some (.int .u64 ((rd_T31 t201 x11_1).f2)) ∧ w'.cell? ⟨(ad207.add ((x11_1).toNat * 5)).block, (ad207.add ((x11_1).toNat * 5)).off + 3, none⟩ = some (.int .i64 ((rd_T31 t201 x11_1).f3)) ∧ w'.cell? ⟨(ad207.add ((x11_1).toNat * 5)).block, (ad207.add ((x11_1).toNat * 5)).off + 4, none⟩ = some (.int .i64 ((rd_T31 t201 x11_1).f4))) (ds := []) #[false, false, false, false, false, false, false, false, false, false, false, false, false, false, false, false, false, false, false, false, false, false, false, false, false, false, false, false, false, false] (by kernel_rfl) rfl rfl ⟨hx207_0, hx207_1, hx207_2, hx207_3, hx207_4⟩ (fun hHeld => ?_); refine with_tabW trammellaw03_LexLies.tab10 trammellaw03_LexLies.bits10 (fun HT_ HW_ => ?_)
                    generalize wr.drew = w13 at HO_7 HB hx207_0 hx207_1 hx207_2 hx207_3 hx207_4 hHeld ⊢
                    refine pure_ (i := 0) (N := some 56) (v := ?_) (a' := ?_) #[true, false, false, false, false, false, false, false, false, false, false, false, false, false, false, false, false, false, false, false, false, false, false, false, false, false, false, false, false, false] rfl rfl (any_of HT_.out (by kernel_rfl)) (fun _ _ _ h => h) (Or.inl ⟨by rfl, ?_⟩) ?_ ?_
                    rotate_left
                    · intro w'
                      go_simp
                      with_reducible rfl
                    rotate_left
                    · simp only [Act.put, List.setIfInBounds_toArray, List.set_cons_zero, List.set_cons_succ, i64_w, i32_w]
                      rfl
                    refine pure_ (i := 1) (N := some 57) (v := ?_) (a' := ?_) #[true, true, false, false, false, false, false, false, false, false, false, false, false, false, false, false, false, false, false, false, false, false, false, false, false, false, false, false, false, false] rfl rfl (any_of HT_.out (by kernel_rfl)) (fun _ _ _ h => h) (Or.inl ⟨by rfl, ?_⟩) ?_ ?_
                    rotate_left
                    · intro w'
                      go_simp
                      with_reducible rfl
                    rotate_left
                    · simp only [Act.put, List.setIfInBounds_toArray, List.set_cons_zero, List.set_cons_succ, i64_w, i32_w]
                      rfl
                    refine pure_ (i := 2) (N := some 58) (v := ?_) (a' := ?_) #[true, true, true, false, false, false, false, false, false, false, false, false, false, false, false, false, false, false, false, false, false, false, false, false, false, false, false, false, false, false] rfl rfl (any_of HT_.out (by kernel_rfl)) (fun _ _ _ h => h) (Or.inl ⟨by rfl, ?_⟩) ?_ ?_
                    rotate_left
                    · intro w'
                      go_simp
                      with_reducible rfl
                    rotate_left
                    · simp only [Act.put, List.setIfInBounds_toArray, List.set_cons_zero, List.set_cons_succ, i64_w, i32_w]
                      rfl
                    refine pure_ (i := 3) (N := some 59) (v := ?_) (a' := ?_) #[true, true, true, true, false, false, false, false, false, false, false, false, false, false, false, false, false, false, false, false, false, false, false, false, false, false, false, false, false, false] rfl rfl (any_of HT_.out (by kernel_rfl)) (fun _ _ _ h => h) (Or.inl ⟨by rfl, ?_⟩) ?_ ?_
                    rotate_left
                    · intro w'
                      go_simp
                      with_reducible rfl
                    rotate_left
                    · simp only [Act.put, List.setIfInBounds_toArray, List.set_cons_zero, List.set_cons_succ, i64_w, i32_w]
                      rfl
                    refine pure_ (i := 5) (N := some 61) (v := ?_) (a' := ?_) #[true, true, true, true, false, true, false, false, false, false, false, false, false, false, false, false, false, false, false, false, false, false, false, false, false, false, false, false, false, false] rfl rfl (any_of HT_.out (by kernel_rfl)) (fun _ _ _ h => h) (Or.inl ⟨by rfl, ?_⟩) ?_ ?_
                    rotate_left
                    · intro w'
                      go_simp
                      with_reducible rfl
                    rotate_left
                    · simp only [Act.put, List.setIfInBounds_toArray, List.set_cons_zero, List.set_cons_succ, i64_w, i32_w]
                      rfl
                    refine take_ (i := 4) (N := some 60) (v := ?_) (a' := ?_) #[true, true, true, true, true, true, false, false, false, false, false, false, false, false, false, false, false, false, false, false, false, false, false, false, false, false, false, false, false, false] rfl rfl (take_ofW HT_.out HW_.out (by kernel_rfl)) (fun _ _ _ h => h) (Or.inl ⟨by rfl, ?_⟩) hHeld ?_ ?_
                    rotate_left
                    · rintro w' ⟨s0, s1, s2, s3, s4⟩
                      go_simp
                      with_reducible rfl
                    rotate_left
                    · simp only [Act.put, List.setIfInBounds_toArray, List.set_cons_zero, List.set_cons_succ, i64_w, i32_w]
                      rfl
                    refine pure_ (i := 6) (N := some 62) (v := ?_) (a' := ?_) #[true, true, true, true, true, true, true, false, false, false, false, false, false, false, false, false, false, false, false, false, false, false, false, false, false, false, false, false, false, false] rfl rfl (any_of HT_.out (by kernel_rfl)) (fun _ _ _ h => h) (Or.inl ⟨by rfl, ?_⟩) ?_ ?_
                    rotate_left
                    · intro w'
                      go_simp
                      with_reducible rfl
                    rotate_left
                    · simp only [Act.put, List.setIfInBounds_toArray, List.set_cons_zero, List.set_cons_succ, i64_w, i32_w]
                      rfl
                    refine pure_ (i := 7) (N := some 63) (v := ?_) (a' := ?_) #[true, true, true, true, true, true, true, true, false, false, false, false, false, false, false, false, false, false, false, false, false, false, false, false, false, false, false, false, false, false] rfl rfl (any_of HT_.out (by kernel_rfl)) (fun _ _ _ h => h) (Or.inl ⟨by rfl, ?_⟩) ?_ ?_
                    rotate_left
                    · intro w'
                      go_simp
                      with_reducible rfl
                    rotate_left
                    · simp only [Act.put, List.setIfInBounds_toArray, List.set_cons_zero, List.set_cons_succ, i64_w, i32_w]
                      rfl
                    refine pure_ (i := 8) (N := some 64) (v := undef) (a' := ?_) #[true, true, true, true, true, true, true, true, true, false, false, false, false, false, false, false, false, false, false, false, false, false, false, false, false, false, false, false, false, false] rfl rfl (any_of HT_.out (by kernel_rfl)) (fun _ _ _ h => h) (Or.inr ⟨by rfl, rfl⟩) ?_ ?_
                    rotate_left
                    · simp only [Act.put, List.setIfInBounds_toArray, List.set_cons_zero, List.set_cons_succ, i64_w, i32_w]
                      rfl
                    refine pure_ (i := 9) (N := some 65) (v := undef) (a' := ?_) #[true, true, true, true, true, true, true, true, true, true, false, false, false, false, false, false, false, false, false, false, false, false, false, false, false, false, false, false, false, false] rfl rfl (any_of HT_.out (by kernel_rfl)) (fun _ _ _ h => h) (Or.inr ⟨by rfl, rfl⟩) ?_ ?_
                    rotate_left
                    · simp only [Act.put, List.setIfInBounds_toArray, List.set_cons_zero, List.set_cons_succ, i64_w, i32_w]
                      rfl
                    refine pure_ (i := 10) (N := some 66) (v := undef) (a' := ?_) #[true, true, true, true, true, true, true, true, true, true, true, false, false, false, false, false, false, false, false, false, false, false, false, false, false, false, false, false, false, false] rfl rfl (any_of HT_.out (by kernel_rfl)) (fun _ _ _ h => h) (Or.inr ⟨by rfl, rfl⟩) ?_ ?_
                    rotate_left
                    · simp only [Act.put, List.setIfInBounds_toArray, List.set_cons_zero, List.set_cons_succ, i64_w, i32_w]
                      rfl
                    refine pure_ (i := 11) (N := some 67) (v := undef) (a' := ?_) #[true, true, true, true, true, true, true, true, true, true, true, true, false, false, false, false, false, false, false, false, false, false, false, false, false, false, false, false, false, false] rfl rfl (any_of HT_.out (by kernel_rfl)) (fun _ _ _ h => h) (Or.inr ⟨by rfl, rfl⟩) ?_ ?_
                    rotate_left
                    · simp only [Act.put, List.setIfInBounds_toArray, List.set_cons_zero, List.set_cons_succ, i64_w, i32_w]
                      rfl
                    refine pure_ (i := 12) (N := some 68) (v := undef) (a' := ?_) #[true, true, true, true, true, true, true, true, true, true, true, true, true, false, false, false, false, false, false, false, false, false, false, false, false, false, false, false, false, false] rfl rfl (any_of HT_.out (by kernel_rfl)) (fun _ _ _ h => h) (Or.inr ⟨by rfl, rfl⟩) ?_ ?_
                    rotate_left
                    · simp only [Act.put, List.setIfInBounds_toArray, List.set_cons_zero, List.set_cons_succ, i64_w, i32_w]
                      rfl
                    refine pure_ (i := 13) (N := some 69) (v := undef) (a' := ?_) #[true, true, true, true, true, true, true, true, true, true, true, true, true, true, false, false, false, false, false, false, false, false, false, false, false, false, false, false, false, false] rfl rfl (any_of HT_.out (by kernel_rfl)) (fun _ _ _ h => h) (Or.inr ⟨by rfl, rfl⟩) ?_ ?_
                    rotate_left
                    · simp only [Act.put, List.setIfInBounds_toArray, List.set_cons_zero, List.set_cons_succ, i64_w, i32_w]
                      rfl
                    refine pure_ (i := 14) (N := some 70) (v := undef) (a' := ?_) #[true, true, true, true, true, true, true, true, true, true, true, true, true, true, true, false, false, false, false, false, false, false, false, false, false, false, false, false, false, false] rfl rfl (any_of HT_.out (by kernel_rfl)) (fun _ _ _ h => h) (Or.inr ⟨by rfl, rfl⟩) ?_ ?_
                    rotate_left
                    · simp only [Act.put, List.setIfInBounds_toArray, List.set_cons_zero, List.set_cons_succ, i64_w, i32_w]
                      rfl
                    refine pure_ (i := 15) (N := some 71) (v := undef) (a' := ?_) #[true, true, true, true, true, true, true, true, true, true, true, true, true, true, true, true, false, false, false, false, false, false, false, false, false, false, false, false, false, false] rfl rfl (any_of HT_.out (by kernel_rfl)) (fun _ _ _ h => h) (Or.inr ⟨by rfl, rfl⟩) ?_ ?_
                    rotate_left
                    · simp only [Act.put, List.setIfInBounds_toArray, List.set_cons_zero, List.set_cons_succ, i64_w, i32_w]
                      rfl
                    refine pure_ (i := 16) (N := some 72) (v := undef) (a' := ?_) #[true, true, true, true, true, true, true, true, true, true, true, true, true, true, true, true, true, false, false, false, false, false, false, false, false, false, false, false, false, false] rfl rfl (any_of HT_.out (by kernel_rfl)) (fun _ _ _ h => h) (Or.inr ⟨by rfl, rfl⟩) ?_ ?_
                    rotate_left
                    · simp only [Act.put, List.setIfInBounds_toArray, List.set_cons_zero, List.set_cons_succ, i64_w, i32_w]
                      rfl
                    refine pure_ (i := 17) (N := some 73) (v := undef) (a' := ?_) #[true, true, true, true, true, true, true, true, true, true, true, true, true, true, true, true, true, true, false, false, false, false, false, false, false, false, false, false, false, false] rfl rfl (any_of HT_.out (by kernel_rfl)) (fun _ _ _ h => h) (Or.inr ⟨by rfl, rfl⟩) ?_ ?_
                    rotate_left
                    · simp only [Act.put, List.setIfInBounds_toArray, List.set_cons_zero, List.set_cons_succ, i64_w, i32_w]
                      rfl
                    refine pure_ (i := 18) (N := some 74) (v := undef) (a' := ?_) #[true, true, true, true, true, true, true, true, true, true, true, true, true, true, true, true, true, true, true, false, false, false, false, false, false, false, false, false, false, false] rfl rfl (any_of HT_.out (by kernel_rfl)) (fun _ _ _ h => h) (Or.inr ⟨by rfl, rfl⟩) ?_ ?_
                    rotate_left
                    · simp only [Act.put, List.setIfInBounds_toArray, List.set_cons_zero, List.set_cons_succ, i64_w, i32_w]
                      rfl
                    refine pure_ (i := 19) (N := some 75) (v := ?_) (a' := ?_) #[true, true, true, true, true, true, true, true, true, true, true, true, true, true, true, true, true, true, true, true, false, false, false, false, false, false, false, false, false, false] rfl rfl (any_of HT_.out (by kernel_rfl)) (fun _ _ _ h => h) (Or.inl ⟨by rfl, ?_⟩) ?_ ?_
                    rotate_left
                    · intro w'
                      go_simp
                      with_reducible rfl
                    rotate_left
                    · simp only [Act.put, List.setIfInBounds_toArray, List.set_cons_zero, List.set_cons_succ, i64_w, i32_w]
                      rfl
                    refine pure_ (i := 20) (N := some 76) (v := ?_) (a' := ?_) #[true, true, true, true, true, true, true, true, true, true, true, true, true, true, true, true, true, true, true, true, true, false, false, false, false, false, false, false, false, false] rfl rfl (any_of HT_.out (by kernel_rfl)) (fun _ _ _ h => h) (Or.inl ⟨by rfl, ?_⟩) ?_ ?_
                    rotate_left
                    · intro w'
                      go_simp
                      with_reducible rfl
                    rotate_left
                    · simp only [Act.put, List.setIfInBounds_toArray, List.set_cons_zero, List.set_cons_succ, i64_w, i32_w]
                      rfl
                    refine pure_ (i := 21) (N := some 77) (v := undef) (a' := ?_) #[true, true, true, true, true, true, true, true, true, true, true, true, true, true, true, true, true, true, true, true, true, true, false, false, false, false, false, false, false, false] rfl rfl (any_of HT_.out (by kernel_rfl)) (fun _ _ _ h => h) (Or.inr ⟨by rfl, rfl⟩) ?_ ?_
                    rotate_left
                    · simp only [Act.put, List.setIfInBounds_toArray, List.set_cons_zero, List.set_cons_succ, i64_w, i32_w]
                      rfl
                    refine pure_ (i := 22) (N := some 78) (v := undef) (a' := ?_) #[true, true, true, true, true, true, true, true, true, true, true, true, true, true, true, true, true, true, true, true, true, true, true, false, false, false, false, false, false, false] rfl rfl (any_of HT_.out (by kernel_rfl)) (fun _ _ _ h => h) (Or.inr ⟨by rfl, rfl⟩) ?_ ?_
                    rotate_left
                    · simp only [Act.put, List.setIfInBounds_toArray, List.set_cons_zero, List.set_cons_succ, i64_w, i32_w]
                      rfl
                    refine pure_ (i := 23) (N := some 79) (v := undef) (a' := ?_) #[true, true, true, true, true, true, true, true, true, true, true, true, true, true, true, true, true, true, true, true, true, true, true, true, false, false, false, false, false, false] rfl rfl (any_of HT_.out (by kernel_rfl)) (fun _ _ _ h => h) (Or.inr ⟨by rfl, rfl⟩) ?_ ?_
                    rotate_left
                    · simp only [Act.put, List.setIfInBounds_toArray, List.set_cons_zero, List.set_cons_succ, i64_w, i32_w]
                      rfl
                    refine pure_ (i := 24) (N := some 80) (v := undef) (a' := ?_) #[true, true, true, true, true, true, true, true, true, true, true, true, true, true, true, true, true, true, true, true, true, true, true, true, true, false, false, false, false, false] rfl rfl (any_of HT_.out (by kernel_rfl)) (fun _ _ _ h => h) (Or.inr ⟨by rfl, rfl⟩) ?_ ?_
                    rotate_left
                    · simp only [Act.put, List.setIfInBounds_toArray, List.set_cons_zero, List.set_cons_succ, i64_w, i32_w]
                      rfl
                    refine pure_ (i := 25) (N := some 81) (v := undef) (a' := ?_) #[true, true, true, true, true, true, true, true, true, true, true, true, true, true, true, true, true, true, true, true, true, true, true, true, true, true, false, false, false, false] rfl rfl (any_of HT_.out (by kernel_rfl)) (fun _ _ _ h => h) (Or.inr ⟨by rfl, rfl⟩) ?_ ?_
                    rotate_left
                    · simp only [Act.put, List.setIfInBounds_toArray, List.set_cons_zero, List.set_cons_succ, i64_w, i32_w]
                      rfl
                    refine pure_ (i := 26) (N := some 82) (v := undef) (a' := ?_) #[true, true, true, true, true, true, true, true, true, true, true, true, true, true, true, true, true, true, true, true, true, true, true, true, true, true, true, false, false, false] rfl rfl (any_of HT_.out (by kernel_rfl)) (fun _ _ _ h => h) (Or.inr ⟨by rfl, rfl⟩) ?_ ?_
                    rotate_left
                    · simp only [Act.put, List.setIfInBounds_toArray, List.set_cons_zero, List.set_cons_succ, i64_w, i32_w]
                      rfl
                    refine pure_ (i := 27) (N := some 83) (v := undef) (a' := ?_) #[true, true, true, true, true, true, true, true, true, true, true, true, true, true, true, true, true, true, true, true, true, true, true, true, true, true, true, true, false, false] rfl rfl (any_of HT_.out (by kernel_rfl)) (fun _ _ _ h => h) (Or.inr ⟨by rfl, rfl⟩) ?_ ?_
                    rotate_left
                    · simp only [Act.put, List.setIfInBounds_toArray, List.set_cons_zero, List.set_cons_succ, i64_w, i32_w]
                      rfl
                    refine pure_ (i := 28) (N := some 84) (v := undef) (a' := ?_) #[true, true, true, true, true, true, true, true, true, true, true, true, true, true, true, true, true, true, true, true, true, true, true, true, true, true, true, true, true, false] rfl rfl (any_of HT_.out (by kernel_rfl)) (fun _ _ _ h => h) (Or.inr ⟨by rfl, rfl⟩) ?_ ?_
                    rotate_left
                    · simp only [Act.put, List.setIfInBounds_toArray, List.set_cons_zero, List.set_cons_succ, i64_w, i32_w]
                      rfl
                    refine pure_ (i := 29) (N := some 85) (v := ?_) (a' := ?_) #[true, true, true, true, true, true, true, true, true, true, true, true, true, true, true, true, true, true, true, true, true, true, true, true, true, true, true, true, true, true] rfl rfl (any_of HT_.out (by kernel_rfl)) (fun _ _ _ h => h) (Or.inl ⟨by rfl, ?_⟩) ?_ ?_
                    rotate_left
                    · intro w'
                      go_simp
                      with_reducible rfl
                    rotate_left
                    · simp only [Act.put, List.setIfInBounds_toArray, List.set_cons_zero, List.set_cons_succ, i64_w, i32_w]
                      rfl
                    refine done_ (done_of HT_.out (by kernel_rfl)) ?_
                    try go_wp2
                    go_meet
                    case rel => exact ⟨_, (true), (by first | rfl | (simp; done) | (simp [*]; done)), H', ⟨by have := HK1.out; first | omega | exact Nat.le_refl _⟩, ⟨by (with_reducible repeat (first | apply Kd.R_alloc | apply Kd.R_drewN | apply Kd.R_drew)); exact HO_7.out⟩, ⟨by repeat (first | (with_reducible first | exact HB.out | apply below_alloc | apply pw_below_drewN | apply below_drew1) | exact HB.out)⟩⟩
                · rw [if_neg c12] at H
                  have c12b0 : decide (((rd_T31 t201 x11_1).f3) < x10_1) = false := decide_eq_false c12
                  clear c12
                  by_cases c14 : ((rd_T31 t201 x11_1).f4) ≤ ((rd_T31 t201 x11_1).f3)
                  · rw [if_pos c14] at H
                    have c14b0 : decide (((rd_T31 t201 x11_1).f4) ≤ ((rd_T31 t201 x11_1).f3)) = true := decide_eq_true c14
                    clear c14
                    as_aux_lemma =>
                      have H' := Aside0.mk H
                      clear H
                      try go_wp2
                      have n0_ := Aside0.mk (Kd.R_drew HO_7.out)
                      have n1_ := Aside0.mk (below_drew1 HB.out)
                      clear HO_7
                      clear HB
                      have HO_7 := n0_
                      have HB := n1_
                      clear n0_ n1_
                      have p207 : 0 ≤ (x11_1 : Int) := of_decide_eq_true (by first | (with_reducible assumption) | assumption)
                      have q207 : x11_1 < (t201.length : Int) := of_decide_eq_true (by first | (with_reducible assumption) | assumption)
                      obtain ⟨ad207, e207, hx207_0, hx207_1, hx207_2, hx207_3, hx207_4⟩ := at_T31 (Kd.R_reads' HO_7.out).2.2 x11_1 p207 q207
                      cases e207
                      replace p207 := eq_true p207
                      replace q207 := eq_true q207
                      have p208 : 0 ≤ (x11_1 : Int) := of_decide_eq_true (by first | (with_reducible assumption) | assumption)
                      have q208 : x11_1 < (t201.length : Int) := of_decide_eq_true (by first | (with_reducible assumption) | assumption)
                      obtain ⟨ad208, e208, hx208_0, hx208_1, hx208_2, hx208_3, hx208_4⟩ := at_T31 (Kd.R_reads' HO_7.out).2.2 x11_1 p208 q208
                      obtain rfl : ad207 = ad208 := (by injection e208)
                      replace p208 := eq_true p208
                      replace q208 := eq_true q208
                      have p209 : 0 ≤ (x11_1 : Int) := of_decide_eq_true (by first | (with_reducible assumption) | assumption)
                      have q209 : x11_1 < (t201.length : Int) := of_decide_eq_true (by first | (with_reducible assumption) | assumption)
                      obtain ⟨ad209, e209, hx209_0, hx209_1, hx209_2, hx209_3, hx209_4⟩ := at_T31 (Kd.R_reads' HO_7.out).2.2 x11_1 p209 q209
                      obtain rfl : ad207 = ad209 := (by injection e209)
                      replace p209 := eq_true p209
                      replace q209 := eq_true q209
                      refine start_ (n := 30) (S := fun w' => w'.cell? (ad207.add ((x11_1).toNat * 5)) = some (.int .u8 ((rd_T31 t201 x11_1).f0)) ∧ w'.cell? ⟨(ad207.add ((x11_1).toNat * 5)).block, (ad207.add ((x11_1).toNat * 5)).off + 1, none⟩ = some (.string ((rd_T31 t201 x11_1).f1)) ∧ w'.cell? ⟨(ad207.add ((x11_1).toNat * 5)).block, (ad207.add ((x11_1).toNat * 5)).off + 2, none⟩ = some (.int .u64 ((rd_T31 t201 x11_1).f2)) ∧ w'.cell? ⟨(ad207.add ((x11_1).toNat * 5)).block, (ad207.add ((x11_1).toNat * 5)).off + 3, none⟩ = some (.int .i64 ((rd_T31 t201 x11_1).f3)) ∧ w'.cell? ⟨(ad207.add ((x11_1).toNat * 5)).block, (ad207.add ((x11_1).toNat * 5)).off + 4, none⟩ = some (.int .i64 ((rd_T31 t201 x11_1).f4)) ∧ w'.cell? (ad207.add ((x11_1).toNat * 5)) = some (.int .u8 ((rd_T31 t201 x11_1).f0)) ∧ w'.cell? ⟨(ad207.add ((x11_1).toNat * 5)).block, (ad207.add ((x11_1).toNat * 5)).off + 1, none⟩ = some (.string ((rd_T31 t201 x11_1).f1)) ∧ w'.cell? ⟨(ad207.add ((x11_1).toNat * 5)).block, (ad207.add ((x11_1).toNat * 5)).off + 2, none⟩ = some (.int .u64 ((rd_T31 t201 x11_1).f2)) ∧ w'.cell? ⟨(ad207.add ((x11_1).toNat * 5)).block, (ad207.add ((x11_1).toNat * 5)).off + 3, none⟩ = some (.int .i64 ((rd_T31 t201 x11_1).f3)) ∧ w'.cell? ⟨(ad207.add ((x11_1).toNat * 5)).block, (ad207.add ((x11_1).toNat * 5)).off + 4, none⟩ = some (.int .i64 ((rd_T31 t201 x11_1).f4)) ∧ w'.cell? (ad207.add ((x11_1).toNat * 5)) = some (.int .u8 ((rd_T31 t201 x11_1).f0)) ∧ w'.cell? ⟨(ad207.add ((x11_1).toNat * 5)).block, (ad207.add ((x11_1).toNat * 5)).off + 1, none⟩ = some (.string ((rd_T31 t201 x11_1).f1)) ∧ w'.cell? ⟨(ad207.add ((x11_1).toNat * 5)).block, (ad207.add ((x11_1).toNat * 5)).off + 2, none⟩ = some (.int .u64 ((rd_T31 t201 x11_1).f2)) ∧ w'.cell? ⟨(ad207.add ((x11_1).toNat * 5)).block, (ad207.add ((x11_1).toNat * 5)).off + 3, none⟩ = some (.int .i64 ((rd_T31 t201 x11_1).f3)) ∧ w'.cell? ⟨(ad207.add ((x11_1).toNat * 5)).block, (ad207.add ((x11_1).toNat * 5)).off + 4, none⟩ = some (.int .i64 ((rd_T31 t201 x11_1).f4))) (ds := []) #[false, false, false, false, false, false, false, false, false, false, false, false, false, false, false, false, false, false, false, false, false, false, false, false, false, false, false, false, false, false] (by kernel_rfl) rfl rfl ⟨hx207_0, hx207_1, hx207_2, hx207_3, hx207_4, hx208_0, hx208_1, hx208_2, hx208_3, hx208_4, hx209_0, hx209_1, hx209_2, hx209_3, hx209_4⟩ (fun hHeld => ?_); refine with_tabW trammellaw03_LexLies.tab10 trammellaw03_LexLies.bits10 (fun HT_ HW_ => ?_)
                      generalize wr.drew = w15 at HO_7 HB hx207_0 hx207_1 hx207_2 hx207_3 hx207_4 hx208_0 hx208_1 hx208_2 hx208_3 hx208_4 hx209_0 hx209_1 hx209_2 hx209_3 hx209_4 hHeld ⊢
                      refine pure_ (i := 0) (N := some 56) (v := ?_) (a' := ?_) #[true, false, false, false, false, false, false, false, false, false, false, false, false, false, false, false, false, false, false, false, false, false, false, false, false, false, false, false, false, false] rfl rfl (any_of HT_.out (by kernel_rfl)) (fun _ _ _ h => h) (Or.inl ⟨by rfl, ?_⟩) ?_ ?_
                      rotate_left
                      · intro w'
                        go_simp
                        with_reducible rfl
                      rotate_left
                      · simp only [Act.put, List.setIfInBounds_toArray, List.set_cons_zero, List.set_cons_succ, i64_w, i32_w]
                        rfl
                      refine pure_ (i := 1) (N := some 57) (v := ?_) (a' := ?_) #[true, true, false, false, false, false, false, false, false, false, false, false, false, false, false, false, false, false, false, false, false, false, false, false, false, false, false, false, false, false] rfl rfl (any_of HT_.out (by kernel_rfl)) (fun _ _ _ h => h) (Or.inl ⟨by rfl, ?_⟩) ?_ ?_
                      rotate_left
                      · intro w'
                        go_simp
                        with_reducible rfl
                      rotate_left
                      · simp only [Act.put, List.setIfInBounds_toArray, List.set_cons_zero, List.set_cons_succ, i64_w, i32_w]
                        rfl
                      refine pure_ (i := 2) (N := some 58) (v := ?_) (a' := ?_) #[true, true, true, false, false, false, false, false, false, false, false, false, false, false, false, false, false, false, false, false, false, false, false, false, false, false, false, false, false, false] rfl rfl (any_of HT_.out (by kernel_rfl)) (fun _ _ _ h => h) (Or.inl ⟨by rfl, ?_⟩) ?_ ?_
                      rotate_left
                      · intro w'
                        go_simp
                        with_reducible rfl
                      rotate_left
                      · simp only [Act.put, List.setIfInBounds_toArray, List.set_cons_zero, List.set_cons_succ, i64_w, i32_w]
                        rfl
                      refine pure_ (i := 3) (N := some 59) (v := ?_) (a' := ?_) #[true, true, true, true, false, false, false, false, false, false, false, false, false, false, false, false, false, false, false, false, false, false, false, false, false, false, false, false, false, false] rfl rfl (any_of HT_.out (by kernel_rfl)) (fun _ _ _ h => h) (Or.inl ⟨by rfl, ?_⟩) ?_ ?_
                      rotate_left
                      · intro w'
                        go_simp
                        with_reducible rfl
                      rotate_left
                      · simp only [Act.put, List.setIfInBounds_toArray, List.set_cons_zero, List.set_cons_succ, i64_w, i32_w]
                        rfl
                      refine pure_ (i := 5) (N := some 61) (v := ?_) (a' := ?_) #[true, true, true, true, false, true, false, false, false, false, false, false, false, false, false, false, false, false, false, false, false, false, false, false, false, false, false, false, false, false] rfl rfl (any_of HT_.out (by kernel_rfl)) (fun _ _ _ h => h) (Or.inl ⟨by rfl, ?_⟩) ?_ ?_
                      rotate_left
                      · intro w'
                        go_simp
                        with_reducible rfl
                      rotate_left
                      · simp only [Act.put, List.setIfInBounds_toArray, List.set_cons_zero, List.set_cons_succ, i64_w, i32_w]
                        rfl
                      refine take_ (i := 4) (N := some 60) (v := ?_) (a' := ?_) #[true, true, true, true, true, true, false, false, false, false, false, false, false, false, false, false, false, false, false, false, false, false, false, false, false, false, false, false, false, false] rfl rfl (take_ofW HT_.out HW_.out (by kernel_rfl)) (fun _ _ _ h => h) (Or.inl ⟨by rfl, ?_⟩) hHeld ?_ ?_
                      rotate_left
                      · rintro w' ⟨s0, s1, s2, s3, s4, s5, s6, s7, s8, s9, s10, s11, s12, s13, s14⟩
                        go_simp
                        with_reducible rfl
                      rotate_left
                      · simp only [Act.put, List.setIfInBounds_toArray, List.set_cons_zero, List.set_cons_succ, i64_w, i32_w]
                        rfl
                      refine pure_ (i := 6) (N := some 62) (v := ?_) (a' := ?_) #[true, true, true, true, true, true, true, false, false, false, false, false, false, false, false, false, false, false, false, false, false, false, false, false, false, false, false, false, false, false] rfl rfl (any_of HT_.out (by kernel_rfl)) (fun _ _ _ h => h) (Or.inl ⟨by rfl, ?_⟩) ?_ ?_
                      rotate_left
                      · intro w'
                        go_simp
                        with_reducible rfl
                      rotate_left
                      · simp only [Act.put, List.setIfInBounds_toArray, List.set_cons_zero, List.set_cons_succ, i64_w, i32_w]
                        rfl
                      refine pure_ (i := 7) (N := some 63) (v := ?_) (a' := ?_) #[true, true, true, true, true, true, true, true, false, false, false, false, false, false, false, false, false, false, false, false, false, false, false, false, false, false, false, false, false, false] rfl rfl (any_of HT_.out (by kernel_rfl)) (fun _ _ _ h => h) (Or.inl ⟨by rfl, ?_⟩) ?_ ?_
                      rotate_left
                      · intro w'
                        go_simp
                        with_reducible rfl
                      rotate_left
                      · simp only [Act.put, List.setIfInBounds_toArray, List.set_cons_zero, List.set_cons_succ, i64_w, i32_w]
                        rfl
                      refine pure_ (i := 8) (N := some 64) (v := ?_) (a' := ?_) #[true, true, true, true, true, true, true, true, true, false, false, false, false, false, false, false, false, false, false, false, false, false, false, false, false, false, false, false, false, false] rfl rfl (any_of HT_.out (by kernel_rfl)) (fun _ _ _ h => h) (Or.inl ⟨by rfl, ?_⟩) ?_ ?_
                      rotate_left
                      · intro w'
                        go_simp
                        with_reducible rfl
                      rotate_left
                      · simp only [Act.put, List.setIfInBounds_toArray, List.set_cons_zero, List.set_cons_succ, i64_w, i32_w]
                        rfl
                      refine pure_ (i := 9) (N := some 65) (v := ?_) (a' := ?_) #[true, true, true, true, true, true, true, true, true, true, false, false, false, false, false, false, false, false, false, false, false, false, false, false, false, false, false, false, false, false] rfl rfl (any_of HT_.out (by kernel_rfl)) (fun _ _ _ h => h) (Or.inl ⟨by rfl, ?_⟩) ?_ ?_
                      rotate_left
                      · intro w'
                        go_simp
                        with_reducible rfl
                      rotate_left
                      · simp only [Act.put, List.setIfInBounds_toArray, List.set_cons_zero, List.set_cons_succ, i64_w, i32_w]
                        rfl
                      refine pure_ (i := 10) (N := some 66) (v := ?_) (a' := ?_) #[true, true, true, true, true, true, true, true, true, true, true, false, false, false, false, false, false, false, false, false, false, false, false, false, false, false, false, false, false, false] rfl rfl (any_of HT_.out (by kernel_rfl)) (fun _ _ _ h => h) (Or.inl ⟨by rfl, ?_⟩) ?_ ?_
                      rotate_left
                      · intro w'
                        go_simp
                        with_reducible rfl
                      rotate_left
                      · simp only [Act.put, List.setIfInBounds_toArray, List.set_cons_zero, List.set_cons_succ, i64_w, i32_w]
                        rfl
                      refine pure_ (i := 11) (N := some 67) (v := ?_) (a' := ?_) #[true, true, true, true, true, true, true, true, true, true, true, true, false, false, false, false, false, false, false, false, false, false, false, false, false, false, false, false, false, false] rfl rfl (any_of HT_.out (by kernel_rfl)) (fun _ _ _ h => h) (Or.inl ⟨by rfl, ?_⟩) ?_ ?_
                      rotate_left
                      · intro w'
                        go_simp
                        with_reducible rfl
                      rotate_left
                      · simp only [Act.put, List.setIfInBounds_toArray, List.set_cons_zero, List.set_cons_succ, i64_w, i32_w]
                        rfl
                      refine pure_ (i := 13) (N := some 69) (v := ?_) (a' := ?_) #[true, true, true, true, true, true, true, true, true, true, true, true, false, true, false, false, false, false, false, false, false, false, false, false, false, false, false, false, false, false] rfl rfl (any_of HT_.out (by kernel_rfl)) (fun _ _ _ h => h) (Or.inl ⟨by rfl, ?_⟩) ?_ ?_
                      rotate_left
                      · intro w'
                        go_simp
                        with_reducible rfl
                      rotate_left
                      · simp only [Act.put, List.setIfInBounds_toArray, List.set_cons_zero, List.set_cons_succ, i64_w, i32_w]
                        rfl
                      refine pure_ (i := 14) (N := some 70) (v := ?_) (a' := ?_) #[true, true, true, true, true, true, true, true, true, true, true, true, false, true, true, false, false, false, false, false, false, false, false, false, false, false, false, false, false, false] rfl rfl (any_of HT_.out (by kernel_rfl)) (fun _ _ _ h => h) (Or.inl ⟨by rfl, ?_⟩) ?_ ?_
                      rotate_left
                      · intro w'
                        go_simp
                        with_reducible rfl
                      rotate_left
                      · simp only [Act.put, List.setIfInBounds_toArray, List.set_cons_zero, List.set_cons_succ, i64_w, i32_w]
                        rfl
                      refine pure_ (i := 15) (N := some 71) (v := ?_) (a' := ?_) #[true, true, true, true, true, true, true, true, true, true, true, true, false, true, true, true, false, false, false, false, false, false, false, false, false, false, false, false, false, false] rfl rfl (any_of HT_.out (by kernel_rfl)) (fun _ _ _ h => h) (Or.inl ⟨by rfl, ?_⟩) ?_ ?_
                      rotate_left
                      · intro w'
                        go_simp
                        with_reducible rfl
                      rotate_left
                      · simp only [Act.put, List.setIfInBounds_toArray, List.set_cons_zero, List.set_cons_succ, i64_w, i32_w]
                        rfl
                      refine pure_ (i := 16) (N := some 72) (v := ?_) (a' := ?_) #[true, true, true, true, true, true, true, true, true, true, true, true, false, true, true, true, true, false, false, false, false, false, false, false, false, false, false, false, false, false] rfl rfl (any_of HT_.out (by kernel_rfl)) (fun _ _ _ h => h) (Or.inl ⟨by rfl, ?_⟩) ?_ ?_
                      rotate_left
                      · intro w'
                        go_simp
                        with_reducible rfl
                      rotate_left
                      · simp only [Act.put, List.setIfInBounds_toArray, List.set_cons_zero, List.set_cons_succ, i64_w, i32_w]
                        rfl
                      refine take_ (i := 12) (N := some 68) (v := ?_) (a' := ?_) #[true, true, true, true, true, true, true, true, true, true, true, true, true, true, true, true, true, false, false, false, false, false, false, false, false, false, false, false, false, false] rfl rfl (take_ofW HT_.out HW_.out (by kernel_rfl)) (fun _ _ _ h => h) (Or.inl ⟨by rfl, ?_⟩) hHeld ?_ ?_
                      rotate_left
                      · rintro w' ⟨s0, s1, s2, s3, s4, s5, s6, s7, s8, s9, s10, s11, s12, s13, s14⟩
                        go_simp
                        with_reducible rfl
                      rotate_left
                      · simp only [Act.put, List.setIfInBounds_toArray, List.set_cons_zero, List.set_cons_succ, i64_w, i32_w]
                        rfl
                      refine take_ (i := 17) (N := some 73) (v := ?_) (a' := ?_) #[true, true, true, true, true, true, true, true, true, true, true, true, true, true, true, true, true, true, false, false, false, false, false, false, false, false, false, false, false, false] rfl rfl (take_ofW HT_.out HW_.out (by kernel_rfl)) (fun _ _ _ h => h) (Or.inl ⟨by rfl, ?_⟩) hHeld ?_ ?_
                      rotate_left
                      · rintro w' ⟨s0, s1, s2, s3, s4, s5, s6, s7, s8, s9, s10, s11, s12, s13, s14⟩
                        go_simp
                        with_reducible rfl
                      rotate_left
                      · simp only [Act.put, List.setIfInBounds_toArray, List.set_cons_zero, List.set_cons_succ, i64_w, i32_w]
                        rfl
                      refine pure_ (i := 18) (N := some 74) (v := ?_) (a' := ?_) #[true, true, true, true, true, true, true, true, true, true, true, true, true, true, true, true, true, true, true, false, false, false, false, false, false, false, false, false, false, false] rfl rfl (any_of HT_.out (by kernel_rfl)) (fun _ _ _ h => h) (Or.inl ⟨by rfl, ?_⟩) ?_ ?_
                      rotate_left
                      · intro w'
                        go_simp
                        with_reducible rfl
                      rotate_left
                      · simp only [Act.put, List.setIfInBounds_toArray, List.set_cons_zero, List.set_cons_succ, i64_w, i32_w]
                        rfl
                      refine pure_ (i := 19) (N := some 75) (v := ?_) (a' := ?_) #[true, true, true, true, true, true, true, true, true, true, true, true, true, true, true, true, true, true, true, true, false, false, false, false, false, false, false, false, false, false] rfl rfl (any_of HT_.out (by kernel_rfl)) (fun _ _ _ h => h) (Or.inl ⟨by rfl, ?_⟩) ?_ ?_
                      rotate_left
                      · intro w'
                        go_simp
                        with_reducible rfl
                      rotate_left
                      · simp only [Act.put, List.setIfInBounds_toArray, List.set_cons_zero, List.set_cons_succ, i64_w, i32_w]
                        rfl
                      refine pure_ (i := 20) (N := some 76) (v := ?_) (a' := ?_) #[true, true, true, true, true, true, true, true, true, true, true, true, true, true, true, true, true, true, true, true, true, false, false, false, false, false, false, false, false, false] rfl rfl (any_of HT_.out (by kernel_rfl)) (fun _ _ _ h => h) (Or.inl ⟨by rfl, ?_⟩) ?_ ?_
                      rotate_left
                      · intro w'
                        go_simp
                        with_reducible rfl
                      rotate_left
                      · simp only [Act.put, List.setIfInBounds_toArray, List.set_cons_zero, List.set_cons_succ, i64_w, i32_w]
                        rfl
                      refine pure_ (i := 21) (N := some 77) (v := undef) (a' := ?_) #[true, true, true, true, true, true, true, true, true, true, true, true, true, true, true, true, true, true, true, true, true, true, false, false, false, false, false, false, false, false] rfl rfl (any_of HT_.out (by kernel_rfl)) (fun _ _ _ h => h) (Or.inr ⟨by rfl, rfl⟩) ?_ ?_
                      rotate_left
                      · simp only [Act.put, List.setIfInBounds_toArray, List.set_cons_zero, List.set_cons_succ, i64_w, i32_w]
                        rfl
                      refine pure_ (i := 22) (N := some 78) (v := undef) (a' := ?_) #[true, true, true, true, true, true, true, true, true, true, true, true, true, true, true, true, true, true, true, true, true, true, true, false, false, false, false, false, false, false] rfl rfl (any_of HT_.out (by kernel_rfl)) (fun _ _ _ h => h) (Or.inr ⟨by rfl, rfl⟩) ?_ ?_
                      rotate_left
                      · simp only [Act.put, List.setIfInBounds_toArray, List.set_cons_zero, List.set_cons_succ, i64_w, i32_w]
                        rfl
                      refine pure_ (i := 23) (N := some 79) (v := undef) (a' := ?_) #[true, true, true, true, true, true, true, true, true, true, true, true, true, true, true, true, true, true, true, true, true, true, true, true, false, false, false, false, false, false] rfl rfl (any_of HT_.out (by kernel_rfl)) (fun _ _ _ h => h) (Or.inr ⟨by rfl, rfl⟩) ?_ ?_
                      rotate_left
                      · simp only [Act.put, List.setIfInBounds_toArray, List.set_cons_zero, List.set_cons_succ, i64_w, i32_w]
                        rfl
                      refine pure_ (i := 24) (N := some 80) (v := undef) (a' := ?_) #[true, true, true, true, true, true, true, true, true, true, true, true, true, true, true, true, true, true, true, true, true, true, true, true, true, false, false, false, false, false] rfl rfl (any_of HT_.out (by kernel_rfl)) (fun _ _ _ h => h) (Or.inr ⟨by rfl, rfl⟩) ?_ ?_
                      rotate_left
                      · simp only [Act.put, List.setIfInBounds_toArray, List.set_cons_zero, List.set_cons_succ, i64_w, i32_w]
                        rfl
                      refine pure_ (i := 25) (N := some 81) (v := undef) (a' := ?_) #[true, true, true, true, true, true, true, true, true, true, true, true, true, true, true, true, true, true, true, true, true, true, true, true, true, true, false, false, false, false] rfl rfl (any_of HT_.out (by kernel_rfl)) (fun _ _ _ h => h) (Or.inr ⟨by rfl, rfl⟩) ?_ ?_
                      rotate_left
                      · simp only [Act.put, List.setIfInBounds_toArray, List.set_cons_zero, List.set_cons_succ, i64_w, i32_w]
                        rfl
                      refine pure_ (i := 26) (N := some 82) (v := undef) (a' := ?_) #[true, true, true, true, true, true, true, true, true, true, true, true, true, true, true, true, true, true, true, true, true, true, true, true, true, true, true, false, false, false] rfl rfl (any_of HT_.out (by kernel_rfl)) (fun _ _ _ h => h) (Or.inr ⟨by rfl, rfl⟩) ?_ ?_
                      rotate_left
                      · simp only [Act.put, List.setIfInBounds_toArray, List.set_cons_zero, List.set_cons_succ, i64_w, i32_w]
                        rfl
                      refine pure_ (i := 27) (N := some 83) (v := undef) (a' := ?_) #[true, true, true, true, true, true, true, true, true, true, true, true, true, true, true, true, true, true, true, true, true, true, true, true, true, true, true, true, false, false] rfl rfl (any_of HT_.out (by kernel_rfl)) (fun _ _ _ h => h) (Or.inr ⟨by rfl, rfl⟩) ?_ ?_
                      rotate_left
                      · simp only [Act.put, List.setIfInBounds_toArray, List.set_cons_zero, List.set_cons_succ, i64_w, i32_w]
                        rfl
                      refine pure_ (i := 28) (N := some 84) (v := undef) (a' := ?_) #[true, true, true, true, true, true, true, true, true, true, true, true, true, true, true, true, true, true, true, true, true, true, true, true, true, true, true, true, true, false] rfl rfl (any_of HT_.out (by kernel_rfl)) (fun _ _ _ h => h) (Or.inr ⟨by rfl, rfl⟩) ?_ ?_
                      rotate_left
                      · simp only [Act.put, List.setIfInBounds_toArray, List.set_cons_zero, List.set_cons_succ, i64_w, i32_w]
                        rfl
                      refine pure_ (i := 29) (N := some 85) (v := ?_) (a' := ?_) #[true, true, true, true, true, true, true, true, true, true, true, true, true, true, true, true, true, true, true, true, true, true, true, true, true, true, true, true, true, true] rfl rfl (any_of HT_.out (by kernel_rfl)) (fun _ _ _ h => h) (Or.inl ⟨by rfl, ?_⟩) ?_ ?_
                      rotate_left
                      · intro w'
                        go_simp
                        with_reducible rfl
                      rotate_left
                      · simp only [Act.put, List.setIfInBounds_toArray, List.set_cons_zero, List.set_cons_succ, i64_w, i32_w]
                        rfl
                      refine done_ (done_of HT_.out (by kernel_rfl)) ?_
                      try go_wp2
                      go_meet
                      case rel => exact ⟨_, (true), (by first | rfl | (simp; done) | (simp [*]; done)), H', ⟨by have := HK1.out; first | omega | exact Nat.le_refl _⟩, ⟨by (with_reducible repeat (first | apply Kd.R_alloc | apply Kd.R_drewN | apply Kd.R_drew)); exact HO_7.out⟩, ⟨by repeat (first | (with_reducible first | exact HB.out | apply below_alloc | apply pw_below_drewN | apply below_drew1) | exact HB.out)⟩⟩
                  · rw [if_neg c14] at H
                    have c14b0 : decide (((rd_T31 t201 x11_1).f4) ≤ ((rd_T31 t201 x11_1).f3)) = false := decide_eq_false c14
                    clear c14
                    as_aux_lemma =>
                      have H' := Aside0.mk H
                      clear H
                      try go_wp2
                      have n0_ := Aside0.mk (Kd.R_drew HO_7.out)
                      have n1_ := Aside0.mk (below_drew1 HB.out)
                      clear HO_7
                      clear HB
                      have HO_7 := n0_
                      have HB := n1_
                      clear n0_ n1_
                      have p207 : 0 ≤ (x11_1 : Int) := of_decide_eq_true (by first | (with_reducible assumption) | assumption)
                      have q207 : x11_1 < (t201.length : Int) := of_decide_eq_true (by first | (with_reducible assumption) | assumption)
                      obtain ⟨ad207, e207, hx207_0, hx207_1, hx207_2, hx207_3, hx207_4⟩ := at_T31 (Kd.R_reads' HO_7.out).2.2 x11_1 p207 q207
                      cases e207
                      replace p207 := eq_true p207
                      replace q207 := eq_true q207
                      have p208 : 0 ≤ (x11_1 : Int) := of_decide_eq_true (by first | (with_reducible assumption) | assumption)
                      have q208 : x11_1 < (t201.length : Int) := of_decide_eq_true (by first | (with_reducible assumption) | assumption)
                      obtain ⟨ad208, e208, hx208_0, hx208_1, hx208_2, hx208_3, hx208_4⟩ := at_T31 (Kd.R_reads' HO_7.out).2.2 x11_1 p208 q208
                      obtain rfl : ad207 = ad208 := (by injection e208)
                      replace p208 := eq_true p208
                      replace q208 := eq_true q208
                      have p209 : 0 ≤ (x11_1 : Int) := of_decide_eq_true (by first | (with_reducible assumption) | assumption)
                      have q209 : x11_1 < (t201.length : Int) := of_decide_eq_true (by first | (with_reducible assumption) | assumption)
                      obtain ⟨ad209, e209, hx209_0, hx209_1, hx209_2, hx209_3, hx209_4⟩ := at_T31 (Kd.R_reads' HO_7.out).2.2 x11_1 p209 q209
                      obtain rfl : ad207 = ad209 := (by injection e209)
                      replace p209 := eq_true p209
                      replace q209 := eq_true q209
                      have p210 : 0 ≤ (x11_1 : Int) := of_decide_eq_true (by first | (with_reducible assumption) | assumption)
                      have q210 : x11_1 < (t201.length : Int) := of_decide_eq_true (by first | (with_reducible assumption) | assumption)
                      obtain ⟨ad210, e210, hx210_0, hx210_1, hx210_2, hx210_3, hx210_4⟩ := at_T31 (Kd.R_reads' HO_7.out).2.2 x11_1 p210 q210
                      obtain rfl : ad207 = ad210 := (by injection e210)
                      replace p210 := eq_true p210
                      replace q210 := eq_true q210
                      refine start_ (n := 30) (S := fun w' => w'.cell? (ad207.add ((x11_1).toNat * 5)) = some (.int .u8 ((rd_T31 t201 x11_1).f0)) ∧ w'.cell? ⟨(ad207.add ((x11_1).toNat * 5)).block, (ad207.add ((x11_1).toNat * 5)).off + 1, none⟩ = some (.string ((rd_T31 t201 x11_1).f1)) ∧ w'.cell? ⟨(ad207.add ((x11_1).toNat * 5)).block, (ad207.add ((x11_1).toNat * 5)).off + 2, none⟩ = some (.int .u64 ((rd_T31 t201 x11_1).f2)) ∧ w'.cell? ⟨(ad207.add ((x11_1).toNat * 5)).block, (ad207.add ((x11_1).toNat * 5)).off + 3, none⟩ = some (.int .i64 ((rd_T31 t201 x11_1).f3)) ∧ w'.cell? ⟨(ad207.add ((x11_1).toNat * 5)).block, (ad207.add ((x11_1).toNat * 5)).off + 4, none⟩ = some (.int .i64 ((rd_T31 t201 x11_1).f4)) ∧ w'.cell? (ad207.add ((x11_1).toNat * 5)) = some (.int .u8 ((rd_T31 t201 x11_1).f0)) ∧ w'.cell? ⟨(ad207.add ((x11_1).toNat * 5)).block, (ad207.add ((x11_1).toNat * 5)).off + 1, none⟩ = some (.string ((rd_T31 t201 x11_1).f1)) ∧ w'.cell? ⟨(ad207.add ((x11_1).toNat * 5)).block, (ad207.add ((x11_1).toNat * 5)).off + 2, none⟩ = some (.int .u64 ((rd_T31 t201 x11_1).f2)) ∧ w'.cell? ⟨(ad207.add ((x11_1).toNat * 5)).block, (ad207.add ((x11_1).toNat * 5)).off + 3, none⟩ = some (.int .i64 ((rd_T31 t201 x11_1).f3)) ∧ w'.cell? ⟨(ad207.add ((x11_1).toNat * 5)).block, (ad207.add ((x11_1).toNat * 5)).off + 4, none⟩ = some (.int .i64 ((rd_T31 t201 x11_1).f4)) ∧ w'.cell? (ad207.add ((x11_1).toNat * 5)) = some (.int .u8 ((rd_T31 t201 x11_1).f0)) ∧ w'.cell? ⟨(ad207.add ((x11_1).toNat * 5)).block, (ad207.add ((x11_1).toNat * 5)).off + 1, none⟩ = some (.string ((rd_T31 t201 x11_1).f1)) ∧ w'.cell? ⟨(ad207.add ((x11_1).toNat * 5)).block, (ad207.add ((x11_1).toNat * 5)).off + 2, none⟩ = some (.int .u64 ((rd_T31 t201 x11_1).f2)) ∧ w'.cell? ⟨(ad207.add ((x11_1).toNat * 5)).block, (ad207.add ((x11_1).toNat * 5)).off + 3, none⟩ = some (.int .i64 ((rd_T31 t201 x11_1).f3)) ∧ w'.cell? ⟨(ad207.add ((x11_1).toNat * 5)).block, (ad207.add ((x11_1).toNat * 5)).off + 4, none⟩ = some (.int .i64 ((rd_T31 t201 x11_1).f4)) ∧ w'.cell? (ad207.add ((x11_1).toNat * 5)) = some (.int .u8 ((rd_T31 t201 x11_1).f0)) ∧ w'.cell? ⟨(ad207.add ((x11_1).toNat * 5)).block, (ad207.add ((x11_1).toNat * 5)).off + 1, none⟩ = some (.string ((rd_T31 t201 x11_1).f1)) ∧ w'.cell? ⟨(ad207.add ((x11_1).toNat * 5)).block, (ad207.add ((x11_1).toNat * 5)).off + 2, none⟩ = some (.int .u64 ((rd_T31 t201 x11_1).f2)) ∧ w'.cell? ⟨(ad207.add ((x11_1).toNat * 5)).block, (ad207.add ((x11_1).toNat * 5)).off + 3, none⟩ = some (.int .i64 ((rd_T31 t201 x11_1).f3)) ∧ w'.cell? ⟨(ad207.add ((x11_1).toNat * 5)).block, (ad207.add ((x11_1).toNat * 5)).off + 4, none⟩ = some (.int .i64 ((rd_T31 t201 x11_1).f4))) (ds := []) #[false, false, false, false, false, false, false, false, false, false, false, false, false, false, false, false, false, false, false, false, false, false, false, false, false, false, false, false, false, false] (by kernel_rfl) rfl rfl ⟨hx207_0, hx207_1, hx207_2, hx207_3, hx207_4, hx208_0, hx208_1, hx208_2, hx208_3, hx208_4, hx209_0, hx209_1, hx209_2, hx209_3, hx209_4, hx210_0, hx210_1, hx210_2, hx210_3, hx210_4⟩ (fun hHeld => ?_); refine with_tabW trammellaw03_LexLies.tab10 trammellaw03_LexLies.bits10 (fun HT_ HW_ => ?_)
                      generalize wr.drew = w16 at HO_7 HB hx207_0 hx207_1 hx207_2 hx207_3 hx207_4 hx208_0 hx208_1 hx208_2 hx208_3 hx208_4 hx209_0 hx209_1 hx209_2 hx209_3 hx209_4 hx210_0 hx210_1 hx210_2 hx210_3 hx210_4 hHeld ⊢
                      refine pure_ (i := 0) (N := some 56) (v := ?_) (a' := ?_) #[true, false, false, false, false, false, false, false, false, false, false, false, false, false, false, false, false, false, false, false, false, false, false, false, false, false, false, false, false, false] rfl rfl (any_of HT_.out (by kernel_rfl)) (fun _ _ _ h => h) (Or.inl ⟨by rfl, ?_⟩) ?_ ?_
                      rotate_left
                      · intro w'
                        go_simp
                        with_reducible rfl
                      rotate_left
                      · simp only [Act.put, List.setIfInBounds_toArray, List.set_cons_zero, List.set_cons_succ, i64_w, i32_w]
                        rfl
                      refine pure_ (i := 1) (N := some 57) (v := ?_) (a' := ?_) #[true, true, false, false, false, false, false, false, false, false, false, false, false, false, false, false, false, false, false, false, false, false, false, false, false, false, false, false, false, false] rfl rfl (any_of HT_.out (by kernel_rfl)) (fun _ _ _ h => h) (Or.inl ⟨by rfl, ?_⟩) ?_ ?_
                      rotate_left
                      · intro w'
                        go_simp
                        with_reducible rfl
                      rotate_left
                      · simp only [Act.put, List.setIfInBounds_toArray, List.set_cons_zero, List.set_cons_succ, i64_w, i32_w]
                        rfl
                      refine pure_ (i := 2) (N := some 58) (v := ?_) (a' := ?_) #[true, true, true, false, false, false, false, false, false, false, false, false, false, false, false, false, false, false, false, false, false, false, false, false, false, false, false, false, false, false] rfl rfl (any_of HT_.out (by kernel_rfl)) (fun _ _ _ h => h) (Or.inl ⟨by rfl, ?_⟩) ?_ ?_
                      rotate_left
                      · intro w'
                        go_simp
                        with_reducible rfl
                      rotate_left
                      · simp only [Act.put, List.setIfInBounds_toArray, List.set_cons_zero, List.set_cons_succ, i64_w, i32_w]
                        rfl
                      refine pure_ (i := 3) (N := some 59) (v := ?_) (a' := ?_) #[true, true, true, true, false, false, false, false, false, false, false, false, false, false, false, false, false, false, false, false, false, false, false, false, false, false, false, false, false, false] rfl rfl (any_of HT_.out (by kernel_rfl)) (fun _ _ _ h => h) (Or.inl ⟨by rfl, ?_⟩) ?_ ?_
                      rotate_left
                      · intro w'
                        go_simp
                        with_reducible rfl
                      rotate_left
                      · simp only [Act.put, List.setIfInBounds_toArray, List.set_cons_zero, List.set_cons_succ, i64_w, i32_w]
                        rfl
                      refine pure_ (i := 5) (N := some 61) (v := ?_) (a' := ?_) #[true, true, true, true, false, true, false, false, false, false, false, false, false, false, false, false, false, false, false, false, false, false, false, false, false, false, false, false, false, false] rfl rfl (any_of HT_.out (by kernel_rfl)) (fun _ _ _ h => h) (Or.inl ⟨by rfl, ?_⟩) ?_ ?_
                      rotate_left
                      · intro w'
                        go_simp
                        with_reducible rfl
                      rotate_left
                      · simp only [Act.put, List.setIfInBounds_toArray, List.set_cons_zero, List.set_cons_succ, i64_w, i32_w]
                        rfl
                      refine take_ (i := 4) (N := some 60) (v := ?_) (a' := ?_) #[true, true, true, true, true, true, false, false, false, false, false, false, false, false, false, false, false, false, false, false, false, false, false, false, false, false, false, false, false, false] rfl rfl (take_ofW HT_.out HW_.out (by kernel_rfl)) (fun _ _ _ h => h) (Or.inl ⟨by rfl, ?_⟩) hHeld ?_ ?_
                      rotate_left
                      · rintro w' ⟨s0, s1, s2, s3, s4, s5, s6, s7, s8, s9, s10, s11, s12, s13, s14, s15, s16, s17, s18, s19⟩
                        go_simp
                        with_reducible rfl
                      rotate_left
                      · simp only [Act.put, List.setIfInBounds_toArray, List.set_cons_zero, List.set_cons_succ, i64_w, i32_w]
                        rfl
                      refine pure_ (i := 6) (N := some 62) (v := ?_) (a' := ?_) #[true, true, true, true, true, true, true, false, false, false, false, false, false, false, false, false, false, false, false, false, false, false, false, false, false, false, false, false, false, false] rfl rfl (any_of HT_.out (by kernel_rfl)) (fun _ _ _ h => h) (Or.inl ⟨by rfl, ?_⟩) ?_ ?_
                      rotate_left
                      · intro w'
                        go_simp
                        with_reducible rfl
                      rotate_left
                      · simp only [Act.put, List.setIfInBounds_toArray, List.set_cons_zero, List.set_cons_succ, i64_w, i32_w]
                        rfl
                      refine pure_ (i := 7) (N := some 63) (v := ?_) (a' := ?_) #[true, true, true, true, true, true, true, true, false, false, false, false, false, false, false, false, false, false, false, false, false, false, false, false, false, false, false, false, false, false] rfl rfl (any_of HT_.out (by kernel_rfl)) (fun _ _ _ h => h) (Or.inl ⟨by rfl, ?_⟩) ?_ ?_
                      rotate_left
                      · intro w'
                        go_simp
                        with_reducible rfl
                      rotate_left
                      · simp only [Act.put, List.setIfInBounds_toArray, List.set_cons_zero, List.set_cons_succ, i64_w, i32_w]
                        rfl
                      refine pure_ (i := 8) (N := some 64) (v := ?_) (a' := ?_) #[true, true, true, true, true, true, true, true, true, false, false, false, false, false, false, false, false, false, false, false, false, false, false, false, false, false, false, false, false, false] rfl rfl (any_of HT_.out (by kernel_rfl)) (fun _ _ _ h => h) (Or.inl ⟨by rfl, ?_⟩) ?_ ?_
                      rotate_left
                      · intro w'
                        go_simp
                        with_reducible rfl
                      rotate_left
                      · simp only [Act.put, List.setIfInBounds_toArray, List.set_cons_zero, List.set_cons_succ, i64_w, i32_w]
                        rfl
                      refine pure_ (i := 9) (N := some 65) (v := ?_) (a' := ?_) #[true, true, true, true, true, true, true, true, true, true, false, false, false, false, false, false, false, false, false, false, false, false, false, false, false, false, false, false, false, false] rfl rfl (any_of HT_.out (by kernel_rfl)) (fun _ _ _ h => h) (Or.inl ⟨by rfl, ?_⟩) ?_ ?_
                      rotate_left
                      · intro w'
                        go_simp
                        with_reducible rfl
                      rotate_left
                      · simp only [Act.put, List.setIfInBounds_toArray, List.set_cons_zero, List.set_cons_succ, i64_w, i32_w]
                        rfl
                      refine pure_ (i := 10) (N := some 66) (v := ?_) (a' := ?_) #[true, true, true, true, true, true, true, true, true, true, true, false, false, false, false, false, false, false, false, false, false, false, false, false, false, false, false, false, false, false] rfl rfl (any_of HT_.out (by kernel_rfl)) (fun _ _ _ h => h) (Or.inl ⟨by rfl, ?_⟩) ?_ ?_
                      rotate_left
                      · intro w'
                        go_simp
                        with_reducible rfl
                      rotate_left
                      · simp only [Act.put, List.setIfInBounds_toArray, List.set_cons_zero, List.set_cons_succ, i64_w, i32_w]
                        rfl
                      refine pure_ (i := 11) (N := some 67) (v := ?_) (a' := ?_) #[true, true, true, true, true, true, true, true, true, true, true, true, false, false, false, false, false, false, false, false, false, false, false, false, false, false, false, false, false, false] rfl rfl (any_of HT_.out (by kernel_rfl)) (fun _ _ _ h => h) (Or.inl ⟨by rfl, ?_⟩) ?_ ?_
                      rotate_left
                      · intro w'
                        go_simp
                        with_reducible rfl
                      rotate_left
                      · simp only [Act.put, List.setIfInBounds_toArray, List.set_cons_zero, List.set_cons_succ, i64_w, i32_w]
                        rfl
                      refine pure_ (i := 13) (N := some 69) (v := ?_) (a' := ?_) #[true, true, true, true, true, true, true, true, true, true, true, true, false, true, false, false, false, false, false, false, false, false, false, false, false, false, false, false, false, false] rfl rfl (any_of HT_.out (by kernel_rfl)) (fun _ _ _ h => h) (Or.inl ⟨by rfl, ?_⟩) ?_ ?_
                      rotate_left
                      · intro w'
                        go_simp
                        with_reducible rfl
                      rotate_left
                      · simp only [Act.put, List.setIfInBounds_toArray, List.set_cons_zero, List.set_cons_succ, i64_w, i32_w]
                        rfl
                      refine pure_ (i := 14) (N := some 70) (v := ?_) (a' := ?_) #[true, true, true, true, true, true, true, true, true, true, true, true, false, true, true, false, false, false, false, false, false, false, false, false, false, false, false, false, false, false] rfl rfl (any_of HT_.out (by kernel_rfl)) (fun _ _ _ h => h) (Or.inl ⟨by rfl, ?_⟩) ?_ ?_
                      rotate_left
                      · intro w'
                        go_simp
                        with_reducible rfl
                      rotate_left
                      · simp only [Act.put, List.setIfInBounds_toArray, List.set_cons_zero, List.set_cons_succ, i64_w, i32_w]
                        rfl
                      refine pure_ (i := 15) (N := some 71) (v := ?_) (a' := ?_) #[true, true, true, true, true, true, true, true, true, true, true, true, false, true, true, true, false, false, false, false, false, false, false, false, false, false, false, false, false, false] rfl rfl (any_of HT_.out (by kernel_rfl)) (fun _ _ _ h => h) (Or.inl ⟨by rfl, ?_⟩) ?_ ?_
                      rotate_left
                      · intro w'
                        go_simp
                        with_reducible rfl
                      rotate_left
                      · simp only [Act.put, List.setIfInBounds_toArray, List.set_cons_zero, List.set_cons_succ, i64_w, i32_w]
                        rfl
                      refine pure_ (i := 16) (N := some 72) (v := ?_) (a' := ?_) #[true, true, true, true, true, true, true, true, true, true, true, true, false, true, true, true, true, false, false, false, false, false, false, false, false, false, false, false, false, false] rfl rfl (any_of HT_.out (by kernel_rfl)) (fun _ _ _ h => h) (Or.inl ⟨by rfl, ?_⟩) ?_ ?_
                      rotate_left
                      · intro w'
                        go_simp
                        with_reducible rfl
                      rotate_left
                      · simp only [Act.put, List.setIfInBounds_toArray, List.set_cons_zero, List.set_cons_succ, i64_w, i32_w]
                        rfl
                      refine take_ (i := 12) (N := some 68) (v := ?_) (a' := ?_) #[true, true, true, true, true, true, true, true, true, true, true, true, true, true, true, true, true, false, false, false, false, false, false, false, false, false, false, false, false, false] rfl rfl (take_ofW HT_.out HW_.out (by kernel_rfl)) (fun _ _ _ h => h) (Or.inl ⟨by rfl, ?_⟩) hHeld ?_ ?_
                      rotate_left
                      · rintro w' ⟨s0, s1, s2, s3, s4, s5, s6, s7, s8, s9, s10, s11, s12, s13, s14, s15, s16, s17, s18, s19⟩
                        go_simp
                        with_reducible rfl
                      rotate_left
                      · simp only [Act.put, List.setIfInBounds_toArray, List.set_cons_zero, List.set_cons_succ, i64_w, i32_w]
                        rfl
                      refine take_ (i := 17) (N := some 73) (v := ?_) (a' := ?_) #[true, true, true, true, true, true, true, true, true, true, true, true, true, true, true, true, true, true, false, false, false, false, false, false, false, false, false, false, false, false] rfl rfl (take_ofW HT_.out HW_.out (by kernel_rfl)) (fun _ _ _ h => h) (Or.inl ⟨by rfl, ?_⟩) hHeld ?_ ?_
                      rotate_left
                      · rintro w' ⟨s0, s1, s2, s3, s4, s5, s6, s7, s8, s9, s10, s11, s12, s13, s14, s15, s16, s17, s18, s19⟩
                        go_simp
                        with_reducible rfl
                      rotate_left
                      · simp only [Act.put, List.setIfInBounds_toArray, List.set_cons_zero, List.set_cons_succ, i64_w, i32_w]
                        rfl
                      refine pure_ (i := 18) (N := some 74) (v := ?_) (a' := ?_) #[true, true, true, true, true, true, true, true, true, true, true, true, true, true, true, true, true, true, true, false, false, false, false, false, false, false, false, false, false, false] rfl rfl (any_of HT_.out (by kernel_rfl)) (fun _ _ _ h => h) (Or.inl ⟨by rfl, ?_⟩) ?_ ?_
                      rotate_left
                      · intro w'
                        go_simp
                        with_reducible rfl
                      rotate_left
                      · simp only [Act.put, List.setIfInBounds_toArray, List.set_cons_zero, List.set_cons_succ, i64_w, i32_w]
                        rfl
                      refine pure_ (i := 19) (N := some 75) (v := ?_) (a' := ?_) #[true, true, true, true, true, true, true, true, true, true, true, true, true, true, true, true, true, true, true, true, false, false, false, false, false, false, false, false, false, false] rfl rfl (any_of HT_.out (by kernel_rfl)) (fun _ _ _ h => h) (Or.inl ⟨by rfl, ?_⟩) ?_ ?_
                      rotate_left
                      · intro w'
                        go_simp
                        with_reducible rfl
                      rotate_left
                      · simp only [Act.put, List.setIfInBounds_toArray, List.set_cons_zero, List.set_cons_succ, i64_w, i32_w]
                        rfl
                      refine pure_ (i := 20) (N := some 76) (v := ?_) (a' := ?_) #[true, true, true, true, true, true, true, true, true, true, true, true, true, true, true, true, true, true, true, true, true, false, false, false, false, false, false, false, false, false] rfl rfl (any_of HT_.out (by kernel_rfl)) (fun _ _ _ h => h) (Or.inl ⟨by rfl, ?_⟩) ?_ ?_
                      rotate_left
                      · intro w'
                        go_simp
                        with_reducible rfl
                      rotate_left
                      · simp only [Act.put, List.setIfInBounds_toArray, List.set_cons_zero, List.set_cons_succ, i64_w, i32_w]
                        rfl
                      refine pure_ (i := 21) (N := some 77) (v := ?_) (a' := ?_) #[true, true, true, true, true, true, true, true, true, true, true, true, true, true, true, true, true, true, true, true, true, true, false, false, false, false, false, false, false, false] rfl rfl (any_of HT_.out (by kernel_rfl)) (fun _ _ _ h => h) (Or.inl ⟨by rfl, ?_⟩) ?_ ?_
                      rotate_left
                      · intro w'
                        go_simp
                        with_reducible rfl
                      rotate_left
                      · simp only [Act.put, List.setIfInBounds_toArray, List.set_cons_zero, List.set_cons_succ, i64_w, i32_w]
                        rfl
                      refine pure_ (i := 22) (N := some 78) (v := ?_) (a' := ?_) #[true, true, true, true, true, true, true, true, true, true, true, true, true, true, true, true, true, true, true, true, true, true, true, false, false, false, false, false, false, false] rfl rfl (any_of HT_.out (by kernel_rfl)) (fun _ _ _ h => h) (Or.inl ⟨by rfl, ?_⟩) ?_ ?_
                      rotate_left
                      · intro w'
                        go_simp
                        with_reducible rfl
                      rotate_left
                      · simp only [Act.put, List.setIfInBounds_toArray, List.set_cons_zero, List.set_cons_succ, i64_w, i32_w]
                        rfl
                      refine pure_ (i := 23) (N := some 79) (v := ?_) (a' := ?_) #[true, true, true, true, true, true, true, true, true, true, true, true, true, true, true, true, true, true, true, true, true, true, true, true, false, false, false, false, false, false] rfl rfl (any_of HT_.out (by kernel_rfl)) (fun _ _ _ h => h) (Or.inl ⟨by rfl, ?_⟩) ?_ ?_
                      rotate_left
                      · intro w'
                        go_simp
                        with_reducible rfl
                      rotate_left
                      · simp only [Act.put, List.setIfInBounds_toArray, List.set_cons_zero, List.set_cons_succ, i64_w, i32_w]
                        rfl
                      refine pure_ (i := 24) (N := some 80) (v := ?_) (a' := ?_) #[true, true, true, true, true, true, true, true, true, true, true, true, true, true, true, true, true, true, true, true, true, true, true, true, true, false, false, false, false, false] rfl rfl (any_of HT_.out (by kernel_rfl)) (fun _ _ _ h => h) (Or.inl ⟨by rfl, ?_⟩) ?_ ?_
                      rotate_left
                      · intro w'
                        go_simp
                        with_reducible rfl
                      rotate_left
                      · simp only [Act.put, List.setIfInBounds_toArray, List.set_cons_zero, List.set_cons_succ, i64_w, i32_w]
                        rfl
                      refine pure_ (i := 26) (N := some 82) (v := ?_) (a' := ?_) #[true, true, true, true, true, true, true, true, true, true, true, true, true, true, true, true, true, true, true, true, true, true, true, true, true, false, true, false, false, false] rfl rfl (any_of HT_.out (by kernel_rfl)) (fun _ _ _ h => h) (Or.inl ⟨by rfl, ?_⟩) ?_ ?_
                      rotate_left
                      · intro w'
                        go_simp
                        with_reducible rfl
                      rotate_left
                      · simp only [Act.put, List.setIfInBounds_toArray, List.set_cons_zero, List.set_cons_succ, i64_w, i32_w]
                        rfl
                      refine pure_ (i := 27) (N := some 83) (v := ?_) (a' := ?_) #[true, true, true, true, true, true, true, true, true, true, true, true, true, true, true, true, true, true, true, true, true, true, true, true, true, false, true, true, false, false] rfl rfl (any_of HT_.out (by kernel_rfl)) (fun _ _ _ h => h) (Or.inl ⟨by rfl, ?_⟩) ?_ ?_
                      rotate_left
                      · intro w'
                        go_simp
                        with_reducible rfl
                      rotate_left
                      · simp only [Act.put, List.setIfInBounds_toArray, List.set_cons_zero, List.set_cons_succ, i64_w, i32_w]
                        rfl
                      refine take_ (i := 25) (N := some 81) (v := ?_) (a' := ?_) #[true, true, true, true, true, true, true, true, true, true, true, true, true, true, true, true, true, true, true, true, true, true, true, true, true, true, true, true, false, false] rfl rfl (take_ofW HT_.out HW_.out (by kernel_rfl)) (fun _ _ _ h => h) (Or.inl ⟨by rfl, ?_⟩) hHeld ?_ ?_
                      rotate_left
                      · rintro w' ⟨s0, s1, s2, s3, s4, s5, s6, s7, s8, s9, s10, s11, s12, s13, s14, s15, s16, s17, s18, s19⟩
                        go_simp
                        with_reducible rfl
                      rotate_left
                      · simp only [Act.put, List.setIfInBounds_toArray, List.set_cons_zero, List.set_cons_succ, i64_w, i32_w]
                        rfl
                      refine pure_ (i := 28) (N := some 84) (v := ?_) (a' := ?_) #[true, true, true, true, true, true, true, true, true, true, true, true, true, true, true, true, true, true, true, true, true, true, true, true, true, true, true, true, true, false] rfl rfl (any_of HT_.out (by kernel_rfl)) (fun _ _ _ h => h) (Or.inl ⟨by rfl, ?_⟩) ?_ ?_
                      rotate_left
                      · intro w'
                        go_simp
                        with_reducible rfl
                      rotate_left
                      · simp only [Act.put, List.setIfInBounds_toArray, List.set_cons_zero, List.set_cons_succ, i64_w, i32_w]
                        rfl
                      refine pure_ (i := 29) (N := some 85) (v := ?_) (a' := ?_) #[true, true, true, true, true, true, true, true, true, true, true, true, true, true, true, true, true, true, true, true, true, true, true, true, true, true, true, true, true, true] rfl rfl (any_of HT_.out (by kernel_rfl)) (fun _ _ _ h => h) (Or.inl ⟨by rfl, ?_⟩) ?_ ?_
                      rotate_left
                      · intro w'
                        go_simp
                        with_reducible rfl
                      rotate_left
                      · simp only [Act.put, List.setIfInBounds_toArray, List.set_cons_zero, List.set_cons_succ, i64_w, i32_w]
                        rfl
                      refine done_ (done_of HT_.out (by kernel_rfl)) ?_
                      try go_wp2
                      go_meet
                      case rel => exact ⟨_, (decide (((rd_T31 t201 x11_1).f4) > (a0.size : Int))), (by first | rfl | (simp; done) | (simp [*]; done)), H', ⟨by have := HK1.out; first | omega | exact Nat.le_refl _⟩, ⟨by (with_reducible repeat (first | apply Kd.R_alloc | apply Kd.R_drewN | apply Kd.R_drew)); exact HO_7.out⟩, ⟨by repeat (first | (with_reducible first | exact HB.out | apply below_alloc | apply pw_below_drewN | apply below_drew1) | exact HB.out)⟩⟩
              · rw [if_neg c11] at H
                exact absurd H (by simp)
            case rest =>
              clear HC9
              try clear c1
              try clear p2
              try clear q2
              try clear hx2
              try clear c11
              try clear c12
              try clear c12b0
              try clear c14
              try clear c14b0
              try clear hx207_0
              try clear hx207_1
              try clear hx207_2
              try clear hx207_3
              try clear hx207_4
              try clear hx208_0
              try clear hx208_1
              try clear hx208_2
              try clear hx208_3
              try clear hx208_4
              try clear hx209_0
              try clear hx209_1
              try clear hx209_2
              try clear hx209_3
              try clear hx209_4
              try clear hx210_0
              try clear hx210_1
              try clear hx210_2
              try clear hx210_3
              try clear hx210_4
              try clear p207
              try clear p208
              try clear p209
              try clear p210
              try clear q207
              try clear q208
              try clear q209
              try clear q210
              obtain ⟨kq, x85_8, rfl, HA, HJ8, HO_7, HB⟩ := hcut
              cases kq with
              | zero => exact absurd HA.out (by simp [trammellaw03_LexLies.j1])
              | succ kj8 =>
                have H := HA.out
                clear HA
                simp only [trammellaw03_LexLies.j1] at H
                by_cases c17 : x85_8 = true
                · subst c17
                  have H1 : (none) = some r := by rw [if_pos rfl] at H; exact H
                  clear H
                  have H := H1
                  clear H1
                  exact absurd H (by simp)
                · replace c17 := Bool.eq_false_iff.mpr c17
                  subst c17
                  have H1 : (if 0 ≤ x11_1 then (if x11_1 < (t201.length : Int) then ((trammelkit_Pick.f a1 7).bind fun t212 => (if (Int.tmod x11_1 7) = t212 then (if 0 ≤ ((rd_T31 t201 x11_1).f3) then (if ((rd_T31 t201 x11_1).f3) ≤ ((rd_T31 t201 x11_1).f4) then (if ((rd_T31 t201 x11_1).f4) ≤ (a0.size : Int) then ((lex_Tokens.f (a0.extract (((rd_T31 t201 x11_1).f3) : Int).toNat (((rd_T31 t201 x11_1).f4) : Int).toNat)).bind fun bt215 => (if bt215.2.2 = 0 then (if (bt215.1.length : Int) = 1 then (if 0 < (bt215.1.length : Int) then (if ((rd_T31 bt215.1 0).f0) = ((rd_T31 t201 x11_1).f0) then (if ((rd_T31 bt215.1 0).f1).toList = ((rd_T31 t201 x11_1).f1).toList then (if ((rd_T31 bt215.1 0).f2) = ((rd_T31 t201 x11_1).f2) then (trammellaw03_LexLies.l0 kj8 a0 a1 a2 t201 ((rd_T31 t201 x11_1).f4) (wrap64 (x11_1 + 1))) else (none)) else (none)) else (none)) else (none)) else (none)) else (none))) else (none)) else (none)) else (none)) else (trammellaw03_LexLies.l0 kj8 a0 a1 a2 t201 ((rd_T31 t201 x11_1).f4) (wrap64 (x11_1 + 1))))) else (none)) else (none)) = some r := by rw [if_neg (show ¬ (false = true) by decide)] at H; exact H
                  clear H
                  have H := H1
                  clear H1
                  by_cases c18 : 0 ≤ x11_1
                  · rw [if_pos c18] at H
                    have c18b0 : decide (0 ≤ x11_1) = true := decide_eq_true c18
                    clear c18
                    by_cases c19 : x11_1 < (t201.length : Int)
                    · rw [if_pos c19] at H
                      have c19b0 : decide (x11_1 < (t201.length : Int)) = true := decide_eq_true c19
                      clear c19
                      replace H := Option.bind_eq_some_iff.mp H
                      obtain ⟨t212, A200, H⟩ := H
                      replace H : (if (Int.tmod x11_1 7) = t212 then (if 0 ≤ ((rd_T31 t201 x11_1).f3) then (if ((rd_T31 t201 x11_1).f3) ≤ ((rd_T31 t201 x11_1).f4) then (if ((rd_T31 t201 x11_1).f4) ≤ (a0.size : Int) then ((lex_Tokens.f (a0.extract (((rd_T31 t201 x11_1).f3) : Int).toNat (((rd_T31 t201 x11_1).f4) : Int).toNat)).bind fun bt215 => (if bt215.2.2 = 0 then (if (bt215.1.length : Int) = 1 then (if 0 < (bt215.1.length : Int) then (if ((rd_T31 bt215.1 0).f0) = ((rd_T31 t201 x11_1).f0) then (if ((rd_T31 bt215.1 0).f1).toList = ((rd_T31 t201 x11_1).f1).toList then (if ((rd_T31 bt215.1 0).f2) = ((rd_T31 t201 x11_1).f2) then (trammellaw03_LexLies.l0 kj8 a0 a1 a2 t201 ((rd_T31 t201 x11_1).f4) (wrap64 (x11_1 + 1))) else (none)) else (none)) else (none)) else (none)) else (none)) else (none))) else (none)) else (none)) else (none)) else (trammellaw03_LexLies.l0 kj8 a0 a1 a2 t201 ((rd_T31 t201 x11_1).f4) (wrap64 (x11_1 + 1)))) = some r := H
                      have A20 := Aside0.mk A200
                      clear A200
                      by_cases c21 : (Int.tmod x11_1 7) = t212
                      · rw [if_pos c21] at H
                        have c21b0 : ((Int.tmod x11_1 7) == t212) = true := beq_iff_eq.mpr c21
                        have c21b1 : ((Int.tmod x11_1 7) != t212) = false := bne_eq_false_iff_eq.mpr c21
                        clear c21
                        by_cases c22 : 0 ≤ ((rd_T31 t201 x11_1).f3)
                        · rw [if_pos c22] at H
                          have c22b0 := eq_true c22
                          have c22b1 : decide (0 ≤ ((rd_T31 t201 x11_1).f3)) = true := decide_eq_true c22
                          clear c22
                          by_cases c23 : ((rd_T31 t201 x11_1).f3) ≤ ((rd_T31 t201 x11_1).f4)
                          · rw [if_pos c23] at H
                            have c23b0 := eq_true c23
                            have c23b1 : decide (((rd_T31 t201 x11_1).f3) ≤ ((rd_T31 t201 x11_1).f4)) = true := decide_eq_true c23
                            clear c23
                            by_cases c24 : ((rd_T31 t201 x11_1).f4) ≤ (a0.size : Int)
                            · rw [if_pos c24] at H
                              have c24b0 := eq_true c24
                              have c24b1 : decide (((rd_T31 t201 x11_1).f4) ≤ (a0.size : Int)) = true := decide_eq_true c24
                              clear c24
                              replace H := Option.bind_eq_some_iff.mp H
                              obtain ⟨⟨t215, t216, t217⟩, A250, H⟩ := H
                              replace H : (if t217 = 0 then (if (t215.length : Int) = 1 then (if 0 < (t215.length : Int) then (if ((rd_T31 t215 0).f0) = ((rd_T31 t201 x11_1).f0) then (if ((rd_T31 t215 0).f1).toList = ((rd_T31 t201 x11_1).f1).toList then (if ((rd_T31 t215 0).f2) = ((rd_T31 t201 x11_1).f2) then (trammellaw03_LexLies.l0 kj8 a0 a1 a2 t201 ((rd_T31 t201 x11_1).f4) (wrap64 (x11_1 + 1))) else (none)) else (none)) else (none)) else (none)) else (none)) else (none)) = some r := H
                              have A25 := Aside0.mk A250
                              clear A250
                              by_cases c26 : t217 = 0
                              · rw [if_pos c26] at H
                                have c26b0 : (t217 == 0) = true := beq_iff_eq.mpr c26
                                have c26b1 : (t217 != 0) = false := bne_eq_false_iff_eq.mpr c26
                                clear c26
                                by_cases c27 : (t215.length : Int) = 1
                                · rw [if_pos c27] at H
                                  have c27b0 : ((t215.length : Int) == 1) = true := beq_iff_eq.mpr c27
                                  have c27b1 : ((t215.length : Int) != 1) = false := bne_eq_false_iff_eq.mpr c27
                                  clear c27
                                  by_cases c28 : 0 < (t215.length : Int)
                                  · rw [if_pos c28] at H
                                    have c28b0 : decide (0 < (t215.length : Int)) = true := decide_eq_true c28
                                    have c28b1 : decide (0 < t215.length) = true := decide_eq_true (by omega)
                                    clear c28
                                    by_cases c29 : ((rd_T31 t215 0).f0) = ((rd_T31 t201 x11_1).f0)
                                    · rw [if_pos c29] at H
                                      have c29b0 : (((rd_T31 t215 0).f0) == ((rd_T31 t201 x11_1).f0)) = true := beq_iff_eq.mpr c29
                                      have c29b1 : (((rd_T31 t215 0).f0) != ((rd_T31 t201 x11_1).f0)) = false := bne_eq_false_iff_eq.mpr c29
                                      clear c29
                                      by_cases c30 : ((rd_T31 t215 0).f1).toList = ((rd_T31 t201 x11_1).f1).toList
                                      · rw [if_pos c30] at H
                                        have c30b0 : (((rd_T31 t215 0).f1).toList == ((rd_T31 t201 x11_1).f1).toList) = true := beq_iff_eq.mpr c30
                                        have c30b1 : (((rd_T31 t215 0).f1).toList != ((rd_T31 t201 x11_1).f1).toList) = false := bne_eq_false_iff_eq.mpr c30
                                        clear c30
                                        by_cases c31 : ((rd_T31 t215 0).f2) = ((rd_T31 t201 x11_1).f2)
                                        · rw [if_pos c31] at H
                                          have c31b0 : (((rd_T31 t215 0).f2) == ((rd_T31 t201 x11_1).f2)) = true := beq_iff_eq.mpr c31
                                          have c31b1 : (((rd_T31 t215 0).f2) != ((rd_T31 t201 x11_1).f2)) = false := bne_eq_false_iff_eq.mpr c31
                                          clear c31
                                          as_aux_lemma =>
                                            have H' := Aside0.mk H
                                            clear H
                                            have p211 : 0 ≤ (x11_1 : Int) := of_decide_eq_true (by first | (with_reducible assumption) | assumption)
                                            have q211 : x11_1 < (t201.length : Int) := of_decide_eq_true (by first | (with_reducible assumption) | assumption)
                                            obtain ⟨ad211, e211, hx211_0, hx211_1, hx211_2, hx211_3, hx211_4⟩ := at_T31 (Kd.R_reads' HO_7.out).2.2 x11_1 p211 q211
                                            cases e211
                                            replace p211 := eq_true p211
                                            replace q211 := eq_true q211
                                            try go_wp2_with (first | ((with_reducible refine gate_callee (f := 12) rfl ?_); refine goesL_ (some 94) rfl rfl Try.func12 (by kernel_rfl) rfl #[.int .i64 a1, .int .i64 7] rfl (by (try simp only [List.map_toArray, List.map_cons, List.map_nil]); first | done | rfl | (simp only [List.length_drop, List.length_take]; rfl)) ?_; (with_reducible refine (trammelkit_Pick.calls a1 7 t212 _ A20.out).mono ?_); rintro e w' ⟨rfl, ⟨nd, rfl⟩⟩; refine ⟨_, rfl, ?_⟩))
                                            (try (rw [drewN_self wc]; generalize hq_ : World.drewN wc _ = wc; have n0_ : Aside0 (Kd.R k31 31 wc w.heap.size (fun _ => True) (.slice (some ad211) t201.length co10) t201) := ⟨by rw [← hq_]; exact (by (with_reducible repeat (first | apply Kd.R_alloc | apply Kd.R_drewN | apply Kd.R_drew)); exact HO_7.out)⟩; have n1_ : Aside0 (Below w.heap.size w wc) := ⟨by rw [← hq_]; exact (by repeat (first | (with_reducible first | exact HB.out | apply below_alloc | apply pw_below_drewN | apply below_drew1) | exact HB.out))⟩; clear HO_7 HB hq_; have HO_7 := n0_; have HB := n1_; clear n0_ n1_))
                                            have n0_ := Aside0.mk (Kd.R_drew HO_7.out)
                                            have n1_ := Aside0.mk (below_drew1 HB.out)
                                            clear HO_7
                                            clear HB
                                            have HO_7 := n0_
                                            have HB := n1_
                                            clear n0_ n1_
                                            have p213 : 0 ≤ (x11_1 : Int) := of_decide_eq_true (by first | (with_reducible assumption) | assumption)
                                            have q213 : x11_1 < (t201.length : Int) := of_decide_eq_true (by first | (with_reducible assumption) | assumption)
                                            obtain ⟨ad213, e213, hx213_0, hx213_1, hx213_2, hx213_3, hx213_4⟩ := at_T31 (Kd.R_reads' HO_7.out).2.2 x11_1 p213 q213
                                            obtain rfl : ad211 = ad213 := (by injection e213)
                                            replace p213 := eq_true p213
                                            replace q213 := eq_true q213
                                            have p214 : 0 ≤ (x11_1 : Int) := of_decide_eq_true (by first | (with_reducible assumption) | assumption)
                                            have q214 : x11_1 < (t201.length : Int) := of_decide_eq_true (by first | (with_reducible assumption) | assumption)
                                            obtain ⟨ad214, e214, hx214_0, hx214_1, hx214_2, hx214_3, hx214_4⟩ := at_T31 (Kd.R_reads' HO_7.out).2.2 x11_1 p214 q214
                                            obtain rfl : ad211 = ad214 := (by injection e214)
                                            replace p214 := eq_true p214
                                            replace q214 := eq_true q214
                                            refine start_ (n := 20) (S := fun w' => w'.cell? (ad211.add ((x11_1).toNat * 5)) = some (.int .u8 ((rd_T31 t201 x11_1).f0)) ∧ w'.cell? ⟨(ad211.add ((x11_1).toNat * 5)).block, (ad211.add ((x11_1).toNat * 5)).off + 1, none⟩ = some (.string ((rd_T31 t201 x11_1).f1)) ∧ w'.cell? ⟨(ad211.add ((x11_1).toNat * 5)).block, (ad211.add ((x11_1).toNat * 5)).off + 2, none⟩ = some (.int .u64 ((rd_T31 t201 x11_1).f2)) ∧ w'.cell? ⟨(ad211.add ((x11_1).toNat * 5)).block, (ad211.add ((x11_1).toNat * 5)).off + 3, none⟩ = some (.int .i64 ((rd_T31 t201 x11_1).f3)) ∧ w'.cell? ⟨(ad211.add ((x11_1).toNat * 5)).block, (ad211.add ((x11_1).toNat * 5)).off + 4, none⟩ = some (.int .i64 ((rd_T31 t201 x11_1).f4)) ∧ w'.cell? (ad211.add ((x11_1).toNat * 5)) = some (.int .u8 ((rd_T31 t201 x11_1).f0)) ∧ w'.cell? ⟨(ad211.add ((x11_1).toNat * 5)).block, (ad211.add ((x11_1).toNat * 5)).off + 1, none⟩ = some (.string ((rd_T31 t201 x11_1).f1)) ∧ w'.cell? ⟨(ad211.add ((x11_1).toNat * 5)).block, (ad211.add ((x11_1).toNat * 5)).off + 2, none⟩ = some (.int .u64 ((rd_T31 t201 x11_1).f2)) ∧ w'.cell? ⟨(ad211.add ((x11_1).toNat * 5)).block, (ad211.add ((x11_1).toNat * 5)).off + 3, none⟩ = some (.int .i64 ((rd_T31 t201 x11_1).f3)) ∧ w'.cell? ⟨(ad211.add ((x11_1).toNat * 5)).block, (ad211.add ((x11_1).toNat * 5)).off + 4, none⟩ = some (.int .i64 ((rd_T31 t201 x11_1).f4))) (ds := []) #[false, false, false, false, false, false, false, false, false, false, false, false, false, false, false, false, false, false, false, false] (by kernel_rfl) rfl rfl ⟨hx213_0, hx213_1, hx213_2, hx213_3, hx213_4, hx214_0, hx214_1, hx214_2, hx214_3, hx214_4⟩ (fun hHeld => ?_); refine with_tabW trammellaw03_LexLies.tab14 trammellaw03_LexLies.bits14 (fun HT_ HW_ => ?_)
                                            generalize wc.drew = w32 at HO_7 HB hx213_0 hx213_1 hx213_2 hx213_3 hx213_4 hx214_0 hx214_1 hx214_2 hx214_3 hx214_4 hHeld ⊢
                                            refine pure_ (i := 0) (N := some 97) (v := ?_) (a' := ?_) #[true, false, false, false, false, false, false, false, false, false, false, false, false, false, false, false, false, false, false, false] rfl rfl (any_of HT_.out (by kernel_rfl)) (fun _ _ _ h => h) (Or.inl ⟨by rfl, ?_⟩) ?_ ?_
                                            rotate_left
                                            · intro w'
                                              go_simp
                                              with_reducible rfl
                                            rotate_left
                                            · simp only [Act.put, List.setIfInBounds_toArray, List.set_cons_zero, List.set_cons_succ, i64_w, i32_w]
                                              rfl
                                            refine pure_ (i := 1) (N := some 98) (v := ?_) (a' := ?_) #[true, true, false, false, false, false, false, false, false, false, false, false, false, false, false, false, false, false, false, false] rfl rfl (any_of HT_.out (by kernel_rfl)) (fun _ _ _ h => h) (Or.inl ⟨by rfl, ?_⟩) ?_ ?_
                                            rotate_left
                                            · intro w'
                                              go_simp
                                              with_reducible rfl
                                            rotate_left
                                            · simp only [Act.put, List.setIfInBounds_toArray, List.set_cons_zero, List.set_cons_succ, i64_w, i32_w]
                                              rfl
                                            refine pure_ (i := 2) (N := some 99) (v := ?_) (a' := ?_) #[true, true, true, false, false, false, false, false, false, false, false, false, false, false, false, false, false, false, false, false] rfl rfl (any_of HT_.out (by kernel_rfl)) (fun _ _ _ h => h) (Or.inl ⟨by rfl, ?_⟩) ?_ ?_
                                            rotate_left
                                            · intro w'
                                              go_simp
                                              with_reducible rfl
                                            rotate_left
                                            · simp only [Act.put, List.setIfInBounds_toArray, List.set_cons_zero, List.set_cons_succ, i64_w, i32_w]
                                              rfl
                                            refine pure_ (i := 3) (N := some 100) (v := ?_) (a' := ?_) #[true, true, true, true, false, false, false, false, false, false, false, false, false, false, false, false, false, false, false, false] rfl rfl (any_of HT_.out (by kernel_rfl)) (fun _ _ _ h => h) (Or.inl ⟨by rfl, ?_⟩) ?_ ?_
                                            rotate_left
                                            · intro w'
                                              go_simp
                                              with_reducible rfl
                                            rotate_left
                                            · simp only [Act.put, List.setIfInBounds_toArray, List.set_cons_zero, List.set_cons_succ, i64_w, i32_w]
                                              rfl
                                            refine pure_ (i := 4) (N := some 101) (v := ?_) (a' := ?_) #[true, true, true, true, true, false, false, false, false, false, false, false, false, false, false, false, false, false, false, false] rfl rfl (any_of HT_.out (by kernel_rfl)) (fun _ _ _ h => h) (Or.inl ⟨by rfl, ?_⟩) ?_ ?_
                                            rotate_left
                                            · intro w'
                                              go_simp
                                              with_reducible rfl
                                            rotate_left
                                            · simp only [Act.put, List.setIfInBounds_toArray, List.set_cons_zero, List.set_cons_succ, i64_w, i32_w]
                                              rfl
                                            refine pure_ (i := 6) (N := some 103) (v := ?_) (a' := ?_) #[true, true, true, true, true, false, true, false, false, false, false, false, false, false, false, false, false, false, false, false] rfl rfl (any_of HT_.out (by kernel_rfl)) (fun _ _ _ h => h) (Or.inl ⟨by rfl, ?_⟩) ?_ ?_
                                            rotate_left
                                            · intro w'
                                              go_simp
                                              with_reducible rfl
                                            rotate_left
                                            · simp only [Act.put, List.setIfInBounds_toArray, List.set_cons_zero, List.set_cons_succ, i64_w, i32_w]
                                              rfl
                                            refine pure_ (i := 7) (N := some 104) (v := ?_) (a' := ?_) #[true, true, true, true, true, false, true, true, false, false, false, false, false, false, false, false, false, false, false, false] rfl rfl (any_of HT_.out (by kernel_rfl)) (fun _ _ _ h => h) (Or.inl ⟨by rfl, ?_⟩) ?_ ?_
                                            rotate_left
                                            · intro w'
                                              go_simp
                                              with_reducible rfl
                                            rotate_left
                                            · simp only [Act.put, List.setIfInBounds_toArray, List.set_cons_zero, List.set_cons_succ, i64_w, i32_w]
                                              rfl
                                            refine pure_ (i := 8) (N := some 105) (v := ?_) (a' := ?_) #[true, true, true, true, true, false, true, true, true, false, false, false, false, false, false, false, false, false, false, false] rfl rfl (any_of HT_.out (by kernel_rfl)) (fun _ _ _ h => h) (Or.inl ⟨by rfl, ?_⟩) ?_ ?_
                                            rotate_left
                                            · intro w'
                                              go_simp
                                              with_reducible rfl
                                            rotate_left
                                            · simp only [Act.put, List.setIfInBounds_toArray, List.set_cons_zero, List.set_cons_succ, i64_w, i32_w]
                                              rfl
                                            refine pure_ (i := 9) (N := some 106) (v := ?_) (a' := ?_) #[true, true, true, true, true, false, true, true, true, true, false, false, false, false, false, false, false, false, false, false] rfl rfl (any_of HT_.out (by kernel_rfl)) (fun _ _ _ h => h) (Or.inl ⟨by rfl, ?_⟩) ?_ ?_
                                            rotate_left
                                            · intro w'
                                              go_simp
                                              with_reducible rfl
                                            rotate_left
                                            · simp only [Act.put, List.setIfInBounds_toArray, List.set_cons_zero, List.set_cons_succ, i64_w, i32_w]
                                              rfl
                                            refine take_ (i := 5) (N := some 102) (v := ?_) (a' := ?_) #[true, true, true, true, true, true, true, true, true, true, false, false, false, false, false, false, false, false, false, false] rfl rfl (take_ofW HT_.out HW_.out (by kernel_rfl)) (fun _ _ _ h => h) (Or.inl ⟨by rfl, ?_⟩) hHeld ?_ ?_
                                            rotate_left
                                            · rintro w' ⟨s0, s1, s2, s3, s4, s5, s6, s7, s8, s9⟩
                                              go_simp
                                              with_reducible rfl
                                            rotate_left
                                            · simp only [Act.put, List.setIfInBounds_toArray, List.set_cons_zero, List.set_cons_succ, i64_w, i32_w]
                                              rfl
                                            refine take_ (i := 10) (N := some 107) (v := ?_) (a' := ?_) #[true, true, true, true, true, true, true, true, true, true, true, false, false, false, false, false, false, false, false, false] rfl rfl (take_ofW HT_.out HW_.out (by kernel_rfl)) (fun _ _ _ h => h) (Or.inl ⟨by rfl, ?_⟩) hHeld ?_ ?_
                                            rotate_left
                                            · rintro w' ⟨s0, s1, s2, s3, s4, s5, s6, s7, s8, s9⟩
                                              go_simp
                                              with_reducible rfl
                                            rotate_left
                                            · simp only [Act.put, List.setIfInBounds_toArray, List.set_cons_zero, List.set_cons_succ, i64_w, i32_w]
                                              rfl
                                            refine pure_ (i := 11) (N := some 108) (v := ?_) (a' := ?_) #[true, true, true, true, true, true, true, true, true, true, true, true, false, false, false, false, false, false, false, false] rfl rfl (any_of HT_.out (by kernel_rfl)) (fun _ _ _ h => h) (Or.inl ⟨by rfl, ?_⟩) ?_ ?_
                                            rotate_left
                                            · intro w'
                                              go_simp
                                              with_reducible rfl
                                            rotate_left
                                            · simp only [Act.put, List.setIfInBounds_toArray, List.set_cons_zero, List.set_cons_succ, i64_w, i32_w]
                                              rfl
                                            refine one_ (i := 12) (N := some 109) #[true, true, true, true, true, true, true, true, true, true, true, true, true, false, false, false, false, false, false, false] rfl rfl (one_of HT_.out (by kernel_rfl)) (by decide) (fun K hK => ?_)
                                            refine goes_ Try.func18 (by kernel_rfl) rfl #[.string (a0.extract (((rd_T31 t201 x11_1).f3) : Int).toNat (((rd_T31 t201 x11_1).f4) : Int).toNat)] (by rfl) rfl rfl (by (try simp only [List.map_toArray, List.map_cons, List.map_nil]); first | done | rfl | (simp only [List.length_drop, List.length_take]; rfl)) ?_
                                            with_reducible refine (lex_Tokens.calls (a0.extract (((rd_T31 t201 x11_1).f3) : Int).toNat (((rd_T31 t201 x11_1).f4) : Int).toNat) t215 t216 t217 _ A25.out).mono ?_
                                            rintro e w33 ⟨v218, rfl, ho0, hb⟩
                                            have HS0_ := (hb.cell (World.block_lt_of_cell? _ _ (hHeld.1))).trans (hHeld.1)
                                            have HS1_ := (hb.cell (World.block_lt_of_cell? _ _ (hHeld.2.1))).trans (hHeld.2.1)
                                            have HS2_ := (hb.cell (World.block_lt_of_cell? _ _ (hHeld.2.2.1))).trans (hHeld.2.2.1)
                                            have HS3_ := (hb.cell (World.block_lt_of_cell? _ _ (hHeld.2.2.2.1))).trans (hHeld.2.2.2.1)
                                            have HS4_ := (hb.cell (World.block_lt_of_cell? _ _ (hHeld.2.2.2.2.1))).trans (hHeld.2.2.2.2.1)
                                            have HS5_ := (hb.cell (World.block_lt_of_cell? _ _ (hHeld.2.2.2.2.2.1))).trans (hHeld.2.2.2.2.2.1)
                                            have HS6_ := (hb.cell (World.block_lt_of_cell? _ _ (hHeld.2.2.2.2.2.2.1))).trans (hHeld.2.2.2.2.2.2.1)
                                            have HS7_ := (hb.cell (World.block_lt_of_cell? _ _ (hHeld.2.2.2.2.2.2.2.1))).trans (hHeld.2.2.2.2.2.2.2.1)
                                            have HS8_ := (hb.cell (World.block_lt_of_cell? _ _ (hHeld.2.2.2.2.2.2.2.2.1))).trans (hHeld.2.2.2.2.2.2.2.2.1)
                                            have HS9_ := (hb.cell (World.block_lt_of_cell? _ _ (hHeld.2.2.2.2.2.2.2.2.2))).trans (hHeld.2.2.2.2.2.2.2.2.2)
                                            refine ⟨_, rfl, ?_⟩
                                            have n0_ := Aside0.mk (Kd.R_elder' (by (with_reducible repeat (first | apply Kd.R_alloc | apply Kd.R_drewN | apply Kd.R_drew)); exact HO_7.out) (Kd.R_base ho0) hb)
                                            have n1_ := Aside0.mk (Kd.R_lower (Kd.R_new' ho0 (Kd.R_lt (by (with_reducible repeat (first | apply Kd.R_alloc | apply Kd.R_drewN | apply Kd.R_drew)); exact HO_7.out))) (below_size (by repeat (first | (with_reducible first | exact HB.out | apply below_alloc | apply pw_below_drewN | apply below_drew1) | exact HB.out))))
                                            have n2_ := Aside0.mk (below_step (by repeat (first | (with_reducible first | exact HB.out | apply below_alloc | apply pw_below_drewN | apply below_drew1) | exact HB.out)) hb)
                                            clear HO_7
                                            clear HB
                                            have HO_7 := n0_
                                            have HO219 := n1_
                                            have HB := n2_
                                            clear n0_ n1_ n2_
                                            (try clear hb)
                                            (try clear hb2)
                                            (try clear hk)
                                            (try clear hi)
                                            (try clear ho0)
                                            refine hK.out _ _ ⟨HS0_, HS1_, HS2_, HS3_, HS4_, HS5_, HS6_, HS7_, HS8_, HS9_⟩ (fun hHeld => ?_)
                                            clear hK K
                                            refine norm_ (a' := ?_) ?_ ?_
                                            rotate_left
                                            · show Act.put _ (some 109) _ = _
                                              simp only [Act.put, List.setIfInBounds_toArray, List.set_cons_zero, List.set_cons_succ, i64_w, i32_w]
                                              rfl
                                            refine pure_ (i := 13) (N := some 96) (v := ?_) (a' := ?_) #[true, true, true, true, true, true, true, true, true, true, true, true, true, true, false, false, false, false, false, false] rfl rfl (any_of HT_.out (by kernel_rfl)) (fun _ _ _ h => h) (Or.inl ⟨by rfl, ?_⟩) ?_ ?_
                                            rotate_left
                                            · intro w'
                                              go_simp
                                              with_reducible rfl
                                            rotate_left
                                            · simp only [Act.put, List.setIfInBounds_toArray, List.set_cons_zero, List.set_cons_succ, i64_w, i32_w]
                                              rfl
                                            refine pure_ (i := 14) (N := some 110) (v := ?_) (a' := ?_) #[true, true, true, true, true, true, true, true, true, true, true, true, true, true, true, false, false, false, false, false] rfl rfl (any_of HT_.out (by kernel_rfl)) (fun _ _ _ h => h) (Or.inl ⟨by rfl, ?_⟩) ?_ ?_
                                            rotate_left
                                            · intro w'
                                              go_simp
                                              with_reducible rfl
                                            rotate_left
                                            · simp only [Act.put, List.setIfInBounds_toArray, List.set_cons_zero, List.set_cons_succ, i64_w, i32_w]
                                              rfl
                                            refine pure_ (i := 15) (N := some 111) (v := ?_) (a' := ?_) #[true, true, true, true, true, true, true, true, true, true, true, true, true, true, true, true, false, false, false, false] rfl rfl (any_of HT_.out (by kernel_rfl)) (fun _ _ _ h => h) (Or.inl ⟨by rfl, ?_⟩) ?_ ?_
                                            rotate_left
                                            · intro w'
                                              go_simp
                                              with_reducible rfl
                                            rotate_left
                                            · simp only [Act.put, List.setIfInBounds_toArray, List.set_cons_zero, List.set_cons_succ, i64_w, i32_w]
                                              rfl
                                            refine pure_ (i := 16) (N := some 112) (v := ?_) (a' := ?_) #[true, true, true, true, true, true, true, true, true, true, true, true, true, true, true, true, true, false, false, false] rfl rfl (any_of HT_.out (by kernel_rfl)) (fun _ _ _ h => h) (Or.inl ⟨by rfl, ?_⟩) ?_ ?_
                                            rotate_left
                                            · intro w'
                                              go_simp
                                              with_reducible rfl
                                            rotate_left
                                            · simp only [Act.put, List.setIfInBounds_toArray, List.set_cons_zero, List.set_cons_succ, i64_w, i32_w]
                                              rfl
                                            refine pure_ (i := 17) (N := some 12) (v := ?_) (a' := ?_) #[true, true, true, true, true, true, true, true, true, true, true, true, true, true, true, true, true, true, false, false] rfl rfl (any_of HT_.out (by kernel_rfl)) (fun _ _ _ h => h) (Or.inl ⟨by rfl, ?_⟩) ?_ ?_
                                            rotate_left
                                            · intro w'
                                              go_simp
                                              with_reducible rfl
                                            rotate_left
                                            · simp only [Act.put, List.setIfInBounds_toArray, List.set_cons_zero, List.set_cons_succ, i64_w, i32_w]
                                              rfl
                                            refine pure_ (i := 18) (N := some 13) (v := ?_) (a' := ?_) #[true, true, true, true, true, true, true, true, true, true, true, true, true, true, true, true, true, true, true, false] rfl rfl (any_of HT_.out (by kernel_rfl)) (fun _ _ _ h => h) (Or.inl ⟨by rfl, ?_⟩) ?_ ?_
                                            rotate_left
                                            · intro w'
                                              go_simp
                                              with_reducible rfl
                                            rotate_left
                                            · simp only [Act.put, List.setIfInBounds_toArray, List.set_cons_zero, List.set_cons_succ, i64_w, i32_w]
                                              rfl
                                            refine pure_ (i := 19) (N := some 14) (v := ?_) (a' := ?_) #[true, true, true, true, true, true, true, true, true, true, true, true, true, true, true, true, true, true, true, true] rfl rfl (any_of HT_.out (by kernel_rfl)) (fun _ _ _ h => h) (Or.inl ⟨by rfl, ?_⟩) ?_ ?_
                                            rotate_left
                                            · intro w'
                                              go_simp
                                              with_reducible rfl
                                            rotate_left
                                            · simp only [Act.put, List.setIfInBounds_toArray, List.set_cons_zero, List.set_cons_succ, i64_w, i32_w]
                                              rfl
                                            refine done_ (done_of HT_.out (by kernel_rfl)) ?_
                                            try go_wp2
                                            have n0_ := Aside0.mk (Kd.R_drew HO_7.out)
                                            have n1_ := Aside0.mk (Kd.R_drew HO219.out)
                                            have n2_ := Aside0.mk (below_drew1 HB.out)
                                            clear HO_7
                                            clear HO219
                                            clear HB
                                            have HO_7 := n0_
                                            have HO219 := n1_
                                            have HB := n2_
                                            clear n0_ n1_ n2_
                                            obtain ⟨Ao35, co35, eo35⟩ := Kd.R_slice HO219.out
                                            (first | subst eo35 | (injection eo35 with f1_ f2_ f3_; have f4_ := f1_.symm; have f5_ := f3_.symm; clear f1_ f2_ f3_; subst f4_; subst f5_))
                                            have p220 : 0 ≤ (0 : Int) := (by omega)
                                            have q220 : 0 < (t215.length : Int) := of_decide_eq_true (by first | (with_reducible assumption) | assumption)
                                            obtain ⟨ad220, e220, hx220_0, hx220_1, hx220_2, hx220_3, hx220_4⟩ := at_T31 (Kd.R_reads' HO219.out).2.2 0 p220 q220
                                            cases e220
                                            have qi220 : (0 < t215.length) = True := eq_true (by omega)
                                            (try rw [show ((0 : Int)).toNat = 0 from rfl] at hx220_0)
                                            (try rw [show 0 * 5 = 0 from rfl] at hx220_0)
                                            (try rw [Addr.add_zero'] at hx220_0)
                                            (try rw [show ((0 : Int)).toNat = 0 from rfl] at hx220_1)
                                            (try rw [show 0 * 5 = 0 from rfl] at hx220_1)
                                            (try rw [Addr.add_zero'] at hx220_1)
                                            (try rw [show ((0 : Int)).toNat = 0 from rfl] at hx220_2)
                                            (try rw [show 0 * 5 = 0 from rfl] at hx220_2)
                                            (try rw [Addr.add_zero'] at hx220_2)
                                            (try rw [show ((0 : Int)).toNat = 0 from rfl] at hx220_3)
                                            (try rw [show 0 * 5 = 0 from rfl] at hx220_3)
                                            (try rw [Addr.add_zero'] at hx220_3)
                                            (try rw [show ((0 : Int)).toNat = 0 from rfl] at hx220_4)
                                            (try rw [show 0 * 5 = 0 from rfl] at hx220_4)
                                            (try rw [Addr.add_zero'] at hx220_4)
                                            replace p220 := eq_true p220
                                            replace q220 := eq_true q220
                                            have p221 : 0 ≤ (x11_1 : Int) := of_decide_eq_true (by first | (with_reducible assumption) | assumption)
                                            have q221 : x11_1 < (t201.length : Int) := of_decide_eq_true (by first | (with_reducible assumption) | assumption)
                                            obtain ⟨ad221, e221, hx221_0, hx221_1, hx221_2, hx221_3, hx221_4⟩ := at_T31 (Kd.R_reads' HO_7.out).2.2 x11_1 p221 q221
                                            obtain rfl : ad211 = ad221 := (by injection e221)
                                            replace p221 := eq_true p221
                                            replace q221 := eq_true q221
                                            have p222 : 0 ≤ (0 : Int) := (by omega)
                                            have q222 : 0 < (t215.length : Int) := of_decide_eq_true (by first | (with_reducible assumption) | assumption)
                                            obtain ⟨ad222, e222, hx222_0, hx222_1, hx222_2, hx222_3, hx222_4⟩ := at_T31 (Kd.R_reads' HO219.out).2.2 0 p222 q222
                                            obtain rfl : ad220 = ad222 := (by injection e222)
                                            have qi222 : (0 < t215.length) = True := eq_true (by omega)
                                            (try rw [show ((0 : Int)).toNat = 0 from rfl] at hx222_0)
                                            (try rw [show 0 * 5 = 0 from rfl] at hx222_0)
                                            (try rw [Addr.add_zero'] at hx222_0)
                                            (try rw [show ((0 : Int)).toNat = 0 from rfl] at hx222_1)
                                            (try rw [show 0 * 5 = 0 from rfl] at hx222_1)
                                            (try rw [Addr.add_zero'] at hx222_1)
                                            (try rw [show ((0 : Int)).toNat = 0 from rfl] at hx222_2)
                                            (try rw [show 0 * 5 = 0 from rfl] at hx222_2)
                                            (try rw [Addr.add_zero'] at hx222_2)
                                            (try rw [show ((0 : Int)).toNat = 0 from rfl] at hx222_3)
                                            (try rw [show 0 * 5 = 0 from rfl] at hx222_3)
                                            (try rw [Addr.add_zero'] at hx222_3)
                                            (try rw [show ((0 : Int)).toNat = 0 from rfl] at hx222_4)
                                            (try rw [show 0 * 5 = 0 from rfl] at hx222_4)
                                            (try rw [Addr.add_zero'] at hx222_4)
                                            replace p222 := eq_true p222
                                            replace q222 := eq_true q222
                                            have p223 : 0 ≤ (x11_1 : Int) := of_decide_eq_true (by first | (with_reducible assumption) | assumption)
                                            have q223 : x11_1 < (t201.length : Int) := of_decide_eq_true (by first | (with_reducible assumption) | assumption)
                                            obtain ⟨ad223, e223, hx223_0, hx223_1, hx223_2, hx223_3, hx223_4⟩ := at_T31 (Kd.R_reads' HO_7.out).2.2 x11_1 p223 q223
                                            obtain rfl : ad211 = ad223 := (by injection e223)
                                            replace p223 := eq_true p223
                                            replace q223 := eq_true q223
                                            have p224 : 0 ≤ (0 : Int) := (by omega)
                                            have q224 : 0 < (t215.length : Int) := of_decide_eq_true (by first | (with_reducible assumption) | assumption)
                                            obtain ⟨ad224, e224, hx224_0, hx224_1, hx224_2, hx224_3, hx224_4⟩ := at_T31 (Kd.R_reads' HO219.out).2.2 0 p224 q224
                                            obtain rfl : ad220 = ad224 := (by injection e224)
                                            have qi224 : (0 < t215.length) = True := eq_true (by omega)
                                            (try rw [show ((0 : Int)).toNat = 0 from rfl] at hx224_0)
                                            (try rw [show 0 * 5 = 0 from rfl] at hx224_0)
                                            (try rw [Addr.add_zero'] at hx224_0)
                                            (try rw [show ((0 : Int)).toNat = 0 from rfl] at hx224_1)
                                            (try rw [show 0 * 5 = 0 from rfl] at hx224_1)
                                            (try rw [Addr.add_zero'] at hx224_1)
                                            (try rw [show ((0 : Int)).toNat = 0 from rfl] at hx224_2)
                                            (try rw [show 0 * 5 = 0 from rfl] at hx224_2)
                                            (try rw [Addr.add_zero'] at hx224_2)
                                            (try rw [show ((0 : Int)).toNat = 0 from rfl] at hx224_3)
                                            (try rw [show 0 * 5 = 0 from rfl] at hx224_3)
                                            (try rw [Addr.add_zero'] at hx224_3)
                                            (try rw [show ((0 : Int)).toNat = 0 from rfl] at hx224_4)
                                            (try rw [show 0 * 5 = 0 from rfl] at hx224_4)
                                            (try rw [Addr.add_zero'] at hx224_4)
                                            replace p224 := eq_true p224
                                            replace q224 := eq_true q224
                                            have p225 : 0 ≤ (x11_1 : Int) := of_decide_eq_true (by first | (with_reducible assumption) | assumption)
                                            have q225 : x11_1 < (t201.length : Int) := of_decide_eq_true (by first | (with_reducible assumption) | assumption)
                                            obtain ⟨ad225, e225, hx225_0, hx225_1, hx225_2, hx225_3, hx225_4⟩ := at_T31 (Kd.R_reads' HO_7.out).2.2 x11_1 p225 q225
                                            obtain rfl : ad211 = ad225 := (by injection e225)
                                            replace p225 := eq_true p225
                                            replace q225 := eq_true q225
                                            refine start_ (n := 43) (S := fun w' => w'.cell? ad220 = some (.int .u8 ((rd_T31 t215 0).f0)) ∧ w'.cell? ⟨ad220.block, ad220.off + 1, none⟩ = some (.string ((rd_T31 t215 0).f1)) ∧ w'.cell? ⟨ad220.block, ad220.off + 2, none⟩ = some (.int .u64 ((rd_T31 t215 0).f2)) ∧ w'.cell? ⟨ad220.block, ad220.off + 3, none⟩ = some (.int .i64 ((rd_T31 t215 0).f3)) ∧ w'.cell? ⟨ad220.block, ad220.off + 4, none⟩ = some (.int .i64 ((rd_T31 t215 0).f4)) ∧ w'.cell? (ad211.add ((x11_1).toNat * 5)) = some (.int .u8 ((rd_T31 t201 x11_1).f0)) ∧ w'.cell? ⟨(ad211.add ((x11_1).toNat * 5)).block, (ad211.add ((x11_1).toNat * 5)).off + 1, none⟩ = some (.string ((rd_T31 t201 x11_1).f1)) ∧ w'.cell? ⟨(ad211.add ((x11_1).toNat * 5)).block, (ad211.add ((x11_1).toNat * 5)).off + 2, none⟩ = some (.int .u64 ((rd_T31 t201 x11_1).f2)) ∧ w'.cell? ⟨(ad211.add ((x11_1).toNat * 5)).block, (ad211.add ((x11_1).toNat * 5)).off + 3, none⟩ = some (.int .i64 ((rd_T31 t201 x11_1).f3)) ∧ w'.cell? ⟨(ad211.add ((x11_1).toNat * 5)).block, (ad211.add ((x11_1).toNat * 5)).off + 4, none⟩ = some (.int .i64 ((rd_T31 t201 x11_1).f4)) ∧ w'.cell? ad220 = some (.int .u8 ((rd_T31 t215 0).f0)) ∧ w'.cell? ⟨ad220.block, ad220.off + 1, none⟩ = some (.string ((rd_T31 t215 0).f1)) ∧ w'.cell? ⟨ad220.block, ad220.off + 2, none⟩ = some (.int .u64 ((rd_T31 t215 0).f2)) ∧ w'.cell? ⟨ad220.block, ad220.off + 3, none⟩ = some (.int .i64 ((rd_T31 t215 0).f3)) ∧ w'.cell? ⟨ad220.block, ad220.off + 4, none⟩ = some (.int .i64 ((rd_T31 t215 0).f4)) ∧ w'.cell? (ad211.add ((x11_1).toNat * 5)) = some (.int .u8 ((rd_T31 t201 x11_1).f0)) ∧ w'.cell? ⟨(ad211.add ((x11_1).toNat * 5)).block, (ad211.add ((x11_1).toNat * 5)).off + 1, none⟩ = some (.string ((rd_T31 t201 x11_1).f1)) ∧ w'.cell? ⟨(ad211.add ((x11_1).toNat * 5)).block, (ad211.add ((x11_1).toNat * 5)).off + 2, none⟩ = some (.int .u64 ((rd_T31 t201 x11_1).f2)) ∧ w'.cell? ⟨(ad211.add ((x11_1).toNat * 5)).block, (ad211.add ((x11_1).toNat * 5)).off + 3, none⟩ = some (.int .i64 ((rd_T31 t201 x11_1).f3)) ∧ w'.cell? ⟨(ad211.add ((x11_1).toNat * 5)).block, (ad211.add ((x11_1).toNat * 5)).off + 4, none⟩ = some (.int .i64 ((rd_T31 t201 x11_1).f4)) ∧ w'.cell? ad220 = some (.int .u8 ((rd_T31 t215 0).f0)) ∧ w'.cell? ⟨ad220.block, ad220.off + 1, none⟩ = some (.string ((rd_T31 t215 0).f1)) ∧ w'.cell? ⟨ad220.block, ad220.off + 2, none⟩ = some (.int .u64 ((rd_T31 t215 0).f2)) ∧ w'.cell? ⟨ad220.block, ad220.off + 3, none⟩ = some (.int .i64 ((rd_T31 t215 0).f3)) ∧ w'.cell? ⟨ad220.block, ad220.off + 4, none⟩ = some (.int .i64 ((rd_T31 t215 0).f4)) ∧ w'.cell? (ad211.add ((x11_1).toNat * 5)) = some (.int .u8 ((rd_T31 t201 x11_1).f0)) ∧ w'.cell? ⟨(ad211.add ((x11_1).toNat * 5)).block, (ad211.add ((x11_1).toNat * 5)).off + 1, none⟩ = some (.string ((rd_T31 t201 x11_1).f1)) ∧ w'.cell? ⟨(ad211.add ((x11_1).toNat * 5)).block, (ad211.add ((x11_1).toNat * 5)).off + 2, none⟩ = some (.int .u64 ((rd_T31 t201 x11_1).f2)) ∧ w'.cell? ⟨(ad211.add ((x11_1).toNat * 5)).block, (ad211.add ((x11_1).toNat * 5)).off + 3, none⟩ = some (.int .i64 ((rd_T31 t201 x11_1).f3)) ∧ w'.cell? ⟨(ad211.add ((x11_1).toNat * 5)).block, (ad211.add ((x11_1).toNat * 5)).off + 4, none⟩ = some (.int .i64 ((rd_T31 t201 x11_1).f4))) (ds := []) #[false, false, false, false, false, false, false, false, false, false, false, false, false, false, false, false, false, false, false, false, false, false, false, false, false, false, false, false, false, false, false, false, false, false, false, false, false, false, false, false, false, false, false] (by kernel_rfl) rfl rfl ⟨hx220_0, hx220_1, hx220_2, hx220_3, hx220_4, hx221_0, hx221_1, hx221_2, hx221_3, hx221_4, hx222_0, hx222_1, hx222_2, hx222_3, hx222_4, hx223_0, hx223_1, hx223_2, hx223_3, hx223_4, hx224_0, hx224_1, hx224_2, hx224_3, hx224_4, hx225_0, hx225_1, hx225_2, hx225_3, hx225_4⟩ (fun hHeld => ?_); refine with_tabW trammellaw03_LexLies.tab15 trammellaw03_LexLies.bits15 (fun HT_ HW_ => ?_)
                                            generalize w33.drew = w34 at HO_7 HO219 HB hx220_0 hx220_1 hx220_2 hx220_3 hx220_4 hx221_0 hx221_1 hx221_2 hx221_3 hx221_4 hx222_0 hx222_1 hx222_2 hx222_3 hx222_4 hx223_0 hx223_1 hx223_2 hx223_3 hx223_4 hx224_0 hx224_1 hx224_2 hx224_3 hx224_4 hx225_0 hx225_1 hx225_2 hx225_3 hx225_4 hHeld ⊢
                                            refine pure_ (i := 0) (N := some 113) (v := ?_) (a' := ?_) #[true, false, false, false, false, false, false, false, false, false, false, false, false, false, false, false, false, false, false, false, false, false, false, false, false, false, false, false, false, false, false, false, false, false, false, false, false, false, false, false, false, false, false] rfl rfl (any_of HT_.out (by kernel_rfl)) (fun _ _ _ h => h) (Or.inl ⟨by rfl, ?_⟩) ?_ ?_
                                            rotate_left
                                            · intro w'
                                              go_simp
                                              with_reducible rfl
                                            rotate_left
                                            · simp only [Act.put, List.setIfInBounds_toArray, List.set_cons_zero, List.set_cons_succ, i64_w, i32_w]
                                              rfl
                                            refine pure_ (i := 1) (N := some 114) (v := ?_) (a' := ?_) #[true, true, false, false, false, false, false, false, false, false, false, false, false, false, false, false, false, false, false, false, false, false, false, false, false, false, false, false, false, false, false, false, false, false, false, false, false, false, false, false, false, false, false] rfl rfl (any_of HT_.out (by kernel_rfl)) (fun _ _ _ h => h) (Or.inl ⟨by rfl, ?_⟩) ?_ ?_
                                            rotate_left
                                            · intro w'
                                              go_simp
                                              with_reducible rfl
                                            rotate_left
                                            · simp only [Act.put, List.setIfInBounds_toArray, List.set_cons_zero, List.set_cons_succ, i64_w, i32_w]
                                              rfl
                                            refine pure_ (i := 2) (N := some 115) (v := ?_) (a' := ?_) #[true, true, true, false, false, false, false, false, false, false, false, false, false, false, false, false, false, false, false, false, false, false, false, false, false, false, false, false, false, false, false, false, false, false, false, false, false, false, false, false, false, false, false] rfl rfl (any_of HT_.out (by kernel_rfl)) (fun _ _ _ h => h) (Or.inl ⟨by rfl, ?_⟩) ?_ ?_
                                            rotate_left
                                            · intro w'
                                              go_simp
                                              with_reducible rfl
                                            rotate_left
                                            · simp only [Act.put, List.setIfInBounds_toArray, List.set_cons_zero, List.set_cons_succ, i64_w, i32_w]
                                              rfl
                                            refine pure_ (i := 3) (N := some 116) (v := ?_) (a' := ?_) #[true, true, true, true, false, false, false, false, false, false, false, false, false, false, false, false, false, false, false, false, false, false, false, false, false, false, false, false, false, false, false, false, false, false, false, false, false, false, false, false, false, false, false] rfl rfl (any_of HT_.out (by kernel_rfl)) (fun _ _ _ h => h) (Or.inl ⟨by rfl, ?_⟩) ?_ ?_
                                            rotate_left
                                            · intro w'
                                              go_simp
                                              with_reducible rfl
                                            rotate_left
                                            · simp only [Act.put, List.setIfInBounds_toArray, List.set_cons_zero, List.set_cons_succ, i64_w, i32_w]
                                              rfl
                                            refine pure_ (i := 4) (N := some 117) (v := ?_) (a' := ?_) #[true, true, true, true, true, false, false, false, false, false, false, false, false, false, false, false, false, false, false, false, false, false, false, false, false, false, false, false, false, false, false, false, false, false, false, false, false, false, false, false, false, false, false] rfl rfl (any_of HT_.out (by kernel_rfl)) (fun _ _ _ h => h) (Or.inl ⟨by rfl, ?_⟩) ?_ ?_
                                            rotate_left
                                            · intro w'
                                              go_simp
                                              with_reducible rfl
                                            rotate_left
                                            · simp only [Act.put, List.setIfInBounds_toArray, List.set_cons_zero, List.set_cons_succ, i64_w, i32_w]
                                              rfl
                                            refine pure_ (i := 5) (N := some 118) (v := ?_) (a' := ?_) #[true, true, true, true, true, true, false, false, false, false, false, false, false, false, false, false, false, false, false, false, false, false, false, false, false, false, false, false, false, false, false, false, false, false, false, false, false, false, false, false, false, false, false] rfl rfl (any_of HT_.out (by kernel_rfl)) (fun _ _ _ h => h) (Or.inl ⟨by rfl, ?_⟩) ?_ ?_
                                            rotate_left
                                            · intro w'
                                              go_simp
                                              with_reducible rfl
                                            rotate_left
                                            · simp only [Act.put, List.setIfInBounds_toArray, List.set_cons_zero, List.set_cons_succ, i64_w, i32_w]
                                              rfl
                                            refine pure_ (i := 6) (N := some 119) (v := ?_) (a' := ?_) #[true, true, true, true, true, true, true, false, false, false, false, false, false, false, false, false, false, false, false, false, false, false, false, false, false, false, false, false, false, false, false, false, false, false, false, false, false, false, false, false, false, false, false] rfl rfl (any_of HT_.out (by kernel_rfl)) (fun _ _ _ h => h) (Or.inl ⟨by rfl, ?_⟩) ?_ ?_
                                            rotate_left
                                            · intro w'
                                              go_simp
                                              with_reducible rfl
                                            rotate_left
                                            · simp only [Act.put, List.setIfInBounds_toArray, List.set_cons_zero, List.set_cons_succ, i64_w, i32_w]
                                              rfl
                                            refine pure_ (i := 7) (N := some 120) (v := ?_) (a' := ?_) #[true, true, true, true, true, true, true, true, false, false, false, false, false, false, false, false, false, false, false, false, false, false, false, false, false, false, false, false, false, false, false, false, false, false, false, false, false, false, false, false, false, false, false] rfl rfl (any_of HT_.out (by kernel_rfl)) (fun _ _ _ h => h) (Or.inl ⟨by rfl, ?_⟩) ?_ ?_
                                            rotate_left
                                            · intro w'
                                              go_simp
                                              with_reducible rfl
                                            rotate_left
                                            · simp only [Act.put, List.setIfInBounds_toArray, List.set_cons_zero, List.set_cons_succ, i64_w, i32_w]
                                              rfl
                                            refine pure_ (i := 8) (N := some 121) (v := ?_) (a' := ?_) #[true, true, true, true, true, true, true, true, true, false, false, false, false, false, false, false, false, false, false, false, false, false, false, false, false, false, false, false, false, false, false, false, false, false, false, false, false, false, false, false, false, false, false] rfl rfl (any_of HT_.out (by kernel_rfl)) (fun _ _ _ h => h) (Or.inl ⟨by rfl, ?_⟩) ?_ ?_
                                            rotate_left
                                            · intro w'
                                              go_simp
                                              with_reducible rfl
                                            rotate_left
                                            · simp only [Act.put, List.setIfInBounds_toArray, List.set_cons_zero, List.set_cons_succ, i64_w, i32_w]
                                              rfl
                                            refine pure_ (i := 9) (N := some 122) (v := ?_) (a' := ?_) #[true, true, true, true, true, true, true, true, true, true, false, false, false, false, false, false, false, false, false, false, false, false, false, false, false, false, false, false, false, false, false, false, false, false, false, false, false, false, false, false, false, false, false] rfl rfl (any_of HT_.out (by kernel_rfl)) (fun _ _ _ h => h) (Or.inl ⟨by rfl, ?_⟩) ?_ ?_
                                            rotate_left
                                            · intro w'
                                              go_simp
                                              with_reducible rfl
                                            rotate_left
                                            · simp only [Act.put, List.setIfInBounds_toArray, List.set_cons_zero, List.set_cons_succ, i64_w, i32_w]
                                              rfl
                                            refine pure_ (i := 10) (N := some 123) (v := ?_) (a' := ?_) #[true, true, true, true, true, true, true, true, true, true, true, false, false, false, false, false, false, false, false, false, false, false, false, false, false, false, false, false, false, false, false, false, false, false, false, false, false, false, false, false, false, false, false] rfl rfl (any_of HT_.out (by kernel_rfl)) (fun _ _ _ h => h) (Or.inl ⟨by rfl, ?_⟩) ?_ ?_
                                            rotate_left
                                            · intro w'
                                              go_simp
                                              with_reducible rfl
                                            rotate_left
                                            · simp only [Act.put, List.setIfInBounds_toArray, List.set_cons_zero, List.set_cons_succ, i64_w, i32_w]
                                              rfl
                                            refine pure_ (i := 12) (N := some 125) (v := ?_) (a' := ?_) #[true, true, true, true, true, true, true, true, true, true, true, false, true, false, false, false, false, false, false, false, false, false, false, false, false, false, false, false, false, false, false, false, false, false, false, false, false, false, false, false, false, false, false] rfl rfl (any_of HT_.out (by kernel_rfl)) (fun _ _ _ h => h) (Or.inl ⟨by rfl, ?_⟩) ?_ ?_
                                            rotate_left
                                            · intro w'
                                              go_simp
                                              with_reducible rfl
                                            rotate_left
                                            · simp only [Act.put, List.setIfInBounds_toArray, List.set_cons_zero, List.set_cons_succ, i64_w, i32_w]
                                              rfl
                                            refine pure_ (i := 13) (N := some 126) (v := ?_) (a' := ?_) #[true, true, true, true, true, true, true, true, true, true, true, false, true, true, false, false, false, false, false, false, false, false, false, false, false, false, false, false, false, false, false, false, false, false, false, false, false, false, false, false, false, false, false] rfl rfl (any_of HT_.out (by kernel_rfl)) (fun _ _ _ h => h) (Or.inl ⟨by rfl, ?_⟩) ?_ ?_
                                            rotate_left
                                            · intro w'
                                              go_simp
                                              with_reducible rfl
                                            rotate_left
                                            · simp only [Act.put, List.setIfInBounds_toArray, List.set_cons_zero, List.set_cons_succ, i64_w, i32_w]
                                              rfl
                                            refine pure_ (i := 14) (N := some 127) (v := ?_) (a' := ?_) #[true, true, true, true, true, true, true, true, true, true, true, false, true, true, true, false, false, false, false, false, false, false, false, false, false, false, false, false, false, false, false, false, false, false, false, false, false, false, false, false, false, false, false] rfl rfl (any_of HT_.out (by kernel_rfl)) (fun _ _ _ h => h) (Or.inl ⟨by rfl, ?_⟩) ?_ ?_
                                            rotate_left
                                            · intro w'
                                              go_simp
                                              with_reducible rfl
                                            rotate_left
                                            · simp only [Act.put, List.setIfInBounds_toArray, List.set_cons_zero, List.set_cons_succ, i64_w, i32_w]
                                              rfl
                                            refine pure_ (i := 15) (N := some 128) (v := ?_) (a' := ?_) #[true, true, true, true, true, true, true, true, true, true, true, false, true, true, true, true, false, false, false, false, false, false, false, false, false, false, false, false, false, false, false, false, false, false, false, false, false, false, false, false, false, false, false] rfl rfl (any_of HT_.out (by kernel_rfl)) (fun _ _ _ h => h) (Or.inl ⟨by rfl, ?_⟩) ?_ ?_
                                            rotate_left
                                            · intro w'
                                              go_simp
                                              with_reducible rfl
                                            rotate_left
                                            · simp only [Act.put, List.setIfInBounds_toArray, List.set_cons_zero, List.set_cons_succ, i64_w, i32_w]
                                              rfl
                                            refine take_ (i := 11) (N := some 124) (v := ?_) (a' := ?_) #[true, true, true, true, true, true, true, true, true, true, true, true, true, true, true, true, false, false, false, false, false, false, false, false, false, false, false, false, false, false, false, false, false, false, false, false, false, false, false, false, false, false, false] rfl rfl (take_ofW HT_.out HW_.out (by kernel_rfl)) (fun _ _ _ h => h) (Or.inl ⟨by rfl, ?_⟩) hHeld ?_ ?_
                                            rotate_left
                                            · rintro w' ⟨s0, s1, s2, s3, s4, s5, s6, s7, s8, s9, s10, s11, s12, s13, s14, s15, s16, s17, s18, s19, s20, s21, s22, s23, s24, s25, s26, s27, s28, s29⟩
                                              go_simp
                                              with_reducible rfl
                                            rotate_left
                                            · simp only [Act.put, List.setIfInBounds_toArray, List.set_cons_zero, List.set_cons_succ, i64_w, i32_w]
                                              rfl
                                            refine take_ (i := 16) (N := some 129) (v := ?_) (a' := ?_) #[true, true, true, true, true, true, true, true, true, true, true, true, true, true, true, true, true, false, false, false, false, false, false, false, false, false, false, false, false, false, false, false, false, false, false, false, false, false, false, false, false, false, false] rfl rfl (take_ofW HT_.out HW_.out (by kernel_rfl)) (fun _ _ _ h => h) (Or.inl ⟨by rfl, ?_⟩) hHeld ?_ ?_
                                            rotate_left
                                            · rintro w' ⟨s0, s1, s2, s3, s4, s5, s6, s7, s8, s9, s10, s11, s12, s13, s14, s15, s16, s17, s18, s19, s20, s21, s22, s23, s24, s25, s26, s27, s28, s29⟩
                                              go_simp
                                              with_reducible rfl
                                            rotate_left
                                            · simp only [Act.put, List.setIfInBounds_toArray, List.set_cons_zero, List.set_cons_succ, i64_w, i32_w]
                                              rfl
                                            refine pure_ (i := 17) (N := some 130) (v := ?_) (a' := ?_) #[true, true, true, true, true, true, true, true, true, true, true, true, true, true, true, true, true, true, false, false, false, false, false, false, false, false, false, false, false, false, false, false, false, false, false, false, false, false, false, false, false, false, false] rfl rfl (any_of HT_.out (by kernel_rfl)) (fun _ _ _ h => h) (Or.inl ⟨by rfl, ?_⟩) ?_ ?_
                                            rotate_left
                                            · intro w'
                                              go_simp
                                              with_reducible rfl
                                            rotate_left
                                            · simp only [Act.put, List.setIfInBounds_toArray, List.set_cons_zero, List.set_cons_succ, i64_w, i32_w]
                                              rfl
                                            refine pure_ (i := 18) (N := some 131) (v := ?_) (a' := ?_) #[true, true, true, true, true, true, true, true, true, true, true, true, true, true, true, true, true, true, true, false, false, false, false, false, false, false, false, false, false, false, false, false, false, false, false, false, false, false, false, false, false, false, false] rfl rfl (any_of HT_.out (by kernel_rfl)) (fun _ _ _ h => h) (Or.inl ⟨by rfl, ?_⟩) ?_ ?_
                                            rotate_left
                                            · intro w'
                                              go_simp
                                              with_reducible rfl
                                            rotate_left
                                            · simp only [Act.put, List.setIfInBounds_toArray, List.set_cons_zero, List.set_cons_succ, i64_w, i32_w]
                                              rfl
                                            refine pure_ (i := 19) (N := some 132) (v := ?_) (a' := ?_) #[true, true, true, true, true, true, true, true, true, true, true, true, true, true, true, true, true, true, true, true, false, false, false, false, false, false, false, false, false, false, false, false, false, false, false, false, false, false, false, false, false, false, false] rfl rfl (any_of HT_.out (by kernel_rfl)) (fun _ _ _ h => h) (Or.inl ⟨by rfl, ?_⟩) ?_ ?_
                                            rotate_left
                                            · intro w'
                                              go_simp
                                              with_reducible rfl
                                            rotate_left
                                            · simp only [Act.put, List.setIfInBounds_toArray, List.set_cons_zero, List.set_cons_succ, i64_w, i32_w]
                                              rfl
                                            refine pure_ (i := 20) (N := some 133) (v := ?_) (a' := ?_) #[true, true, true, true, true, true, true, true, true, true, true, true, true, true, true, true, true, true, true, true, true, false, false, false, false, false, false, false, false, false, false, false, false, false, false, false, false, false, false, false, false, false, false] rfl rfl (any_of HT_.out (by kernel_rfl)) (fun _ _ _ h => h) (Or.inl ⟨by rfl, ?_⟩) ?_ ?_
                                            rotate_left
                                            · intro w'
                                              go_simp
                                              with_reducible rfl
                                            rotate_left
                                            · simp only [Act.put, List.setIfInBounds_toArray, List.set_cons_zero, List.set_cons_succ, i64_w, i32_w]
                                              rfl
                                            refine pure_ (i := 21) (N := some 134) (v := ?_) (a' := ?_) #[true, true, true, true, true, true, true, true, true, true, true, true, true, true, true, true, true, true, true, true, true, true, false, false, false, false, false, false, false, false, false, false, false, false, false, false, false, false, false, false, false, false, false] rfl rfl (any_of HT_.out (by kernel_rfl)) (fun _ _ _ h => h) (Or.inl ⟨by rfl, ?_⟩) ?_ ?_
                                            rotate_left
                                            · intro w'
                                              go_simp
                                              with_reducible rfl
                                            rotate_left
                                            · simp only [Act.put, List.setIfInBounds_toArray, List.set_cons_zero, List.set_cons_succ, i64_w, i32_w]
                                              rfl
                                            refine pure_ (i := 22) (N := some 135) (v := ?_) (a' := ?_) #[true, true, true, true, true, true, true, true, true, true, true, true, true, true, true, true, true, true, true, true, true, true, true, false, false, false, false, false, false, false, false, false, false, false, false, false, false, false, false, false, false, false, false] rfl rfl (any_of HT_.out (by kernel_rfl)) (fun _ _ _ h => h) (Or.inl ⟨by rfl, ?_⟩) ?_ ?_
                                            rotate_left
                                            · intro w'
                                              go_simp
                                              with_reducible rfl
                                            rotate_left
                                            · simp only [Act.put, List.setIfInBounds_toArray, List.set_cons_zero, List.set_cons_succ, i64_w, i32_w]
                                              rfl
                                            refine pure_ (i := 24) (N := some 137) (v := ?_) (a' := ?_) #[true, true, true, true, true, true, true, true, true, true, true, true, true, true, true, true, true, true, true, true, true, true, true, false, true, false, false, false, false, false, false, false, false, false, false, false, false, false, false, false, false, false, false] rfl rfl (any_of HT_.out (by kernel_rfl)) (fun _ _ _ h => h) (Or.inl ⟨by rfl, ?_⟩) ?_ ?_
                                            rotate_left
                                            · intro w'
                                              go_simp
                                              with_reducible rfl
                                            rotate_left
                                            · simp only [Act.put, List.setIfInBounds_toArray, List.set_cons_zero, List.set_cons_succ, i64_w, i32_w]
                                              rfl
                                            refine pure_ (i := 25) (N := some 138) (v := ?_) (a' := ?_) #[true, true, true, true, true, true, true, true, true, true, true, true, true, true, true, true, true, true, true, true, true, true, true, false, true, true, false, false, false, false, false, false, false, false, false, false, false, false, false, false, false, false, false] rfl rfl (any_of HT_.out (by kernel_rfl)) (fun _ _ _ h => h) (Or.inl ⟨by rfl, ?_⟩) ?_ ?_
                                            rotate_left
                                            · intro w'
                                              go_simp
                                              with_reducible rfl
                                            rotate_left
                                            · simp only [Act.put, List.setIfInBounds_toArray, List.set_cons_zero, List.set_cons_succ, i64_w, i32_w]
                                              rfl
                                            refine pure_ (i := 26) (N := some 139) (v := ?_) (a' := ?_) #[true, true, true, true, true, true, true, true, true, true, true, true, true, true, true, true, true, true, true, true, true, true, true, false, true, true, true, false, false, false, false, false, false, false, false, false, false, false, false, false, false, false, false] rfl rfl (any_of HT_.out (by kernel_rfl)) (fun _ _ _ h => h) (Or.inl ⟨by rfl, ?_⟩) ?_ ?_
                                            rotate_left
                                            · intro w'
                                              go_simp
                                              with_reducible rfl
                                            rotate_left
                                            · simp only [Act.put, List.setIfInBounds_toArray, List.set_cons_zero, List.set_cons_succ, i64_w, i32_w]
                                              rfl
                                            refine pure_ (i := 27) (N := some 140) (v := ?_) (a' := ?_) #[true, true, true, true, true, true, true, true, true, true, true, true, true, true, true, true, true, true, true, true, true, true, true, false, true, true, true, true, false, false, false, false, false, false, false, false, false, false, false, false, false, false, false] rfl rfl (any_of HT_.out (by kernel_rfl)) (fun _ _ _ h => h) (Or.inl ⟨by rfl, ?_⟩) ?_ ?_
                                            rotate_left
                                            · intro w'
                                              go_simp
                                              with_reducible rfl
                                            rotate_left
                                            · simp only [Act.put, List.setIfInBounds_toArray, List.set_cons_zero, List.set_cons_succ, i64_w, i32_w]
                                              rfl
                                            refine take_ (i := 23) (N := some 136) (v := ?_) (a' := ?_) #[true, true, true, true, true, true, true, true, true, true, true, true, true, true, true, true, true, true, true, true, true, true, true, true, true, true, true, true, false, false, false, false, false, false, false, false, false, false, false, false, false, false, false] rfl rfl (take_ofW HT_.out HW_.out (by kernel_rfl)) (fun _ _ _ h => h) (Or.inl ⟨by rfl, ?_⟩) hHeld ?_ ?_
                                            rotate_left
                                            · rintro w' ⟨s0, s1, s2, s3, s4, s5, s6, s7, s8, s9, s10, s11, s12, s13, s14, s15, s16, s17, s18, s19, s20, s21, s22, s23, s24, s25, s26, s27, s28, s29⟩
                                              go_simp
                                              with_reducible rfl
                                            rotate_left
                                            · simp only [Act.put, List.setIfInBounds_toArray, List.set_cons_zero, List.set_cons_succ, i64_w, i32_w]
                                              rfl
                                            refine take_ (i := 28) (N := some 141) (v := ?_) (a' := ?_) #[true, true, true, true, true, true, true, true, true, true, true, true, true, true, true, true, true, true, true, true, true, true, true, true, true, true, true, true, true, false, false, false, false, false, false, false, false, false, false, false, false, false, false] rfl rfl (take_ofW HT_.out HW_.out (by kernel_rfl)) (fun _ _ _ h => h) (Or.inl ⟨by rfl, ?_⟩) hHeld ?_ ?_
                                            rotate_left
                                            · rintro w' ⟨s0, s1, s2, s3, s4, s5, s6, s7, s8, s9, s10, s11, s12, s13, s14, s15, s16, s17, s18, s19, s20, s21, s22, s23, s24, s25, s26, s27, s28, s29⟩
                                              go_simp
                                              with_reducible rfl
                                            rotate_left
                                            · simp only [Act.put, List.setIfInBounds_toArray, List.set_cons_zero, List.set_cons_succ, i64_w, i32_w]
                                              rfl
                                            refine pure_ (i := 29) (N := some 142) (v := ?_) (a' := ?_) #[true, true, true, true, true, true, true, true, true, true, true, true, true, true, true, true, true, true, true, true, true, true, true, true, true, true, true, true, true, true, false, false, false, false, false, false, false, false, false, false, false, false, false] rfl rfl (any_of HT_.out (by kernel_rfl)) (fun _ _ _ h => h) (Or.inl ⟨by rfl, ?_⟩) ?_ ?_
                                            rotate_left
                                            · intro w'
                                              go_simp
                                              with_reducible rfl
                                            rotate_left
                                            · simp only [Act.put, List.setIfInBounds_toArray, List.set_cons_zero, List.set_cons_succ, i64_w, i32_w]
                                              rfl
                                            refine pure_ (i := 30) (N := some 143) (v := ?_) (a' := ?_) #[true, true, true, true, true, true, true, true, true, true, true, true, true, true, true, true, true, true, true, true, true, true, true, true, true, true, true, true, true, true, true, false, false, false, false, false, false, false, false, false, false, false, false] rfl rfl (any_of HT_.out (by kernel_rfl)) (fun _ _ _ h => h) (Or.inl ⟨by rfl, ?_⟩) ?_ ?_
                                            rotate_left
                                            · intro w'
                                              go_simp
                                              with_reducible rfl
                                            rotate_left
                                            · simp only [Act.put, List.setIfInBounds_toArray, List.set_cons_zero, List.set_cons_succ, i64_w, i32_w]
                                              rfl
                                            refine pure_ (i := 31) (N := some 144) (v := ?_) (a' := ?_) #[true, true, true, true, true, true, true, true, true, true, true, true, true, true, true, true, true, true, true, true, true, true, true, true, true, true, true, true, true, true, true, true, false, false, false, false, false, false, false, false, false, false, false] rfl rfl (any_of HT_.out (by kernel_rfl)) (fun _ _ _ h => h) (Or.inl ⟨by rfl, ?_⟩) ?_ ?_
                                            rotate_left
                                            · intro w'
                                              go_simp
                                              with_reducible rfl
                                            rotate_left
                                            · simp only [Act.put, List.setIfInBounds_toArray, List.set_cons_zero, List.set_cons_succ, i64_w, i32_w]
                                              rfl
                                            refine pure_ (i := 32) (N := some 145) (v := ?_) (a' := ?_) #[true, true, true, true, true, true, true, true, true, true, true, true, true, true, true, true, true, true, true, true, true, true, true, true, true, true, true, true, true, true, true, true, true, false, false, false, false, false, false, false, false, false, false] rfl rfl (any_of HT_.out (by kernel_rfl)) (fun _ _ _ h => h) (Or.inl ⟨by rfl, ?_⟩) ?_ ?_
                                            rotate_left
                                            · intro w'
                                              go_simp
                                              with_reducible rfl
                                            rotate_left
                                            · simp only [Act.put, List.setIfInBounds_toArray, List.set_cons_zero, List.set_cons_succ, i64_w, i32_w]
                                              rfl
                                            refine pure_ (i := 33) (N := some 146) (v := ?_) (a' := ?_) #[true, true, true, true, true, true, true, true, true, true, true, true, true, true, true, true, true, true, true, true, true, true, true, true, true, true, true, true, true, true, true, true, true, true, false, false, false, false, false, false, false, false, false] rfl rfl (any_of HT_.out (by kernel_rfl)) (fun _ _ _ h => h) (Or.inl ⟨by rfl, ?_⟩) ?_ ?_
                                            rotate_left
                                            · intro w'
                                              go_simp
                                              with_reducible rfl
                                            rotate_left
                                            · simp only [Act.put, List.setIfInBounds_toArray, List.set_cons_zero, List.set_cons_succ, i64_w, i32_w]
                                              rfl
                                            refine pure_ (i := 34) (N := some 147) (v := ?_) (a' := ?_) #[true, true, true, true, true, true, true, true, true, true, true, true, true, true, true, true, true, true, true, true, true, true, true, true, true, true, true, true, true, true, true, true, true, true, true, false, false, false, false, false, false, false, false] rfl rfl (any_of HT_.out (by kernel_rfl)) (fun _ _ _ h => h) (Or.inl ⟨by rfl, ?_⟩) ?_ ?_
                                            rotate_left
                                            · intro w'
                                              go_simp
                                              with_reducible rfl
                                            rotate_left
                                            · simp only [Act.put, List.setIfInBounds_toArray, List.set_cons_zero, List.set_cons_succ, i64_w, i32_w]
                                              rfl
                                            refine pure_ (i := 36) (N := some 149) (v := ?_) (a' := ?_) #[true, true, true, true, true, true, true, true, true, true, true, true, true, true, true, true, true, true, true, true, true, true, true, true, true, true, true, true, true, true, true, true, true, true, true, false, true, false, false, false, false, false, false] rfl rfl (any_of HT_.out (by kernel_rfl)) (fun _ _ _ h => h) (Or.inl ⟨by rfl, ?_⟩) ?_ ?_
                                            rotate_left
                                            · intro w'
                                              go_simp
                                              with_reducible rfl
                                            rotate_left
                                            · simp only [Act.put, List.setIfInBounds_toArray, List.set_cons_zero, List.set_cons_succ, i64_w, i32_w]
                                              rfl
                                            refine pure_ (i := 37) (N := some 150) (v := ?_) (a' := ?_) #[true, true, true, true, true, true, true, true, true, true, true, true, true, true, true, true, true, true, true, true, true, true, true, true, true, true, true, true, true, true, true, true, true, true, true, false, true, true, false, false, false, false, false] rfl rfl (any_of HT_.out (by kernel_rfl)) (fun _ _ _ h => h) (Or.inl ⟨by rfl, ?_⟩) ?_ ?_
                                            rotate_left
                                            · intro w'
                                              go_simp
                                              with_reducible rfl
                                            rotate_left
                                            · simp only [Act.put, List.setIfInBounds_toArray, List.set_cons_zero, List.set_cons_succ, i64_w, i32_w]
                                              rfl
                                            refine pure_ (i := 38) (N := some 151) (v := ?_) (a' := ?_) #[true, true, true, true, true, true, true, true, true, true, true, true, true, true, true, true, true, true, true, true, true, true, true, true, true, true, true, true, true, true, true, true, true, true, true, false, true, true, true, false, false, false, false] rfl rfl (any_of HT_.out (by kernel_rfl)) (fun _ _ _ h => h) (Or.inl ⟨by rfl, ?_⟩) ?_ ?_
                                            rotate_left
                                            · intro w'
                                              go_simp
                                              with_reducible rfl
                                            rotate_left
                                            · simp only [Act.put, List.setIfInBounds_toArray, List.set_cons_zero, List.set_cons_succ, i64_w, i32_w]
                                              rfl
                                            refine pure_ (i := 39) (N := some 152) (v := ?_) (a' := ?_) #[true, true, true, true, true, true, true, true, true, true, true, true, true, true, true, true, true, true, true, true, true, true, true, true, true, true, true, true, true, true, true, true, true, true, true, false, true, true, true, true, false, false, false] rfl rfl (any_of HT_.out (by kernel_rfl)) (fun _ _ _ h => h) (Or.inl ⟨by rfl, ?_⟩) ?_ ?_
                                            rotate_left
                                            · intro w'
                                              go_simp
                                              with_reducible rfl
                                            rotate_left
                                            · simp only [Act.put, List.setIfInBounds_toArray, List.set_cons_zero, List.set_cons_succ, i64_w, i32_w]
                                              rfl
                                            refine take_ (i := 35) (N := some 148) (v := ?_) (a' := ?_) #[true, true, true, true, true, true, true, true, true, true, true, true, true, true, true, true, true, true, true, true, true, true, true, true, true, true, true, true, true, true, true, true, true, true, true, true, true, true, true, true, false, false, false] rfl rfl (take_ofW HT_.out HW_.out (by kernel_rfl)) (fun _ _ _ h => h) (Or.inl ⟨by rfl, ?_⟩) hHeld ?_ ?_
                                            rotate_left
                                            · rintro w' ⟨s0, s1, s2, s3, s4, s5, s6, s7, s8, s9, s10, s11, s12, s13, s14, s15, s16, s17, s18, s19, s20, s21, s22, s23, s24, s25, s26, s27, s28, s29⟩
                                              go_simp
                                              with_reducible rfl
                                            rotate_left
                                            · simp only [Act.put, List.setIfInBounds_toArray, List.set_cons_zero, List.set_cons_succ, i64_w, i32_w]
                                              rfl
                                            refine take_ (i := 40) (N := some 153) (v := ?_) (a' := ?_) #[true, true, true, true, true, true, true, true, true, true, true, true, true, true, true, true, true, true, true, true, true, true, true, true, true, true, true, true, true, true, true, true, true, true, true, true, true, true, true, true, true, false, false] rfl rfl (take_ofW HT_.out HW_.out (by kernel_rfl)) (fun _ _ _ h => h) (Or.inl ⟨by rfl, ?_⟩) hHeld ?_ ?_
                                            rotate_left
                                            · rintro w' ⟨s0, s1, s2, s3, s4, s5, s6, s7, s8, s9, s10, s11, s12, s13, s14, s15, s16, s17, s18, s19, s20, s21, s22, s23, s24, s25, s26, s27, s28, s29⟩
                                              go_simp
                                              with_reducible rfl
                                            rotate_left
                                            · simp only [Act.put, List.setIfInBounds_toArray, List.set_cons_zero, List.set_cons_succ, i64_w, i32_w]
                                              rfl
                                            refine pure_ (i := 41) (N := some 154) (v := ?_) (a' := ?_) #[true, true, true, true, true, true, true, true, true, true, true, true, true, true, true, true, true, true, true, true, true, true, true, true, true, true, true, true, true, true, true, true, true, true, true, true, true, true, true, true, true, true, false] rfl rfl (any_of HT_.out (by kernel_rfl)) (fun _ _ _ h => h) (Or.inl ⟨by rfl, ?_⟩) ?_ ?_
                                            rotate_left
                                            · intro w'
                                              go_simp
                                              with_reducible rfl
                                            rotate_left
                                            · simp only [Act.put, List.setIfInBounds_toArray, List.set_cons_zero, List.set_cons_succ, i64_w, i32_w]
                                              rfl
                                            refine pure_ (i := 42) (N := some 155) (v := ?_) (a' := ?_) #[true, true, true, true, true, true, true, true, true, true, true, true, true, true, true, true, true, true, true, true, true, true, true, true, true, true, true, true, true, true, true, true, true, true, true, true, true, true, true, true, true, true, true] rfl rfl (any_of HT_.out (by kernel_rfl)) (fun _ _ _ h => h) (Or.inl ⟨by rfl, ?_⟩) ?_ ?_
                                            rotate_left
                                            · intro w'
                                              go_simp
                                              with_reducible rfl
                                            rotate_left
                                            · simp only [Act.put, List.setIfInBounds_toArray, List.set_cons_zero, List.set_cons_succ, i64_w, i32_w]
                                              rfl
                                            refine done_ (done_of HT_.out (by kernel_rfl)) ?_
                                            try go_wp2
                                            go_roundg kj8
                                            case measure => have := HK1.out; have := HJ8.out; omega
                                            case rel => exact ⟨((rd_T31 t201 x11_1).f4), (wrap64 (x11_1 + 1)), (by first | rfl | (simp; done) | (simp [*]; done)), (by first | rfl | (simp; done) | (simp [*]; done)), H', ⟨by have := HK1.out; have := HJ8.out; omega⟩, ⟨by (with_reducible repeat (first | apply Kd.R_alloc | apply Kd.R_drewN | apply Kd.R_drew)); exact Kd.R_mono HO_7.out (fun _ hk => trivial)⟩, ⟨by repeat (first | (with_reducible first | exact HB.out | apply below_alloc | apply pw_below_drewN | apply below_drew1) | exact HB.out)⟩⟩
                                        · rw [if_neg c31] at H
                                          exact absurd H (by simp)
                                      · rw [if_neg c30] at H
                                        have c30b0 : (((rd_T31 t215 0).f1).toList == ((rd_T31 t201 x11_1).f1).toList) = false := beq_eq_false_iff_ne.mpr c30
                                        have c30b1 : (((rd_T31 t215 0).f1).toList != ((rd_T31 t201 x11_1).f1).toList) = true := bne_iff_ne.mpr c30
                                        exact absurd H (by simp)
                                    · rw [if_neg c29] at H
                                      have c29b0 : (((rd_T31 t215 0).f0) == ((rd_T31 t201 x11_1).f0)) = false := beq_eq_false_iff_ne.mpr c29
                                      have c29b1 : (((rd_T31 t215 0).f0) != ((rd_T31 t201 x11_1).f0)) = true := bne_iff_ne.mpr c29
                                      exact absurd H (by simp)
                                  · rw [if_neg c28] at H
                                    exact absurd H (by simp)
                                · rw [if_neg c27] at H
                                  have c27b0 : ((t215.length : Int) == 1) = false := beq_eq_false_iff_ne.mpr c27
                                  have c27b1 : ((t215.length : Int) != 1) = true := bne_iff_ne.mpr c27
                                  exact absurd H (by simp)
                              · rw [if_neg c26] at H
                                have c26b0 : (t217 == 0) = false := beq_eq_false_iff_ne.mpr c26
                                have c26b1 : (t217 != 0) = true := bne_iff_ne.mpr c26
                                exact absurd H (by simp)
                            · rw [if_neg c24] at H
                              exact absurd H (by simp)
                          · rw [if_neg c23] at H
                            exact absurd H (by simp)
                        · rw [if_neg c22] at H
                          exact absurd H (by simp)
                      · rw [if_neg c21] at H
                        have c21b0 : ((Int.tmod x11_1 7) == t212) = false := beq_eq_false_iff_ne.mpr c21
                        have c21b1 : ((Int.tmod x11_1 7) != t212) = true := bne_iff_ne.mpr c21
                        as_aux_lemma =>
                          have H' := Aside0.mk H
                          clear H
                          have p211 : 0 ≤ (x11_1 : Int) := of_decide_eq_true (by first | (with_reducible assumption) | assumption)
                          have q211 : x11_1 < (t201.length : Int) := of_decide_eq_true (by first | (with_reducible assumption) | assumption)
                          obtain ⟨ad211, e211, hx211_0, hx211_1, hx211_2, hx211_3, hx211_4⟩ := at_T31 (Kd.R_reads' HO_7.out).2.2 x11_1 p211 q211
                          cases e211
                          replace p211 := eq_true p211
                          replace q211 := eq_true q211
                          go_wp2_with (first | ((with_reducible refine gate_callee (f := 12) rfl ?_); refine goesL_ (some 94) rfl rfl Try.func12 (by kernel_rfl) rfl #[.int .i64 a1, .int .i64 7] rfl (by (try simp only [List.map_toArray, List.map_cons, List.map_nil]); first | done | rfl | (simp only [List.length_drop, List.length_take]; rfl)) ?_; (with_reducible refine (trammelkit_Pick.calls a1 7 t212 _ A20.out).mono ?_); rintro e w' ⟨rfl, ⟨nd, rfl⟩⟩; refine ⟨_, rfl, ?_⟩))
                          go_roundg kj8
                          case measure => have := HK1.out; have := HJ8.out; omega
                          case rel => exact ⟨((rd_T31 t201 x11_1).f4), (wrap64 (x11_1 + 1)), (by first | rfl | (simp; done) | (simp [*]; done)), (by first | rfl | (simp; done) | (simp [*]; done)), H', ⟨by have := HK1.out; have := HJ8.out; omega⟩, ⟨by (with_reducible repeat (first | apply Kd.R_alloc | apply Kd.R_drewN | apply Kd.R_drew)); exact HO_7.out⟩, ⟨by repeat (first | (with_reducible first | exact HB.out | apply below_alloc | apply pw_below_drewN | apply below_drew1) | exact HB.out)⟩⟩
                    · rw [if_neg c19] at H
                      exact absurd H (by simp)
                  · rw [if_neg c18] at H
                    exact absurd H (by simp)
          · rw [if_neg c8] at H
            have c8b0 : decide (x11_1 < (t201.length : Int)) = false := decide_eq_false c8
            clear c8
            replace H := Option.bind_eq_some_iff.mp H
            obtain ⟨t226, A360, H⟩ := H
            replace H : (if t226 < (t201.length : Int) then (if 0 ≤ t226 then (trammellaw03_LexLies.j2 k1 a0 a2 t201 t226 ((rd_T31 t201 t226).f3)) else (none)) else (trammellaw03_LexLies.j2 k1 a0 a2 t201 t226 (a0.size : Int))) = some r := H
            have A36 := Aside0.mk A360
            clear A360
            have HC37 := Aside0.mk H
            clear H
            obtain ⟨Ao38, co38, eo38⟩ := Kd.R_slice HO_7.out
            subst eo38
            go_upto_if 166 with (first | ((with_reducible refine gate_callee (f := 12) rfl ?_); refine goesL_ (some 160) rfl rfl Try.func12 (by kernel_rfl) rfl #[.int .i64 a1, .int .i64 (wrap64 ((t201.length : Int) + 1))] rfl (by (try simp only [List.map_toArray, List.map_cons, List.map_nil]); first | done | rfl | (simp only [List.length_drop, List.length_take]; rfl)) ?_; (with_reducible refine (trammelkit_Pick.calls a1 (wrap64 ((t201.length : Int) + 1)) t226 _ A36.out).mono ?_); rintro e w' ⟨rfl, ⟨nd, rfl⟩⟩; refine ⟨_, rfl, ?_⟩))
            (try simp only [Act.put, List.setIfInBounds_toArray, List.set_cons_zero, List.set_cons_succ])
            go_cut [16] (fun v16 wc => ∃ (kq : Nat) (x16_36 : Int), v16 = .int .i64 x16_36 ∧ Aside0 (trammellaw03_LexLies.j2 kq a0 a2 t201 t226 x16_36 = some r) ∧ Aside0 (kq ≤ k1) ∧ Aside0 (Kd.R k31 31 wc w.heap.size (fun _ => True) (.slice Ao38 t201.length co38) t201) ∧ Aside0 (Below w.heap.size w wc))
            case first =>
              have H := HC37.out
              clear HC37
              by_cases c39 : t226 < (t201.length : Int)
              · rw [if_pos c39] at H
                have c39b0 : decide (t226 < (t201.length : Int)) = true := decide_eq_true c39
                clear c39
                (first | rw [c39b0] | (simp only [i64_w, i32_w]; rw [c39b0]) | skip)
                by_cases c40 : 0 ≤ t226
                · rw [if_pos c40] at H
                  have c40b0 : decide (0 ≤ t226) = true := decide_eq_true c40
                  clear c40
                  as_aux_lemma =>
                    have H' := Aside0.mk H
                    clear H
                    have p227 : 0 ≤ (t226 : Int) := of_decide_eq_true (by first | (with_reducible assumption) | assumption)
                    have q227 : t226 < (t201.length : Int) := of_decide_eq_true (by first | (with_reducible assumption) | assumption)
                    obtain ⟨ad227, e227, hx227_0, hx227_1, hx227_2, hx227_3, hx227_4⟩ := at_T31 (Kd.R_reads' HO_7.out).2.2 t226 p227 q227
                    cases e227
                    replace p227 := eq_true p227
                    replace q227 := eq_true q227
                    go_wp2
                    go_meet
                    case rel => exact ⟨_, ((rd_T31 t201 t226).f3), (by first | rfl | (simp; done) | (simp [*]; done)), H', ⟨by have := HK1.out; first | omega | exact Nat.le_refl _⟩, ⟨by (with_reducible repeat (first | apply Kd.R_alloc | apply Kd.R_drewN | apply Kd.R_drew)); exact HO_7.out⟩, ⟨by repeat (first | (with_reducible first | exact HB.out | apply below_alloc | apply pw_below_drewN | apply below_drew1) | exact HB.out)⟩⟩
                · rw [if_neg c40] at H
                  exact absurd H (by simp)
              · rw [if_neg c39] at H
                have c39b0 : decide (t226 < (t201.length : Int)) = false := decide_eq_false c39
                clear c39
                (first | rw [c39b0] | (simp only [i64_w, i32_w]; rw [c39b0]) | skip)
                as_aux_lemma =>
                  have H' := Aside0.mk H
                  clear H
                  go_wp2
                  go_meet
                  case rel => exact ⟨_, ((a0.size : Int)), (by first | rfl | (simp; done) | (simp [*]; done)), H', ⟨by have := HK1.out; first | omega | exact Nat.le_refl _⟩, ⟨by (with_reducible repeat (first | apply Kd.R_alloc | apply Kd.R_drewN | apply Kd.R_drew)); exact HO_7.out⟩, ⟨by repeat (first | (with_reducible first | exact HB.out | apply below_alloc | apply pw_below_drewN | apply below_drew1) | exact HB.out)⟩⟩
            case rest =>
              clear HC37
              try clear c1
              try clear c2
              try clear p2
              try clear q2
              try clear hx2
              try clear qi2
              try clear c3
              try clear c4
              try clear p6
              try clear c8
              try clear c8b0
              try clear c12
              try clear c18
              try clear c19
              try clear c21
              try clear c21b0
              try clear c21b1
              try clear p21
              try clear q21
              try clear hx21
              try clear c22
              try clear p22
              try clear q22
              try clear hx22
              try clear qi22
              try clear c23
              try clear c24
              try clear c26
              try clear c26b0
              try clear c26b1
              try clear c27
              try clear c27b0
              try clear c27b1
              try clear c28
              try clear c29
              try clear c29b0
              try clear c29b1
              try clear c30
              try clear c30b0
              try clear c30b1
              try clear c31
              try clear c39
              try clear c39b0
              try clear c40
              try clear c40b0
              try clear hx211_0
              try clear hx211_1
              try clear hx211_2
              try clear hx211_3
              try clear hx211_4
              try clear hx220_0
              try clear hx220_1
              try clear hx220_2
              try clear hx220_3
              try clear hx220_4
              try clear hx221_0
              try clear hx221_1
              try clear hx221_2
              try clear hx221_3
              try clear hx221_4
              try clear hx222_0
              try clear hx222_1
              try clear hx222_2
              try clear hx222_3
              try clear hx222_4
              try clear hx223_0
              try clear hx223_1
              try clear hx223_2
              try clear hx223_3
              try clear hx223_4
              try clear hx224_0
              try clear hx224_1
              try clear hx224_2
              try clear hx224_3
              try clear hx224_4
              try clear hx225_0
              try clear hx225_1
              try clear hx225_2
              try clear hx225_3
              try clear hx225_4
              try clear hx227_0
              try clear hx227_1
              try clear hx227_2
              try clear hx227_3
              try clear hx227_4
              try clear p211
              try clear p220
              try clear p221
              try clear p222
              try clear p223
              try clear p224
              try clear p225
              try clear p227
              try clear q211
              try clear q220
              try clear q221
              try clear q222
              try clear q223
              try clear q224
              try clear q225
              try clear q227
              obtain ⟨kq, x16_36, rfl, HA, HJ36, HO_7, HB⟩ := hcut
              cases kq with
              | zero => exact absurd HA.out (by simp [trammellaw03_LexLies.j2])
              | succ kj36 =>
                have H := HA.out
                clear HA
                simp only [trammellaw03_LexLies.j2] at H
                obtain ⟨y228, hy228⟩ : ∃ y_ : List ByteArray, y_ = (([(⟨#[32]⟩ : ByteArray), (⟨#[10]⟩ : ByteArray), (⟨#[9, 32, 47, 47, 32, 120, 10]⟩ : ByteArray), (⟨#[13, 47, 47, 10]⟩ : ByteArray)] : List ByteArray)) := ⟨_, rfl⟩
                replace H : ((trammelkit_Pick.f a2 4).bind fun t231 => (if 0 ≤ t231 then (if t231 < (y228.length : Int) then (if 0 ≤ x16_36 then (if x16_36 ≤ (a0.size : Int) then (if (a0.extract 0 (x16_36 : Int).toNat).size + (rdOf ByteArray.empty y228 t231).size ≤ 9223372036854775807 then (if ((a0.extract 0 (x16_36 : Int).toNat) ++ (rdOf ByteArray.empty y228 t231)).size + (a0.extract (x16_36 : Int).toNat a0.size).size ≤ 9223372036854775807 then ((lex_Tokens.f (((a0.extract 0 (x16_36 : Int).toNat) ++ (rdOf ByteArray.empty y228 t231)) ++ (a0.extract (x16_36 : Int).toNat a0.size))).bind fun bt233 => (if bt233.2.2 = 0 then (trammellaw03_LexLies.j3 kj36 t201 t226 (rdOf ByteArray.empty y228 t231) bt233.1 ((bt233.1.length : Int) != (t201.length : Int))) else (trammellaw03_LexLies.j3 kj36 t201 t226 (rdOf ByteArray.empty y228 t231) bt233.1 true))) else (none)) else (none)) else (none)) else (none)) else (none)) else (none))) = some r := by first | (rw [hy228]; with_reducible exact H) | (have H2_ := (Option.bind_some _ _).symm.trans H; rw [hy228]; with_reducible exact H2_) | (have H2_ := (Option.bind_some _ _).symm.trans H; with_reducible exact H2_) | with_reducible exact H | (rw [hy228]; exact H) | exact H
                have Ny228 := Aside0.mk hy228
                clear hy228
                replace H := Option.bind_eq_some_iff.mp H
                obtain ⟨t231, A410, H⟩ := H
                replace H : (if 0 ≤ t231 then (if t231 < (y228.length : Int) then (if 0 ≤ x16_36 then (if x16_36 ≤ (a0.size : Int) then (if (a0.extract 0 (x16_36 : Int).toNat).size + (rdOf ByteArray.empty y228 t231).size ≤ 9223372036854775807 then (if ((a0.extract 0 (x16_36 : Int).toNat) ++ (rdOf ByteArray.empty y228 t231)).size + (a0.extract (x16_36 : Int).toNat a0.size).size ≤ 9223372036854775807 then ((lex_Tokens.f (((a0.extract 0 (x16_36 : Int).toNat) ++ (rdOf ByteArray.empty y228 t231)) ++ (a0.extract (x16_36 : Int).toNat a0.size))).bind fun bt233 => (if bt233.2.2 = 0 then (trammellaw03_LexLies.j3 kj36 t201 t226 (rdOf ByteArray.empty y228 t231) bt233.1 ((bt233.1.length : Int) != (t201.length : Int))) else (trammellaw03_LexLies.j3 kj36 t201 t226 (rdOf ByteArray.empty y228 t231) bt233.1 true))) else (none)) else (none)) else (none)) else (none)) else (none)) else (none)) = some r := H
                have A41 := Aside0.mk A410
                clear A410
                by_cases c42 : 0 ≤ t231
                · rw [if_pos c42] at H
                  have c42b0 : decide (0 ≤ t231) = true := decide_eq_true c42
                  clear c42
                  by_cases c43 : t231 < (y228.length : Int)
                  · rw [if_pos c43] at H
                    have c43b0 : decide (t231 < (y228.length : Int)) = true := decide_eq_true c43
                    clear c43
                    by_cases c44 : 0 ≤ x16_36
                    · rw [if_pos c44] at H
                      have c44b0 := eq_true c44
                      have c44b1 : decide (0 ≤ x16_36) = true := decide_eq_true c44
                      clear c44
                      by_cases c45 : x16_36 ≤ (a0.size : Int)
                      · rw [if_pos c45] at H
                        have c45b0 := eq_true c45
                        have c45b1 : decide (x16_36 ≤ (a0.size : Int)) = true := decide_eq_true c45
                        clear c45
                        by_cases c46 : (a0.extract 0 (x16_36 : Int).toNat).size + (rdOf ByteArray.empty y228 t231).size ≤ 9223372036854775807
                        · rw [if_pos c46] at H
                          have c46b0 := eq_true c46
                          have c46b1 : decide ((a0.extract 0 (x16_36 : Int).toNat).size + (rdOf ByteArray.empty y228 t231).size ≤ 9223372036854775807) = true := decide_eq_true c46
                          try have c46b2 : (9223372036854775807 < (a0.extract 0 (x16_36 : Int).toNat).size + (rdOf ByteArray.empty y228 t231).size) = False := eq_false (Nat.not_lt.2 c46)
                          have c47b0 := eq_true (of_decide_eq_true (by first | (with_reducible assumption) | assumption) : 0 ≤ x16_36)
                          have c48b0 := eq_true (of_decide_eq_true (by first | (with_reducible assumption) | assumption) : x16_36 ≤ (a0.size : Int))
                          by_cases c49 : ((a0.extract 0 (x16_36 : Int).toNat) ++ (rdOf ByteArray.empty y228 t231)).size + (a0.extract (x16_36 : Int).toNat a0.size).size ≤ 9223372036854775807
                          · rw [if_pos c49] at H
                            have c49b0 := eq_true c49
                            have c49b1 : decide (((a0.extract 0 (x16_36 : Int).toNat) ++ (rdOf ByteArray.empty y228 t231)).size + (a0.extract (x16_36 : Int).toNat a0.size).size ≤ 9223372036854775807) = true := decide_eq_true c49
                            try have c49b2 : (9223372036854775807 < ((a0.extract 0 (x16_36 : Int).toNat) ++ (rdOf ByteArray.empty y228 t231)).size + (a0.extract (x16_36 : Int).toNat a0.size).size) = False := eq_false (Nat.not_lt.2 c49)
                            (try (have c46b3 : (9223372036854775807 < x16_36.toNat + (rdOf ByteArray.empty y228 t231).size) = False := eq_false (by have h_ := c46; simp only [ByteArray.size_append, ByteArray.size_extract] at h_; have l0_ := of_eq_true c47b0; have l1_ := of_eq_true c48b0; omega)))
                            (try (have c49b3 : (9223372036854775807 < x16_36.toNat + (rdOf ByteArray.empty y228 t231).size + (a0.size - x16_36.toNat)) = False := eq_false (by have h_ := c49; simp only [ByteArray.size_append, ByteArray.size_extract] at h_; have l0_ := of_eq_true c47b0; have l1_ := of_eq_true c48b0; omega)))
                            replace H := Option.bind_eq_some_iff.mp H
                            obtain ⟨⟨t233, t234, t235⟩, A500, H⟩ := H
                            replace H : (if t235 = 0 then (trammellaw03_LexLies.j3 kj36 t201 t226 (rdOf ByteArray.empty y228 t231) t233 ((t233.length : Int) != (t201.length : Int))) else (trammellaw03_LexLies.j3 kj36 t201 t226 (rdOf ByteArray.empty y228 t231) t233 true)) = some r := H
                            have A50 := Aside0.mk A500
                            clear A500
                            have HC51 := Aside0.mk H
                            clear H
                            try go_wp2_with (first | ((with_reducible refine gate_dst (N := 172) rfl ?_); (try (refine gate_guard (by rfl) ?_; dsimp only)); refine Kd.R_lit Kd.string _ 9 ?hg (N := 172) ?hd (xs := ([(⟨#[32]⟩ : ByteArray), (⟨#[10]⟩ : ByteArray), (⟨#[9, 32, 47, 47, 32, 120, 10]⟩ : ByteArray), (⟨#[13, 47, 47, 10]⟩ : ByteArray)] : List ByteArray)) (inner := [.string (⟨#[32]⟩ : ByteArray), .string (⟨#[10]⟩ : ByteArray), .string (⟨#[9, 32, 47, 47, 32, 120, 10]⟩ : ByteArray), .string (⟨#[13, 47, 47, 10]⟩ : ByteArray)]) (ok := fun _ => True) (okp := fun _ => True) ?hr ?hp (fun _ hk => hk) trivial (Below.refl _ _) (Nat.le_refl _) (by simp) ?_; (case hd => rfl); (case hg => rfl); (case hr => first | (go_simp; done) | (go_simp; rfl)); (case hp => exact (Reps.one (show Kd.M Kd.string _ _ _ (⟨#[32]⟩ : ByteArray) [.string (⟨#[32]⟩ : ByteArray)] from rfl) (Reps.one (show Kd.M Kd.string _ _ _ (⟨#[10]⟩ : ByteArray) [.string (⟨#[10]⟩ : ByteArray)] from rfl) (Reps.one (show Kd.M Kd.string _ _ _ (⟨#[9, 32, 47, 47, 32, 120, 10]⟩ : ByteArray) [.string (⟨#[9, 32, 47, 47, 32, 120, 10]⟩ : ByteArray)] from rfl) (Reps.one (show Kd.M Kd.string _ _ _ (⟨#[13, 47, 47, 10]⟩ : ByteArray) [.string (⟨#[13, 47, 47, 10]⟩ : ByteArray)] from rfl) (Reps.none _ _)))))); intro v229 w52 ho53 hb hg_ hnew_; clear hg_ hnew_; (first | rw [← Ny228.out] at ho53 | (simp only [Int.reduceToNat] at ho53; rw [← Ny228.out] at ho53)); have n0_ := Aside0.mk (Kd.R_below (by (with_reducible repeat (first | apply Kd.R_alloc | apply Kd.R_drewN | apply Kd.R_drew)); exact HO_7.out) hb); have n1_ := Aside0.mk (Kd.R_lower ho53 (below_size (by repeat (first | (with_reducible first | exact HB.out | apply below_alloc | apply pw_below_drewN | apply below_drew1) | exact HB.out)))); have n2_ := Aside0.mk (below_step (by repeat (first | (with_reducible first | exact HB.out | apply below_alloc | apply pw_below_drewN | apply below_drew1) | exact HB.out)) hb); clear HO_7; clear HB; have HO_7 := n0_; have HO230 := n1_; have HB := n2_; clear n0_ n1_ n2_; clear hb ho53) | ((with_reducible refine gate_callee (f := 12) rfl ?_); refine goesL_ (some 174) rfl rfl Try.func12 (by kernel_rfl) rfl #[.int .i64 a2, .int .i64 4] rfl (by (try simp only [List.map_toArray, List.map_cons, List.map_nil]); first | done | rfl | (simp only [List.length_drop, List.length_take]; rfl)) ?_; (with_reducible refine (trammelkit_Pick.calls a2 4 t231 _ A41.out).mono ?_); rintro e w' ⟨rfl, ⟨nd, rfl⟩⟩; refine ⟨_, rfl, ?_⟩; obtain ⟨Ao54, co54, eo54⟩ := Kd.R_slice HO230.out; subst eo54; have p232 : 0 ≤ (t231 : Int) := of_decide_eq_true (by first | (with_reducible assumption) | assumption); have q232 : t231 < (y228.length : Int) := of_decide_eq_true (by first | (with_reducible assumption) | assumption); obtain ⟨ad232, e232, hx232_0⟩ := Kd.at_string (Kd.R_reads' HO230.out).2.2 t231 p232 q232; cases e232; replace p232 := eq_true p232; replace q232 := eq_true q232))
                            (try (rw [drewN_self w52]; generalize hq_ : World.drewN w52 _ = w52; have n0_ : Aside0 (Kd.R Kd.string 9 w52 w.heap.size (fun _ => True) (.slice (some ad232) y228.length co54) y228) := ⟨by rw [← hq_]; exact (by (with_reducible repeat (first | apply Kd.R_alloc | apply Kd.R_drewN | apply Kd.R_drew)); exact HO230.out)⟩; have n1_ : Aside0 (Kd.R k31 31 w52 w.heap.size (fun _ => True) (.slice Ao38 t201.length co38) t201) := ⟨by rw [← hq_]; exact (by (with_reducible repeat (first | apply Kd.R_alloc | apply Kd.R_drewN | apply Kd.R_drew)); exact HO_7.out)⟩; have n2_ : Aside0 (Below w.heap.size w w52) := ⟨by rw [← hq_]; exact (by repeat (first | (with_reducible first | exact HB.out | apply below_alloc | apply pw_below_drewN | apply below_drew1) | exact HB.out))⟩; clear HO230 HO_7 HB hq_; have HO230 := n0_; have HO_7 := n1_; have HB := n2_; clear n0_ n1_ n2_))
                            have n0_ := Aside0.mk (Kd.R_drew HO_7.out)
                            have n1_ := Aside0.mk (Kd.R_drew HO230.out)
                            have n2_ := Aside0.mk (below_drew1 HB.out)
                            clear HO_7
                            clear HO230
                            clear HB
                            have HO_7 := n0_
                            have HO230 := n1_
                            have HB := n2_
                            clear n0_ n1_ n2_
                            refine start_ (n := 17) (S := fun w' => True) (ds := []) #[false, false, false, false, false, false, false, false, false, false, false, false, false, false, false, false, false] (by kernel_rfl) rfl rfl trivial (fun hHeld => ?_); refine with_tabW trammellaw03_LexLies.tab22 trammellaw03_LexLies.bits22 (fun HT_ HW_ => ?_)
                            generalize w52.drew = w55 at HO_7 HO230 HB hHeld ⊢
                            refine pure_ (i := 0) (N := some 178) (v := ?_) (a' := ?_) #[true, false, false, false, false, false, false, false, false, false, false, false, false, false, false, false, false] rfl rfl (any_of HT_.out (by kernel_rfl)) (fun _ _ _ h => h) (Or.inl ⟨by rfl, ?_⟩) ?_ ?_
                            rotate_left
                            · intro w'
                              go_simp
                              with_reducible rfl
                            rotate_left
                            · simp only [Act.put, List.setIfInBounds_toArray, List.set_cons_zero, List.set_cons_succ, i64_w, i32_w]
                              rfl
                            refine pure_ (i := 1) (N := some 179) (v := ?_) (a' := ?_) #[true, true, false, false, false, false, false, false, false, false, false, false, false, false, false, false, false] rfl rfl (any_of HT_.out (by kernel_rfl)) (fun _ _ _ h => h) (Or.inl ⟨by rfl, ?_⟩) ?_ ?_
                            rotate_left
                            · intro w'
                              go_simp
                              with_reducible rfl
                            rotate_left
                            · simp only [Act.put, List.setIfInBounds_toArray, List.set_cons_zero, List.set_cons_succ, i64_w, i32_w]
                              rfl
                            refine pure_ (i := 2) (N := some 180) (v := ?_) (a' := ?_) #[true, true, true, false, false, false, false, false, false, false, false, false, false, false, false, false, false] rfl rfl (any_of HT_.out (by kernel_rfl)) (fun _ _ _ h => h) (Or.inl ⟨by rfl, ?_⟩) ?_ ?_
                            rotate_left
                            · intro w'
                              go_simp
                              with_reducible rfl
                            rotate_left
                            · simp only [Act.put, List.setIfInBounds_toArray, List.set_cons_zero, List.set_cons_succ, i64_w, i32_w]
                              rfl
                            refine pure_ (i := 3) (N := some 181) (v := ?_) (a' := ?_) #[true, true, true, true, false, false, false, false, false, false, false, false, false, false, false, false, false] rfl rfl (any_of HT_.out (by kernel_rfl)) (fun _ _ _ h => h) (Or.inl ⟨by rfl, ?_⟩) ?_ ?_
                            rotate_left
                            · intro w'
                              go_simp
                              with_reducible rfl
                            rotate_left
                            · simp only [Act.put, List.setIfInBounds_toArray, List.set_cons_zero, List.set_cons_succ, i64_w, i32_w]
                              rfl
                            refine pure_ (i := 4) (N := some 182) (v := ?_) (a' := ?_) #[true, true, true, true, true, false, false, false, false, false, false, false, false, false, false, false, false] rfl rfl (any_of HT_.out (by kernel_rfl)) (fun _ _ _ h => h) (Or.inl ⟨by rfl, ?_⟩) ?_ ?_
                            rotate_left
                            · intro w'
                              go_simp
                              with_reducible rfl
                            rotate_left
                            · simp only [Act.put, List.setIfInBounds_toArray, List.set_cons_zero, List.set_cons_succ, i64_w, i32_w]
                              rfl
                            refine pure_ (i := 5) (N := some 183) (v := ?_) (a' := ?_) #[true, true, true, true, true, true, false, false, false, false, false, false, false, false, false, false, false] rfl rfl (any_of HT_.out (by kernel_rfl)) (fun _ _ _ h => h) (Or.inl ⟨by rfl, ?_⟩) ?_ ?_
                            rotate_left
                            · intro w'
                              go_simp
                              with_reducible rfl
                            rotate_left
                            · simp only [Act.put, List.setIfInBounds_toArray, List.set_cons_zero, List.set_cons_succ, i64_w, i32_w]
                              rfl
                            refine pure_ (i := 6) (N := some 184) (v := ?_) (a' := ?_) #[true, true, true, true, true, true, true, false, false, false, false, false, false, false, false, false, false] rfl rfl (any_of HT_.out (by kernel_rfl)) (fun _ _ _ h => h) (Or.inl ⟨by rfl, ?_⟩) ?_ ?_
                            rotate_left
                            · intro w'
                              go_simp
                              with_reducible rfl
                            rotate_left
                            · simp only [Act.put, List.setIfInBounds_toArray, List.set_cons_zero, List.set_cons_succ, i64_w, i32_w]
                              rfl
                            refine pure_ (i := 7) (N := some 185) (v := ?_) (a' := ?_) #[true, true, true, true, true, true, true, true, false, false, false, false, false, false, false, false, false] rfl rfl (any_of HT_.out (by kernel_rfl)) (fun _ _ _ h => h) (Or.inl ⟨by rfl, ?_⟩) ?_ ?_
                            rotate_left
                            · intro w'
                              go_simp
                              with_reducible rfl
                            rotate_left
                            · simp only [Act.put, List.setIfInBounds_toArray, List.set_cons_zero, List.set_cons_succ, i64_w, i32_w]
                              rfl
                            refine pure_ (i := 8) (N := some 186) (v := ?_) (a' := ?_) #[true, true, true, true, true, true, true, true, true, false, false, false, false, false, false, false, false] rfl rfl (any_of HT_.out (by kernel_rfl)) (fun _ _ _ h => h) (Or.inl ⟨by rfl, ?_⟩) ?_ ?_
                            rotate_left
                            · intro w'
                              go_simp
                              with_reducible rfl
                            rotate_left
                            · simp only [Act.put, List.setIfInBounds_toArray, List.set_cons_zero, List.set_cons_succ, i64_w, i32_w]
                              rfl
                            refine one_ (i := 9) (N := some 187) #[true, true, true, true, true, true, true, true, true, true, false, false, false, false, false, false, false] rfl rfl (one_of HT_.out (by kernel_rfl)) (by decide) (fun K hK => ?_)
                            refine goes_ Try.func18 (by kernel_rfl) rfl #[.string (((a0.extract 0 (x16_36 : Int).toNat) ++ (rdOf ByteArray.empty y228 t231)) ++ (a0.extract (x16_36 : Int).toNat a0.size))] (by rfl) rfl rfl (by (try simp only [List.map_toArray, List.map_cons, List.map_nil]); first | done | rfl | (simp only [List.length_drop, List.length_take]; rfl)) ?_
                            with_reducible refine (lex_Tokens.calls (((a0.extract 0 (x16_36 : Int).toNat) ++ (rdOf ByteArray.empty y228 t231)) ++ (a0.extract (x16_36 : Int).toNat a0.size)) t233 t234 t235 _ A50.out).mono ?_
                            rintro e w56 ⟨v236, rfl, ho0, hb⟩
                            refine ⟨_, rfl, ?_⟩
                            have n0_ := Aside0.mk (Kd.R_elder' (by (with_reducible repeat (first | apply Kd.R_alloc | apply Kd.R_drewN | apply Kd.R_drew)); exact HO_7.out) (Kd.R_base ho0) hb)
                            have n1_ := Aside0.mk (Kd.R_below (by (with_reducible repeat (first | apply Kd.R_alloc | apply Kd.R_drewN | apply Kd.R_drew)); exact HO230.out) hb)
                            have n2_ := Aside0.mk (Kd.R_lower (Kd.R_new' ho0 (Kd.R_lt (by (with_reducible repeat (first | apply Kd.R_alloc | apply Kd.R_drewN | apply Kd.R_drew)); exact HO_7.out))) (below_size (by repeat (first | (with_reducible first | exact HB.out | apply below_alloc | apply pw_below_drewN | apply below_drew1) | exact HB.out))))
                            have n3_ := Aside0.mk (below_step (by repeat (first | (with_reducible first | exact HB.out | apply below_alloc | apply pw_below_drewN | apply below_drew1) | exact HB.out)) hb)
                            clear HO_7
                            clear HO230
                            clear HB
                            have HO_7 := n0_
                            have HO230 := n1_
                            have HO237 := n2_
                            have HB := n3_
                            clear n0_ n1_ n2_ n3_
                            (try clear hb)
                            (try clear hb2)
                            (try clear hk)
                            (try clear hi)
                            (try clear ho0)
                            refine hK.out _ _ trivial (fun hHeld => ?_)
                            clear hK K
                            refine norm_ (a' := ?_) ?_ ?_
                            rotate_left
                            · show Act.put _ (some 187) _ = _
                              simp only [Act.put, List.setIfInBounds_toArray, List.set_cons_zero, List.set_cons_succ, i64_w, i32_w]
                              rfl
                            refine pure_ (i := 10) (N := some 177) (v := ?_) (a' := ?_) #[true, true, true, true, true, true, true, true, true, true, true, false, false, false, false, false, false] rfl rfl (any_of HT_.out (by kernel_rfl)) (fun _ _ _ h => h) (Or.inl ⟨by rfl, ?_⟩) ?_ ?_
                            rotate_left
                            · intro w'
                              go_simp
                              with_reducible rfl
                            rotate_left
                            · simp only [Act.put, List.setIfInBounds_toArray, List.set_cons_zero, List.set_cons_succ, i64_w, i32_w]
                              rfl
                            refine pure_ (i := 11) (N := some 188) (v := ?_) (a' := ?_) #[true, true, true, true, true, true, true, true, true, true, true, true, false, false, false, false, false] rfl rfl (any_of HT_.out (by kernel_rfl)) (fun _ _ _ h => h) (Or.inl ⟨by rfl, ?_⟩) ?_ ?_
                            rotate_left
                            · intro w'
                              go_simp
                              with_reducible rfl
                            rotate_left
                            · simp only [Act.put, List.setIfInBounds_toArray, List.set_cons_zero, List.set_cons_succ, i64_w, i32_w]
                              rfl
                            refine pure_ (i := 12) (N := some 189) (v := ?_) (a' := ?_) #[true, true, true, true, true, true, true, true, true, true, true, true, true, false, false, false, false] rfl rfl (any_of HT_.out (by kernel_rfl)) (fun _ _ _ h => h) (Or.inl ⟨by rfl, ?_⟩) ?_ ?_
                            rotate_left
                            · intro w'
                              go_simp
                              with_reducible rfl
                            rotate_left
                            · simp only [Act.put, List.setIfInBounds_toArray, List.set_cons_zero, List.set_cons_succ, i64_w, i32_w]
                              rfl
                            refine pure_ (i := 13) (N := some 190) (v := ?_) (a' := ?_) #[true, true, true, true, true, true, true, true, true, true, true, true, true, true, false, false, false] rfl rfl (any_of HT_.out (by kernel_rfl)) (fun _ _ _ h => h) (Or.inl ⟨by rfl, ?_⟩) ?_ ?_
                            rotate_left
                            · intro w'
                              go_simp
                              with_reducible rfl
                            rotate_left
                            · simp only [Act.put, List.setIfInBounds_toArray, List.set_cons_zero, List.set_cons_succ, i64_w, i32_w]
                              rfl
                            refine pure_ (i := 14) (N := some 18) (v := ?_) (a' := ?_) #[true, true, true, true, true, true, true, true, true, true, true, true, true, true, true, false, false] rfl rfl (any_of HT_.out (by kernel_rfl)) (fun _ _ _ h => h) (Or.inl ⟨by rfl, ?_⟩) ?_ ?_
                            rotate_left
                            · intro w'
                              go_simp
                              with_reducible rfl
                            rotate_left
                            · simp only [Act.put, List.setIfInBounds_toArray, List.set_cons_zero, List.set_cons_succ, i64_w, i32_w]
                              rfl
                            refine pure_ (i := 15) (N := some 19) (v := ?_) (a' := ?_) #[true, true, true, true, true, true, true, true, true, true, true, true, true, true, true, true, false] rfl rfl (any_of HT_.out (by kernel_rfl)) (fun _ _ _ h => h) (Or.inl ⟨by rfl, ?_⟩) ?_ ?_
                            rotate_left
                            · intro w'
                              go_simp
                              with_reducible rfl
                            rotate_left
                            · simp only [Act.put, List.setIfInBounds_toArray, List.set_cons_zero, List.set_cons_succ, i64_w, i32_w]
                              rfl
                            refine pure_ (i := 16) (N := some 20) (v := ?_) (a' := ?_) #[true, true, true, true, true, true, true, true, true, true, true, true, true, true, true, true, true] rfl rfl (any_of HT_.out (by kernel_rfl)) (fun _ _ _ h => h) (Or.inl ⟨by rfl, ?_⟩) ?_ ?_
                            rotate_left
                            · intro w'
                              go_simp
                              with_reducible rfl
                            rotate_left
                            · simp only [Act.put, List.setIfInBounds_toArray, List.set_cons_zero, List.set_cons_succ, i64_w, i32_w]
                              rfl
                            refine done_ (done_of HT_.out (by kernel_rfl)) ?_
                            go_upto_region 23 with (fail)
                            go_cut [199] (fun v199 wc => ∃ (kq : Nat) (x199_50 : Bool), v199 = .bool x199_50 ∧ Aside0 (trammellaw03_LexLies.j3 kq t201 t226 (rdOf ByteArray.empty y228 t231) t233 x199_50 = some r) ∧ Aside0 (kq ≤ kj36) ∧ Aside0 (Kd.R k31 31 wc w.heap.size (fun k_ => some k_ ≠ (v236 : Value).ownBlock) (.slice Ao38 t201.length co38) t201) ∧ Aside0 (Kd.R k31 31 wc w.heap.size (fun k_ => some k_ ≠ ((.slice Ao38 t201.length co38) : Value).ownBlock) v236 t233) ∧ Aside0 (Below w.heap.size w wc))
                            case first =>
                              have H := HC51.out
                              clear HC51
                              by_cases c57 : t235 = 0
                              · rw [if_pos c57] at H
                                have c57b0 : (t235 == 0) = true := beq_iff_eq.mpr c57
                                have c57b1 : (t235 != 0) = false := bne_eq_false_iff_eq.mpr c57
                                clear c57
                                (first | rw [c57b0] | (simp only [i64_w, i32_w]; rw [c57b0]) | skip)
                                as_aux_lemma =>
                                  have H' := Aside0.mk H
                                  clear H
                                  obtain ⟨Ao58, co58, eo58⟩ := Kd.R_slice HO237.out
                                  subst eo58
                                  go_wp2
                                  go_meet
                                  case rel => exact ⟨_, (((t233.length : Int) != (t201.length : Int))), (by first | rfl | (simp; done) | (simp [*]; done)), H', ⟨by have := HK1.out; have := HJ36.out; first | omega | exact Nat.le_refl _⟩, ⟨by (with_reducible repeat (first | apply Kd.R_alloc | apply Kd.R_drewN | apply Kd.R_drew)); exact Kd.R_mono HO_7.out (fun _ hk => hk.2)⟩, ⟨by (with_reducible repeat (first | apply Kd.R_alloc | apply Kd.R_drewN | apply Kd.R_drew)); exact Kd.R_mono HO237.out (fun _ hk => hk.2)⟩, ⟨by repeat (first | (with_reducible first | exact HB.out | apply below_alloc | apply pw_below_drewN | apply below_drew1) | exact HB.out)⟩⟩
                              · rw [if_neg c57] at H
                                have c57b0 : (t235 == 0) = false := beq_eq_false_iff_ne.mpr c57
                                have c57b1 : (t235 != 0) = true := bne_iff_ne.mpr c57
                                (first | rw [c57b0] | (simp only [i64_w, i32_w]; rw [c57b0]) | skip)
                                as_aux_lemma =>
                                  have H' := Aside0.mk H
                                  clear H
                                  go_wp2
                                  go_meet
                                  case rel => exact ⟨_, (true), (by first | rfl | (simp; done) | (simp [*]; done)), H', ⟨by have := HK1.out; have := HJ36.out; first | omega | exact Nat.le_refl _⟩, ⟨by (with_reducible repeat (first | apply Kd.R_alloc | apply Kd.R_drewN | apply Kd.R_drew)); exact Kd.R_mono HO_7.out (fun _ hk => hk.2)⟩, ⟨by (with_reducible repeat (first | apply Kd.R_alloc | apply Kd.R_drewN | apply Kd.R_drew)); exact Kd.R_mono HO237.out (fun _ hk => hk.2)⟩, ⟨by repeat (first | (with_reducible first | exact HB.out | apply below_alloc | apply pw_below_drewN | apply below_drew1) | exact HB.out)⟩⟩
                            case rest =>
                              clear HC51
                              try clear c1
                              try clear c2
                              try clear p2
                              try clear q2
                              try clear hx2
                              try clear qi2
                              try clear c3
                              try clear c4
                              try clear c5
                              try clear p6
                              try clear c8
                              try clear c8b0
                              try clear c12
                              try clear c18
                              try clear c19
                              try clear c21
                              try clear c21b0
                              try clear c21b1
                              try clear p21
                              try clear q21
                              try clear hx21
                              try clear c22
                              try clear p22
                              try clear q22
                              try clear hx22
                              try clear qi22
                              try clear c23
                              try clear p23
                              try clear q23
                              try clear hx23
                              try clear c24
                              try clear c26
                              try clear c26b0
                              try clear c26b1
                              try clear c27
                              try clear c27b0
                              try clear c27b1
                              try clear c28
                              try clear c29
                              try clear c29b0
                              try clear c29b1
                              try clear c30
                              try clear c30b0
                              try clear c30b1
                              try clear c31
                              try clear c39
                              try clear c39b0
                              try clear c40
                              try clear c40b0
                              try clear c42
                              try clear c42b0
                              try clear c43
                              try clear c43b0
                              try clear c44
                              try clear c44b0
                              try clear c44b1
                              try clear c45
                              try clear c45b0
                              try clear c45b1
                              try clear c46
                              try clear c46b0
                              try clear c46b1
                              try clear c46b2
                              try clear c47
                              try clear c47b0
                              try clear c48
                              try clear c48b0
                              try clear c49
                              try clear c49b0
                              try clear c49b1
                              try clear c49b2
                              try clear c57
                              try clear c57b0
                              try clear c57b1
                              try clear hx211_0
                              try clear hx211_1
                              try clear hx211_2
                              try clear hx211_3
                              try clear hx211_4
                              try clear hx220_0
                              try clear hx220_1
                              try clear hx220_2
                              try clear hx220_3
                              try clear hx220_4
                              try clear hx221_0
                              try clear hx221_1
                              try clear hx221_2
                              try clear hx221_3
                              try clear hx221_4
                              try clear hx222_0
                              try clear hx222_1
                              try clear hx222_2
                              try clear hx222_3
                              try clear hx222_4
                              try clear hx223_0
                              try clear hx223_1
                              try clear hx223_2
                              try clear hx223_3
                              try clear hx223_4
                              try clear hx224_0
                              try clear hx224_1
                              try clear hx224_2
                              try clear hx224_3
                              try clear hx224_4
                              try clear hx225_0
                              try clear hx225_1
                              try clear hx225_2
                              try clear hx225_3
                              try clear hx225_4
                              try clear hx227_0
                              try clear hx227_1
                              try clear hx227_2
                              try clear hx227_3
                              try clear hx227_4
                              try clear hx232_0
                              try clear p2
                              try clear p21
                              try clear p211
                              try clear p22
                              try clear p220
                              try clear p221
                              try clear p222
                              try clear p223
                              try clear p224
                              try clear p225
                              try clear p227
                              try clear p232
                              try clear p6
                              try clear q2
                              try clear q21
                              try clear q211
                              try clear q22
                              try clear q220
                              try clear q221
                              try clear q222
                              try clear q223
                              try clear q224
                              try clear q225
                              try clear q227
                              try clear q232
                              obtain ⟨kq, x199_50, rfl, HA, HJ50, HO_7, HO_18, HB⟩ := hcut
                              cases kq with
                              | zero => exact absurd HA.out (by simp [trammellaw03_LexLies.j3])
                              | succ kj50 =>
                                have H := HA.out
                                clear HA
                                simp only [trammellaw03_LexLies.j3] at H
                                by_cases c59 : x199_50 = true
                                · subst c59
                                  (try (have e_ := Option.some.inj (A5.out.symm.trans A50.out); subst e_))
                                  (try (have e_ := Option.some.inj (A36.out.symm.trans A50.out); subst e_))
                                  (try (have e_ := Option.some.inj (A41.out.symm.trans A50.out); subst e_))
                                  have H1 : (none) = some r := by rw [if_pos rfl] at H; exact H
                                  clear H
                                  have H := H1
                                  clear H1
                                  exact absurd H (by simp)
                                · replace c59 := Bool.eq_false_iff.mpr c59
                                  subst c59
                                  (try (have e_ := Option.some.inj (A5.out.symm.trans A50.out); subst e_))
                                  (try (have e_ := Option.some.inj (A36.out.symm.trans A50.out); subst e_))
                                  (try (have e_ := Option.some.inj (A41.out.symm.trans A50.out); subst e_))
                                  have H1 : (trammellaw03_LexLies.l1 kj50 t201 t226 (rdOf ByteArray.empty y228 t231) t233 0) = some r := by rw [if_neg (show ¬ (false = true) by decide)] at H; exact H
                                  clear H
                                  have H := H1
                                  clear H1
                                  have H' := Aside0.mk H
                                  clear H
                                  go_wp2
                                  (try simp only [Act.put, List.setIfInBounds_toArray, List.set_cons_zero, List.set_cons_succ])
                                  go_loopg [21] kj50 (fun kq v21 w' => ∃ (x21_4 : Int), v21 = .int .i64 x21_4 ∧ Aside0 (trammellaw03_LexLies.l1 kq t201 t226 (rdOf ByteArray.empty y228 t231) t233 x21_4 = some r) ∧ Aside0 (kq ≤ kj50) ∧ Aside0 (Kd.R k31 31 w' w.heap.size (fun k_ => some k_ ≠ (v236 : Value).ownBlock) (.slice Ao38 t201.length co38) t201) ∧ Aside0 (Kd.R k31 31 w' w.heap.size (fun k_ => some k_ ≠ ((.slice Ao38 t201.length co38) : Value).ownBlock) v236 t233) ∧ Aside0 (Below w.heap.size w w'))
                                  case atStart => exact ⟨(0), (by first | rfl | (simp; done) | (simp [*]; done)), H', ⟨Nat.le_refl _⟩, ⟨by (with_reducible repeat (first | apply Kd.R_alloc | apply Kd.R_drewN | apply Kd.R_drew)); exact HO_7.out⟩, ⟨by (with_reducible repeat (first | apply Kd.R_alloc | apply Kd.R_drewN | apply Kd.R_drew)); exact HO_18.out⟩, ⟨by repeat (first | (with_reducible first | exact HB.out | apply below_alloc | apply pw_below_drewN | apply below_drew1) | exact HB.out)⟩⟩
                                  case round =>
                                    clear H'
                                    try clear c1
                                    try clear c2
                                    try clear p2
                                    try clear q2
                                    try clear hx2
                                    try clear qi2
                                    try clear c3
                                    try clear c4
                                    try clear c5
                                    try clear p6
                                    try clear c8
                                    try clear c8b0
                                    try clear c12
                                    try clear c18
                                    try clear c19
                                    try clear c21
                                    try clear c21b0
                                    try clear c21b1
                                    try clear p21
                                    try clear q21
                                    try clear hx21
                                    try clear c22
                                    try clear p22
                                    try clear q22
                                    try clear hx22
                                    try clear qi22
                                    try clear c23
                                    try clear p23
                                    try clear q23
                                    try clear hx23
                                    try clear c24
                                    try clear c26
                                    try clear c26b0
                                    try clear c26b1
                                    try clear c27
                                    try clear c27b0
                                    try clear c27b1
                                    try clear c28
                                    try clear c29
                                    try clear c29b0
                                    try clear c29b1
                                    try clear c30
                                    try clear c30b0
                                    try clear c30b1
                                    try clear c31
                                    try clear c39
                                    try clear c39b0
                                    try clear c40
                                    try clear c40b0
                                    try clear c42
                                    try clear c42b0
                                    try clear c43
                                    try clear c43b0
                                    try clear c44
                                    try clear c44b0
                                    try clear c44b1
                                    try clear c45
                                    try clear c45b0
                                    try clear c45b1
                                    try clear c46
                                    try clear c46b0
                                    try clear c46b1
                                    try clear c46b2
                                    try clear c47
                                    try clear c47b0
                                    try clear c48
                                    try clear c48b0
                                    try clear c49
                                    try clear c49b0
                                    try clear c49b1
                                    try clear c49b2
                                    try clear c57
                                    try clear c57b0
                                    try clear c57b1
                                    try clear c59
                                    try clear hx211_0
                                    try clear hx211_1
                                    try clear hx211_2
                                    try clear hx211_3
                                    try clear hx211_4
                                    try clear hx220_0
                                    try clear hx220_1
                                    try clear hx220_2
                                    try clear hx220_3
                                    try clear hx220_4
                                    try clear hx221_0
                                    try clear hx221_1
                                    try clear hx221_2
                                    try clear hx221_3
                                    try clear hx221_4
                                    try clear hx222_0
                                    try clear hx222_1
                                    try clear hx222_2
                                    try clear hx222_3
                                    try clear hx222_4
                                    try clear hx223_0
                                    try clear hx223_1
                                    try clear hx223_2
                                    try clear hx223_3
                                    try clear hx223_4
                                    try clear hx224_0
                                    try clear hx224_1
                                    try clear hx224_2
                                    try clear hx224_3
                                    try clear hx224_4
                                    try clear hx225_0
                                    try clear hx225_1
                                    try clear hx225_2
                                    try clear hx225_3
                                    try clear hx225_4
                                    try clear hx227_0
                                    try clear hx227_1
                                    try clear hx227_2
                                    try clear hx227_3
                                    try clear hx227_4
                                    try clear hx232_0
                                    try clear p2
                                    try clear p21
                                    try clear p211
                                    try clear p22
                                    try clear p220
                                    try clear p221
                                    try clear p222
                                    try clear p223
                                    try clear p224
                                    try clear p225
                                    try clear p227
                                    try clear p23
                                    try clear p232
                                    try clear p6
                                    try clear q2
                                    try clear q21
                                    try clear q211
                                    try clear q22
                                    try clear q220
                                    try clear q221
                                    try clear q222
                                    try clear q223
                                    try clear q224
                                    try clear q225
                                    try clear q227
                                    try clear q23
                                    try clear q232
                                    obtain ⟨x21_4, rfl, HA, HK4, HO_7, HO_18, HB⟩ := hrel
                                    cases gk with
                                    | zero => exact absurd HA.out (by simp [trammellaw03_LexLies.l1])
                                    | succ k4 =>
                                      have H := HA.out
                                      clear HA
                                      simp only [trammellaw03_LexLies.l1] at H
                                      by_cases c60 : x21_4 < (t201.length : Int)
                                      · rw [if_pos c60] at H
                                        have c60b0 : decide (x21_4 < (t201.length : Int)) = true := decide_eq_true c60
                                        clear c60
                                        by_cases c61 : 0 ≤ x21_4
                                        · rw [if_pos c61] at H
                                          have c61b0 : decide (0 ≤ x21_4) = true := decide_eq_true c61
                                          clear c61
                                          by_cases c62 : x21_4 ≥ t226
                                          · rw [if_pos c62] at H
                                            have c62b0 : decide (t226 ≤ x21_4) = true := decide_eq_true c62
                                            clear c62
                                            by_cases c63 : x21_4 < (t233.length : Int)
                                            · rw [if_pos c63] at H
                                              have c63b0 : decide (x21_4 < (t233.length : Int)) = true := decide_eq_true c63
                                              clear c63
                                              by_cases c64 : (!(((rd_T31 t233 x21_4).f0) == ((rd_T31 t201 x21_4).f0)) || (!((((rd_T31 t233 x21_4).f1).toList) == (((rd_T31 t201 x21_4).f1).toList)) || (!(((rd_T31 t233 x21_4).f2) == ((rd_T31 t201 x21_4).f2)) || (!(((rd_T31 t233 x21_4).f3) == (wrap64 (((rd_T31 t201 x21_4).f3) + ((rdOf ByteArray.empty y228 t231).size : Int)))) || (!(((rd_T31 t233 x21_4).f4) == (wrap64 (((rd_T31 t201 x21_4).f4) + ((rdOf ByteArray.empty y228 t231).size : Int))))))))) = true
                                              · rw [if_pos c64] at H
                                                exact absurd H (by simp)
                                              · rw [if_neg c64] at H
                                                have c64b0 : (!(((rd_T31 t233 x21_4).f0) == ((rd_T31 t201 x21_4).f0)) || (!((((rd_T31 t233 x21_4).f1).toList) == (((rd_T31 t201 x21_4).f1).toList)) || (!(((rd_T31 t233 x21_4).f2) == ((rd_T31 t201 x21_4).f2)) || (!(((rd_T31 t233 x21_4).f3) == (wrap64 (((rd_T31 t201 x21_4).f3) + ((rdOf ByteArray.empty y228 t231).size : Int)))) || (!(((rd_T31 t233 x21_4).f4) == (wrap64 (((rd_T31 t201 x21_4).f4) + ((rdOf ByteArray.empty y228 t231).size : Int))))))))) = false := by simpa using c64
                                                clear c64
                                                as_aux_lemma =>
                                                  have H' := Aside0.mk H
                                                  clear H
                                                  have p239 : 0 ≤ (x21_4 : Int) := of_decide_eq_true (by first | (with_reducible assumption) | assumption)
                                                  have q239 : x21_4 < (t201.length : Int) := of_decide_eq_true (by first | (with_reducible assumption) | assumption)
                                                  obtain ⟨ad239, e239, hx239_0, hx239_1, hx239_2, hx239_3, hx239_4⟩ := at_T31 (Kd.R_reads' HO_7.out).2.2 x21_4 p239 q239
                                                  cases e239
                                                  replace p239 := eq_true p239
                                                  replace q239 := eq_true q239
                                                  try go_wp2_with (first | ((with_reducible refine gate_dst (N := 22) rfl ?_); (try (refine gate_guard (by rfl) ?_; dsimp only)); refine box_event ?hg (N := 22) ?hd (cs := #[.int .u8 0, .string (⟨#[]⟩ : ByteArray), .int .u64 0, .int .i64 0, .int .i64 0]) (t := 31) ?hr ?_; (case hd => rfl); (case hg => rfl); (case hr => first | (go_simp; done) | (go_simp; rfl)); intro gb240 hg w65 hbox hb; have n0_ := Aside0.mk (Kd.R_below (Kd.R_elderB (by (with_reducible repeat (first | apply Kd.R_alloc | apply Kd.R_drewN | apply Kd.R_drew)); exact HO_7.out) gb240 (Nat.le_of_eq hg.symm)) hb); have n1_ := Aside0.mk (Kd.R_below (Kd.R_elderB (by (with_reducible repeat (first | apply Kd.R_alloc | apply Kd.R_drewN | apply Kd.R_drew)); exact HO_18.out) gb240 (Nat.le_of_eq hg.symm)) hb); have n2_ := Aside0.mk (below_step (by repeat (first | (with_reducible first | exact HB.out | apply below_alloc | apply pw_below_drewN | apply below_drew1) | exact HB.out)) hb); have n3_ := Aside0.mk (hbox); have n4_ := Aside0.mk ((by rw [hg]; exact (below_size (by repeat (first | (with_reducible first | exact HB.out | apply below_alloc | apply pw_below_drewN | apply below_drew1) | exact HB.out))) : w.heap.size ≤ gb240)); have n5_ := Aside0.mk ((by rw [hg]; exact (below_size (by repeat (first | (with_reducible first | exact HB.out | apply below_alloc | apply pw_below_drewN | apply below_drew1) | exact HB.out))) : w.heap.size ≤ gb240)); clear HO_7; clear HO_18; clear HB; have HO_7 := n0_; have HO_18 := n1_; have HB := n2_; have BK240 := n3_; have GW240 := n4_; have GE240 := n5_; clear n0_ n1_ n2_ n3_ n4_ n5_; clear hb hbox hg; have hcz66_0 : w65.cell? ⟨gb240, 0, none⟩ = some (.int .u8 0) := (blk_cell BK240.out 0).trans rfl; have hcz66_1 : w65.cell? ⟨gb240, 1, none⟩ = some (.string (⟨#[]⟩ : ByteArray)) := (blk_cell BK240.out 1).trans rfl; have hcz66_2 : w65.cell? ⟨gb240, 2, none⟩ = some (.int .u64 0) := (blk_cell BK240.out 2).trans rfl; have hcz66_3 : w65.cell? ⟨gb240, 3, none⟩ = some (.int .i64 0) := (blk_cell BK240.out 3).trans rfl; have hcz66_4 : w65.cell? ⟨gb240, 4, none⟩ = some (.int .i64 0) := (blk_cell BK240.out 4).trans rfl; have hfz66_0 := blk_frozen BK240.out 0; have hfz66_1 := blk_frozen BK240.out 1; have hfz66_2 := blk_frozen BK240.out 2; have hfz66_3 := blk_frozen BK240.out 3; have hfz66_4 := blk_frozen BK240.out 4))
                                                  have n0_ : Aside0 (Kd.R k31 31 (((((((w65.setCell ⟨gb240, 0, none⟩ (.int .u8 ((rd_T31 t201 x21_4).f0))).setCell ⟨gb240, 1, none⟩ (.string ((rd_T31 t201 x21_4).f1))).setCell ⟨gb240, 2, none⟩ (.int .u64 ((rd_T31 t201 x21_4).f2))).setCell ⟨gb240, 3, none⟩ (.int .i64 ((rd_T31 t201 x21_4).f3))).setCell ⟨gb240, 4, none⟩ (.int .i64 ((rd_T31 t201 x21_4).f4))).setCell ⟨gb240, 3, none⟩ (.int .i64 (wrap64 (((rd_T31 t201 x21_4).f3) + ((rdOf ByteArray.empty y228 t231).size : Int))))).setCell ⟨gb240, 4, none⟩ (.int .i64 (wrap64 (((rd_T31 t201 x21_4).f4) + ((rdOf ByteArray.empty y228 t231).size : Int))))) w.heap.size (fun k_ => some k_ ≠ (v236 : Value).ownBlock ∧ k_ ≠ gb240) (.slice (some ad239) t201.length co38) t201) := ⟨by (with_reducible repeat (first | apply Kd.R_alloc | apply Kd.R_drewN | apply Kd.R_drew)); exact Kd.R_mono (Kd.R_far (p := ⟨gb240, 4, none⟩) (Kd.R_far (p := ⟨gb240, 3, none⟩) (Kd.R_far (p := ⟨gb240, 4, none⟩) (Kd.R_far (p := ⟨gb240, 3, none⟩) (Kd.R_far (p := ⟨gb240, 2, none⟩) (Kd.R_far (p := ⟨gb240, 1, none⟩) (Kd.R_far (p := ⟨gb240, 0, none⟩) (Kd.R_mono HO_7.out (fun k_ hk => (⟨hk, hk.2⟩ : _ ∧ k_ ≠ gb240))) (fun _ hk => hk.2) (.int .u8 ((rd_T31 t201 x21_4).f0))) (fun _ hk => hk.2) (.string ((rd_T31 t201 x21_4).f1))) (fun _ hk => hk.2) (.int .u64 ((rd_T31 t201 x21_4).f2))) (fun _ hk => hk.2) (.int .i64 ((rd_T31 t201 x21_4).f3))) (fun _ hk => hk.2) (.int .i64 ((rd_T31 t201 x21_4).f4))) (fun _ hk => hk.2) (.int .i64 (wrap64 (((rd_T31 t201 x21_4).f3) + ((rdOf ByteArray.empty y228 t231).size : Int))))) (fun _ hk => hk.2) (.int .i64 (wrap64 (((rd_T31 t201 x21_4).f4) + ((rdOf ByteArray.empty y228 t231).size : Int))))) (fun _ hk => ⟨hk.1.1, hk.1.2⟩)⟩
                                                  have n1_ : Aside0 (Kd.R k31 31 (((((((w65.setCell ⟨gb240, 0, none⟩ (.int .u8 ((rd_T31 t201 x21_4).f0))).setCell ⟨gb240, 1, none⟩ (.string ((rd_T31 t201 x21_4).f1))).setCell ⟨gb240, 2, none⟩ (.int .u64 ((rd_T31 t201 x21_4).f2))).setCell ⟨gb240, 3, none⟩ (.int .i64 ((rd_T31 t201 x21_4).f3))).setCell ⟨gb240, 4, none⟩ (.int .i64 ((rd_T31 t201 x21_4).f4))).setCell ⟨gb240, 3, none⟩ (.int .i64 (wrap64 (((rd_T31 t201 x21_4).f3) + ((rdOf ByteArray.empty y228 t231).size : Int))))).setCell ⟨gb240, 4, none⟩ (.int .i64 (wrap64 (((rd_T31 t201 x21_4).f4) + ((rdOf ByteArray.empty y228 t231).size : Int))))) w.heap.size (fun k_ => some k_ ≠ (.slice (some ad239) t201.length co38 : Value).ownBlock ∧ k_ ≠ gb240) v236 t233) := ⟨by (with_reducible repeat (first | apply Kd.R_alloc | apply Kd.R_drewN | apply Kd.R_drew)); exact Kd.R_mono (Kd.R_far (p := ⟨gb240, 4, none⟩) (Kd.R_far (p := ⟨gb240, 3, none⟩) (Kd.R_far (p := ⟨gb240, 4, none⟩) (Kd.R_far (p := ⟨gb240, 3, none⟩) (Kd.R_far (p := ⟨gb240, 2, none⟩) (Kd.R_far (p := ⟨gb240, 1, none⟩) (Kd.R_far (p := ⟨gb240, 0, none⟩) (Kd.R_mono HO_18.out (fun k_ hk => (⟨hk, hk.2⟩ : _ ∧ k_ ≠ gb240))) (fun _ hk => hk.2) (.int .u8 ((rd_T31 t201 x21_4).f0))) (fun _ hk => hk.2) (.string ((rd_T31 t201 x21_4).f1))) (fun _ hk => hk.2) (.int .u64 ((rd_T31 t201 x21_4).f2))) (fun _ hk => hk.2) (.int .i64 ((rd_T31 t201 x21_4).f3))) (fun _ hk => hk.2) (.int .i64 ((rd_T31 t201 x21_4).f4))) (fun _ hk => hk.2) (.int .i64 (wrap64 (((rd_T31 t201 x21_4).f3) + ((rdOf ByteArray.empty y228 t231).size : Int))))) (fun _ hk => hk.2) (.int .i64 (wrap64 (((rd_T31 t201 x21_4).f4) + ((rdOf ByteArray.empty y228 t231).size : Int))))) (fun _ hk => ⟨hk.1.1, hk.1.2⟩)⟩
                                                  have n2_ : Aside0 ((((((((w65.setCell ⟨gb240, 0, none⟩ (.int .u8 ((rd_T31 t201 x21_4).f0))).setCell ⟨gb240, 1, none⟩ (.string ((rd_T31 t201 x21_4).f1))).setCell ⟨gb240, 2, none⟩ (.int .u64 ((rd_T31 t201 x21_4).f2))).setCell ⟨gb240, 3, none⟩ (.int .i64 ((rd_T31 t201 x21_4).f3))).setCell ⟨gb240, 4, none⟩ (.int .i64 ((rd_T31 t201 x21_4).f4))).setCell ⟨gb240, 3, none⟩ (.int .i64 (wrap64 (((rd_T31 t201 x21_4).f3) + ((rdOf ByteArray.empty y228 t231).size : Int))))).setCell ⟨gb240, 4, none⟩ (.int .i64 (wrap64 (((rd_T31 t201 x21_4).f4) + ((rdOf ByteArray.empty y228 t231).size : Int))))).heap[gb240]? = some (.cells #[.int .u8 ((rd_T31 t201 x21_4).f0), .string ((rd_T31 t201 x21_4).f1), .int .u64 ((rd_T31 t201 x21_4).f2), .int .i64 (wrap64 (((rd_T31 t201 x21_4).f3) + ((rdOf ByteArray.empty y228 t231).size : Int))), .int .i64 (wrap64 (((rd_T31 t201 x21_4).f4) + ((rdOf ByteArray.empty y228 t231).size : Int)))] 31 (0, 0))) := ⟨by (with_reducible repeat (first | refine blk_drewN ?_ _ | refine blk_drew ?_ | refine blk_alloc ?_ _)); refine blk_put (cs := #[.int .u8 ((rd_T31 t201 x21_4).f0), .string ((rd_T31 t201 x21_4).f1), .int .u64 ((rd_T31 t201 x21_4).f2), .int .i64 (wrap64 (((rd_T31 t201 x21_4).f3) + ((rdOf ByteArray.empty y228 t231).size : Int))), .int .i64 ((rd_T31 t201 x21_4).f4)]) ?_ 4 _ rfl; (with_reducible repeat (first | refine blk_drewN ?_ _ | refine blk_drew ?_ | refine blk_alloc ?_ _)); refine blk_put (cs := #[.int .u8 ((rd_T31 t201 x21_4).f0), .string ((rd_T31 t201 x21_4).f1), .int .u64 ((rd_T31 t201 x21_4).f2), .int .i64 ((rd_T31 t201 x21_4).f3), .int .i64 ((rd_T31 t201 x21_4).f4)]) ?_ 3 _ rfl; (with_reducible repeat (first | refine blk_drewN ?_ _ | refine blk_drew ?_ | refine blk_alloc ?_ _)); refine blk_put (cs := #[.int .u8 ((rd_T31 t201 x21_4).f0), .string ((rd_T31 t201 x21_4).f1), .int .u64 ((rd_T31 t201 x21_4).f2), .int .i64 ((rd_T31 t201 x21_4).f3), .int .i64 0]) ?_ 4 _ rfl; (with_reducible repeat (first | refine blk_drewN ?_ _ | refine blk_drew ?_ | refine blk_alloc ?_ _)); refine blk_put (cs := #[.int .u8 ((rd_T31 t201 x21_4).f0), .string ((rd_T31 t201 x21_4).f1), .int .u64 ((rd_T31 t201 x21_4).f2), .int .i64 0, .int .i64 0]) ?_ 3 _ rfl; (with_reducible repeat (first | refine blk_drewN ?_ _ | refine blk_drew ?_ | refine blk_alloc ?_ _)); refine blk_put (cs := #[.int .u8 ((rd_T31 t201 x21_4).f0), .string ((rd_T31 t201 x21_4).f1), .int .u64 0, .int .i64 0, .int .i64 0]) ?_ 2 _ rfl; (with_reducible repeat (first | refine blk_drewN ?_ _ | refine blk_drew ?_ | refine blk_alloc ?_ _)); refine blk_put (cs := #[.int .u8 ((rd_T31 t201 x21_4).f0), .string (⟨#[]⟩ : ByteArray), .int .u64 0, .int .i64 0, .int .i64 0]) ?_ 1 _ rfl; (with_reducible repeat (first | refine blk_drewN ?_ _ | refine blk_drew ?_ | refine blk_alloc ?_ _)); refine blk_put (cs := #[.int .u8 0, .string (⟨#[]⟩ : ByteArray), .int .u64 0, .int .i64 0, .int .i64 0]) ?_ 0 _ rfl; (with_reducible repeat (first | refine blk_drewN ?_ _ | refine blk_drew ?_ | refine blk_alloc ?_ _)); exact BK240.out⟩
                                                  have n3_ : Aside0 (Below w.heap.size w (((((((w65.setCell ⟨gb240, 0, none⟩ (.int .u8 ((rd_T31 t201 x21_4).f0))).setCell ⟨gb240, 1, none⟩ (.string ((rd_T31 t201 x21_4).f1))).setCell ⟨gb240, 2, none⟩ (.int .u64 ((rd_T31 t201 x21_4).f2))).setCell ⟨gb240, 3, none⟩ (.int .i64 ((rd_T31 t201 x21_4).f3))).setCell ⟨gb240, 4, none⟩ (.int .i64 ((rd_T31 t201 x21_4).f4))).setCell ⟨gb240, 3, none⟩ (.int .i64 (wrap64 (((rd_T31 t201 x21_4).f3) + ((rdOf ByteArray.empty y228 t231).size : Int))))).setCell ⟨gb240, 4, none⟩ (.int .i64 (wrap64 (((rd_T31 t201 x21_4).f4) + ((rdOf ByteArray.empty y228 t231).size : Int)))))) := ⟨by repeat (first | (with_reducible first | exact HB.out | apply below_alloc | apply pw_below_drewN | apply below_drew1 | refine below_set ?_ GE240.out) | exact HB.out)⟩
                                                  (try clear HO_7)
                                                  (try clear HO_18)
                                                  (try clear BK240)
                                                  (try clear HB)
                                                  generalize (((((((w65.setCell ⟨gb240, 0, none⟩ (.int .u8 ((rd_T31 t201 x21_4).f0))).setCell ⟨gb240, 1, none⟩ (.string ((rd_T31 t201 x21_4).f1))).setCell ⟨gb240, 2, none⟩ (.int .u64 ((rd_T31 t201 x21_4).f2))).setCell ⟨gb240, 3, none⟩ (.int .i64 ((rd_T31 t201 x21_4).f3))).setCell ⟨gb240, 4, none⟩ (.int .i64 ((rd_T31 t201 x21_4).f4))).setCell ⟨gb240, 3, none⟩ (.int .i64 (wrap64 (((rd_T31 t201 x21_4).f3) + ((rdOf ByteArray.empty y228 t231).size : Int))))).setCell ⟨gb240, 4, none⟩ (.int .i64 (wrap64 (((rd_T31 t201 x21_4).f4) + ((rdOf ByteArray.empty y228 t231).size : Int))))) = w67 at n0_ n1_ n2_ n3_ ⊢
                                                  have HO_7 := n0_
                                                  have HO_18 := n1_
                                                  have BK240 := n2_
                                                  have HB := n3_
                                                  clear n0_ n1_ n2_ n3_
                                                  have n0_ := Aside0.mk (Kd.R_drew HO_7.out)
                                                  have n1_ := Aside0.mk (Kd.R_drew HO_18.out)
                                                  have n2_ := Aside0.mk (blk_drew BK240.out)
                                                  have n3_ := Aside0.mk (below_drew1 HB.out)
                                                  clear HO_7
                                                  clear HO_18
                                                  clear BK240
                                                  clear HB
                                                  have HO_7 := n0_
                                                  have HO_18 := n1_
                                                  have BK240 := n2_
                                                  have HB := n3_
                                                  clear n0_ n1_ n2_ n3_
                                                  obtain ⟨Ao69, co69, eo69⟩ := Kd.R_slice HO_18.out
                                                  (first | subst eo69 | (injection eo69 with f1_ f2_ f3_; have f4_ := f1_.symm; have f5_ := f3_.symm; clear f1_ f2_ f3_; subst f4_; subst f5_))
                                                  have p241 : 0 ≤ (x21_4 : Int) := of_decide_eq_true (by first | (with_reducible assumption) | assumption)
                                                  have q241 : x21_4 < (t233.length : Int) := of_decide_eq_true (by first | (with_reducible assumption) | assumption)
                                                  obtain ⟨ad241, e241, hx241_0, hx241_1, hx241_2, hx241_3, hx241_4⟩ := at_T31 (Kd.R_reads' HO_18.out).2.2 x21_4 p241 q241
                                                  cases e241
                                                  replace p241 := eq_true p241
                                                  replace q241 := eq_true q241
                                                  refine start_ (n := 6) (S := fun w' => w'.cell? ⟨gb240, 0, none⟩ = some (.int .u8 ((rd_T31 t201 x21_4).f0)) ∧ w'.cell? ⟨gb240, 1, none⟩ = some (.string ((rd_T31 t201 x21_4).f1)) ∧ w'.cell? ⟨gb240, 2, none⟩ = some (.int .u64 ((rd_T31 t201 x21_4).f2)) ∧ w'.cell? ⟨gb240, 3, none⟩ = some (.int .i64 (wrap64 (((rd_T31 t201 x21_4).f3) + ((rdOf ByteArray.empty y228 t231).size : Int)))) ∧ w'.cell? ⟨gb240, 4, none⟩ = some (.int .i64 (wrap64 (((rd_T31 t201 x21_4).f4) + ((rdOf ByteArray.empty y228 t231).size : Int)))) ∧ w'.cell? (ad241.add ((x21_4).toNat * 5)) = some (.int .u8 ((rd_T31 t233 x21_4).f0)) ∧ w'.cell? ⟨(ad241.add ((x21_4).toNat * 5)).block, (ad241.add ((x21_4).toNat * 5)).off + 1, none⟩ = some (.string ((rd_T31 t233 x21_4).f1)) ∧ w'.cell? ⟨(ad241.add ((x21_4).toNat * 5)).block, (ad241.add ((x21_4).toNat * 5)).off + 2, none⟩ = some (.int .u64 ((rd_T31 t233 x21_4).f2)) ∧ w'.cell? ⟨(ad241.add ((x21_4).toNat * 5)).block, (ad241.add ((x21_4).toNat * 5)).off + 3, none⟩ = some (.int .i64 ((rd_T31 t233 x21_4).f3)) ∧ w'.cell? ⟨(ad241.add ((x21_4).toNat * 5)).block, (ad241.add ((x21_4).toNat * 5)).off + 4, none⟩ = some (.int .i64 ((rd_T31 t233 x21_4).f4))) (ds := []) #[false, false, false, false, false, false] (by kernel_rfl) rfl rfl ⟨(blk_cell BK240.out 0).trans rfl, (blk_cell BK240.out 1).trans rfl, (blk_cell BK240.out 2).trans rfl, (blk_cell BK240.out 3).trans rfl, (blk_cell BK240.out 4).trans rfl, hx241_0, hx241_1, hx241_2, hx241_3, hx241_4⟩ (fun hHeld => ?_)
                                                  generalize w67.drew = w68 at HO_7 HO_18 BK240 HB hx241_0 hx241_1 hx241_2 hx241_3 hx241_4 hHeld ⊢
                                                  refine pure_ (i := 0) (N := some 225) (v := ?_) (a' := ?_) #[true, false, false, false, false, false] rfl rfl (by kernel_rfl) (fun _ _ _ h => h) (Or.inl ⟨by rfl, ?_⟩) ?_ ?_
                                                  rotate_left
                                                  · intro w'
                                                    go_simp
                                                    with_reducible rfl
                                                  rotate_left
                                                  · simp only [Act.put, List.setIfInBounds_toArray, List.set_cons_zero, List.set_cons_succ, i64_w, i32_w]
                                                    rfl
                                                  refine pure_ (i := 1) (N := some 226) (v := ?_) (a' := ?_) #[true, true, false, false, false, false] rfl rfl (by kernel_rfl) (fun _ _ _ h => h) (Or.inl ⟨by rfl, ?_⟩) ?_ ?_
                                                  rotate_left
                                                  · intro w'
                                                    go_simp
                                                    with_reducible rfl
                                                  rotate_left
                                                  · simp only [Act.put, List.setIfInBounds_toArray, List.set_cons_zero, List.set_cons_succ, i64_w, i32_w]
                                                    rfl
                                                  refine pure_ (i := 2) (N := some 227) (v := ?_) (a' := ?_) #[true, true, true, false, false, false] rfl rfl (by kernel_rfl) (fun _ _ _ h => h) (Or.inl ⟨by rfl, ?_⟩) ?_ ?_
                                                  rotate_left
                                                  · intro w'
                                                    go_simp
                                                    with_reducible rfl
                                                  rotate_left
                                                  · simp only [Act.put, List.setIfInBounds_toArray, List.set_cons_zero, List.set_cons_succ, i64_w, i32_w]
                                                    rfl
                                                  refine take_ (i := 3) (N := some 228) (v := ?_) (a' := ?_) #[true, true, true, true, false, false] rfl rfl (by kernel_rfl) (fun _ _ _ h => h) (Or.inl ⟨by rfl, ?_⟩) hHeld ?_ ?_
                                                  rotate_left
                                                  · rintro w' ⟨s0, s1, s2, s3, s4, s5, s6, s7, s8, s9⟩
                                                    go_simp
                                                    with_reducible rfl
                                                  rotate_left
                                                  · simp only [Act.put, List.setIfInBounds_toArray, List.set_cons_zero, List.set_cons_succ, i64_w, i32_w]
                                                    rfl
                                                  refine take_ (i := 4) (N := some 229) (v := ?_) (a' := ?_) #[true, true, true, true, true, false] rfl rfl (by kernel_rfl) (fun _ _ _ h => h) (Or.inl ⟨by rfl, ?_⟩) hHeld ?_ ?_
                                                  rotate_left
                                                  · rintro w' ⟨s0, s1, s2, s3, s4, s5, s6, s7, s8, s9⟩
                                                    go_simp
                                                    with_reducible rfl
                                                  rotate_left
                                                  · simp only [Act.put, List.setIfInBounds_toArray, List.set_cons_zero, List.set_cons_succ, i64_w, i32_w]
                                                    rfl
                                                  refine pure_ (i := 5) (N := some 230) (v := ?_) (a' := ?_) #[true, true, true, true, true, true] rfl rfl (by kernel_rfl) (fun _ _ _ h => h) (Or.inl ⟨by rfl, ?_⟩) ?_ ?_
                                                  rotate_left
                                                  · intro w'
                                                    go_simp
                                                    with_reducible rfl
                                                  rotate_left
                                                  · simp only [Act.put, List.setIfInBounds_toArray, List.set_cons_zero, List.set_cons_succ, i64_w, i32_w]
                                                    rfl
                                                  refine done_ (by kernel_rfl) ?_
                                                  try go_wp2
                                                  go_roundg k4
                                                  case measure => have := HK1.out; have := HJ36.out; have := HJ50.out; have := HK4.out; omega
                                                  case rel => exact ⟨(wrap64 (x21_4 + 1)), (by first | rfl | (simp; done) | (simp [*]; done)), H', ⟨by have := HK1.out; have := HJ36.out; have := HJ50.out; have := HK4.out; omega⟩, ⟨by (with_reducible repeat (first | apply Kd.R_alloc | apply Kd.R_drewN | apply Kd.R_drew)); exact Kd.R_mono HO_7.out (fun _ hk => hk.1)⟩, ⟨by (with_reducible repeat (first | apply Kd.R_alloc | apply Kd.R_drewN | apply Kd.R_drew)); exact Kd.R_mono HO_18.out (fun _ hk => hk.1)⟩, ⟨by repeat (first | (with_reducible first | exact HB.out | apply below_alloc | apply pw_below_drewN | apply below_drew1 | refine below_set ?_ GE240.out) | exact HB.out)⟩⟩
                                            · rw [if_neg c63] at H
                                              exact absurd H (by simp)
                                          · rw [if_neg c62] at H
                                            have c62b0 : decide (t226 ≤ x21_4) = false := decide_eq_false c62
                                            clear c62
                                            by_cases c70 : x21_4 < (t233.length : Int)
                                            · rw [if_pos c70] at H
                                              have c70b0 : decide (x21_4 < (t233.length : Int)) = true := decide_eq_true c70
                                              clear c70
                                              by_cases c71 : (!(((rd_T31 t233 x21_4).f0) == ((rd_T31 t201 x21_4).f0)) || (!((((rd_T31 t233 x21_4).f1).toList) == (((rd_T31 t201 x21_4).f1).toList)) || (!(((rd_T31 t233 x21_4).f2) == ((rd_T31 t201 x21_4).f2)) || (!(((rd_T31 t233 x21_4).f3) == ((rd_T31 t201 x21_4).f3)) || (!(((rd_T31 t233 x21_4).f4) == ((rd_T31 t201 x21_4).f4))))))) = true
                                              · rw [if_pos c71] at H
                                                exact absurd H (by simp)
                                              · rw [if_neg c71] at H
                                                have c71b0 : (!(((rd_T31 t233 x21_4).f0) == ((rd_T31 t201 x21_4).f0)) || (!((((rd_T31 t233 x21_4).f1).toList) == (((rd_T31 t201 x21_4).f1).toList)) || (!(((rd_T31 t233 x21_4).f2) == ((rd_T31 t201 x21_4).f2)) || (!(((rd_T31 t233 x21_4).f3) == ((rd_T31 t201 x21_4).f3)) || (!(((rd_T31 t233 x21_4).f4) == ((rd_T31 t201 x21_4).f4))))))) = false := by simpa using c71
                                                clear c71
                                                as_aux_lemma =>
                                                  have H' := Aside0.mk H
                                                  clear H
                                                  have p239 : 0 ≤ (x21_4 : Int) := of_decide_eq_true (by first | (with_reducible assumption) | assumption)
                                                  have q239 : x21_4 < (t201.length : Int) := of_decide_eq_true (by first | (with_reducible assumption) | assumption)
                                                  obtain ⟨ad239, e239, hx239_0, hx239_1, hx239_2, hx239_3, hx239_4⟩ := at_T31 (Kd.R_reads' HO_7.out).2.2 x21_4 p239 q239
                                                  cases e239
                                                  replace p239 := eq_true p239
                                                  replace q239 := eq_true q239
                                                  try go_wp2_with (first | ((with_reducible refine gate_dst (N := 22) rfl ?_); (try (refine gate_guard (by rfl) ?_; dsimp only)); refine box_event ?hg (N := 22) ?hd (cs := #[.int .u8 0, .string (⟨#[]⟩ : ByteArray), .int .u64 0, .int .i64 0, .int .i64 0]) (t := 31) ?hr ?_; (case hd => rfl); (case hg => rfl); (case hr => first | (go_simp; done) | (go_simp; rfl)); intro gb240 hg w72 hbox hb; have n0_ := Aside0.mk (Kd.R_below (Kd.R_elderB (by (with_reducible repeat (first | apply Kd.R_alloc | apply Kd.R_drewN | apply Kd.R_drew)); exact HO_7.out) gb240 (Nat.le_of_eq hg.symm)) hb); have n1_ := Aside0.mk (Kd.R_below (Kd.R_elderB (by (with_reducible repeat (first | apply Kd.R_alloc | apply Kd.R_drewN | apply Kd.R_drew)); exact HO_18.out) gb240 (Nat.le_of_eq hg.symm)) hb); have n2_ := Aside0.mk (below_step (by repeat (first | (with_reducible first | exact HB.out | apply below_alloc | apply pw_below_drewN | apply below_drew1) | exact HB.out)) hb); have n3_ := Aside0.mk (hbox); have n4_ := Aside0.mk ((by rw [hg]; exact (below_size (by repeat (first | (with_reducible first | exact HB.out | apply below_alloc | apply pw_below_drewN | apply below_drew1) | exact HB.out))) : w.heap.size ≤ gb240)); have n5_ := Aside0.mk ((by rw [hg]; exact (below_size (by repeat (first | (with_reducible first | exact HB.out | apply below_alloc | apply pw_below_drewN | apply below_drew1) | exact HB.out))) : w.heap.size ≤ gb240)); clear HO_7; clear HO_18; clear HB; have HO_7 := n0_; have HO_18 := n1_; have HB := n2_; have BK240 := n3_; have GW240 := n4_; have GE240 := n5_; clear n0_ n1_ n2_ n3_ n4_ n5_; clear hb hbox hg; have hcz73_0 : w72.cell? ⟨gb240, 0, none⟩ = some (.int .u8 0) := (blk_cell BK240.out 0).trans rfl; have hcz73_1 : w72.cell? ⟨gb240, 1, none⟩ = some (.string (⟨#[]⟩ : ByteArray)) := (blk_cell BK240.out 1).trans rfl; have hcz73_2 : w72.cell? ⟨gb240, 2, none⟩ = some (.int .u64 0) := (blk_cell BK240.out 2).trans rfl; have hcz73_3 : w72.cell? ⟨gb240, 3, none⟩ = some (.int .i64 0) := (blk_cell BK240.out 3).trans rfl; have hcz73_4 : w72.cell? ⟨gb240, 4, none⟩ = some (.int .i64 0) := (blk_cell BK240.out 4).trans rfl; have hfz73_0 := blk_frozen BK240.out 0; have hfz73_1 := blk_frozen BK240.out 1; have hfz73_2 := blk_frozen BK240.out 2; have hfz73_3 := blk_frozen BK240.out 3; have hfz73_4 := blk_frozen BK240.out 4))
                                                  have n0_ : Aside0 (Kd.R k31 31 (((((w72.setCell ⟨gb240, 0, none⟩ (.int .u8 ((rd_T31 t201 x21_4).f0))).setCell ⟨gb240, 1, none⟩ (.string ((rd_T31 t201 x21_4).f1))).setCell ⟨gb240, 2, none⟩ (.int .u64 ((rd_T31 t201 x21_4).f2))).setCell ⟨gb240, 3, none⟩ (.int .i64 ((rd_T31 t201 x21_4).f3))).setCell ⟨gb240, 4, none⟩ (.int .i64 ((rd_T31 t201 x21_4).f4))) w.heap.size (fun k_ => some k_ ≠ (v236 : Value).ownBlock ∧ k_ ≠ gb240) (.slice (some ad239) t201.length co38) t201) := ⟨by (with_reducible repeat (first | apply Kd.R_alloc | apply Kd.R_drewN | apply Kd.R_drew)); exact Kd.R_mono (Kd.R_far (p := ⟨gb240, 4, none⟩) (Kd.R_far (p := ⟨gb240, 3, none⟩) (Kd.R_far (p := ⟨gb240, 2, none⟩) (Kd.R_far (p := ⟨gb240, 1, none⟩) (Kd.R_far (p := ⟨gb240, 0, none⟩) (Kd.R_mono HO_7.out (fun k_ hk => (⟨hk, hk.2⟩ : _ ∧ k_ ≠ gb240))) (fun _ hk => hk.2) (.int .u8 ((rd_T31 t201 x21_4).f0))) (fun _ hk => hk.2) (.string ((rd_T31 t201 x21_4).f1))) (fun _ hk => hk.2) (.int .u64 ((rd_T31 t201 x21_4).f2))) (fun _ hk => hk.2) (.int .i64 ((rd_T31 t201 x21_4).f3))) (fun _ hk => hk.2) (.int .i64 ((rd_T31 t201 x21_4).f4))) (fun _ hk => ⟨hk.1.1, hk.1.2⟩)⟩
                                                  have n1_ : Aside0 (Kd.R k31 31 (((((w72.setCell ⟨gb240, 0, none⟩ (.int .u8 ((rd_T31 t201 x21_4).f0))).setCell ⟨gb240, 1, none⟩ (.string ((rd_T31 t201 x21_4).f1))).setCell ⟨gb240, 2, none⟩ (.int .u64 ((rd_T31 t201 x21_4).f2))).setCell ⟨gb240, 3, none⟩ (.int .i64 ((rd_T31 t201 x21_4).f3))).setCell ⟨gb240, 4, none⟩ (.int .i64 ((rd_T31 t201 x21_4).f4))) w.heap.size (fun k_ => some k_ ≠ (.slice (some ad239) t201.length co38 : Value).ownBlock ∧ k_ ≠ gb240) v236 t233) := ⟨by (with_reducible repeat (first | apply Kd.R_alloc | apply Kd.R_drewN | apply Kd.R_drew)); exact Kd.R_mono (Kd.R_far (p := ⟨gb240, 4, none⟩) (Kd.R_far (p := ⟨gb240, 3, none⟩) (Kd.R_far (p := ⟨gb240, 2, none⟩) (Kd.R_far (p := ⟨gb240, 1, none⟩) (Kd.R_far (p := ⟨gb240, 0, none⟩) (Kd.R_mono HO_18.out (fun k_ hk => (⟨hk, hk.2⟩ : _ ∧ k_ ≠ gb240))) (fun _ hk => hk.2) (.int .u8 ((rd_T31 t201 x21_4).f0))) (fun _ hk => hk.2) (.string ((rd_T31 t201 x21_4).f1))) (fun _ hk => hk.2) (.int .u64 ((rd_T31 t201 x21_4).f2))) (fun _ hk => hk.2) (.int .i64 ((rd_T31 t201 x21_4).f3))) (fun _ hk => hk.2) (.int .i64 ((rd_T31 t201 x21_4).f4))) (fun _ hk => ⟨hk.1.1, hk.1.2⟩)⟩
                                                  have n2_ : Aside0 ((((((w72.setCell ⟨gb240, 0, none⟩ (.int .u8 ((rd_T31 t201 x21_4).f0))).setCell ⟨gb240, 1, none⟩ (.string ((rd_T31 t201 x21_4).f1))).setCell ⟨gb240, 2, none⟩ (.int .u64 ((rd_T31 t201 x21_4).f2))).setCell ⟨gb240, 3, none⟩ (.int .i64 ((rd_T31 t201 x21_4).f3))).setCell ⟨gb240, 4, none⟩ (.int .i64 ((rd_T31 t201 x21_4).f4))).heap[gb240]? = some (.cells #[.int .u8 ((rd_T31 t201 x21_4).f0), .string ((rd_T31 t201 x21_4).f1), .int .u64 ((rd_T31 t201 x21_4).f2), .int .i64 ((rd_T31 t201 x21_4).f3), .int .i64 ((rd_T31 t201 x21_4).f4)] 31 (0, 0))) := ⟨by (with_reducible repeat (first | refine blk_drewN ?_ _ | refine blk_drew ?_ | refine blk_alloc ?_ _)); refine blk_put (cs := #[.int .u8 ((rd_T31 t201 x21_4).f0), .string ((rd_T31 t201 x21_4).f1), .int .u64 ((rd_T31 t201 x21_4).f2), .int .i64 ((rd_T31 t201 x21_4).f3), .int .i64 0]) ?_ 4 _ rfl; (with_reducible repeat (first | refine blk_drewN ?_ _ | refine blk_drew ?_ | refine blk_alloc ?_ _)); refine blk_put (cs := #[.int .u8 ((rd_T31 t201 x21_4).f0), .string ((rd_T31 t201 x21_4).f1), .int .u64 ((rd_T31 t201 x21_4).f2), .int .i64 0, .int .i64 0]) ?_ 3 _ rfl; (with_reducible repeat (first | refine blk_drewN ?_ _ | refine blk_drew ?_ | refine blk_alloc ?_ _)); refine blk_put (cs := #[.int .u8 ((rd_T31 t201 x21_4).f0), .string ((rd_T31 t201 x21_4).f1), .int .u64 0, .int .i64 0, .int .i64 0]) ?_ 2 _ rfl; (with_reducible repeat (first | refine blk_drewN ?_ _ | refine blk_drew ?_ | refine blk_alloc ?_ _)); refine blk_put (cs := #[.int .u8 ((rd_T31 t201 x21_4).f0), .string (⟨#[]⟩ : ByteArray), .int .u64 0, .int .i64 0, .int .i64 0]) ?_ 1 _ rfl; (with_reducible repeat (first | refine blk_drewN ?_ _ | refine blk_drew ?_ | refine blk_alloc ?_ _)); refine blk_put (cs := #[.int .u8 0, .string (⟨#[]⟩ : ByteArray), .int .u64 0, .int .i64 0, .int .i64 0]) ?_ 0 _ rfl; (with_reducible repeat (first | refine blk_drewN ?_ _ | refine blk_drew ?_ | refine blk_alloc ?_ _)); exact BK240.out⟩
                                                  have n3_ : Aside0 (Below w.heap.size w (((((w72.setCell ⟨gb240, 0, none⟩ (.int .u8 ((rd_T31 t201 x21_4).f0))).setCell ⟨gb240, 1, none⟩ (.string ((rd_T31 t201 x21_4).f1))).setCell ⟨gb240, 2, none⟩ (.int .u64 ((rd_T31 t201 x21_4).f2))).setCell ⟨gb240, 3, none⟩ (.int .i64 ((rd_T31 t201 x21_4).f3))).setCell ⟨gb240, 4, none⟩ (.int .i64 ((rd_T31 t201 x21_4).f4)))) := ⟨by repeat (first | (with_reducible first | exact HB.out | apply below_alloc | apply pw_below_drewN | apply below_drew1 | refine below_set ?_ GE240.out) | exact HB.out)⟩
                                                  (try clear HO_7)
                                                  (try clear HO_18)
                                                  (try clear BK240)
                                                  (try clear HB)
                                                  generalize (((((w72.setCell ⟨gb240, 0, none⟩ (.int .u8 ((rd_T31 t201 x21_4).f0))).setCell ⟨gb240, 1, none⟩ (.string ((rd_T31 t201 x21_4).f1))).setCell ⟨gb240, 2, none⟩ (.int .u64 ((rd_T31 t201 x21_4).f2))).setCell ⟨gb240, 3, none⟩ (.int .i64 ((rd_T31 t201 x21_4).f3))).setCell ⟨gb240, 4, none⟩ (.int .i64 ((rd_T31 t201 x21_4).f4))) = w74 at n0_ n1_ n2_ n3_ ⊢
                                                  have HO_7 := n0_
                                                  have HO_18 := n1_
                                                  have BK240 := n2_
                                                  have HB := n3_
                                                  clear n0_ n1_ n2_ n3_
                                                  have n0_ := Aside0.mk (Kd.R_drew HO_7.out)
                                                  have n1_ := Aside0.mk (Kd.R_drew HO_18.out)
                                                  have n2_ := Aside0.mk (blk_drew BK240.out)
                                                  have n3_ := Aside0.mk (below_drew1 HB.out)
                                                  clear HO_7
                                                  clear HO_18
                                                  clear BK240
                                                  clear HB
                                                  have HO_7 := n0_
                                                  have HO_18 := n1_
                                                  have BK240 := n2_
                                                  have HB := n3_
                                                  clear n0_ n1_ n2_ n3_
                                                  obtain ⟨Ao76, co76, eo76⟩ := Kd.R_slice HO_18.out
                                                  (first | subst eo76 | (injection eo76 with f1_ f2_ f3_; have f4_ := f1_.symm; have f5_ := f3_.symm; clear f1_ f2_ f3_; subst f4_; subst f5_))
                                                  have p242 : 0 ≤ (x21_4 : Int) := of_decide_eq_true (by first | (with_reducible assumption) | assumption)
                                                  have q242 : x21_4 < (t233.length : Int) := of_decide_eq_true (by first | (with_reducible assumption) | assumption)
                                                  obtain ⟨ad242, e242, hx242_0, hx242_1, hx242_2, hx242_3, hx242_4⟩ := at_T31 (Kd.R_reads' HO_18.out).2.2 x21_4 p242 q242
                                                  cases e242
                                                  replace p242 := eq_true p242
                                                  replace q242 := eq_true q242
                                                  refine start_ (n := 6) (S := fun w' => w'.cell? ⟨gb240, 0, none⟩ = some (.int .u8 ((rd_T31 t201 x21_4).f0)) ∧ w'.cell? ⟨gb240, 1, none⟩ = some (.string ((rd_T31 t201 x21_4).f1)) ∧ w'.cell? ⟨gb240, 2, none⟩ = some (.int .u64 ((rd_T31 t201 x21_4).f2)) ∧ w'.cell? ⟨gb240, 3, none⟩ = some (.int .i64 ((rd_T31 t201 x21_4).f3)) ∧ w'.cell? ⟨gb240, 4, none⟩ = some (.int .i64 ((rd_T31 t201 x21_4).f4)) ∧ w'.cell? (ad242.add ((x21_4).toNat * 5)) = some (.int .u8 ((rd_T31 t233 x21_4).f0)) ∧ w'.cell? ⟨(ad242.add ((x21_4).toNat * 5)).block, (ad242.add ((x21_4).toNat * 5)).off + 1, none⟩ = some (.string ((rd_T31 t233 x21_4).f1)) ∧ w'.cell? ⟨(ad242.add ((x21_4).toNat * 5)).block, (ad242.add ((x21_4).toNat * 5)).off + 2, none⟩ = some (.int .u64 ((rd_T31 t233 x21_4).f2)) ∧ w'.cell? ⟨(ad242.add ((x21_4).toNat * 5)).block, (ad242.add ((x21_4).toNat * 5)).off + 3, none⟩ = some (.int .i64 ((rd_T31 t233 x21_4).f3)) ∧ w'.cell? ⟨(ad242.add ((x21_4).toNat * 5)).block, (ad242.add ((x21_4).toNat * 5)).off + 4, none⟩ = some (.int .i64 ((rd_T31 t233 x21_4).f4))) (ds := []) #[false, false, false, false, false, false] (by kernel_rfl) rfl rfl ⟨(blk_cell BK240.out 0).trans rfl, (blk_cell BK240.out 1).trans rfl, (blk_cell BK240.out 2).trans rfl, (blk_cell BK240.out 3).trans rfl, (blk_cell BK240.out 4).trans rfl, hx242_0, hx242_1, hx242_2, hx242_3, hx242_4⟩ (fun hHeld => ?_)
                                                  generalize w74.drew = w75 at HO_7 HO_18 BK240 HB hx242_0 hx242_1 hx242_2 hx242_3 hx242_4 hHeld ⊢
                                                  refine pure_ (i := 0) (N := some 225) (v := ?_) (a' := ?_) #[true, false, false, false, false, false] rfl rfl (by kernel_rfl) (fun _ _ _ h => h) (Or.inl ⟨by rfl, ?_⟩) ?_ ?_
                                                  rotate_left
                                                  · intro w'
                                                    go_simp
                                                    with_reducible rfl
                                                  rotate_left
                                                  · simp only [Act.put, List.setIfInBounds_toArray, List.set_cons_zero, List.set_cons_succ, i64_w, i32_w]
                                                    rfl
                                                  refine pure_ (i := 1) (N := some 226) (v := ?_) (a' := ?_) #[true, true, false, false, false, false] rfl rfl (by kernel_rfl) (fun _ _ _ h => h) (Or.inl ⟨by rfl, ?_⟩) ?_ ?_
                                                  rotate_left
                                                  · intro w'
                                                    go_simp
                                                    with_reducible rfl
                                                  rotate_left
                                                  · simp only [Act.put, List.setIfInBounds_toArray, List.set_cons_zero, List.set_cons_succ, i64_w, i32_w]
                                                    rfl
                                                  refine pure_ (i := 2) (N := some 227) (v := ?_) (a' := ?_) #[true, true, true, false, false, false] rfl rfl (by kernel_rfl) (fun _ _ _ h => h) (Or.inl ⟨by rfl, ?_⟩) ?_ ?_
                                                  rotate_left
                                                  · intro w'
                                                    go_simp
                                                    with_reducible rfl
                                                  rotate_left
                                                  · simp only [Act.put, List.setIfInBounds_toArray, List.set_cons_zero, List.set_cons_succ, i64_w, i32_w]
                                                    rfl
                                                  refine take_ (i := 3) (N := some 228) (v := ?_) (a' := ?_) #[true, true, true, true, false, false] rfl rfl (by kernel_rfl) (fun _ _ _ h => h) (Or.inl ⟨by rfl, ?_⟩) hHeld ?_ ?_
                                                  rotate_left
                                                  · rintro w' ⟨s0, s1, s2, s3, s4, s5, s6, s7, s8, s9⟩
                                                    go_simp
                                                    with_reducible rfl
                                                  rotate_left
                                                  · simp only [Act.put, List.setIfInBounds_toArray, List.set_cons_zero, List.set_cons_succ, i64_w, i32_w]
                                                    rfl
                                                  refine take_ (i := 4) (N := some 229) (v := ?_) (a' := ?_) #[true, true, true, true, true, false] rfl rfl (by kernel_rfl) (fun _ _ _ h => h) (Or.inl ⟨by rfl, ?_⟩) hHeld ?_ ?_
                                                  rotate_left
                                                  · rintro w' ⟨s0, s1, s2, s3, s4, s5, s6, s7, s8, s9⟩
                                                    go_simp
                                                    with_reducible rfl
                                                  rotate_left
                                                  · simp only [Act.put, List.setIfInBounds_toArray, List.set_cons_zero, List.set_cons_succ, i64_w, i32_w]
                                                    rfl
                                                  refine pure_ (i := 5) (N := some 230) (v := ?_) (a' := ?_) #[true, true, true, true, true, true] rfl rfl (by kernel_rfl) (fun _ _ _ h => h) (Or.inl ⟨by rfl, ?_⟩) ?_ ?_
                                                  rotate_left
                                                  · intro w'
                                                    go_simp
                                                    with_reducible rfl
                                                  rotate_left
                                                  · simp only [Act.put, List.setIfInBounds_toArray, List.set_cons_zero, List.set_cons_succ, i64_w, i32_w]
                                                    rfl
                                                  refine done_ (by kernel_rfl) ?_
                                                  try go_wp2
                                                  go_roundg k4
                                                  case measure => have := HK1.out; have := HJ36.out; have := HJ50.out; have := HK4.out; omega
                                                  case rel => exact ⟨(wrap64 (x21_4 + 1)), (by first | rfl | (simp; done) | (simp [*]; done)), H', ⟨by have := HK1.out; have := HJ36.out; have := HJ50.out; have := HK4.out; omega⟩, ⟨by (with_reducible repeat (first | apply Kd.R_alloc | apply Kd.R_drewN | apply Kd.R_drew)); exact Kd.R_mono HO_7.out (fun _ hk => hk.1)⟩, ⟨by (with_reducible repeat (first | apply Kd.R_alloc | apply Kd.R_drewN | apply Kd.R_drew)); exact Kd.R_mono HO_18.out (fun _ hk => hk.1)⟩, ⟨by repeat (first | (with_reducible first | exact HB.out | apply below_alloc | apply pw_below_drewN | apply below_drew1 | refine below_set ?_ GE240.out) | exact HB.out)⟩⟩
                                            · rw [if_neg c70] at H
                                              exact absurd H (by simp)
                                        · rw [if_neg c61] at H
                                          exact absurd H (by simp)
                                      · rw [if_neg c60] at H
                                        have c60b0 : decide (x21_4 < (t201.length : Int)) = false := decide_eq_false c60
                                        clear c60
                                        replace H := Option.bind_eq_some_iff.mp H
                                        obtain ⟨t238, A770, H⟩ := H
                                        replace H : (some t238) = some r := H
                                        have A77 := Aside0.mk A770
                                        clear A770
                                        as_aux_lemma =>
                                          obtain rfl := Option.some.inj H
                                          go_wp2_with (first | ((with_reducible refine gate_callee (f := 13) rfl ?_); refine goesL_ (some 231) rfl rfl Try.func13 (by kernel_rfl) rfl #[] rfl (by (try simp only [List.map_toArray, List.map_cons, List.map_nil]); first | done | rfl | (simp only [List.length_drop, List.length_take]; rfl)) ?_; (with_reducible refine (trammellaw03_works.calls k4  t238 _ A77.out).mono ?_); rintro e w78 ⟨rfl, hb⟩; refine ⟨_, rfl, ?_⟩; have n0_ := Aside0.mk (Kd.R_below (by (with_reducible repeat (first | apply Kd.R_alloc | apply Kd.R_drewN | apply Kd.R_drew)); exact HO_7.out) hb); have n1_ := Aside0.mk (Kd.R_below (by (with_reducible repeat (first | apply Kd.R_alloc | apply Kd.R_drewN | apply Kd.R_drew)); exact HO_18.out) hb); have n2_ := Aside0.mk (below_step (by repeat (first | (with_reducible first | exact HB.out | apply below_alloc | apply pw_below_drewN | apply below_drew1) | exact HB.out)) hb); clear HO_7; clear HO_18; clear HB; have HO_7 := n0_; have HO_18 := n1_; have HB := n2_; clear n0_ n1_ n2_; (try clear hb); (try clear hb2); (try clear hk); (try clear hi)))
                                          go_ret
                                          exact ⟨by first | rfl | (simp [errW_none, errW_some] <;> rfl) | (simp [*, errW_none, errW_some] <;> rfl), by repeat (first | (with_reducible first | exact HB.out | apply below_alloc | apply pw_below_drewN | apply below_drew1) | exact HB.out)⟩
                          · rw [if_neg c49] at H
                            exact absurd H (by simp)
                        · rw [if_neg c46] at H
                          exact absurd H (by simp)
                      · rw [if_neg c45] at H
                        exact absurd H (by simp)
                    · rw [if_neg c44] at H
                      exact absurd H (by simp)
                  · rw [if_neg c43] at H
                    exact absurd H (by simp)
                · rw [if_neg c42] at H
                  exact absurd H (by simp)
    · rw [if_neg c6] at H
      have c6b0 : (t203 == 0) = false := beq_eq_false_iff_ne.mpr c6
      have c6b1 : (t203 != 0) = true := bne_iff_ne.mpr c6
      by_cases c79 : (t201.length : Int) = 0
      · rw [if_pos c79] at H
        have c79b0 : ((t201.length : Int) == 0) = true := beq_iff_eq.mpr c79
        have c79b1 : ((t201.length : Int) != 0) = false := bne_eq_false_iff_eq.mpr c79
        clear c79
        by_cases c80 : t202 ≥ 0
        · rw [if_pos c80] at H
          have c80b0 : decide (0 ≤ t202) = true := decide_eq_true c80
          clear c80
          by_cases c81 : t202 ≤ (a0.size : Int)
          · rw [if_pos c81] at H
            have c81b0 : decide (t202 ≤ (a0.size : Int)) = true := decide_eq_true c81
            clear c81
            replace H := Option.bind_eq_some_iff.mp H
            obtain ⟨t206, A820, H⟩ := H
            replace H : (some t206) = some r := H
            have A82 := Aside0.mk A820
            clear A820
            as_aux_lemma =>
              obtain rfl := Option.some.inj H
              go_enter Try.func7, Try.ntmps7
              go_wp2_with (first | ((with_reducible refine gate_callee (f := 18) rfl ?_); refine goesL_ (some 28) rfl rfl Try.func18 (by kernel_rfl) rfl #[.string a0] rfl (by (try simp only [List.map_toArray, List.map_cons, List.map_nil]); first | done | rfl | (simp only [List.length_drop, List.length_take]; rfl)) ?_; (with_reducible refine (lex_Tokens.calls a0 t201 t202 t203 _ A5.out).mono ?_); rintro e w83 ⟨v204, rfl, ho0, hb⟩; refine ⟨_, rfl, ?_⟩; have n0_ := Aside0.mk (Kd.R_lower ho0 (below_size (by repeat (first | (with_reducible first | exact HB.out | apply below_alloc | apply pw_below_drewN | apply below_drew1) | exact HB.out)))); have n1_ := Aside0.mk (below_step (by repeat (first | (with_reducible first | exact HB.out | apply below_alloc | apply pw_below_drewN | apply below_drew1) | exact HB.out)) hb); clear HB; have HO205 := n0_; have HB := n1_; clear n0_ n1_; (try clear hb); (try clear hb2); (try clear hk); (try clear hi); (try clear ho0); obtain ⟨Ao84, co84, eo84⟩ := Kd.R_slice HO205.out; subst eo84) | (go_at_call 13; (with_reducible refine (trammellaw03_works.calls k  t206 _ A82.out).mono ?_); rintro e w85 ⟨rfl, hb⟩; have n0_ := Aside0.mk (Kd.R_below (by (with_reducible repeat (first | apply Kd.R_alloc | apply Kd.R_drewN | apply Kd.R_drew)); exact HO205.out) hb); have n1_ := Aside0.mk (below_step (by repeat (first | (with_reducible first | exact HB.out | apply below_alloc | apply pw_below_drewN | apply below_drew1) | exact HB.out)) hb); clear HO205; clear HB; have HO205 := n0_; have HB := n1_; clear n0_ n1_; (try clear hb); (try clear hb2); (try clear hk); (try clear hi)))
              go_ret
              exact ⟨by first | rfl | (simp [errW_none, errW_some] <;> rfl) | (simp [*, errW_none, errW_some] <;> rfl), by repeat (first | (with_reducible first | exact HB.out | apply below_alloc | apply pw_below_drewN | apply below_drew1) | exact HB.out)⟩
          · rw [if_neg c81] at H
            exact absurd H (by simp)
        · rw [if_neg c80] at H
          exact absurd H (by simp)
      · rw [if_neg c79] at H
        exact absurd H (by simp)

/-- THE ONE PURE STATEMENT of trammellaw03_LexLies: yours. -/
theorem trammellaw03_LexLies.walk (P : trammellaw03_LexLies.Pure) (a0 : ByteArray) (a1 : Int) (a2 : Int) (w : World) (w0 : a0.size ≤ 140737488351232) (w1 : (Lit.int .i64 a1).wf = true) (w2 : (Lit.int .i64 a2).wf = true) :
    Calls Try.prog 7 #[.string a0, .int .i64 a1, .int .i64 a2] w fun e w' => e = .returned (.bool true) ∧ Below w.heap.size w w' := by
  obtain ⟨k, h⟩ := P a0 a1 a2 w0 w1 w2
  refine (trammellaw03_LexLies.calls k a0 a1 a2 true w h).mono ?_
  rintro e w' ⟨rfl, hd⟩
  exact ⟨rfl, hd⟩

end Go.Proofs.Ytmmilinbpimfaaa.PLexLies
