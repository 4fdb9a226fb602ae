/- Written by a program of this session's: functions that the law reaches, their walks, the row; no conditions beyond the statement's own. -/
import Derived.Test.YtmmilinbpimfaaaPLexBackx0
import Derived.Test.YtmmilinbpimfaaaPLexKnownx0
import Derived.Test.YtmmilinbpimfaaaPLexKnownx1
import Derived.Test.YtmmilinbpimfaaaPLexKnownx7
namespace Go.Proofs.Ytmmilinbpimfaaa.PLexBack
open Go.RowKit Go.Proofs.YtmmilinbpimfaaaW.PrintWords Go.Proofs.YtmmilinbpimfaaaW.PrintLast Go.Proofs.YtmmilinbpimfaaaW.PrintMore
open Go.Proofs.Ytmmilinbpimfaaa.PLexKnown Go.Proofs.Ytmmilinbpimfaaa.Given
attribute [local go_sem] max2_int min2_int max_two min_two max_three min_three max_four min_four   -- for this text's walks alone
set_option linter.unusedVariables false
set_option linter.unusedSimpArgs false

attribute [local go_sem high] eqA31
-- NOT PRINTED: function 61 (bytealg_IndexByteString)

-- NOT PRINTED: function 49 (stringslite_IndexByte)

-- NOT PRINTED: function 46 (lex_scanner_blanks)

-- NOT PRINTED: function 57 (lex_scanner_number)

-- NOT PRINTED: function 60 (abi_NoEscape)

-- NOT PRINTED: function 48 (strings_Builder_copyCheck)

-- NOT PRINTED: function 31 (strings_Builder_WriteByte)

-- NOT PRINTED: function 35 (strings_Builder_String)

-- NOT PRINTED: function 58 (lex_scanner_text)

-- NOT PRINTED: function 59 (lex_scanner_sign)

-- NOT PRINTED: function 47 (lex_scanner_next)

-- NOT PRINTED: function 30 (lex_scanner_each)

-- NOT PRINTED: function 34 (strings_Builder_WriteString)

/-! ### trammellaw03_works: function 13 -/
def trammellaw03_works.f (k : Nat)  : Option (Bool) := (lex_Tokens.f (⟨#[97, 49, 60, 61, 49, 50, 105, 56, 32, 47, 47, 32, 98]⟩ : ByteArray)).bind fun bt186 => ((lex_Tokens.f (⟨#[120, 32, 49, 50, 97]⟩ : ByteArray)).bind fun bt191 => (if bt186.2.2 = 0 then (if (bt186.1.length : Int) = 3 then (if 1 < (bt186.1.length : Int) then (if ((rd_T31 bt186.1 1).f1).toList = ([60, 61] : List UInt8) then (if 2 < (bt186.1.length : Int) then (if (((rd_T31 bt186.1 2).f0) == 2 && ((((rd_T31 bt186.1 2).f1).toList) == ([105, 56] : List UInt8) && (((rd_T31 bt186.1 2).f2) == 12 && (((rd_T31 bt186.1 2).f3) == 4 && (((rd_T31 bt186.1 2).f4) == 8))))) = true then (if bt191.2.2 = 33 then (if bt191.2.1 = 2 then ((lex_Quote.f (⟨#[10]⟩ : ByteArray)).bind fun t198 => (if t198.toList = ([34, 92, 110, 34] : List UInt8) then ((lex_Name.f k (⟨#[97, 98]⟩ : ByteArray)).bind fun t199 => (if t199 = true then ((lex_Kept.f k (⟨#[102, 110]⟩ : ByteArray)).bind fun t200 => (some t200)) else (some false))) else (some false))) else (some false)) else (some false)) else (some false)) else (none)) else (some false)) else (none)) else (some false)) else (some false)))
theorem trammellaw03_works.mono : ∀ k, LeO (trammellaw03_works.f k ) (trammellaw03_works.f (k + 1) ) := by
  intro  k
  unfold trammellaw03_works.f
  repeat' first
      | (with_reducible exact lex_Kept.mono _ _)
      | (with_reducible exact lex_Name.mono _ _)
      | (with_reducible exact LeO.refl _)
      | (with_reducible exact LeO.none _)
      | (with_reducible refine LeO.ite ?_ ?_)
      | (with_reducible refine LeO.bind ?_ (fun _ => ?_))
      | exact lex_Kept.mono _ _
      | exact lex_Name.mono _ _
      | exact LeO.none _
      | refine LeO.ite ?_ ?_
      | refine LeO.bind ?_ (fun _ => ?_)
set_option maxHeartbeats 8000000 in
set_option maxRecDepth 100000 in
theorem trammellaw03_works.calls (k : Nat)  (r : Bool) (w : World) (h : trammellaw03_works.f k  = some r) :
    Calls Try.prog 13 #[] w fun e w' => e = .returned (.bool r) ∧ Below w.heap.size w w' := by
  have hu31 := Try.underlying31
  have HB := Aside0.mk (Below.refl w.heap.size w)
  have H : ((lex_Tokens.f (⟨#[97, 49, 60, 61, 49, 50, 105, 56, 32, 47, 47, 32, 98]⟩ : ByteArray)).bind fun bt186 => ((lex_Tokens.f (⟨#[120, 32, 49, 50, 97]⟩ : ByteArray)).bind fun bt191 => (if bt186.2.2 = 0 then (if (bt186.1.length : Int) = 3 then (if 1 < (bt186.1.length : Int) then (if ((rd_T31 bt186.1 1).f1).toList = ([60, 61] : List UInt8) then (if 2 < (bt186.1.length : Int) then (if (((rd_T31 bt186.1 2).f0) == 2 && ((((rd_T31 bt186.1 2).f1).toList) == ([105, 56] : List UInt8) && (((rd_T31 bt186.1 2).f2) == 12 && (((rd_T31 bt186.1 2).f3) == 4 && (((rd_T31 bt186.1 2).f4) == 8))))) = true then (if bt191.2.2 = 33 then (if bt191.2.1 = 2 then ((lex_Quote.f (⟨#[10]⟩ : ByteArray)).bind fun t198 => (if t198.toList = ([34, 92, 110, 34] : List UInt8) then ((lex_Name.f k (⟨#[97, 98]⟩ : ByteArray)).bind fun t199 => (if t199 = true then ((lex_Kept.f k (⟨#[102, 110]⟩ : ByteArray)).bind fun t200 => (some t200)) else (some false))) else (some false))) else (some false)) else (some false)) else (some false)) else (none)) else (some false)) else (none)) else (some false)) else (some false)))) = some r := h
  clear h
  replace H := Option.bind_eq_some_iff.mp H
  obtain ⟨⟨t186, t187, t188⟩, A10, H⟩ := H
  replace H : ((lex_Tokens.f (⟨#[120, 32, 49, 50, 97]⟩ : ByteArray)).bind fun bt191 => (if t188 = 0 then (if (t186.length : Int) = 3 then (if 1 < (t186.length : Int) then (if ((rd_T31 t186 1).f1).toList = ([60, 61] : List UInt8) then (if 2 < (t186.length : Int) then (if (((rd_T31 t186 2).f0) == 2 && ((((rd_T31 t186 2).f1).toList) == ([105, 56] : List UInt8) && (((rd_T31 t186 2).f2) == 12 && (((rd_T31 t186 2).f3) == 4 && (((rd_T31 t186 2).f4) == 8))))) = true then (if bt191.2.2 = 33 then (if bt191.2.1 = 2 then ((lex_Quote.f (⟨#[10]⟩ : ByteArray)).bind fun t198 => (if t198.toList = ([34, 92, 110, 34] : List UInt8) then ((lex_Name.f k (⟨#[97, 98]⟩ : ByteArray)).bind fun t199 => (if t199 = true then ((lex_Kept.f k (⟨#[102, 110]⟩ : ByteArray)).bind fun t200 => (some t200)) else (some false))) else (some false))) else (some false)) else (some false)) else (some false)) else (none)) else (some false)) else (none)) else (some false)) else (some false))) = some r := H
  have A1 := Aside0.mk A10
  clear A10
  replace H := Option.bind_eq_some_iff.mp H
  obtain ⟨⟨t191, t192, t193⟩, A20, H⟩ := H
  replace H : (if t188 = 0 then (if (t186.length : Int) = 3 then (if 1 < (t186.length : Int) then (if ((rd_T31 t186 1).f1).toList = ([60, 61] : List UInt8) then (if 2 < (t186.length : Int) then (if (((rd_T31 t186 2).f0) == 2 && ((((rd_T31 t186 2).f1).toList) == ([105, 56] : List UInt8) && (((rd_T31 t186 2).f2) == 12 && (((rd_T31 t186 2).f3) == 4 && (((rd_T31 t186 2).f4) == 8))))) = true then (if t193 = 33 then (if t192 = 2 then ((lex_Quote.f (⟨#[10]⟩ : ByteArray)).bind fun t198 => (if t198.toList = ([34, 92, 110, 34] : List UInt8) then ((lex_Name.f k (⟨#[97, 98]⟩ : ByteArray)).bind fun t199 => (if t199 = true then ((lex_Kept.f k (⟨#[102, 110]⟩ : ByteArray)).bind fun t200 => (some t200)) else (some false))) else (some false))) else (some false)) else (some false)) else (some false)) else (none)) else (some false)) else (none)) else (some false)) else (some false)) = some r := H
  have A2 := Aside0.mk A20
  clear A20
  by_cases c3 : t188 = 0
  · rw [if_pos c3] at H
    have c3b0 : (t188 == 0) = true := beq_iff_eq.mpr c3
    have c3b1 : (t188 != 0) = false := bne_eq_false_iff_eq.mpr c3
    clear c3
    by_cases c4 : (t186.length : Int) = 3
    · rw [if_pos c4] at H
      have c4b0 : ((t186.length : Int) == 3) = true := beq_iff_eq.mpr c4
      have c4b1 : ((t186.length : Int) != 3) = false := bne_eq_false_iff_eq.mpr c4
      clear c4
      by_cases c5 : 1 < (t186.length : Int)
      · rw [if_pos c5] at H
        have c5b0 : decide (1 < (t186.length : Int)) = true := decide_eq_true c5
        have c5b1 : decide (1 < t186.length) = true := decide_eq_true (by omega)
        clear c5
        by_cases c6 : ((rd_T31 t186 1).f1).toList = ([60, 61] : List UInt8)
        · rw [if_pos c6] at H
          have c6b0 : (((rd_T31 t186 1).f1).toList == ([60, 61] : List UInt8)) = true := beq_iff_eq.mpr c6
          have c6b1 : (((rd_T31 t186 1).f1).toList != ([60, 61] : List UInt8)) = false := bne_eq_false_iff_eq.mpr c6
          clear c6
          by_cases c7 : 2 < (t186.length : Int)
          · rw [if_pos c7] at H
            have c7b0 : decide (2 < (t186.length : Int)) = true := decide_eq_true c7
            have c7b1 : decide (2 < t186.length) = true := decide_eq_true (by omega)
            clear c7
            by_cases c8 : (((rd_T31 t186 2).f0) == 2 && ((((rd_T31 t186 2).f1).toList) == ([105, 56] : List UInt8) && (((rd_T31 t186 2).f2) == 12 && (((rd_T31 t186 2).f3) == 4 && (((rd_T31 t186 2).f4) == 8))))) = true
            · rw [if_pos c8] at H
              have c8b0 : (((rd_T31 t186 2).f0) == 2 && ((((rd_T31 t186 2).f1).toList) == ([105, 56] : List UInt8) && (((rd_T31 t186 2).f2) == 12 && (((rd_T31 t186 2).f3) == 4 && (((rd_T31 t186 2).f4) == 8))))) = true := c8
              (try (have c8b1 : decide (((rd_T31 t186 2).f0) = 2 && ((((rd_T31 t186 2).f1).toList) == ([105, 56] : List UInt8) && (((rd_T31 t186 2).f2) == 12 && (((rd_T31 t186 2).f3) == 4 && (((rd_T31 t186 2).f4) == 8))))) = true := by simpa using c8))
              (try (have c8b2 : (((rd_T31 t186 2).f0) == 2 && ((((rd_T31 t186 2).f1).toList) == ([105, 56] : List UInt8) && (((rd_T31 t186 2).f2) == 12 && (((rd_T31 t186 2).f3) == 4 && (((rd_T31 t186 2).f4) == 8))))) = true := by simpa using c8))
              clear c8
              by_cases c9 : t193 = 33
              · rw [if_pos c9] at H
                have c9b0 : (t193 == 33) = true := beq_iff_eq.mpr c9
                have c9b1 : (t193 != 33) = false := bne_eq_false_iff_eq.mpr c9
                clear c9
                by_cases c10 : t192 = 2
                · rw [if_pos c10] at H
                  have c10b0 : (t192 == 2) = true := beq_iff_eq.mpr c10
                  have c10b1 : (t192 != 2) = false := bne_eq_false_iff_eq.mpr c10
                  clear c10
                  replace H := Option.bind_eq_some_iff.mp H
                  obtain ⟨t198, A110, H⟩ := H
                  replace H : (if t198.toList = ([34, 92, 110, 34] : List UInt8) then ((lex_Name.f k (⟨#[97, 98]⟩ : ByteArray)).bind fun t199 => (if t199 = true then ((lex_Kept.f k (⟨#[102, 110]⟩ : ByteArray)).bind fun t200 => (some t200)) else (some false))) else (some false)) = some r := H
                  have A11 := Aside0.mk A110
                  clear A110
                  by_cases c12 : t198.toList = ([34, 92, 110, 34] : List UInt8)
                  · rw [if_pos c12] at H
                    have c12b0 : (t198.toList == ([34, 92, 110, 34] : List UInt8)) = true := beq_iff_eq.mpr c12
                    have c12b1 : (t198.toList != ([34, 92, 110, 34] : List UInt8)) = false := bne_eq_false_iff_eq.mpr c12
                    clear c12
                    replace H := Option.bind_eq_some_iff.mp H
                    obtain ⟨t199, A130, H⟩ := H
                    replace H : (if t199 = true then ((lex_Kept.f k (⟨#[102, 110]⟩ : ByteArray)).bind fun t200 => (some t200)) else (some false)) = some r := H
                    have A13 := Aside0.mk A130
                    clear A130
                    by_cases c14 : t199 = true
                    · subst c14
                      (try (have e_ := Option.some.inj (A1.out.symm.trans A13.out); subst e_))
                      (try (have e_ := Option.some.inj (A2.out.symm.trans A13.out); subst e_))
                      (try (have e_ := Option.some.inj (A11.out.symm.trans A13.out); subst e_))
                      have H1 : ((lex_Kept.f k (⟨#[102, 110]⟩ : ByteArray)).bind fun t200 => (some t200)) = some r := by rw [if_pos rfl] at H; exact H
                      clear H
                      have H := H1
                      clear H1
                      replace H := Option.bind_eq_some_iff.mp H
                      obtain ⟨t200, A150, H⟩ := H
                      replace H : (some t200) = some r := H
                      have A15 := Aside0.mk A150
                      clear A150
                      obtain rfl := Option.some.inj H
                      go_enter Try.func13, Try.ntmps13
                      go_wp2_with (first | ((with_reducible refine gate_callee (f := 18) rfl ?_); refine goesL_ (some 8) rfl rfl Try.func18 (by kernel_rfl) rfl #[.string (⟨#[97, 49, 60, 61, 49, 50, 105, 56, 32, 47, 47, 32, 98]⟩ : ByteArray)] rfl (by (try simp only [List.map_toArray, List.map_cons, List.map_nil]); first | done | rfl | (simp only [List.length_drop, List.length_take]; rfl)) ?_; (with_reducible refine (lex_Tokens.calls (⟨#[97, 49, 60, 61, 49, 50, 105, 56, 32, 47, 47, 32, 98]⟩ : ByteArray) t186 t187 t188 _ A1.out).mono ?_); rintro e w16 ⟨v189, rfl, ho0, hb⟩; refine ⟨_, rfl, ?_⟩; have n0_ := Aside0.mk (Kd.R_lower ho0 (below_size (by repeat (first | (with_reducible first | exact HB.out | apply below_alloc | apply pw_below_drewN | apply below_drew1) | exact HB.out)))); have n1_ := Aside0.mk (below_step (by repeat (first | (with_reducible first | exact HB.out | apply below_alloc | apply pw_below_drewN | apply below_drew1) | exact HB.out)) hb); clear HB; have HO190 := n0_; have HB := n1_; clear n0_ n1_; (try clear hb); (try clear hb2); (try clear hk); (try clear hi); (try clear ho0)) | ((with_reducible refine gate_callee (f := 18) rfl ?_); refine goesL_ (some 13) rfl rfl Try.func18 (by kernel_rfl) rfl #[.string (⟨#[120, 32, 49, 50, 97]⟩ : ByteArray)] rfl (by (try simp only [List.map_toArray, List.map_cons, List.map_nil]); first | done | rfl | (simp only [List.length_drop, List.length_take]; rfl)) ?_; (with_reducible refine (lex_Tokens.calls (⟨#[120, 32, 49, 50, 97]⟩ : ByteArray) t191 t192 t193 _ A2.out).mono ?_); rintro e w17 ⟨v194, rfl, ho0, hb⟩; refine ⟨_, rfl, ?_⟩; have n0_ := Aside0.mk (Kd.R_elder' (by (with_reducible repeat (first | apply Kd.R_alloc | apply Kd.R_drewN | apply Kd.R_drew)); exact HO190.out) (Kd.R_base ho0) hb); have n1_ := Aside0.mk (Kd.R_lower (Kd.R_new' ho0 (Kd.R_lt (by (with_reducible repeat (first | apply Kd.R_alloc | apply Kd.R_drewN | apply Kd.R_drew)); exact HO190.out))) (below_size (by repeat (first | (with_reducible first | exact HB.out | apply below_alloc | apply pw_below_drewN | apply below_drew1) | exact HB.out)))); have n2_ := Aside0.mk (below_step (by repeat (first | (with_reducible first | exact HB.out | apply below_alloc | apply pw_below_drewN | apply below_drew1) | exact HB.out)) hb); clear HO190; clear HB; have HO190 := n0_; have HO195 := n1_; have HB := n2_; clear n0_ n1_ n2_; (try clear hb); (try clear hb2); (try clear hk); (try clear hi); (try clear ho0); obtain ⟨Ao18, co18, eo18⟩ := Kd.R_slice HO190.out; subst eo18; have p196 : 0 ≤ (1 : Int) := (by omega); have q196 : 1 < (t186.length : Int) := of_decide_eq_true (by first | (with_reducible assumption) | assumption); obtain ⟨ad196, e196, hx196_0, hx196_1, hx196_2, hx196_3, hx196_4⟩ := at_T31 (Kd.R_reads' HO190.out).2.2 1 p196 q196; cases e196; (try simp only [show (1 : Int).toNat = 1 from rfl, Nat.reduceMul, Nat.reduceEqDiff, Go.Addr.add, ↓reduceIte] at hx196_0); (try simp only [show (1 : Int).toNat = 1 from rfl, Nat.reduceMul, Nat.reduceEqDiff, Go.Addr.add, ↓reduceIte] at hx196_1); (try simp only [show (1 : Int).toNat = 1 from rfl, Nat.reduceMul, Nat.reduceEqDiff, Go.Addr.add, ↓reduceIte] at hx196_2); (try simp only [show (1 : Int).toNat = 1 from rfl, Nat.reduceMul, Nat.reduceEqDiff, Go.Addr.add, ↓reduceIte] at hx196_3); (try simp only [show (1 : Int).toNat = 1 from rfl, Nat.reduceMul, Nat.reduceEqDiff, Go.Addr.add, ↓reduceIte] at hx196_4); have qi196 : (1 < t186.length) = True := eq_true (by omega); (try rw [show ((1 : Int)).toNat = 1 from rfl] at hx196_0); (try rw [show 1 * 5 = 5 from rfl] at hx196_0); (try rw [show ((1 : Int)).toNat = 1 from rfl] at hx196_1); (try rw [show 1 * 5 = 5 from rfl] at hx196_1); (try rw [show ((1 : Int)).toNat = 1 from rfl] at hx196_2); (try rw [show 1 * 5 = 5 from rfl] at hx196_2); (try rw [show ((1 : Int)).toNat = 1 from rfl] at hx196_3); (try rw [show 1 * 5 = 5 from rfl] at hx196_3); (try rw [show ((1 : Int)).toNat = 1 from rfl] at hx196_4); (try rw [show 1 * 5 = 5 from rfl] at hx196_4); replace p196 := eq_true p196; replace q196 := eq_true q196; have p197 : 0 ≤ (2 : Int) := (by omega); have q197 : 2 < (t186.length : Int) := of_decide_eq_true (by first | (with_reducible assumption) | assumption); obtain ⟨ad197, e197, hx197_0, hx197_1, hx197_2, hx197_3, hx197_4⟩ := at_T31 (Kd.R_reads' HO190.out).2.2 2 p197 q197; obtain rfl : ad196 = ad197 := (by injection e197); (try simp only [show (2 : Int).toNat = 2 from rfl, Nat.reduceMul, Nat.reduceEqDiff, Go.Addr.add, ↓reduceIte] at hx197_0); (try simp only [show (2 : Int).toNat = 2 from rfl, Nat.reduceMul, Nat.reduceEqDiff, Go.Addr.add, ↓reduceIte] at hx197_1); (try simp only [show (2 : Int).toNat = 2 from rfl, Nat.reduceMul, Nat.reduceEqDiff, Go.Addr.add, ↓reduceIte] at hx197_2); (try simp only [show (2 : Int).toNat = 2 from rfl, Nat.reduceMul, Nat.reduceEqDiff, Go.Addr.add, ↓reduceIte] at hx197_3); (try simp only [show (2 : Int).toNat = 2 from rfl, Nat.reduceMul, Nat.reduceEqDiff, Go.Addr.add, ↓reduceIte] at hx197_4); have qi197 : (2 < t186.length) = True := eq_true (by omega); (try rw [show ((2 : Int)).toNat = 2 from rfl] at hx197_0); (try rw [show 2 * 5 = 10 from rfl] at hx197_0); (try rw [show ((2 : Int)).toNat = 2 from rfl] at hx197_1); (try rw [show 2 * 5 = 10 from rfl] at hx197_1); (try rw [show ((2 : Int)).toNat = 2 from rfl] at hx197_2); (try rw [show 2 * 5 = 10 from rfl] at hx197_2); (try rw [show ((2 : Int)).toNat = 2 from rfl] at hx197_3); (try rw [show 2 * 5 = 10 from rfl] at hx197_3); (try rw [show ((2 : Int)).toNat = 2 from rfl] at hx197_4); (try rw [show 2 * 5 = 10 from rfl] at hx197_4); replace p197 := eq_true p197; replace q197 := eq_true q197) | (go_at_call 21; (with_reducible refine (lex_Quote.calls (⟨#[10]⟩ : ByteArray) t198 _ A11.out).mono ?_); rintro e w19 ⟨rfl, hb⟩; have n0_ := Aside0.mk (Kd.R_below (by (with_reducible repeat (first | apply Kd.R_alloc | apply Kd.R_drewN | apply Kd.R_drew)); exact HO190.out) hb); have n1_ := Aside0.mk (Kd.R_below (by (with_reducible repeat (first | apply Kd.R_alloc | apply Kd.R_drewN | apply Kd.R_drew)); exact HO195.out) hb); have n2_ := Aside0.mk (below_step (by repeat (first | (with_reducible first | exact HB.out | apply below_alloc | apply pw_below_drewN | apply below_drew1) | exact HB.out)) hb); clear HO190; clear HO195; clear HB; have HO190 := n0_; have HO195 := n1_; have HB := n2_; clear n0_ n1_ n2_; (try clear hb); (try clear hb2); (try clear hk); (try clear hi)) | (go_at_call 23; (with_reducible refine (lex_Name.calls k (⟨#[97, 98]⟩ : ByteArray) true _ A13.out).mono ?_); rintro e w20 ⟨rfl, hb⟩; have n0_ := Aside0.mk (Kd.R_below (by (with_reducible repeat (first | apply Kd.R_alloc | apply Kd.R_drewN | apply Kd.R_drew)); exact HO190.out) hb); have n1_ := Aside0.mk (Kd.R_below (by (with_reducible repeat (first | apply Kd.R_alloc | apply Kd.R_drewN | apply Kd.R_drew)); exact HO195.out) hb); have n2_ := Aside0.mk (below_step (by repeat (first | (with_reducible first | exact HB.out | apply below_alloc | apply pw_below_drewN | apply below_drew1) | exact HB.out)) hb); clear HO190; clear HO195; clear HB; have HO190 := n0_; have HO195 := n1_; have HB := n2_; clear n0_ n1_ n2_; (try clear hb); (try clear hb2); (try clear hk); (try clear hi)) | (go_at_call 25; (with_reducible refine (lex_Kept.calls k (⟨#[102, 110]⟩ : ByteArray) t200 _ A15.out).mono ?_); rintro e w21 ⟨rfl, hb⟩; have n0_ := Aside0.mk (Kd.R_below (by (with_reducible repeat (first | apply Kd.R_alloc | apply Kd.R_drewN | apply Kd.R_drew)); exact HO190.out) hb); have n1_ := Aside0.mk (Kd.R_below (by (with_reducible repeat (first | apply Kd.R_alloc | apply Kd.R_drewN | apply Kd.R_drew)); exact HO195.out) hb); have n2_ := Aside0.mk (below_step (by repeat (first | (with_reducible first | exact HB.out | apply below_alloc | apply pw_below_drewN | apply below_drew1) | exact HB.out)) hb); clear HO190; clear HO195; clear HB; have HO190 := n0_; have HO195 := n1_; have HB := n2_; clear n0_ n1_ n2_; (try clear hb); (try clear hb2); (try clear hk); (try clear hi)))
                      go_ret
                      exact ⟨by first | rfl | (simp [errW_none, errW_some] <;> rfl) | (simp [*, errW_none, errW_some] <;> rfl), by repeat (first | (with_reducible first | exact HB.out | apply below_alloc | apply pw_below_drewN | apply below_drew1) | exact HB.out)⟩
                    · replace c14 := Bool.eq_false_iff.mpr c14
                      subst c14
                      (try (have e_ := Option.some.inj (A1.out.symm.trans A15.out); subst e_))
                      (try (have e_ := Option.some.inj (A2.out.symm.trans A15.out); subst e_))
                      (try (have e_ := Option.some.inj (A11.out.symm.trans A15.out); subst e_))
                      (try (have e_ := Option.some.inj (A13.out.symm.trans A15.out); subst e_))
                      have H1 : (some false) = some r := by rw [if_neg (show ¬ (false = true) by decide)] at H; exact H
                      clear H
                      have H := H1
                      clear H1
                      obtain rfl := Option.some.inj H
                      go_enter Try.func13, Try.ntmps13
                      go_wp2_with (first | ((with_reducible refine gate_callee (f := 18) rfl ?_); refine goesL_ (some 8) rfl rfl Try.func18 (by kernel_rfl) rfl #[.string (⟨#[97, 49, 60, 61, 49, 50, 105, 56, 32, 47, 47, 32, 98]⟩ : ByteArray)] rfl (by (try simp only [List.map_toArray, List.map_cons, List.map_nil]); first | done | rfl | (simp only [List.length_drop, List.length_take]; rfl)) ?_; (with_reducible refine (lex_Tokens.calls (⟨#[97, 49, 60, 61, 49, 50, 105, 56, 32, 47, 47, 32, 98]⟩ : ByteArray) t186 t187 t188 _ A1.out).mono ?_); rintro e w22 ⟨v189, rfl, ho0, hb⟩; refine ⟨_, rfl, ?_⟩; have n0_ := Aside0.mk (Kd.R_lower ho0 (below_size (by repeat (first | (with_reducible first | exact HB.out | apply below_alloc | apply pw_below_drewN | apply below_drew1) | exact HB.out)))); have n1_ := Aside0.mk (below_step (by repeat (first | (with_reducible first | exact HB.out | apply below_alloc | apply pw_below_drewN | apply below_drew1) | exact HB.out)) hb); clear HB; have HO190 := n0_; have HB := n1_; clear n0_ n1_; (try clear hb); (try clear hb2); (try clear hk); (try clear hi); (try clear ho0)) | ((with_reducible refine gate_callee (f := 18) rfl ?_); refine goesL_ (some 13) rfl rfl Try.func18 (by kernel_rfl) rfl #[.string (⟨#[120, 32, 49, 50, 97]⟩ : ByteArray)] rfl (by (try simp only [List.map_toArray, List.map_cons, List.map_nil]); first | done | rfl | (simp only [List.length_drop, List.length_take]; rfl)) ?_; (with_reducible refine (lex_Tokens.calls (⟨#[120, 32, 49, 50, 97]⟩ : ByteArray) t191 t192 t193 _ A2.out).mono ?_); rintro e w23 ⟨v194, rfl, ho0, hb⟩; refine ⟨_, rfl, ?_⟩; have n0_ := Aside0.mk (Kd.R_elder' (by (with_reducible repeat (first | apply Kd.R_alloc | apply Kd.R_drewN | apply Kd.R_drew)); exact HO190.out) (Kd.R_base ho0) hb); have n1_ := Aside0.mk (Kd.R_lower (Kd.R_new' ho0 (Kd.R_lt (by (with_reducible repeat (first | apply Kd.R_alloc | apply Kd.R_drewN | apply Kd.R_drew)); exact HO190.out))) (below_size (by repeat (first | (with_reducible first | exact HB.out | apply below_alloc | apply pw_below_drewN | apply below_drew1) | exact HB.out)))); have n2_ := Aside0.mk (below_step (by repeat (first | (with_reducible first | exact HB.out | apply below_alloc | apply pw_below_drewN | apply below_drew1) | exact HB.out)) hb); clear HO190; clear HB; have HO190 := n0_; have HO195 := n1_; have HB := n2_; clear n0_ n1_ n2_; (try clear hb); (try clear hb2); (try clear hk); (try clear hi); (try clear ho0); obtain ⟨Ao24, co24, eo24⟩ := Kd.R_slice HO190.out; subst eo24; have p196 : 0 ≤ (1 : Int) := (by omega); have q196 : 1 < (t186.length : Int) := of_decide_eq_true (by first | (with_reducible assumption) | assumption); obtain ⟨ad196, e196, hx196_0, hx196_1, hx196_2, hx196_3, hx196_4⟩ := at_T31 (Kd.R_reads' HO190.out).2.2 1 p196 q196; cases e196; (try simp only [show (1 : Int).toNat = 1 from rfl, Nat.reduceMul, Nat.reduceEqDiff, Go.Addr.add, ↓reduceIte] at hx196_0); (try simp only [show (1 : Int).toNat = 1 from rfl, Nat.reduceMul, Nat.reduceEqDiff, Go.Addr.add, ↓reduceIte] at hx196_1); (try simp only [show (1 : Int).toNat = 1 from rfl, Nat.reduceMul, Nat.reduceEqDiff, Go.Addr.add, ↓reduceIte] at hx196_2); (try simp only [show (1 : Int).toNat = 1 from rfl, Nat.reduceMul, Nat.reduceEqDiff, Go.Addr.add, ↓reduceIte] at hx196_3); (try simp only [show (1 : Int).toNat = 1 from rfl, Nat.reduceMul, Nat.reduceEqDiff, Go.Addr.add, ↓reduceIte] at hx196_4); have qi196 : (1 < t186.length) = True := eq_true (by omega); (try rw [show ((1 : Int)).toNat = 1 from rfl] at hx196_0); (try rw [show 1 * 5 = 5 from rfl] at hx196_0); (try rw [show ((1 : Int)).toNat = 1 from rfl] at hx196_1); (try rw [show 1 * 5 = 5 from rfl] at hx196_1); (try rw [show ((1 : Int)).toNat = 1 from rfl] at hx196_2); (try rw [show 1 * 5 = 5 from rfl] at hx196_2); (try rw [show ((1 : Int)).toNat = 1 from rfl] at hx196_3); (try rw [show 1 * 5 = 5 from rfl] at hx196_3); (try rw [show ((1 : Int)).toNat = 1 from rfl] at hx196_4); (try rw [show 1 * 5 = 5 from rfl] at hx196_4); replace p196 := eq_true p196; replace q196 := eq_true q196; have p197 : 0 ≤ (2 : Int) := (by omega); have q197 : 2 < (t186.length : Int) := of_decide_eq_true (by first | (with_reducible assumption) | assumption); obtain ⟨ad197, e197, hx197_0, hx197_1, hx197_2, hx197_3, hx197_4⟩ := at_T31 (Kd.R_reads' HO190.out).2.2 2 p197 q197; obtain rfl : ad196 = ad197 := (by injection e197); (try simp only [show (2 : Int).toNat = 2 from rfl, Nat.reduceMul, Nat.reduceEqDiff, Go.Addr.add, ↓reduceIte] at hx197_0); (try simp only [show (2 : Int).toNat = 2 from rfl, Nat.reduceMul, Nat.reduceEqDiff, Go.Addr.add, ↓reduceIte] at hx197_1); (try simp only [show (2 : Int).toNat = 2 from rfl, Nat.reduceMul, Nat.reduceEqDiff, Go.Addr.add, ↓reduceIte] at hx197_2); (try simp only [show (2 : Int).toNat = 2 from rfl, Nat.reduceMul, Nat.reduceEqDiff, Go.Addr.add, ↓reduceIte] at hx197_3); (try simp only [show (2 : Int).toNat = 2 from rfl, Nat.reduceMul, Nat.reduceEqDiff, Go.Addr.add, ↓reduceIte] at hx197_4); have qi197 : (2 < t186.length) = True := eq_true (by omega); (try rw [show ((2 : Int)).toNat = 2 from rfl] at hx197_0); (try rw [show 2 * 5 = 10 from rfl] at hx197_0); (try rw [show ((2 : Int)).toNat = 2 from rfl] at hx197_1); (try rw [show 2 * 5 = 10 from rfl] at hx197_1); (try rw [show ((2 : Int)).toNat = 2 from rfl] at hx197_2); (try rw [show 2 * 5 = 10 from rfl] at hx197_2); (try rw [show ((2 : Int)).toNat = 2 from rfl] at hx197_3); (try rw [show 2 * 5 = 10 from rfl] at hx197_3); (try rw [show ((2 : Int)).toNat = 2 from rfl] at hx197_4); (try rw [show 2 * 5 = 10 from rfl] at hx197_4); replace p197 := eq_true p197; replace q197 := eq_true q197) | (go_at_call 21; (with_reducible refine (lex_Quote.calls (⟨#[10]⟩ : ByteArray) t198 _ A11.out).mono ?_); rintro e w25 ⟨rfl, hb⟩; have n0_ := Aside0.mk (Kd.R_below (by (with_reducible repeat (first | apply Kd.R_alloc | apply Kd.R_drewN | apply Kd.R_drew)); exact HO190.out) hb); have n1_ := Aside0.mk (Kd.R_below (by (with_reducible repeat (first | apply Kd.R_alloc | apply Kd.R_drewN | apply Kd.R_drew)); exact HO195.out) hb); have n2_ := Aside0.mk (below_step (by repeat (first | (with_reducible first | exact HB.out | apply below_alloc | apply pw_below_drewN | apply below_drew1) | exact HB.out)) hb); clear HO190; clear HO195; clear HB; have HO190 := n0_; have HO195 := n1_; have HB := n2_; clear n0_ n1_ n2_; (try clear hb); (try clear hb2); (try clear hk); (try clear hi)) | (go_at_call 23; (with_reducible refine (lex_Name.calls k (⟨#[97, 98]⟩ : ByteArray) false _ A13.out).mono ?_); rintro e w26 ⟨rfl, hb⟩; have n0_ := Aside0.mk (Kd.R_below (by (with_reducible repeat (first | apply Kd.R_alloc | apply Kd.R_drewN | apply Kd.R_drew)); exact HO190.out) hb); have n1_ := Aside0.mk (Kd.R_below (by (with_reducible repeat (first | apply Kd.R_alloc | apply Kd.R_drewN | apply Kd.R_drew)); exact HO195.out) hb); have n2_ := Aside0.mk (below_step (by repeat (first | (with_reducible first | exact HB.out | apply below_alloc | apply pw_below_drewN | apply below_drew1) | exact HB.out)) hb); clear HO190; clear HO195; clear HB; have HO190 := n0_; have HO195 := n1_; have HB := n2_; clear n0_ n1_ n2_; (try clear hb); (try clear hb2); (try clear hk); (try clear hi)))
                      go_ret
                      exact ⟨by first | rfl | (simp [errW_none, errW_some] <;> rfl) | (simp [*, errW_none, errW_some] <;> rfl), by repeat (first | (with_reducible first | exact HB.out | apply below_alloc | apply pw_below_drewN | apply below_drew1) | exact HB.out)⟩
                  · rw [if_neg c12] at H
                    have c12b0 : (t198.toList == ([34, 92, 110, 34] : List UInt8)) = false := beq_eq_false_iff_ne.mpr c12
                    have c12b1 : (t198.toList != ([34, 92, 110, 34] : List UInt8)) = true := bne_iff_ne.mpr c12
                    obtain rfl := Option.some.inj H
                    go_enter Try.func13, Try.ntmps13
                    go_wp2_with (first | ((with_reducible refine gate_callee (f := 18) rfl ?_); refine goesL_ (some 8) rfl rfl Try.func18 (by kernel_rfl) rfl #[.string (⟨#[97, 49, 60, 61, 49, 50, 105, 56, 32, 47, 47, 32, 98]⟩ : ByteArray)] rfl (by (try simp only [List.map_toArray, List.map_cons, List.map_nil]); first | done | rfl | (simp only [List.length_drop, List.length_take]; rfl)) ?_; (with_reducible refine (lex_Tokens.calls (⟨#[97, 49, 60, 61, 49, 50, 105, 56, 32, 47, 47, 32, 98]⟩ : ByteArray) t186 t187 t188 _ A1.out).mono ?_); rintro e w27 ⟨v189, rfl, ho0, hb⟩; refine ⟨_, rfl, ?_⟩; have n0_ := Aside0.mk (Kd.R_lower ho0 (below_size (by repeat (first | (with_reducible first | exact HB.out | apply below_alloc | apply pw_below_drewN | apply below_drew1) | exact HB.out)))); have n1_ := Aside0.mk (below_step (by repeat (first | (with_reducible first | exact HB.out | apply below_alloc | apply pw_below_drewN | apply below_drew1) | exact HB.out)) hb); clear HB; have HO190 := n0_; have HB := n1_; clear n0_ n1_; (try clear hb); (try clear hb2); (try clear hk); (try clear hi); (try clear ho0)) | ((with_reducible refine gate_callee (f := 18) rfl ?_); refine goesL_ (some 13) rfl rfl Try.func18 (by kernel_rfl) rfl #[.string (⟨#[120, 32, 49, 50, 97]⟩ : ByteArray)] rfl (by (try simp only [List.map_toArray, List.map_cons, List.map_nil]); first | done | rfl | (simp only [List.length_drop, List.length_take]; rfl)) ?_; (with_reducible refine (lex_Tokens.calls (⟨#[120, 32, 49, 50, 97]⟩ : ByteArray) t191 t192 t193 _ A2.out).mono ?_); rintro e w28 ⟨v194, rfl, ho0, hb⟩; refine ⟨_, rfl, ?_⟩; have n0_ := Aside0.mk (Kd.R_elder' (by (with_reducible repeat (first | apply Kd.R_alloc | apply Kd.R_drewN | apply Kd.R_drew)); exact HO190.out) (Kd.R_base ho0) hb); have n1_ := Aside0.mk (Kd.R_lower (Kd.R_new' ho0 (Kd.R_lt (by (with_reducible repeat (first | apply Kd.R_alloc | apply Kd.R_drewN | apply Kd.R_drew)); exact HO190.out))) (below_size (by repeat (first | (with_reducible first | exact HB.out | apply below_alloc | apply pw_below_drewN | apply below_drew1) | exact HB.out)))); have n2_ := Aside0.mk (below_step (by repeat (first | (with_reducible first | exact HB.out | apply below_alloc | apply pw_below_drewN | apply below_drew1) | exact HB.out)) hb); clear HO190; clear HB; have HO190 := n0_; have HO195 := n1_; have HB := n2_; clear n0_ n1_ n2_; (try clear hb); (try clear hb2); (try clear hk); (try clear hi); (try clear ho0); obtain ⟨Ao29, co29, eo29⟩ := Kd.R_slice HO190.out; subst eo29; have p196 : 0 ≤ (1 : Int) := (by omega); have q196 : 1 < (t186.length : Int) := of_decide_eq_true (by first | (with_reducible assumption) | assumption); obtain ⟨ad196, e196, hx196_0, hx196_1, hx196_2, hx196_3, hx196_4⟩ := at_T31 (Kd.R_reads' HO190.out).2.2 1 p196 q196; cases e196; (try simp only [show (1 : Int).toNat = 1 from rfl, Nat.reduceMul, Nat.reduceEqDiff, Go.Addr.add, ↓reduceIte] at hx196_0); (try simp only [show (1 : Int).toNat = 1 from rfl, Nat.reduceMul, Nat.reduceEqDiff, Go.Addr.add, ↓reduceIte] at hx196_1); (try simp only [show (1 : Int).toNat = 1 from rfl, Nat.reduceMul, Nat.reduceEqDiff, Go.Addr.add, ↓reduceIte] at hx196_2); (try simp only [show (1 : Int).toNat = 1 from rfl, Nat.reduceMul, Nat.reduceEqDiff, Go.Addr.add, ↓reduceIte] at hx196_3); (try simp only [show (1 : Int).toNat = 1 from rfl, Nat.reduceMul, Nat.reduceEqDiff, Go.Addr.add, ↓reduceIte] at hx196_4); have qi196 : (1 < t186.length) = True := eq_true (by omega); (try rw [show ((1 : Int)).toNat = 1 from rfl] at hx196_0); (try rw [show 1 * 5 = 5 from rfl] at hx196_0); (try rw [show ((1 : Int)).toNat = 1 from rfl] at hx196_1); (try rw [show 1 * 5 = 5 from rfl] at hx196_1); (try rw [show ((1 : Int)).toNat = 1 from rfl] at hx196_2); (try rw [show 1 * 5 = 5 from rfl] at hx196_2); (try rw [show ((1 : Int)).toNat = 1 from rfl] at hx196_3); (try rw [show 1 * 5 = 5 from rfl] at hx196_3); (try rw [show ((1 : Int)).toNat = 1 from rfl] at hx196_4); (try rw [show 1 * 5 = 5 from rfl] at hx196_4); replace p196 := eq_true p196; replace q196 := eq_true q196; have p197 : 0 ≤ (2 : Int) := (by omega); have q197 : 2 < (t186.length : Int) := of_decide_eq_true (by first | (with_reducible assumption) | assumption); obtain ⟨ad197, e197, hx197_0, hx197_1, hx197_2, hx197_3, hx197_4⟩ := at_T31 (Kd.R_reads' HO190.out).2.2 2 p197 q197; obtain rfl : ad196 = ad197 := (by injection e197); (try simp only [show (2 : Int).toNat = 2 from rfl, Nat.reduceMul, Nat.reduceEqDiff, Go.Addr.add, ↓reduceIte] at hx197_0); (try simp only [show (2 : Int).toNat = 2 from rfl, Nat.reduceMul, Nat.reduceEqDiff, Go.Addr.add, ↓reduceIte] at hx197_1); (try simp only [show (2 : Int).toNat = 2 from rfl, Nat.reduceMul, Nat.reduceEqDiff, Go.Addr.add, ↓reduceIte] at hx197_2); (try simp only [show (2 : Int).toNat = 2 from rfl, Nat.reduceMul, Nat.reduceEqDiff, Go.Addr.add, ↓reduceIte] at hx197_3); (try simp only [show (2 : Int).toNat = 2 from rfl, Nat.reduceMul, Nat.reduceEqDiff, Go.Addr.add, ↓reduceIte] at hx197_4); have qi197 : (2 < t186.length) = True := eq_true (by omega); (try rw [show ((2 : Int)).toNat = 2 from rfl] at hx197_0); (try rw [show 2 * 5 = 10 from rfl] at hx197_0); (try rw [show ((2 : Int)).toNat = 2 from rfl] at hx197_1); (try rw [show 2 * 5 = 10 from rfl] at hx197_1); (try rw [show ((2 : Int)).toNat = 2 from rfl] at hx197_2); (try rw [show 2 * 5 = 10 from rfl] at hx197_2); (try rw [show ((2 : Int)).toNat = 2 from rfl] at hx197_3); (try rw [show 2 * 5 = 10 from rfl] at hx197_3); (try rw [show ((2 : Int)).toNat = 2 from rfl] at hx197_4); (try rw [show 2 * 5 = 10 from rfl] at hx197_4); replace p197 := eq_true p197; replace q197 := eq_true q197) | (go_at_call 21; (with_reducible refine (lex_Quote.calls (⟨#[10]⟩ : ByteArray) t198 _ A11.out).mono ?_); rintro e w30 ⟨rfl, hb⟩; have n0_ := Aside0.mk (Kd.R_below (by (with_reducible repeat (first | apply Kd.R_alloc | apply Kd.R_drewN | apply Kd.R_drew)); exact HO190.out) hb); have n1_ := Aside0.mk (Kd.R_below (by (with_reducible repeat (first | apply Kd.R_alloc | apply Kd.R_drewN | apply Kd.R_drew)); exact HO195.out) hb); have n2_ := Aside0.mk (below_step (by repeat (first | (with_reducible first | exact HB.out | apply below_alloc | apply pw_below_drewN | apply below_drew1) | exact HB.out)) hb); clear HO190; clear HO195; clear HB; have HO190 := n0_; have HO195 := n1_; have HB := n2_; clear n0_ n1_ n2_; (try clear hb); (try clear hb2); (try clear hk); (try clear hi)))
                    go_ret
                    exact ⟨by first | rfl | (simp [errW_none, errW_some] <;> rfl) | (simp [*, errW_none, errW_some] <;> rfl), by repeat (first | (with_reducible first | exact HB.out | apply below_alloc | apply pw_below_drewN | apply below_drew1) | exact HB.out)⟩
                · rw [if_neg c10] at H
                  have c10b0 : (t192 == 2) = false := beq_eq_false_iff_ne.mpr c10
                  have c10b1 : (t192 != 2) = true := bne_iff_ne.mpr c10
                  obtain rfl := Option.some.inj H
                  go_enter Try.func13, Try.ntmps13
                  go_wp2_with (first | ((with_reducible refine gate_callee (f := 18) rfl ?_); refine goesL_ (some 8) rfl rfl Try.func18 (by kernel_rfl) rfl #[.string (⟨#[97, 49, 60, 61, 49, 50, 105, 56, 32, 47, 47, 32, 98]⟩ : ByteArray)] rfl (by (try simp only [List.map_toArray, List.map_cons, List.map_nil]); first | done | rfl | (simp only [List.length_drop, List.length_take]; rfl)) ?_; (with_reducible refine (lex_Tokens.calls (⟨#[97, 49, 60, 61, 49, 50, 105, 56, 32, 47, 47, 32, 98]⟩ : ByteArray) t186 t187 t188 _ A1.out).mono ?_); rintro e w31 ⟨v189, rfl, ho0, hb⟩; refine ⟨_, rfl, ?_⟩; have n0_ := Aside0.mk (Kd.R_lower ho0 (below_size (by repeat (first | (with_reducible first | exact HB.out | apply below_alloc | apply pw_below_drewN | apply below_drew1) | exact HB.out)))); have n1_ := Aside0.mk (below_step (by repeat (first | (with_reducible first | exact HB.out | apply below_alloc | apply pw_below_drewN | apply below_drew1) | exact HB.out)) hb); clear HB; have HO190 := n0_; have HB := n1_; clear n0_ n1_; (try clear hb); (try clear hb2); (try clear hk); (try clear hi); (try clear ho0)) | ((with_reducible refine gate_callee (f := 18) rfl ?_); refine goesL_ (some 13) rfl rfl Try.func18 (by kernel_rfl) rfl #[.string (⟨#[120, 32, 49, 50, 97]⟩ : ByteArray)] rfl (by (try simp only [List.map_toArray, List.map_cons, List.map_nil]); first | done | rfl | (simp only [List.length_drop, List.length_take]; rfl)) ?_; (with_reducible refine (lex_Tokens.calls (⟨#[120, 32, 49, 50, 97]⟩ : ByteArray) t191 t192 t193 _ A2.out).mono ?_); rintro e w32 ⟨v194, rfl, ho0, hb⟩; refine ⟨_, rfl, ?_⟩; have n0_ := Aside0.mk (Kd.R_elder' (by (with_reducible repeat (first | apply Kd.R_alloc | apply Kd.R_drewN | apply Kd.R_drew)); exact HO190.out) (Kd.R_base ho0) hb); have n1_ := Aside0.mk (Kd.R_lower (Kd.R_new' ho0 (Kd.R_lt (by (with_reducible repeat (first | apply Kd.R_alloc | apply Kd.R_drewN | apply Kd.R_drew)); exact HO190.out))) (below_size (by repeat (first | (with_reducible first | exact HB.out | apply below_alloc | apply pw_below_drewN | apply below_drew1) | exact HB.out)))); have n2_ := Aside0.mk (below_step (by repeat (first | (with_reducible first | exact HB.out | apply below_alloc | apply pw_below_drewN | apply below_drew1) | exact HB.out)) hb); clear HO190; clear HB; have HO190 := n0_; have HO195 := n1_; have HB := n2_; clear n0_ n1_ n2_; (try clear hb); (try clear hb2); (try clear hk); (try clear hi); (try clear ho0); obtain ⟨Ao33, co33, eo33⟩ := Kd.R_slice HO190.out; subst eo33; have p196 : 0 ≤ (1 : Int) := (by omega); have q196 : 1 < (t186.length : Int) := of_decide_eq_true (by first | (with_reducible assumption) | assumption); obtain ⟨ad196, e196, hx196_0, hx196_1, hx196_2, hx196_3, hx196_4⟩ := at_T31 (Kd.R_reads' HO190.out).2.2 1 p196 q196; cases e196; (try simp only [show (1 : Int).toNat = 1 from rfl, Nat.reduceMul, Nat.reduceEqDiff, Go.Addr.add, ↓reduceIte] at hx196_0); (try simp only [show (1 : Int).toNat = 1 from rfl, Nat.reduceMul, Nat.reduceEqDiff, Go.Addr.add, ↓reduceIte] at hx196_1); (try simp only [show (1 : Int).toNat = 1 from rfl, Nat.reduceMul, Nat.reduceEqDiff, Go.Addr.add, ↓reduceIte] at hx196_2); (try simp only [show (1 : Int).toNat = 1 from rfl, Nat.reduceMul, Nat.reduceEqDiff, Go.Addr.add, ↓reduceIte] at hx196_3); (try simp only [show (1 : Int).toNat = 1 from rfl, Nat.reduceMul, Nat.reduceEqDiff, Go.Addr.add, ↓reduceIte] at hx196_4); have qi196 : (1 < t186.length) = True := eq_true (by omega); (try rw [show ((1 : Int)).toNat = 1 from rfl] at hx196_0); (try rw [show 1 * 5 = 5 from rfl] at hx196_0); (try rw [show ((1 : Int)).toNat = 1 from rfl] at hx196_1); (try rw [show 1 * 5 = 5 from rfl] at hx196_1); (try rw [show ((1 : Int)).toNat = 1 from rfl] at hx196_2); (try rw [show 1 * 5 = 5 from rfl] at hx196_2); (try rw [show ((1 : Int)).toNat = 1 from rfl] at hx196_3); (try rw [show 1 * 5 = 5 from rfl] at hx196_3); (try rw [show ((1 : Int)).toNat = 1 from rfl] at hx196_4); (try rw [show 1 * 5 = 5 from rfl] at hx196_4); replace p196 := eq_true p196; replace q196 := eq_true q196; have p197 : 0 ≤ (2 : Int) := (by omega); have q197 : 2 < (t186.length : Int) := of_decide_eq_true (by first | (with_reducible assumption) | assumption); obtain ⟨ad197, e197, hx197_0, hx197_1, hx197_2, hx197_3, hx197_4⟩ := at_T31 (Kd.R_reads' HO190.out).2.2 2 p197 q197; obtain rfl : ad196 = ad197 := (by injection e197); (try simp only [show (2 : Int).toNat = 2 from rfl, Nat.reduceMul, Nat.reduceEqDiff, Go.Addr.add, ↓reduceIte] at hx197_0); (try simp only [show (2 : Int).toNat = 2 from rfl, Nat.reduceMul, Nat.reduceEqDiff, Go.Addr.add, ↓reduceIte] at hx197_1); (try simp only [show (2 : Int).toNat = 2 from rfl, Nat.reduceMul, Nat.reduceEqDiff, Go.Addr.add, ↓reduceIte] at hx197_2); (try simp only [show (2 : Int).toNat = 2 from rfl, Nat.reduceMul, Nat.reduceEqDiff, Go.Addr.add, ↓reduceIte] at hx197_3); (try simp only [show (2 : Int).toNat = 2 from rfl, Nat.reduceMul, Nat.reduceEqDiff, Go.Addr.add, ↓reduceIte] at hx197_4); have qi197 : (2 < t186.length) = True := eq_true (by omega); (try rw [show ((2 : Int)).toNat = 2 from rfl] at hx197_0); (try rw [show 2 * 5 = 10 from rfl] at hx197_0); (try rw [show ((2 : Int)).toNat = 2 from rfl] at hx197_1); (try rw [show 2 * 5 = 10 from rfl] at hx197_1); (try rw [show ((2 : Int)).toNat = 2 from rfl] at hx197_2); (try rw [show 2 * 5 = 10 from rfl] at hx197_2); (try rw [show ((2 : Int)).toNat = 2 from rfl] at hx197_3); (try rw [show 2 * 5 = 10 from rfl] at hx197_3); (try rw [show ((2 : Int)).toNat = 2 from rfl] at hx197_4); (try rw [show 2 * 5 = 10 from rfl] at hx197_4); replace p197 := eq_true p197; replace q197 := eq_true q197))
                  go_ret
                  exact ⟨by first | rfl | (simp [errW_none, errW_some] <;> rfl) | (simp [*, errW_none, errW_some] <;> rfl), by repeat (first | (with_reducible first | exact HB.out | apply below_alloc | apply pw_below_drewN | apply below_drew1) | exact HB.out)⟩
              · rw [if_neg c9] at H
                have c9b0 : (t193 == 33) = false := beq_eq_false_iff_ne.mpr c9
                have c9b1 : (t193 != 33) = true := bne_iff_ne.mpr c9
                obtain rfl := Option.some.inj H
                go_enter Try.func13, Try.ntmps13
                go_wp2_with (first | ((with_reducible refine gate_callee (f := 18) rfl ?_); refine goesL_ (some 8) rfl rfl Try.func18 (by kernel_rfl) rfl #[.string (⟨#[97, 49, 60, 61, 49, 50, 105, 56, 32, 47, 47, 32, 98]⟩ : ByteArray)] rfl (by (try simp only [List.map_toArray, List.map_cons, List.map_nil]); first | done | rfl | (simp only [List.length_drop, List.length_take]; rfl)) ?_; (with_reducible refine (lex_Tokens.calls (⟨#[97, 49, 60, 61, 49, 50, 105, 56, 32, 47, 47, 32, 98]⟩ : ByteArray) t186 t187 t188 _ A1.out).mono ?_); rintro e w34 ⟨v189, rfl, ho0, hb⟩; refine ⟨_, rfl, ?_⟩; have n0_ := Aside0.mk (Kd.R_lower ho0 (below_size (by repeat (first | (with_reducible first | exact HB.out | apply below_alloc | apply pw_below_drewN | apply below_drew1) | exact HB.out)))); have n1_ := Aside0.mk (below_step (by repeat (first | (with_reducible first | exact HB.out | apply below_alloc | apply pw_below_drewN | apply below_drew1) | exact HB.out)) hb); clear HB; have HO190 := n0_; have HB := n1_; clear n0_ n1_; (try clear hb); (try clear hb2); (try clear hk); (try clear hi); (try clear ho0)) | ((with_reducible refine gate_callee (f := 18) rfl ?_); refine goesL_ (some 13) rfl rfl Try.func18 (by kernel_rfl) rfl #[.string (⟨#[120, 32, 49, 50, 97]⟩ : ByteArray)] rfl (by (try simp only [List.map_toArray, List.map_cons, List.map_nil]); first | done | rfl | (simp only [List.length_drop, List.length_take]; rfl)) ?_; (with_reducible refine (lex_Tokens.calls (⟨#[120, 32, 49, 50, 97]⟩ : ByteArray) t191 t192 t193 _ A2.out).mono ?_); rintro e w35 ⟨v194, rfl, ho0, hb⟩; refine ⟨_, rfl, ?_⟩; have n0_ := Aside0.mk (Kd.R_elder' (by (with_reducible repeat (first | apply Kd.R_alloc | apply Kd.R_drewN | apply Kd.R_drew)); exact HO190.out) (Kd.R_base ho0) hb); have n1_ := Aside0.mk (Kd.R_lower (Kd.R_new' ho0 (Kd.R_lt (by (with_reducible repeat (first | apply Kd.R_alloc | apply Kd.R_drewN | apply Kd.R_drew)); exact HO190.out))) (below_size (by repeat (first | (with_reducible first | exact HB.out | apply below_alloc | apply pw_below_drewN | apply below_drew1) | exact HB.out)))); have n2_ := Aside0.mk (below_step (by repeat (first | (with_reducible first | exact HB.out | apply below_alloc | apply pw_below_drewN | apply below_drew1) | exact HB.out)) hb); clear HO190; clear HB; have HO190 := n0_; have HO195 := n1_; have HB := n2_; clear n0_ n1_ n2_; (try clear hb); (try clear hb2); (try clear hk); (try clear hi); (try clear ho0); obtain ⟨Ao36, co36, eo36⟩ := Kd.R_slice HO190.out; subst eo36; have p196 : 0 ≤ (1 : Int) := (by omega); have q196 : 1 < (t186.length : Int) := of_decide_eq_true (by first | (with_reducible assumption) | assumption); obtain ⟨ad196, e196, hx196_0, hx196_1, hx196_2, hx196_3, hx196_4⟩ := at_T31 (Kd.R_reads' HO190.out).2.2 1 p196 q196; cases e196; (try simp only [show (1 : Int).toNat = 1 from rfl, Nat.reduceMul, Nat.reduceEqDiff, Go.Addr.add, ↓reduceIte] at hx196_0); (try simp only [show (1 : Int).toNat = 1 from rfl, Nat.reduceMul, Nat.reduceEqDiff, Go.Addr.add, ↓reduceIte] at hx196_1); (try simp only [show (1 : Int).toNat = 1 from rfl, Nat.reduceMul, Nat.reduceEqDiff, Go.Addr.add, ↓reduceIte] at hx196_2); (try simp only [show (1 : Int).toNat = 1 from rfl, Nat.reduceMul, Nat.reduceEqDiff, Go.Addr.add, ↓reduceIte] at hx196_3); (try simp only [show (1 : Int).toNat = 1 from rfl, Nat.reduceMul, Nat.reduceEqDiff, Go.Addr.add, ↓reduceIte] at hx196_4); have qi196 : (1 < t186.length) = True := eq_true (by omega); (try rw [show ((1 : Int)).toNat = 1 from rfl] at hx196_0); (try rw [show 1 * 5 = 5 from rfl] at hx196_0); (try rw [show ((1 : Int)).toNat = 1 from rfl] at hx196_1); (try rw [show 1 * 5 = 5 from rfl] at hx196_1); (try rw [show ((1 : Int)).toNat = 1 from rfl] at hx196_2); (try rw [show 1 * 5 = 5 from rfl] at hx196_2); (try rw [show ((1 : Int)).toNat = 1 from rfl] at hx196_3); (try rw [show 1 * 5 = 5 from rfl] at hx196_3); (try rw [show ((1 : Int)).toNat = 1 from rfl] at hx196_4); (try rw [show 1 * 5 = 5 from rfl] at hx196_4); replace p196 := eq_true p196; replace q196 := eq_true q196; have p197 : 0 ≤ (2 : Int) := (by omega); have q197 : 2 < (t186.length : Int) := of_decide_eq_true (by first | (with_reducible assumption) | assumption); obtain ⟨ad197, e197, hx197_0, hx197_1, hx197_2, hx197_3, hx197_4⟩ := at_T31 (Kd.R_reads' HO190.out).2.2 2 p197 q197; obtain rfl : ad196 = ad197 := (by injection e197); (try simp only [show (2 : Int).toNat = 2 from rfl, Nat.reduceMul, Nat.reduceEqDiff, Go.Addr.add, ↓reduceIte] at hx197_0); (try simp only [show (2 : Int).toNat = 2 from rfl, Nat.reduceMul, Nat.reduceEqDiff, Go.Addr.add, ↓reduceIte] at hx197_1); (try simp only [show (2 : Int).toNat = 2 from rfl, Nat.reduceMul, Nat.reduceEqDiff, Go.Addr.add, ↓reduceIte] at hx197_2); (try simp only [show (2 : Int).toNat = 2 from rfl, Nat.reduceMul, Nat.reduceEqDiff, Go.Addr.add, ↓reduceIte] at hx197_3); (try simp only [show (2 : Int).toNat = 2 from rfl, Nat.reduceMul, Nat.reduceEqDiff, Go.Addr.add, ↓reduceIte] at hx197_4); have qi197 : (2 < t186.length) = True := eq_true (by omega); (try rw [show ((2 : Int)).toNat = 2 from rfl] at hx197_0); (try rw [show 2 * 5 = 10 from rfl] at hx197_0); (try rw [show ((2 : Int)).toNat = 2 from rfl] at hx197_1); (try rw [show 2 * 5 = 10 from rfl] at hx197_1); (try rw [show ((2 : Int)).toNat = 2 from rfl] at hx197_2); (try rw [show 2 * 5 = 10 from rfl] at hx197_2); (try rw [show ((2 : Int)).toNat = 2 from rfl] at hx197_3); (try rw [show 2 * 5 = 10 from rfl] at hx197_3); (try rw [show ((2 : Int)).toNat = 2 from rfl] at hx197_4); (try rw [show 2 * 5 = 10 from rfl] at hx197_4); replace p197 := eq_true p197; replace q197 := eq_true q197))
                go_ret
                exact ⟨by first | rfl | (simp [errW_none, errW_some] <;> rfl) | (simp [*, errW_none, errW_some] <;> rfl), by repeat (first | (with_reducible first | exact HB.out | apply below_alloc | apply pw_below_drewN | apply below_drew1) | exact HB.out)⟩
            · rw [if_neg c8] at H
              have c8b0 : (((rd_T31 t186 2).f0) == 2 && ((((rd_T31 t186 2).f1).toList) == ([105, 56] : List UInt8) && (((rd_T31 t186 2).f2) == 12 && (((rd_T31 t186 2).f3) == 4 && (((rd_T31 t186 2).f4) == 8))))) = false := by simpa using c8
              (try (have c8b1 : decide (((rd_T31 t186 2).f0) = 2 && ((((rd_T31 t186 2).f1).toList) == ([105, 56] : List UInt8) && (((rd_T31 t186 2).f2) == 12 && (((rd_T31 t186 2).f3) == 4 && (((rd_T31 t186 2).f4) == 8))))) = false := by simpa using c8))
              (try (have c8b2 : (((rd_T31 t186 2).f0) == 2 && ((((rd_T31 t186 2).f1).toList) == ([105, 56] : List UInt8) && (((rd_T31 t186 2).f2) == 12 && (((rd_T31 t186 2).f3) == 4 && (((rd_T31 t186 2).f4) == 8))))) = false := by simpa using c8))
              (try (have c8b3 : ¬ (((rd_T31 t186 2).f0) = 2 && ((((rd_T31 t186 2).f1).toList) == ([105, 56] : List UInt8) && (((rd_T31 t186 2).f2) == 12 && (((rd_T31 t186 2).f3) == 4 && (((rd_T31 t186 2).f4) == 8))))) := by simpa using c8))
              clear c8
              obtain rfl := Option.some.inj H
              go_enter Try.func13, Try.ntmps13
              go_wp2_with (first | ((with_reducible refine gate_callee (f := 18) rfl ?_); refine goesL_ (some 8) rfl rfl Try.func18 (by kernel_rfl) rfl #[.string (⟨#[97, 49, 60, 61, 49, 50, 105, 56, 32, 47, 47, 32, 98]⟩ : ByteArray)] rfl (by (try simp only [List.map_toArray, List.map_cons, List.map_nil]); first | done | rfl | (simp only [List.length_drop, List.length_take]; rfl)) ?_; (with_reducible refine (lex_Tokens.calls (⟨#[97, 49, 60, 61, 49, 50, 105, 56, 32, 47, 47, 32, 98]⟩ : ByteArray) t186 t187 t188 _ A1.out).mono ?_); rintro e w37 ⟨v189, rfl, ho0, hb⟩; refine ⟨_, rfl, ?_⟩; have n0_ := Aside0.mk (Kd.R_lower ho0 (below_size (by repeat (first | (with_reducible first | exact HB.out | apply below_alloc | apply pw_below_drewN | apply below_drew1) | exact HB.out)))); have n1_ := Aside0.mk (below_step (by repeat (first | (with_reducible first | exact HB.out | apply below_alloc | apply pw_below_drewN | apply below_drew1) | exact HB.out)) hb); clear HB; have HO190 := n0_; have HB := n1_; clear n0_ n1_; (try clear hb); (try clear hb2); (try clear hk); (try clear hi); (try clear ho0)) | ((with_reducible refine gate_callee (f := 18) rfl ?_); refine goesL_ (some 13) rfl rfl Try.func18 (by kernel_rfl) rfl #[.string (⟨#[120, 32, 49, 50, 97]⟩ : ByteArray)] rfl (by (try simp only [List.map_toArray, List.map_cons, List.map_nil]); first | done | rfl | (simp only [List.length_drop, List.length_take]; rfl)) ?_; (with_reducible refine (lex_Tokens.calls (⟨#[120, 32, 49, 50, 97]⟩ : ByteArray) t191 t192 t193 _ A2.out).mono ?_); rintro e w38 ⟨v194, rfl, ho0, hb⟩; refine ⟨_, rfl, ?_⟩; have n0_ := Aside0.mk (Kd.R_elder' (by (with_reducible repeat (first | apply Kd.R_alloc | apply Kd.R_drewN | apply Kd.R_drew)); exact HO190.out) (Kd.R_base ho0) hb); have n1_ := Aside0.mk (Kd.R_lower (Kd.R_new' ho0 (Kd.R_lt (by (with_reducible repeat (first | apply Kd.R_alloc | apply Kd.R_drewN | apply Kd.R_drew)); exact HO190.out))) (below_size (by repeat (first | (with_reducible first | exact HB.out | apply below_alloc | apply pw_below_drewN | apply below_drew1) | exact HB.out)))); have n2_ := Aside0.mk (below_step (by repeat (first | (with_reducible first | exact HB.out | apply below_alloc | apply pw_below_drewN | apply below_drew1) | exact HB.out)) hb); clear HO190; clear HB; have HO190 := n0_; have HO195 := n1_; have HB := n2_; clear n0_ n1_ n2_; (try clear hb); (try clear hb2); (try clear hk); (try clear hi); (try clear ho0); obtain ⟨Ao39, co39, eo39⟩ := Kd.R_slice HO190.out; subst eo39; have p196 : 0 ≤ (1 : Int) := (by omega); have q196 : 1 < (t186.length : Int) := of_decide_eq_true (by first | (with_reducible assumption) | assumption); obtain ⟨ad196, e196, hx196_0, hx196_1, hx196_2, hx196_3, hx196_4⟩ := at_T31 (Kd.R_reads' HO190.out).2.2 1 p196 q196; cases e196; (try simp only [show (1 : Int).toNat = 1 from rfl, Nat.reduceMul, Nat.reduceEqDiff, Go.Addr.add, ↓reduceIte] at hx196_0); (try simp only [show (1 : Int).toNat = 1 from rfl, Nat.reduceMul, Nat.reduceEqDiff, Go.Addr.add, ↓reduceIte] at hx196_1); (try simp only [show (1 : Int).toNat = 1 from rfl, Nat.reduceMul, Nat.reduceEqDiff, Go.Addr.add, ↓reduceIte] at hx196_2); (try simp only [show (1 : Int).toNat = 1 from rfl, Nat.reduceMul, Nat.reduceEqDiff, Go.Addr.add, ↓reduceIte] at hx196_3); (try simp only [show (1 : Int).toNat = 1 from rfl, Nat.reduceMul, Nat.reduceEqDiff, Go.Addr.add, ↓reduceIte] at hx196_4); have qi196 : (1 < t186.length) = True := eq_true (by omega); (try rw [show ((1 : Int)).toNat = 1 from rfl] at hx196_0); (try rw [show 1 * 5 = 5 from rfl] at hx196_0); (try rw [show ((1 : Int)).toNat = 1 from rfl] at hx196_1); (try rw [show 1 * 5 = 5 from rfl] at hx196_1); (try rw [show ((1 : Int)).toNat = 1 from rfl] at hx196_2); (try rw [show 1 * 5 = 5 from rfl] at hx196_2); (try rw [show ((1 : Int)).toNat = 1 from rfl] at hx196_3); (try rw [show 1 * 5 = 5 from rfl] at hx196_3); (try rw [show ((1 : Int)).toNat = 1 from rfl] at hx196_4); (try rw [show 1 * 5 = 5 from rfl] at hx196_4); replace p196 := eq_true p196; replace q196 := eq_true q196; have p197 : 0 ≤ (2 : Int) := (by omega); have q197 : 2 < (t186.length : Int) := of_decide_eq_true (by first | (with_reducible assumption) | assumption); obtain ⟨ad197, e197, hx197_0, hx197_1, hx197_2, hx197_3, hx197_4⟩ := at_T31 (Kd.R_reads' HO190.out).2.2 2 p197 q197; obtain rfl : ad196 = ad197 := (by injection e197); (try simp only [show (2 : Int).toNat = 2 from rfl, Nat.reduceMul, Nat.reduceEqDiff, Go.Addr.add, ↓reduceIte] at hx197_0); (try simp only [show (2 : Int).toNat = 2 from rfl, Nat.reduceMul, Nat.reduceEqDiff, Go.Addr.add, ↓reduceIte] at hx197_1); (try simp only [show (2 : Int).toNat = 2 from rfl, Nat.reduceMul, Nat.reduceEqDiff, Go.Addr.add, ↓reduceIte] at hx197_2); (try simp only [show (2 : Int).toNat = 2 from rfl, Nat.reduceMul, Nat.reduceEqDiff, Go.Addr.add, ↓reduceIte] at hx197_3); (try simp only [show (2 : Int).toNat = 2 from rfl, Nat.reduceMul, Nat.reduceEqDiff, Go.Addr.add, ↓reduceIte] at hx197_4); have qi197 : (2 < t186.length) = True := eq_true (by omega); (try rw [show ((2 : Int)).toNat = 2 from rfl] at hx197_0); (try rw [show 2 * 5 = 10 from rfl] at hx197_0); (try rw [show ((2 : Int)).toNat = 2 from rfl] at hx197_1); (try rw [show 2 * 5 = 10 from rfl] at hx197_1); (try rw [show ((2 : Int)).toNat = 2 from rfl] at hx197_2); (try rw [show 2 * 5 = 10 from rfl] at hx197_2); (try rw [show ((2 : Int)).toNat = 2 from rfl] at hx197_3); (try rw [show 2 * 5 = 10 from rfl] at hx197_3); (try rw [show ((2 : Int)).toNat = 2 from rfl] at hx197_4); (try rw [show 2 * 5 = 10 from rfl] at hx197_4); replace p197 := eq_true p197; replace q197 := eq_true q197))
              go_ret
              exact ⟨by first | rfl | (simp [errW_none, errW_some] <;> rfl) | (simp [*, errW_none, errW_some] <;> rfl), by repeat (first | (with_reducible first | exact HB.out | apply below_alloc | apply pw_below_drewN | apply below_drew1) | exact HB.out)⟩
          · rw [if_neg c7] at H
            exact absurd H (by simp)
        · rw [if_neg c6] at H
          have c6b0 : (((rd_T31 t186 1).f1).toList == ([60, 61] : List UInt8)) = false := beq_eq_false_iff_ne.mpr c6
          have c6b1 : (((rd_T31 t186 1).f1).toList != ([60, 61] : List UInt8)) = true := bne_iff_ne.mpr c6
          obtain rfl := Option.some.inj H
          go_enter Try.func13, Try.ntmps13
          go_wp2_with (first | ((with_reducible refine gate_callee (f := 18) rfl ?_); refine goesL_ (some 8) rfl rfl Try.func18 (by kernel_rfl) rfl #[.string (⟨#[97, 49, 60, 61, 49, 50, 105, 56, 32, 47, 47, 32, 98]⟩ : ByteArray)] rfl (by (try simp only [List.map_toArray, List.map_cons, List.map_nil]); first | done | rfl | (simp only [List.length_drop, List.length_take]; rfl)) ?_; (with_reducible refine (lex_Tokens.calls (⟨#[97, 49, 60, 61, 49, 50, 105, 56, 32, 47, 47, 32, 98]⟩ : ByteArray) t186 t187 t188 _ A1.out).mono ?_); rintro e w40 ⟨v189, rfl, ho0, hb⟩; refine ⟨_, rfl, ?_⟩; have n0_ := Aside0.mk (Kd.R_lower ho0 (below_size (by repeat (first | (with_reducible first | exact HB.out | apply below_alloc | apply pw_below_drewN | apply below_drew1) | exact HB.out)))); have n1_ := Aside0.mk (below_step (by repeat (first | (with_reducible first | exact HB.out | apply below_alloc | apply pw_below_drewN | apply below_drew1) | exact HB.out)) hb); clear HB; have HO190 := n0_; have HB := n1_; clear n0_ n1_; (try clear hb); (try clear hb2); (try clear hk); (try clear hi); (try clear ho0)) | ((with_reducible refine gate_callee (f := 18) rfl ?_); refine goesL_ (some 13) rfl rfl Try.func18 (by kernel_rfl) rfl #[.string (⟨#[120, 32, 49, 50, 97]⟩ : ByteArray)] rfl (by (try simp only [List.map_toArray, List.map_cons, List.map_nil]); first | done | rfl | (simp only [List.length_drop, List.length_take]; rfl)) ?_; (with_reducible refine (lex_Tokens.calls (⟨#[120, 32, 49, 50, 97]⟩ : ByteArray) t191 t192 t193 _ A2.out).mono ?_); rintro e w41 ⟨v194, rfl, ho0, hb⟩; refine ⟨_, rfl, ?_⟩; have n0_ := Aside0.mk (Kd.R_elder' (by (with_reducible repeat (first | apply Kd.R_alloc | apply Kd.R_drewN | apply Kd.R_drew)); exact HO190.out) (Kd.R_base ho0) hb); have n1_ := Aside0.mk (Kd.R_lower (Kd.R_new' ho0 (Kd.R_lt (by (with_reducible repeat (first | apply Kd.R_alloc | apply Kd.R_drewN | apply Kd.R_drew)); exact HO190.out))) (below_size (by repeat (first | (with_reducible first | exact HB.out | apply below_alloc | apply pw_below_drewN | apply below_drew1) | exact HB.out)))); have n2_ := Aside0.mk (below_step (by repeat (first | (with_reducible first | exact HB.out | apply below_alloc | apply pw_below_drewN | apply below_drew1) | exact HB.out)) hb); clear HO190; clear HB; have HO190 := n0_; have HO195 := n1_; have HB := n2_; clear n0_ n1_ n2_; (try clear hb); (try clear hb2); (try clear hk); (try clear hi); (try clear ho0); obtain ⟨Ao42, co42, eo42⟩ := Kd.R_slice HO190.out; subst eo42; have p196 : 0 ≤ (1 : Int) := (by omega); have q196 : 1 < (t186.length : Int) := of_decide_eq_true (by first | (with_reducible assumption) | assumption); obtain ⟨ad196, e196, hx196_0, hx196_1, hx196_2, hx196_3, hx196_4⟩ := at_T31 (Kd.R_reads' HO190.out).2.2 1 p196 q196; cases e196; (try simp only [show (1 : Int).toNat = 1 from rfl, Nat.reduceMul, Nat.reduceEqDiff, Go.Addr.add, ↓reduceIte] at hx196_0); (try simp only [show (1 : Int).toNat = 1 from rfl, Nat.reduceMul, Nat.reduceEqDiff, Go.Addr.add, ↓reduceIte] at hx196_1); (try simp only [show (1 : Int).toNat = 1 from rfl, Nat.reduceMul, Nat.reduceEqDiff, Go.Addr.add, ↓reduceIte] at hx196_2); (try simp only [show (1 : Int).toNat = 1 from rfl, Nat.reduceMul, Nat.reduceEqDiff, Go.Addr.add, ↓reduceIte] at hx196_3); (try simp only [show (1 : Int).toNat = 1 from rfl, Nat.reduceMul, Nat.reduceEqDiff, Go.Addr.add, ↓reduceIte] at hx196_4); have qi196 : (1 < t186.length) = True := eq_true (by omega); (try rw [show ((1 : Int)).toNat = 1 from rfl] at hx196_0); (try rw [show 1 * 5 = 5 from rfl] at hx196_0); (try rw [show ((1 : Int)).toNat = 1 from rfl] at hx196_1); (try rw [show 1 * 5 = 5 from rfl] at hx196_1); (try rw [show ((1 : Int)).toNat = 1 from rfl] at hx196_2); (try rw [show 1 * 5 = 5 from rfl] at hx196_2); (try rw [show ((1 : Int)).toNat = 1 from rfl] at hx196_3); (try rw [show 1 * 5 = 5 from rfl] at hx196_3); (try rw [show ((1 : Int)).toNat = 1 from rfl] at hx196_4); (try rw [show 1 * 5 = 5 from rfl] at hx196_4); replace p196 := eq_true p196; replace q196 := eq_true q196))
          go_ret
          exact ⟨by first | rfl | (simp [errW_none, errW_some] <;> rfl) | (simp [*, errW_none, errW_some] <;> rfl), by repeat (first | (with_reducible first | exact HB.out | apply below_alloc | apply pw_below_drewN | apply below_drew1) | exact HB.out)⟩
      · rw [if_neg c5] at H
        exact absurd H (by simp)
    · rw [if_neg c4] at H
      have c4b0 : ((t186.length : Int) == 3) = false := beq_eq_false_iff_ne.mpr c4
      have c4b1 : ((t186.length : Int) != 3) = true := bne_iff_ne.mpr c4
      obtain rfl := Option.some.inj H
      go_enter Try.func13, Try.ntmps13
      go_wp2_with (first | ((with_reducible refine gate_callee (f := 18) rfl ?_); refine goesL_ (some 8) rfl rfl Try.func18 (by kernel_rfl) rfl #[.string (⟨#[97, 49, 60, 61, 49, 50, 105, 56, 32, 47, 47, 32, 98]⟩ : ByteArray)] rfl (by (try simp only [List.map_toArray, List.map_cons, List.map_nil]); first | done | rfl | (simp only [List.length_drop, List.length_take]; rfl)) ?_; (with_reducible refine (lex_Tokens.calls (⟨#[97, 49, 60, 61, 49, 50, 105, 56, 32, 47, 47, 32, 98]⟩ : ByteArray) t186 t187 t188 _ A1.out).mono ?_); rintro e w43 ⟨v189, rfl, ho0, hb⟩; refine ⟨_, rfl, ?_⟩; have n0_ := Aside0.mk (Kd.R_lower ho0 (below_size (by repeat (first | (with_reducible first | exact HB.out | apply below_alloc | apply pw_below_drewN | apply below_drew1) | exact HB.out)))); have n1_ := Aside0.mk (below_step (by repeat (first | (with_reducible first | exact HB.out | apply below_alloc | apply pw_below_drewN | apply below_drew1) | exact HB.out)) hb); clear HB; have HO190 := n0_; have HB := n1_; clear n0_ n1_; (try clear hb); (try clear hb2); (try clear hk); (try clear hi); (try clear ho0)) | ((with_reducible refine gate_callee (f := 18) rfl ?_); refine goesL_ (some 13) rfl rfl Try.func18 (by kernel_rfl) rfl #[.string (⟨#[120, 32, 49, 50, 97]⟩ : ByteArray)] rfl (by (try simp only [List.map_toArray, List.map_cons, List.map_nil]); first | done | rfl | (simp only [List.length_drop, List.length_take]; rfl)) ?_; (with_reducible refine (lex_Tokens.calls (⟨#[120, 32, 49, 50, 97]⟩ : ByteArray) t191 t192 t193 _ A2.out).mono ?_); rintro e w44 ⟨v194, rfl, ho0, hb⟩; refine ⟨_, rfl, ?_⟩; have n0_ := Aside0.mk (Kd.R_elder' (by (with_reducible repeat (first | apply Kd.R_alloc | apply Kd.R_drewN | apply Kd.R_drew)); exact HO190.out) (Kd.R_base ho0) hb); have n1_ := Aside0.mk (Kd.R_lower (Kd.R_new' ho0 (Kd.R_lt (by (with_reducible repeat (first | apply Kd.R_alloc | apply Kd.R_drewN | apply Kd.R_drew)); exact HO190.out))) (below_size (by repeat (first | (with_reducible first | exact HB.out | apply below_alloc | apply pw_below_drewN | apply below_drew1) | exact HB.out)))); have n2_ := Aside0.mk (below_step (by repeat (first | (with_reducible first | exact HB.out | apply below_alloc | apply pw_below_drewN | apply below_drew1) | exact HB.out)) hb); clear HO190; clear HB; have HO190 := n0_; have HO195 := n1_; have HB := n2_; clear n0_ n1_ n2_; (try clear hb); (try clear hb2); (try clear hk); (try clear hi); (try clear ho0); obtain ⟨Ao45, co45, eo45⟩ := Kd.R_slice HO190.out; subst eo45))
      go_ret
      exact ⟨by first | rfl | (simp [errW_none, errW_some] <;> rfl) | (simp [*, errW_none, errW_some] <;> rfl), by repeat (first | (with_reducible first | exact HB.out | apply below_alloc | apply pw_below_drewN | apply below_drew1) | exact HB.out)⟩
  · rw [if_neg c3] at H
    have c3b0 : (t188 == 0) = false := beq_eq_false_iff_ne.mpr c3
    have c3b1 : (t188 != 0) = true := bne_iff_ne.mpr c3
    obtain rfl := Option.some.inj H
    go_enter Try.func13, Try.ntmps13
    go_wp2_with (first | ((with_reducible refine gate_callee (f := 18) rfl ?_); refine goesL_ (some 8) rfl rfl Try.func18 (by kernel_rfl) rfl #[.string (⟨#[97, 49, 60, 61, 49, 50, 105, 56, 32, 47, 47, 32, 98]⟩ : ByteArray)] rfl (by (try simp only [List.map_toArray, List.map_cons, List.map_nil]); first | done | rfl | (simp only [List.length_drop, List.length_take]; rfl)) ?_; (with_reducible refine (lex_Tokens.calls (⟨#[97, 49, 60, 61, 49, 50, 105, 56, 32, 47, 47, 32, 98]⟩ : ByteArray) t186 t187 t188 _ A1.out).mono ?_); rintro e w46 ⟨v189, rfl, ho0, hb⟩; refine ⟨_, rfl, ?_⟩; have n0_ := Aside0.mk (Kd.R_lower ho0 (below_size (by repeat (first | (with_reducible first | exact HB.out | apply below_alloc | apply pw_below_drewN | apply below_drew1) | exact HB.out)))); have n1_ := Aside0.mk (below_step (by repeat (first | (with_reducible first | exact HB.out | apply below_alloc | apply pw_below_drewN | apply below_drew1) | exact HB.out)) hb); clear HB; have HO190 := n0_; have HB := n1_; clear n0_ n1_; (try clear hb); (try clear hb2); (try clear hk); (try clear hi); (try clear ho0)) | ((with_reducible refine gate_callee (f := 18) rfl ?_); refine goesL_ (some 13) rfl rfl Try.func18 (by kernel_rfl) rfl #[.string (⟨#[120, 32, 49, 50, 97]⟩ : ByteArray)] rfl (by (try simp only [List.map_toArray, List.map_cons, List.map_nil]); first | done | rfl | (simp only [List.length_drop, List.length_take]; rfl)) ?_; (with_reducible refine (lex_Tokens.calls (⟨#[120, 32, 49, 50, 97]⟩ : ByteArray) t191 t192 t193 _ A2.out).mono ?_); rintro e w47 ⟨v194, rfl, ho0, hb⟩; refine ⟨_, rfl, ?_⟩; have n0_ := Aside0.mk (Kd.R_elder' (by (with_reducible repeat (first | apply Kd.R_alloc | apply Kd.R_drewN | apply Kd.R_drew)); exact HO190.out) (Kd.R_base ho0) hb); have n1_ := Aside0.mk (Kd.R_lower (Kd.R_new' ho0 (Kd.R_lt (by (with_reducible repeat (first | apply Kd.R_alloc | apply Kd.R_drewN | apply Kd.R_drew)); exact HO190.out))) (below_size (by repeat (first | (with_reducible first | exact HB.out | apply below_alloc | apply pw_below_drewN | apply below_drew1) | exact HB.out)))); have n2_ := Aside0.mk (below_step (by repeat (first | (with_reducible first | exact HB.out | apply below_alloc | apply pw_below_drewN | apply below_drew1) | exact HB.out)) hb); clear HO190; clear HB; have HO190 := n0_; have HO195 := n1_; have HB := n2_; clear n0_ n1_ n2_; (try clear hb); (try clear hb2); (try clear hk); (try clear hi); (try clear ho0)))
    go_ret
    exact ⟨by first | rfl | (simp [errW_none, errW_some] <;> rfl) | (simp [*, errW_none, errW_some] <;> rfl), by repeat (first | (with_reducible first | exact HB.out | apply below_alloc | apply pw_below_drewN | apply below_drew1) | exact HB.out)⟩

/-! ### trammellaw03_LexBack: function 8 -/
def trammellaw03_LexBack.j0 : Nat → ByteArray → Bool → Option (Bool)
  | 0, _, _ => none
  | k + 1, x3, x37 => if x37 = true then (none) else (if 0 ≤ (wrap64 ((x3.size : Int) - 1)) then (if (wrap64 ((x3.size : Int) - 1)) ≤ (x3.size : Int) then ((lex_Tokens.f (x3.extract 0 ((wrap64 ((x3.size : Int) - 1)) : Int).toNat)).bind fun bt208 => (if bt208.2.2 = 31 then (if bt208.2.1 = 0 then ((trammellaw03_works.f k).bind fun t213 => (some t213)) else (none)) else (none))) else (none)) else (none))
def trammellaw03_LexBack.f (k : Nat) (a0 : ByteArray) : Option (Bool) := if (a0.size : Int) > 8192 then (some true) else ((lex_Quote.f a0).bind fun t201 => ((lex_Tokens.f t201).bind fun bt202 => (if bt202.2.2 = 0 then (if (bt202.1.length : Int) = 1 then (if 0 < (bt202.1.length : Int) then (trammellaw03_LexBack.j0 k t201 (!(((rd_T31 bt202.1 0).f0) == 3) || (!((((rd_T31 bt202.1 0).f1).toList) == a0.toList) || (!(((rd_T31 bt202.1 0).f2) == 0) || (!(((rd_T31 bt202.1 0).f3) == 0) || (!(((rd_T31 bt202.1 0).f4) == (t201.size : Int)))))))) else (none)) else (trammellaw03_LexBack.j0 k t201 true)) else (trammellaw03_LexBack.j0 k t201 true))))
theorem trammellaw03_LexBack.mono_l : ∀ k, (∀ y0 y1, LeO (trammellaw03_LexBack.j0 k y0 y1) (trammellaw03_LexBack.j0 (k + 1) y0 y1))
  | 0 => fun _ _ r h => by simp [trammellaw03_LexBack.j0] at h
  | k + 1 => by
    have ih0 := trammellaw03_LexBack.mono_l k
    · intro y0 y1
      unfold trammellaw03_LexBack.j0
      repeat' first
      | (with_reducible exact ih0 _ _)
      | (with_reducible exact trammellaw03_works.mono _)
      | (with_reducible exact LeO.refl _)
      | (with_reducible exact LeO.none _)
      | (with_reducible refine LeO.ite ?_ ?_)
      | (with_reducible refine LeO.bind ?_ (fun _ => ?_))
      | exact ih0 _ _
      | exact trammellaw03_works.mono _
      | exact LeO.none _
      | refine LeO.ite ?_ ?_
      | refine LeO.bind ?_ (fun _ => ?_)
theorem trammellaw03_LexBack.mono : ∀ a0 k, LeO (trammellaw03_LexBack.f k a0) (trammellaw03_LexBack.f (k + 1) a0) := by
  intro a0 k
  have ih0 := trammellaw03_LexBack.mono_l k
  unfold trammellaw03_LexBack.f
  repeat' first
      | (with_reducible exact ih0 _ _)
      | (with_reducible exact trammellaw03_works.mono _)
      | (with_reducible exact LeO.refl _)
      | (with_reducible exact LeO.none _)
      | (with_reducible refine LeO.ite ?_ ?_)
      | (with_reducible refine LeO.bind ?_ (fun _ => ?_))
      | exact ih0 _ _
      | exact trammellaw03_works.mono _
      | exact LeO.none _
      | refine LeO.ite ?_ ?_
      | refine LeO.bind ?_ (fun _ => ?_)
set_option maxHeartbeats 8000000 in
set_option maxRecDepth 100000 in
theorem trammellaw03_LexBack.calls (k : Nat) (a0 : ByteArray) (r : Bool) (w : World) (h : trammellaw03_LexBack.f k a0 = some r) :
    Calls Try.prog 8 #[.string a0] w fun e w' => e = .returned (.bool r) ∧ Below w.heap.size w w' := by
  have hu31 := Try.underlying31
  have HB := Aside0.mk (Below.refl w.heap.size w)
  have H : (if (a0.size : Int) > 8192 then (some true) else ((lex_Quote.f a0).bind fun t201 => ((lex_Tokens.f t201).bind fun bt202 => (if bt202.2.2 = 0 then (if (bt202.1.length : Int) = 1 then (if 0 < (bt202.1.length : Int) then (trammellaw03_LexBack.j0 k t201 (!(((rd_T31 bt202.1 0).f0) == 3) || (!((((rd_T31 bt202.1 0).f1).toList) == a0.toList) || (!(((rd_T31 bt202.1 0).f2) == 0) || (!(((rd_T31 bt202.1 0).f3) == 0) || (!(((rd_T31 bt202.1 0).f4) == (t201.size : Int)))))))) else (none)) else (trammellaw03_LexBack.j0 k t201 true)) else (trammellaw03_LexBack.j0 k t201 true))))) = some r := h
  clear h
  by_cases c2 : (a0.size : Int) > 8192
  · rw [if_pos c2] at H
    have c2b0 : decide (8192 < (a0.size : Int)) = true := decide_eq_true c2
    have c2b1 : decide (8192 < a0.size) = true := decide_eq_true (by omega)
    clear c2
    obtain rfl := Option.some.inj H
    go_enter Try.func8, Try.ntmps8
    go_wp2
    go_ret
    exact ⟨by first | rfl | (simp [errW_none, errW_some] <;> rfl) | (simp [*, errW_none, errW_some] <;> rfl), by repeat (first | (with_reducible first | exact HB.out | apply below_alloc | apply pw_below_drewN | apply below_drew1) | exact HB.out)⟩
  · rw [if_neg c2] at H
    have c2b0 : decide (8192 < (a0.size : Int)) = false := decide_eq_false c2
    have c2b1 : decide (8192 < a0.size) = false := decide_eq_false (by omega)
    clear c2
    replace H := Option.bind_eq_some_iff.mp H
    obtain ⟨t201, A30, H⟩ := H
    replace H : ((lex_Tokens.f t201).bind fun bt202 => (if bt202.2.2 = 0 then (if (bt202.1.length : Int) = 1 then (if 0 < (bt202.1.length : Int) then (trammellaw03_LexBack.j0 k t201 (!(((rd_T31 bt202.1 0).f0) == 3) || (!((((rd_T31 bt202.1 0).f1).toList) == a0.toList) || (!(((rd_T31 bt202.1 0).f2) == 0) || (!(((rd_T31 bt202.1 0).f3) == 0) || (!(((rd_T31 bt202.1 0).f4) == (t201.size : Int)))))))) else (none)) else (trammellaw03_LexBack.j0 k t201 true)) else (trammellaw03_LexBack.j0 k t201 true))) = some r := H
    have A3 := Aside0.mk A30
    clear A30
    replace H := Option.bind_eq_some_iff.mp H
    obtain ⟨⟨t202, t203, t204⟩, A40, H⟩ := H
    replace H : (if t204 = 0 then (if (t202.length : Int) = 1 then (if 0 < (t202.length : Int) then (trammellaw03_LexBack.j0 k t201 (!(((rd_T31 t202 0).f0) == 3) || (!((((rd_T31 t202 0).f1).toList) == a0.toList) || (!(((rd_T31 t202 0).f2) == 0) || (!(((rd_T31 t202 0).f3) == 0) || (!(((rd_T31 t202 0).f4) == (t201.size : Int)))))))) else (none)) else (trammellaw03_LexBack.j0 k t201 true)) else (trammellaw03_LexBack.j0 k t201 true)) = some r := H
    have A4 := Aside0.mk A40
    clear A40
    have HC5 := Aside0.mk H
    clear H
    go_enter Try.func8, Try.ntmps8
    go_upto_region 5 with (first | ((with_reducible refine gate_callee (f := 21) rfl ?_); refine goesL_ (some 14) rfl rfl Try.func21 (by kernel_rfl) rfl #[.string a0] rfl (by (try simp only [List.map_toArray, List.map_cons, List.map_nil]); first | done | rfl | (simp only [List.length_drop, List.length_take]; rfl)) ?_; (with_reducible refine (lex_Quote.calls a0 t201 _ A3.out).mono ?_); rintro e w6 ⟨rfl, hb⟩; refine ⟨_, rfl, ?_⟩; have n0_ := Aside0.mk (below_step (by repeat (first | (with_reducible first | exact HB.out | apply below_alloc | apply pw_below_drewN | apply below_drew1) | exact HB.out)) hb); clear HB; have HB := n0_; clear n0_; (try clear hb); (try clear hb2); (try clear hk); (try clear hi)) | ((with_reducible refine gate_callee (f := 18) rfl ?_); refine goesL_ (some 17) rfl rfl Try.func18 (by kernel_rfl) rfl #[.string t201] rfl (by (try simp only [List.map_toArray, List.map_cons, List.map_nil]); first | done | rfl | (simp only [List.length_drop, List.length_take]; rfl)) ?_; (with_reducible refine (lex_Tokens.calls t201 t202 t203 t204 _ A4.out).mono ?_); rintro e w7 ⟨v205, rfl, ho0, hb⟩; refine ⟨_, rfl, ?_⟩; have n0_ := Aside0.mk (Kd.R_lower ho0 (below_size (by repeat (first | (with_reducible first | exact HB.out | apply below_alloc | apply pw_below_drewN | apply below_drew1) | exact HB.out)))); have n1_ := Aside0.mk (below_step (by repeat (first | (with_reducible first | exact HB.out | apply below_alloc | apply pw_below_drewN | apply below_drew1) | exact HB.out)) hb); clear HB; have HO206 := n0_; have HB := n1_; clear n0_ n1_; (try clear hb); (try clear hb2); (try clear hk); (try clear hi); (try clear ho0)))
    (try simp only [Act.put, List.setIfInBounds_toArray, List.set_cons_zero, List.set_cons_succ])
    go_cut [37] (fun v37 wc => ∃ (kq : Nat) (x37_4 : Bool), v37 = .bool x37_4 ∧ Aside0 (trammellaw03_LexBack.j0 kq t201 x37_4 = some r) ∧ Aside0 (kq ≤ k) ∧ Aside0 (Below w.heap.size w wc))
    case first =>
      have H := HC5.out
      clear HC5
      by_cases c8 : t204 = 0
      · rw [if_pos c8] at H
        have c8b0 : (t204 == 0) = true := beq_iff_eq.mpr c8
        have c8b1 : (t204 != 0) = false := bne_eq_false_iff_eq.mpr c8
        clear c8
        (first | rw [c8b0] | (simp only [i64_w, i32_w]; rw [c8b0]) | skip)
        by_cases c9 : (t202.length : Int) = 1
        · rw [if_pos c9] at H
          have c9b0 : ((t202.length : Int) == 1) = true := beq_iff_eq.mpr c9
          have c9b1 : ((t202.length : Int) != 1) = false := bne_eq_false_iff_eq.mpr c9
          clear c9
          by_cases c10 : 0 < (t202.length : Int)
          · rw [if_pos c10] at H
            have c10b0 : decide (0 < (t202.length : Int)) = true := decide_eq_true c10
            have c10b1 : decide (0 < t202.length) = true := decide_eq_true (by omega)
            clear c10
            have H' := Aside0.mk H
            clear H
            obtain ⟨Ao11, co11, eo11⟩ := Kd.R_slice HO206.out
            subst eo11
            have p207 : 0 ≤ (0 : Int) := (by omega)
            have q207 : 0 < (t202.length : Int) := of_decide_eq_true (by first | (with_reducible assumption) | assumption)
            obtain ⟨ad207, e207, hx207_0, hx207_1, hx207_2, hx207_3, hx207_4⟩ := at_T31 (Kd.R_reads' HO206.out).2.2 0 p207 q207
            cases e207
            have qi207 : (0 < t202.length) = True := eq_true (by omega)
            (try rw [show ((0 : Int)).toNat = 0 from rfl] at hx207_0)
            (try rw [show 0 * 5 = 0 from rfl] at hx207_0)
            (try rw [Addr.add_zero'] at hx207_0)
            (try rw [show ((0 : Int)).toNat = 0 from rfl] at hx207_1)
            (try rw [show 0 * 5 = 0 from rfl] at hx207_1)
            (try rw [Addr.add_zero'] at hx207_1)
            (try rw [show ((0 : Int)).toNat = 0 from rfl] at hx207_2)
            (try rw [show 0 * 5 = 0 from rfl] at hx207_2)
            (try rw [Addr.add_zero'] at hx207_2)
            (try rw [show ((0 : Int)).toNat = 0 from rfl] at hx207_3)
            (try rw [show 0 * 5 = 0 from rfl] at hx207_3)
            (try rw [Addr.add_zero'] at hx207_3)
            (try rw [show ((0 : Int)).toNat = 0 from rfl] at hx207_4)
            (try rw [show 0 * 5 = 0 from rfl] at hx207_4)
            (try rw [Addr.add_zero'] at hx207_4)
            replace p207 := eq_true p207
            replace q207 := eq_true q207
            go_wp2
            go_meet
            case rel => exact ⟨_, ((!(((rd_T31 t202 0).f0) == 3) || (!((((rd_T31 t202 0).f1).toList) == a0.toList) || (!(((rd_T31 t202 0).f2) == 0) || (!(((rd_T31 t202 0).f3) == 0) || (!(((rd_T31 t202 0).f4) == (t201.size : Int)))))))), (by first | rfl | (simp; done) | (simp [*]; done)), H', ⟨by first | omega | exact Nat.le_refl _⟩, ⟨by repeat (first | (with_reducible first | exact HB.out | apply below_alloc | apply pw_below_drewN | apply below_drew1) | exact HB.out)⟩⟩
          · rw [if_neg c10] at H
            exact absurd H (by simp)
        · rw [if_neg c9] at H
          have c9b0 : ((t202.length : Int) == 1) = false := beq_eq_false_iff_ne.mpr c9
          have c9b1 : ((t202.length : Int) != 1) = true := bne_iff_ne.mpr c9
          have H' := Aside0.mk H
          clear H
          obtain ⟨Ao12, co12, eo12⟩ := Kd.R_slice HO206.out
          subst eo12
          go_wp2
          go_meet
          case rel => exact ⟨_, (true), (by first | rfl | (simp; done) | (simp [*]; done)), H', ⟨by first | omega | exact Nat.le_refl _⟩, ⟨by repeat (first | (with_reducible first | exact HB.out | apply below_alloc | apply pw_below_drewN | apply below_drew1) | exact HB.out)⟩⟩
      · rw [if_neg c8] at H
        have c8b0 : (t204 == 0) = false := beq_eq_false_iff_ne.mpr c8
        have c8b1 : (t204 != 0) = true := bne_iff_ne.mpr c8
        (first | rw [c8b0] | (simp only [i64_w, i32_w]; rw [c8b0]) | skip)
        have H' := Aside0.mk H
        clear H
        go_wp2
        go_meet
        case rel => exact ⟨_, (true), (by first | rfl | (simp; done) | (simp [*]; done)), H', ⟨by first | omega | exact Nat.le_refl _⟩, ⟨by repeat (first | (with_reducible first | exact HB.out | apply below_alloc | apply pw_below_drewN | apply below_drew1) | exact HB.out)⟩⟩
    case rest =>
      clear HC5
      try clear c1
      try clear c2
      try clear c2b0
      try clear c2b1
      try clear p2
      try clear q2
      try clear hx2
      try clear qi2
      try clear c8
      try clear c8b0
      try clear c8b1
      try clear c9
      try clear c9b0
      try clear c9b1
      try clear c10
      try clear c10b0
      try clear c10b1
      try clear hx207_0
      try clear hx207_1
      try clear hx207_2
      try clear hx207_3
      try clear hx207_4
      try clear p207
      try clear q207
      obtain ⟨kq, x37_4, rfl, HA, HJ4, HB⟩ := hcut
      cases kq with
      | zero => exact absurd HA.out (by simp [trammellaw03_LexBack.j0])
      | succ kj4 =>
        have H := HA.out
        clear HA
        simp only [trammellaw03_LexBack.j0] at H
        by_cases c13 : x37_4 = true
        · subst c13
          (try (have e_ := Option.some.inj (A3.out.symm.trans A4.out); subst e_))
          have H1 : (none) = some r := by rw [if_pos rfl] at H; exact H
          clear H
          have H := H1
          clear H1
          exact absurd H (by simp)
        · replace c13 := Bool.eq_false_iff.mpr c13
          subst c13
          (try (have e_ := Option.some.inj (A3.out.symm.trans A4.out); subst e_))
          have H1 : (if 0 ≤ (wrap64 ((t201.size : Int) - 1)) then (if (wrap64 ((t201.size : Int) - 1)) ≤ (t201.size : Int) then ((lex_Tokens.f (t201.extract 0 ((wrap64 ((t201.size : Int) - 1)) : Int).toNat)).bind fun bt208 => (if bt208.2.2 = 31 then (if bt208.2.1 = 0 then ((trammellaw03_works.f kj4).bind fun t213 => (some t213)) else (none)) else (none))) else (none)) else (none)) = some r := by rw [if_neg (show ¬ (false = true) by decide)] at H; exact H
          clear H
          have H := H1
          clear H1
          obtain ⟨ji14, hji14⟩ : ∃ j_ : Int, (wrap64 ((t201.size : Int) - 1)) = j_ := ⟨_, rfl⟩
          replace H : (if 0 ≤ (ji14) then (if (ji14) ≤ (t201.size : Int) then ((lex_Tokens.f (t201.extract 0 ((ji14) : Int).toNat)).bind fun bt208 => (if bt208.2.2 = 31 then (if bt208.2.1 = 0 then ((trammellaw03_works.f kj4).bind fun t213 => (some t213)) else (none)) else (none))) else (none)) else (none)) = some r := by first | (rw [hji14] at H; exact H) | (simp only [hji14] at H ⊢; exact H)
          have hji14w : (IntKind.i64.wrap ((t201.size : Int) - 1)) = ji14 := (i64_w _).trans hji14
          by_cases c15 : 0 ≤ (ji14)
          · rw [if_pos c15] at H
            have c15b0 := eq_true c15
            have c15b1 : decide (0 ≤ (ji14)) = true := decide_eq_true c15
            clear c15
            by_cases c16 : (ji14) ≤ (t201.size : Int)
            · rw [if_pos c16] at H
              have c16b0 := eq_true c16
              have c16b1 : decide ((ji14) ≤ (t201.size : Int)) = true := decide_eq_true c16
              clear c16
              replace H := Option.bind_eq_some_iff.mp H
              obtain ⟨⟨t208, t209, t210⟩, A170, H⟩ := H
              replace H : (if t210 = 31 then (if t209 = 0 then ((trammellaw03_works.f kj4).bind fun t213 => (some t213)) else (none)) else (none)) = some r := H
              have A17 := Aside0.mk A170
              clear A170
              by_cases c18 : t210 = 31
              · rw [if_pos c18] at H
                have c18b0 : (t210 == 31) = true := beq_iff_eq.mpr c18
                have c18b1 : (t210 != 31) = false := bne_eq_false_iff_eq.mpr c18
                clear c18
                by_cases c19 : t209 = 0
                · rw [if_pos c19] at H
                  have c19b0 : (t209 == 0) = true := beq_iff_eq.mpr c19
                  have c19b1 : (t209 != 0) = false := bne_eq_false_iff_eq.mpr c19
                  clear c19
                  replace H := Option.bind_eq_some_iff.mp H
                  obtain ⟨t213, A200, H⟩ := H
                  replace H : (some t213) = some r := H
                  have A20 := Aside0.mk A200
                  clear A200
                  obtain rfl := Option.some.inj H
                  go_wp2_with (first | ((with_reducible refine gate_callee (f := 18) rfl ?_); refine goesL_ (some 44) rfl rfl Try.func18 (by kernel_rfl) rfl #[.string (t201.extract 0 ((ji14) : Int).toNat)] rfl (by (try simp only [List.map_toArray, List.map_cons, List.map_nil]); first | done | (simp only [hji14]; rfl) | rfl | (simp only [List.length_drop, List.length_take]; rfl)) ?_; (with_reducible refine (lex_Tokens.calls (t201.extract 0 ((ji14) : Int).toNat) t208 t209 t210 _ A17.out).mono ?_); rintro e w21 ⟨v211, rfl, ho0, hb⟩; refine ⟨_, rfl, ?_⟩; have n0_ := Aside0.mk (Kd.R_lower ho0 (below_size (by repeat (first | (with_reducible first | exact HB.out | apply below_alloc | apply pw_below_drewN | apply below_drew1) | exact HB.out)))); have n1_ := Aside0.mk (below_step (by repeat (first | (with_reducible first | exact HB.out | apply below_alloc | apply pw_below_drewN | apply below_drew1) | exact HB.out)) hb); clear HB; have HO212 := n0_; have HB := n1_; clear n0_ n1_; (try clear hb); (try clear hb2); (try clear hk); (try clear hi); (try clear ho0)) | (go_at_call 13; (with_reducible refine (trammellaw03_works.calls kj4  t213 _ A20.out).mono ?_); rintro e w22 ⟨rfl, hb⟩; have n0_ := Aside0.mk (Kd.R_below (by (with_reducible repeat (first | apply Kd.R_alloc | apply Kd.R_drewN | apply Kd.R_drew)); exact HO212.out) hb); have n1_ := Aside0.mk (below_step (by repeat (first | (with_reducible first | exact HB.out | apply below_alloc | apply pw_below_drewN | apply below_drew1) | exact HB.out)) hb); clear HO212; clear HB; have HO212 := n0_; have HB := n1_; clear n0_ n1_; (try clear hb); (try clear hb2); (try clear hk); (try clear hi)))
                  go_ret
                  exact ⟨by first | rfl | (simp [errW_none, errW_some] <;> rfl) | (simp only [← hji14]; first | rfl | (simp [errW_none, errW_some] <;> rfl)) | (simp [*, errW_none, errW_some] <;> rfl), by repeat (first | (with_reducible first | exact HB.out | apply below_alloc | apply pw_below_drewN | apply below_drew1) | exact HB.out)⟩
                · rw [if_neg c19] at H
                  exact absurd H (by simp)
              · rw [if_neg c18] at H
                exact absurd H (by simp)
            · rw [if_neg c16] at H
              exact absurd H (by simp)
          · rw [if_neg c15] at H
            exact absurd H (by simp)

/-- THE ONE PURE STATEMENT of trammellaw03_LexBack: yours. -/
def trammellaw03_LexBack.Pure : Prop := ∀ (a0 : ByteArray), a0.size ≤ 140737488351232 → ∃ k, trammellaw03_LexBack.f k a0 = some true
theorem trammellaw03_LexBack.walk (P : trammellaw03_LexBack.Pure) (a0 : ByteArray) (w : World) (w0 : a0.size ≤ 140737488351232) :
    Calls Try.prog 8 #[.string a0] w fun e w' => e = .returned (.bool true) ∧ Below w.heap.size w w' := by
  obtain ⟨k, h⟩ := P a0 w0
  refine (trammellaw03_LexBack.calls k a0 true w h).mono ?_
  rintro e w' ⟨rfl, hd⟩
  exact ⟨rfl, hd⟩

end Go.Proofs.Ytmmilinbpimfaaa.PLexBack
