/- Written by a program of this session's: functions that the law reaches, their walks, the row; no conditions beyond the statement's own. -/
import Derived.Test.YtmmilinbpimfaaaPLexTokensx0
namespace Go.Proofs.Ytmmilinbpimfaaa.PLexTokens
open Go.RowKit Go.Proofs.YtmmilinbpimfaaaW.PrintWords Go.Proofs.YtmmilinbpimfaaaW.PrintLast Go.Proofs.YtmmilinbpimfaaaW.PrintMore
open Go.Proofs.Ytmmilinbpimfaaa.PLexKnown Go.Proofs.Ytmmilinbpimfaaa.Given
attribute [local go_sem] max2_int min2_int max_two min_two max_three min_three max_four min_four   -- for this text's walks alone
set_option linter.unusedVariables false
set_option linter.unusedSimpArgs false

attribute [local go_sem high] eqA31
-- NOT PRINTED: function 61 (bytealg_IndexByteString)

-- NOT PRINTED: function 49 (stringslite_IndexByte)

-- NOT PRINTED: function 46 (lex_scanner_blanks)

-- NOT PRINTED: function 57 (lex_scanner_number)

-- NOT PRINTED: function 60 (abi_NoEscape)

-- NOT PRINTED: function 48 (strings_Builder_copyCheck)

-- NOT PRINTED: function 31 (strings_Builder_WriteByte)

-- NOT PRINTED: function 35 (strings_Builder_String)

-- NOT PRINTED: function 58 (lex_scanner_text)

-- NOT PRINTED: function 59 (lex_scanner_sign)

-- NOT PRINTED: function 47 (lex_scanner_next)

-- NOT PRINTED: function 30 (lex_scanner_each)

-- NOT PRINTED: function 34 (strings_Builder_WriteString)

/-! ### trammellaw03_works: function 13 -/
def trammellaw03_works.f (k : Nat)  : Option (Bool) := (lex_Tokens.f (⟨#[97, 49, 60, 61, 49, 50, 105, 56, 32, 47, 47, 32, 98]⟩ : ByteArray)).bind fun bt253 => ((lex_Tokens.f (⟨#[120, 32, 49, 50, 97]⟩ : ByteArray)).bind fun bt258 => (if bt253.2.2 = 0 then (if (bt253.1.length : Int) = 3 then (if 1 < (bt253.1.length : Int) then (if ((rd_T31 bt253.1 1).f1).toList = ([60, 61] : List UInt8) then (if 2 < (bt253.1.length : Int) then (if (((rd_T31 bt253.1 2).f0) == 2 && ((((rd_T31 bt253.1 2).f1).toList) == ([105, 56] : List UInt8) && (((rd_T31 bt253.1 2).f2) == 12 && (((rd_T31 bt253.1 2).f3) == 4 && (((rd_T31 bt253.1 2).f4) == 8))))) = true then (if bt258.2.2 = 33 then (if bt258.2.1 = 2 then ((lex_Quote.f (⟨#[10]⟩ : ByteArray)).bind fun t265 => (if t265.toList = ([34, 92, 110, 34] : List UInt8) then ((lex_Name.f k (⟨#[97, 98]⟩ : ByteArray)).bind fun t266 => (if t266 = true then ((lex_Kept.f k (⟨#[102, 110]⟩ : ByteArray)).bind fun t267 => (some t267)) else (some false))) else (some false))) else (some false)) else (some false)) else (some false)) else (none)) else (some false)) else (none)) else (some false)) else (some false)))
theorem trammellaw03_works.mono : ∀ k, LeO (trammellaw03_works.f k ) (trammellaw03_works.f (k + 1) ) := by
  intro  k
  unfold trammellaw03_works.f
  repeat' first
      | (with_reducible exact lex_Kept.mono _ _)
      | (with_reducible exact lex_Name.mono _ _)
      | (with_reducible exact LeO.refl _)
      | (with_reducible exact LeO.none _)
      | (with_reducible refine LeO.ite ?_ ?_)
      | (with_reducible refine LeO.bind ?_ (fun _ => ?_))
      | exact lex_Kept.mono _ _
      | exact lex_Name.mono _ _
      | exact LeO.none _
      | refine LeO.ite ?_ ?_
      | refine LeO.bind ?_ (fun _ => ?_)
set_option maxHeartbeats 8000000 in
set_option maxRecDepth 100000 in
theorem trammellaw03_works.calls (k : Nat)  (r : Bool) (w : World) (h : trammellaw03_works.f k  = some r) :
    Calls Try.prog 13 #[] w fun e w' => e = .returned (.bool r) ∧ Below w.heap.size w w' := by
  have hu31 := Try.underlying31
  have HB := Aside0.mk (Below.refl w.heap.size w)
  have H : ((lex_Tokens.f (⟨#[97, 49, 60, 61, 49, 50, 105, 56, 32, 47, 47, 32, 98]⟩ : ByteArray)).bind fun bt253 => ((lex_Tokens.f (⟨#[120, 32, 49, 50, 97]⟩ : ByteArray)).bind fun bt258 => (if bt253.2.2 = 0 then (if (bt253.1.length : Int) = 3 then (if 1 < (bt253.1.length : Int) then (if ((rd_T31 bt253.1 1).f1).toList = ([60, 61] : List UInt8) then (if 2 < (bt253.1.length : Int) then (if (((rd_T31 bt253.1 2).f0) == 2 && ((((rd_T31 bt253.1 2).f1).toList) == ([105, 56] : List UInt8) && (((rd_T31 bt253.1 2).f2) == 12 && (((rd_T31 bt253.1 2).f3) == 4 && (((rd_T31 bt253.1 2).f4) == 8))))) = true then (if bt258.2.2 = 33 then (if bt258.2.1 = 2 then ((lex_Quote.f (⟨#[10]⟩ : ByteArray)).bind fun t265 => (if t265.toList = ([34, 92, 110, 34] : List UInt8) then ((lex_Name.f k (⟨#[97, 98]⟩ : ByteArray)).bind fun t266 => (if t266 = true then ((lex_Kept.f k (⟨#[102, 110]⟩ : ByteArray)).bind fun t267 => (some t267)) else (some false))) else (some false))) else (some false)) else (some false)) else (some false)) else (none)) else (some false)) else (none)) else (some false)) else (some false)))) = some r := h
  clear h
  replace H := Option.bind_eq_some_iff.mp H
  obtain ⟨⟨t253, t254, t255⟩, A10, H⟩ := H
  replace H : ((lex_Tokens.f (⟨#[120, 32, 49, 50, 97]⟩ : ByteArray)).bind fun bt258 => (if t255 = 0 then (if (t253.length : Int) = 3 then (if 1 < (t253.length : Int) then (if ((rd_T31 t253 1).f1).toList = ([60, 61] : List UInt8) then (if 2 < (t253.length : Int) then (if (((rd_T31 t253 2).f0) == 2 && ((((rd_T31 t253 2).f1).toList) == ([105, 56] : List UInt8) && (((rd_T31 t253 2).f2) == 12 && (((rd_T31 t253 2).f3) == 4 && (((rd_T31 t253 2).f4) == 8))))) = true then (if bt258.2.2 = 33 then (if bt258.2.1 = 2 then ((lex_Quote.f (⟨#[10]⟩ : ByteArray)).bind fun t265 => (if t265.toList = ([34, 92, 110, 34] : List UInt8) then ((lex_Name.f k (⟨#[97, 98]⟩ : ByteArray)).bind fun t266 => (if t266 = true then ((lex_Kept.f k (⟨#[102, 110]⟩ : ByteArray)).bind fun t267 => (some t267)) else (some false))) else (some false))) else (some false)) else (some false)) else (some false)) else (none)) else (some false)) else (none)) else (some false)) else (some false))) = some r := H
  have A1 := Aside0.mk A10
  clear A10
  replace H := Option.bind_eq_some_iff.mp H
  obtain ⟨⟨t258, t259, t260⟩, A20, H⟩ := H
  replace H : (if t255 = 0 then (if (t253.length : Int) = 3 then (if 1 < (t253.length : Int) then (if ((rd_T31 t253 1).f1).toList = ([60, 61] : List UInt8) then (if 2 < (t253.length : Int) then (if (((rd_T31 t253 2).f0) == 2 && ((((rd_T31 t253 2).f1).toList) == ([105, 56] : List UInt8) && (((rd_T31 t253 2).f2) == 12 && (((rd_T31 t253 2).f3) == 4 && (((rd_T31 t253 2).f4) == 8))))) = true then (if t260 = 33 then (if t259 = 2 then ((lex_Quote.f (⟨#[10]⟩ : ByteArray)).bind fun t265 => (if t265.toList = ([34, 92, 110, 34] : List UInt8) then ((lex_Name.f k (⟨#[97, 98]⟩ : ByteArray)).bind fun t266 => (if t266 = true then ((lex_Kept.f k (⟨#[102, 110]⟩ : ByteArray)).bind fun t267 => (some t267)) else (some false))) else (some false))) else (some false)) else (some false)) else (some false)) else (none)) else (some false)) else (none)) else (some false)) else (some false)) = some r := H
  have A2 := Aside0.mk A20
  clear A20
  by_cases c3 : t255 = 0
  · rw [if_pos c3] at H
    have c3b0 : (t255 == 0) = true := beq_iff_eq.mpr c3
    have c3b1 : (t255 != 0) = false := bne_eq_false_iff_eq.mpr c3
    clear c3
    by_cases c4 : (t253.length : Int) = 3
    · rw [if_pos c4] at H
      have c4b0 : ((t253.length : Int) == 3) = true := beq_iff_eq.mpr c4
      have c4b1 : ((t253.length : Int) != 3) = false := bne_eq_false_iff_eq.mpr c4
      clear c4
      by_cases c5 : 1 < (t253.length : Int)
      · rw [if_pos c5] at H
        have c5b0 : decide (1 < (t253.length : Int)) = true := decide_eq_true c5
        have c5b1 : decide (1 < t253.length) = true := decide_eq_true (by omega)
        clear c5
        by_cases c6 : ((rd_T31 t253 1).f1).toList = ([60, 61] : List UInt8)
        · rw [if_pos c6] at H
          have c6b0 : (((rd_T31 t253 1).f1).toList == ([60, 61] : List UInt8)) = true := beq_iff_eq.mpr c6
          have c6b1 : (((rd_T31 t253 1).f1).toList != ([60, 61] : List UInt8)) = false := bne_eq_false_iff_eq.mpr c6
          clear c6
          by_cases c7 : 2 < (t253.length : Int)
          · rw [if_pos c7] at H
            have c7b0 : decide (2 < (t253.length : Int)) = true := decide_eq_true c7
            have c7b1 : decide (2 < t253.length) = true := decide_eq_true (by omega)
            clear c7
            by_cases c8 : (((rd_T31 t253 2).f0) == 2 && ((((rd_T31 t253 2).f1).toList) == ([105, 56] : List UInt8) && (((rd_T31 t253 2).f2) == 12 && (((rd_T31 t253 2).f3) == 4 && (((rd_T31 t253 2).f4) == 8))))) = true
            · rw [if_pos c8] at H
              have c8b0 : (((rd_T31 t253 2).f0) == 2 && ((((rd_T31 t253 2).f1).toList) == ([105, 56] : List UInt8) && (((rd_T31 t253 2).f2) == 12 && (((rd_T31 t253 2).f3) == 4 && (((rd_T31 t253 2).f4) == 8))))) = true := c8
              (try (have c8b1 : decide (((rd_T31 t253 2).f0) = 2 && ((((rd_T31 t253 2).f1).toList) == ([105, 56] : List UInt8) && (((rd_T31 t253 2).f2) == 12 && (((rd_T31 t253 2).f3) == 4 && (((rd_T31 t253 2).f4) == 8))))) = true := by simpa using c8))
              (try (have c8b2 : (((rd_T31 t253 2).f0) == 2 && ((((rd_T31 t253 2).f1).toList) == ([105, 56] : List UInt8) && (((rd_T31 t253 2).f2) == 12 && (((rd_T31 t253 2).f3) == 4 && (((rd_T31 t253 2).f4) == 8))))) = true := by simpa using c8))
              clear c8
              by_cases c9 : t260 = 33
              · rw [if_pos c9] at H
                have c9b0 : (t260 == 33) = true := beq_iff_eq.mpr c9
                have c9b1 : (t260 != 33) = false := bne_eq_false_iff_eq.mpr c9
                clear c9
                by_cases c10 : t259 = 2
                · rw [if_pos c10] at H
                  have c10b0 : (t259 == 2) = true := beq_iff_eq.mpr c10
                  have c10b1 : (t259 != 2) = false := bne_eq_false_iff_eq.mpr c10
                  clear c10
                  replace H := Option.bind_eq_some_iff.mp H
                  obtain ⟨t265, A110, H⟩ := H
                  replace H : (if t265.toList = ([34, 92, 110, 34] : List UInt8) then ((lex_Name.f k (⟨#[97, 98]⟩ : ByteArray)).bind fun t266 => (if t266 = true then ((lex_Kept.f k (⟨#[102, 110]⟩ : ByteArray)).bind fun t267 => (some t267)) else (some false))) else (some false)) = some r := H
                  have A11 := Aside0.mk A110
                  clear A110
                  by_cases c12 : t265.toList = ([34, 92, 110, 34] : List UInt8)
                  · rw [if_pos c12] at H
                    have c12b0 : (t265.toList == ([34, 92, 110, 34] : List UInt8)) = true := beq_iff_eq.mpr c12
                    have c12b1 : (t265.toList != ([34, 92, 110, 34] : List UInt8)) = false := bne_eq_false_iff_eq.mpr c12
                    clear c12
                    replace H := Option.bind_eq_some_iff.mp H
                    obtain ⟨t266, A130, H⟩ := H
                    replace H : (if t266 = true then ((lex_Kept.f k (⟨#[102, 110]⟩ : ByteArray)).bind fun t267 => (some t267)) else (some false)) = some r := H
                    have A13 := Aside0.mk A130
                    clear A130
                    by_cases c14 : t266 = true
                    · subst c14
                      have H1 : ((lex_Kept.f k (⟨#[102, 110]⟩ : ByteArray)).bind fun t267 => (some t267)) = some r := by rw [if_pos rfl] at H; exact H
                      clear H
                      have H := H1
                      clear H1
                      replace H := Option.bind_eq_some_iff.mp H
                      obtain ⟨t267, A150, H⟩ := H
                      replace H : (some t267) = some r := H
                      have A15 := Aside0.mk A150
                      clear A150
                      obtain rfl := Option.some.inj H
                      go_enter Try.func13, Try.ntmps13
                      go_wp2_with (first | ((with_reducible refine gate_callee (f := 18) rfl ?_); refine goesL_ (some 8) rfl rfl Try.func18 (by kernel_rfl) rfl #[.string (⟨#[97, 49, 60, 61, 49, 50, 105, 56, 32, 47, 47, 32, 98]⟩ : ByteArray)] rfl (by (try simp only [List.map_toArray, List.map_cons, List.map_nil]); first | done | rfl | (simp only [List.length_drop, List.length_take]; rfl)) ?_; (with_reducible refine (lex_Tokens.calls (⟨#[97, 49, 60, 61, 49, 50, 105, 56, 32, 47, 47, 32, 98]⟩ : ByteArray) t253 t254 t255 _ A1.out).mono ?_); rintro e w16 ⟨v256, rfl, ho0, hb⟩; refine ⟨_, rfl, ?_⟩; have n0_ := Aside0.mk (Kd.R_lower ho0 (below_size (by repeat (first | (with_reducible first | exact HB.out | apply below_alloc | apply pw_below_drewN | apply below_drew1) | exact HB.out)))); have n1_ := Aside0.mk (below_step (by repeat (first | (with_reducible first | exact HB.out | apply below_alloc | apply pw_below_drewN | apply below_drew1) | exact HB.out)) hb); clear HB; have HO257 := n0_; have HB := n1_; clear n0_ n1_; (try clear hb); (try clear hb2); (try clear hk); (try clear hi); (try clear ho0)) | ((with_reducible refine gate_callee (f := 18) rfl ?_); refine goesL_ (some 13) rfl rfl Try.func18 (by kernel_rfl) rfl #[.string (⟨#[120, 32, 49, 50, 97]⟩ : ByteArray)] rfl (by (try simp only [List.map_toArray, List.map_cons, List.map_nil]); first | done | rfl | (simp only [List.length_drop, List.length_take]; rfl)) ?_; (with_reducible refine (lex_Tokens.calls (⟨#[120, 32, 49, 50, 97]⟩ : ByteArray) t258 t259 t260 _ A2.out).mono ?_); rintro e w17 ⟨v261, rfl, ho0, hb⟩; refine ⟨_, rfl, ?_⟩; have n0_ := Aside0.mk (Kd.R_elder' (by (with_reducible repeat (first | apply Kd.R_alloc | apply Kd.R_drewN | apply Kd.R_drew)); exact HO257.out) (Kd.R_base ho0) hb); have n1_ := Aside0.mk (Kd.R_lower (Kd.R_new' ho0 (Kd.R_lt (by (with_reducible repeat (first | apply Kd.R_alloc | apply Kd.R_drewN | apply Kd.R_drew)); exact HO257.out))) (below_size (by repeat (first | (with_reducible first | exact HB.out | apply below_alloc | apply pw_below_drewN | apply below_drew1) | exact HB.out)))); have n2_ := Aside0.mk (below_step (by repeat (first | (with_reducible first | exact HB.out | apply below_alloc | apply pw_below_drewN | apply below_drew1) | exact HB.out)) hb); clear HO257; clear HB; have HO257 := n0_; have HO262 := n1_; have HB := n2_; clear n0_ n1_ n2_; (try clear hb); (try clear hb2); (try clear hk); (try clear hi); (try clear ho0); obtain ⟨Ao18, co18, eo18⟩ := Kd.R_slice HO257.out; subst eo18; have p263 : 0 ≤ (1 : Int) := (by omega); have q263 : 1 < (t253.length : Int) := of_decide_eq_true (by first | (with_reducible assumption) | assumption); obtain ⟨ad263, e263, hx263_0, hx263_1, hx263_2, hx263_3, hx263_4⟩ := at_T31 (Kd.R_reads' HO257.out).2.2 1 p263 q263; cases e263; (try simp only [show (1 : Int).toNat = 1 from rfl, Nat.reduceMul, Nat.reduceEqDiff, Go.Addr.add, ↓reduceIte] at hx263_0); (try simp only [show (1 : Int).toNat = 1 from rfl, Nat.reduceMul, Nat.reduceEqDiff, Go.Addr.add, ↓reduceIte] at hx263_1); (try simp only [show (1 : Int).toNat = 1 from rfl, Nat.reduceMul, Nat.reduceEqDiff, Go.Addr.add, ↓reduceIte] at hx263_2); (try simp only [show (1 : Int).toNat = 1 from rfl, Nat.reduceMul, Nat.reduceEqDiff, Go.Addr.add, ↓reduceIte] at hx263_3); (try simp only [show (1 : Int).toNat = 1 from rfl, Nat.reduceMul, Nat.reduceEqDiff, Go.Addr.add, ↓reduceIte] at hx263_4); have qi263 : (1 < t253.length) = True := eq_true (by omega); (try rw [show ((1 : Int)).toNat = 1 from rfl] at hx263_0); (try rw [show 1 * 5 = 5 from rfl] at hx263_0); (try rw [show ((1 : Int)).toNat = 1 from rfl] at hx263_1); (try rw [show 1 * 5 = 5 from rfl] at hx263_1); (try rw [show ((1 : Int)).toNat = 1 from rfl] at hx263_2); (try rw [show 1 * 5 = 5 from rfl] at hx263_2); (try rw [show ((1 : Int)).toNat = 1 from rfl] at hx263_3); (try rw [show 1 * 5 = 5 from rfl] at hx263_3); (try rw [show ((1 : Int)).toNat = 1 from rfl] at hx263_4); (try rw [show 1 * 5 = 5 from rfl] at hx263_4); replace p263 := eq_true p263; replace q263 := eq_true q263; have p264 : 0 ≤ (2 : Int) := (by omega); have q264 : 2 < (t253.length : Int) := of_decide_eq_true (by first | (with_reducible assumption) | assumption); obtain ⟨ad264, e264, hx264_0, hx264_1, hx264_2, hx264_3, hx264_4⟩ := at_T31 (Kd.R_reads' HO257.out).2.2 2 p264 q264; obtain rfl : ad263 = ad264 := (by injection e264); (try simp only [show (2 : Int).toNat = 2 from rfl, Nat.reduceMul, Nat.reduceEqDiff, Go.Addr.add, ↓reduceIte] at hx264_0); (try simp only [show (2 : Int).toNat = 2 from rfl, Nat.reduceMul, Nat.reduceEqDiff, Go.Addr.add, ↓reduceIte] at hx264_1); (try simp only [show (2 : Int).toNat = 2 from rfl, Nat.reduceMul, Nat.reduceEqDiff, Go.Addr.add, ↓reduceIte] at hx264_2); (try simp only [show (2 : Int).toNat = 2 from rfl, Nat.reduceMul, Nat.reduceEqDiff, Go.Addr.add, ↓reduceIte] at hx264_3); (try simp only [show (2 : Int).toNat = 2 from rfl, Nat.reduceMul, Nat.reduceEqDiff, Go.Addr.add, ↓reduceIte] at hx264_4); have qi264 : (2 < t253.length) = True := eq_true (by omega); (try rw [show ((2 : Int)).toNat = 2 from rfl] at hx264_0); (try rw [show 2 * 5 = 10 from rfl] at hx264_0); (try rw [show ((2 : Int)).toNat = 2 from rfl] at hx264_1); (try rw [show 2 * 5 = 10 from rfl] at hx264_1); (try rw [show ((2 : Int)).toNat = 2 from rfl] at hx264_2); (try rw [show 2 * 5 = 10 from rfl] at hx264_2); (try rw [show ((2 : Int)).toNat = 2 from rfl] at hx264_3); (try rw [show 2 * 5 = 10 from rfl] at hx264_3); (try rw [show ((2 : Int)).toNat = 2 from rfl] at hx264_4); (try rw [show 2 * 5 = 10 from rfl] at hx264_4); replace p264 := eq_true p264; replace q264 := eq_true q264) | (go_at_call 21; (with_reducible refine (lex_Quote.calls (⟨#[10]⟩ : ByteArray) t265 _ A11.out).mono ?_); rintro e w19 ⟨rfl, hb⟩; have n0_ := Aside0.mk (Kd.R_below (by (with_reducible repeat (first | apply Kd.R_alloc | apply Kd.R_drewN | apply Kd.R_drew)); exact HO257.out) hb); have n1_ := Aside0.mk (Kd.R_below (by (with_reducible repeat (first | apply Kd.R_alloc | apply Kd.R_drewN | apply Kd.R_drew)); exact HO262.out) hb); have n2_ := Aside0.mk (below_step (by repeat (first | (with_reducible first | exact HB.out | apply below_alloc | apply pw_below_drewN | apply below_drew1) | exact HB.out)) hb); clear HO257; clear HO262; clear HB; have HO257 := n0_; have HO262 := n1_; have HB := n2_; clear n0_ n1_ n2_; (try clear hb); (try clear hb2); (try clear hk); (try clear hi)) | (go_at_call 23; (with_reducible refine (lex_Name.calls k (⟨#[97, 98]⟩ : ByteArray) true _ A13.out).mono ?_); rintro e w20 ⟨rfl, hb⟩; have n0_ := Aside0.mk (Kd.R_below (by (with_reducible repeat (first | apply Kd.R_alloc | apply Kd.R_drewN | apply Kd.R_drew)); exact HO257.out) hb); have n1_ := Aside0.mk (Kd.R_below (by (with_reducible repeat (first | apply Kd.R_alloc | apply Kd.R_drewN | apply Kd.R_drew)); exact HO262.out) hb); have n2_ := Aside0.mk (below_step (by repeat (first | (with_reducible first | exact HB.out | apply below_alloc | apply pw_below_drewN | apply below_drew1) | exact HB.out)) hb); clear HO257; clear HO262; clear HB; have HO257 := n0_; have HO262 := n1_; have HB := n2_; clear n0_ n1_ n2_; (try clear hb); (try clear hb2); (try clear hk); (try clear hi)) | (go_at_call 25; (with_reducible refine (lex_Kept.calls k (⟨#[102, 110]⟩ : ByteArray) t267 _ A15.out).mono ?_); rintro e w21 ⟨rfl, hb⟩; have n0_ := Aside0.mk (Kd.R_below (by (with_reducible repeat (first | apply Kd.R_alloc | apply Kd.R_drewN | apply Kd.R_drew)); exact HO257.out) hb); have n1_ := Aside0.mk (Kd.R_below (by (with_reducible repeat (first | apply Kd.R_alloc | apply Kd.R_drewN | apply Kd.R_drew)); exact HO262.out) hb); have n2_ := Aside0.mk (below_step (by repeat (first | (with_reducible first | exact HB.out | apply below_alloc | apply pw_below_drewN | apply below_drew1) | exact HB.out)) hb); clear HO257; clear HO262; clear HB; have HO257 := n0_; have HO262 := n1_; have HB := n2_; clear n0_ n1_ n2_; (try clear hb); (try clear hb2); (try clear hk); (try clear hi)))
                      go_ret
                      exact ⟨by first | rfl | (simp [errW_none, errW_some] <;> rfl) | (simp [*, errW_none, errW_some] <;> rfl), by repeat (first | (with_reducible first | exact HB.out | apply below_alloc | apply pw_below_drewN | apply below_drew1) | exact HB.out)⟩
                    · replace c14 := Bool.eq_false_iff.mpr c14
                      subst c14
                      have H1 : (some false) = some r := by rw [if_neg (show ¬ (false = true) by decide)] at H; exact H
                      clear H
                      have H := H1
                      clear H1
                      obtain rfl := Option.some.inj H
                      go_enter Try.func13, Try.ntmps13
                      go_wp2_with (first | ((with_reducible refine gate_callee (f := 18) rfl ?_); refine goesL_ (some 8) rfl rfl Try.func18 (by kernel_rfl) rfl #[.string (⟨#[97, 49, 60, 61, 49, 50, 105, 56, 32, 47, 47, 32, 98]⟩ : ByteArray)] rfl (by (try simp only [List.map_toArray, List.map_cons, List.map_nil]); first | done | rfl | (simp only [List.length_drop, List.length_take]; rfl)) ?_; (with_reducible refine (lex_Tokens.calls (⟨#[97, 49, 60, 61, 49, 50, 105, 56, 32, 47, 47, 32, 98]⟩ : ByteArray) t253 t254 t255 _ A1.out).mono ?_); rintro e w22 ⟨v256, rfl, ho0, hb⟩; refine ⟨_, rfl, ?_⟩; have n0_ := Aside0.mk (Kd.R_lower ho0 (below_size (by repeat (first | (with_reducible first | exact HB.out | apply below_alloc | apply pw_below_drewN | apply below_drew1) | exact HB.out)))); have n1_ := Aside0.mk (below_step (by repeat (first | (with_reducible first | exact HB.out | apply below_alloc | apply pw_below_drewN | apply below_drew1) | exact HB.out)) hb); clear HB; have HO257 := n0_; have HB := n1_; clear n0_ n1_; (try clear hb); (try clear hb2); (try clear hk); (try clear hi); (try clear ho0)) | ((with_reducible refine gate_callee (f := 18) rfl ?_); refine goesL_ (some 13) rfl rfl Try.func18 (by kernel_rfl) rfl #[.string (⟨#[120, 32, 49, 50, 97]⟩ : ByteArray)] rfl (by (try simp only [List.map_toArray, List.map_cons, List.map_nil]); first | done | rfl | (simp only [List.length_drop, List.length_take]; rfl)) ?_; (with_reducible refine (lex_Tokens.calls (⟨#[120, 32, 49, 50, 97]⟩ : ByteArray) t258 t259 t260 _ A2.out).mono ?_); rintro e w23 ⟨v261, rfl, ho0, hb⟩; refine ⟨_, rfl, ?_⟩; have n0_ := Aside0.mk (Kd.R_elder' (by (with_reducible repeat (first | apply Kd.R_alloc | apply Kd.R_drewN | apply Kd.R_drew)); exact HO257.out) (Kd.R_base ho0) hb); have n1_ := Aside0.mk (Kd.R_lower (Kd.R_new' ho0 (Kd.R_lt (by (with_reducible repeat (first | apply Kd.R_alloc | apply Kd.R_drewN | apply Kd.R_drew)); exact HO257.out))) (below_size (by repeat (first | (with_reducible first | exact HB.out | apply below_alloc | apply pw_below_drewN | apply below_drew1) | exact HB.out)))); have n2_ := Aside0.mk (below_step (by repeat (first | (with_reducible first | exact HB.out | apply below_alloc | apply pw_below_drewN | apply below_drew1) | exact HB.out)) hb); clear HO257; clear HB; have HO257 := n0_; have HO262 := n1_; have HB := n2_; clear n0_ n1_ n2_; (try clear hb); (try clear hb2); (try clear hk); (try clear hi); (try clear ho0); obtain ⟨Ao24, co24, eo24⟩ := Kd.R_slice HO257.out; subst eo24; have p263 : 0 ≤ (1 : Int) := (by omega); have q263 : 1 < (t253.length : Int) := of_decide_eq_true (by first | (with_reducible assumption) | assumption); obtain ⟨ad263, e263, hx263_0, hx263_1, hx263_2, hx263_3, hx263_4⟩ := at_T31 (Kd.R_reads' HO257.out).2.2 1 p263 q263; cases e263; (try simp only [show (1 : Int).toNat = 1 from rfl, Nat.reduceMul, Nat.reduceEqDiff, Go.Addr.add, ↓reduceIte] at hx263_0); (try simp only [show (1 : Int).toNat = 1 from rfl, Nat.reduceMul, Nat.reduceEqDiff, Go.Addr.add, ↓reduceIte] at hx263_1); (try simp only [show (1 : Int).toNat = 1 from rfl, Nat.reduceMul, Nat.reduceEqDiff, Go.Addr.add, ↓reduceIte] at hx263_2); (try simp only [show (1 : Int).toNat = 1 from rfl, Nat.reduceMul, Nat.reduceEqDiff, Go.Addr.add, ↓reduceIte] at hx263_3); (try simp only [show (1 : Int).toNat = 1 from rfl, Nat.reduceMul, Nat.reduceEqDiff, Go.Addr.add, ↓reduceIte] at hx263_4); have qi263 : (1 < t253.length) = True := eq_true (by omega); (try rw [show ((1 : Int)).toNat = 1 from rfl] at hx263_0); (try rw [show 1 * 5 = 5 from rfl] at hx263_0); (try rw [show ((1 : Int)).toNat = 1 from rfl] at hx263_1); (try rw [show 1 * 5 = 5 from rfl] at hx263_1); (try rw [show ((1 : Int)).toNat = 1 from rfl] at hx263_2); (try rw [show 1 * 5 = 5 from rfl] at hx263_2); (try rw [show ((1 : Int)).toNat = 1 from rfl] at hx263_3); (try rw [show 1 * 5 = 5 from rfl] at hx263_3); (try rw [show ((1 : Int)).toNat = 1 from rfl] at hx263_4); (try rw [show 1 * 5 = 5 from rfl] at hx263_4); replace p263 := eq_true p263; replace q263 := eq_true q263; have p264 : 0 ≤ (2 : Int) := (by omega); have q264 : 2 < (t253.length : Int) := of_decide_eq_true (by first | (with_reducible assumption) | assumption); obtain ⟨ad264, e264, hx264_0, hx264_1, hx264_2, hx264_3, hx264_4⟩ := at_T31 (Kd.R_reads' HO257.out).2.2 2 p264 q264; obtain rfl : ad263 = ad264 := (by injection e264); (try simp only [show (2 : Int).toNat = 2 from rfl, Nat.reduceMul, Nat.reduceEqDiff, Go.Addr.add, ↓reduceIte] at hx264_0); (try simp only [show (2 : Int).toNat = 2 from rfl, Nat.reduceMul, Nat.reduceEqDiff, Go.Addr.add, ↓reduceIte] at hx264_1); (try simp only [show (2 : Int).toNat = 2 from rfl, Nat.reduceMul, Nat.reduceEqDiff, Go.Addr.add, ↓reduceIte] at hx264_2); (try simp only [show (2 : Int).toNat = 2 from rfl, Nat.reduceMul, Nat.reduceEqDiff, Go.Addr.add, ↓reduceIte] at hx264_3); (try simp only [show (2 : Int).toNat = 2 from rfl, Nat.reduceMul, Nat.reduceEqDiff, Go.Addr.add, ↓reduceIte] at hx264_4); have qi264 : (2 < t253.length) = True := eq_true (by omega); (try rw [show ((2 : Int)).toNat = 2 from rfl] at hx264_0); (try rw [show 2 * 5 = 10 from rfl] at hx264_0); (try rw [show ((2 : Int)).toNat = 2 from rfl] at hx264_1); (try rw [show 2 * 5 = 10 from rfl] at hx264_1); (try rw [show ((2 : Int)).toNat = 2 from rfl] at hx264_2); (try rw [show 2 * 5 = 10 from rfl] at hx264_2); (try rw [show ((2 : Int)).toNat = 2 from rfl] at hx264_3); (try rw [show 2 * 5 = 10 from rfl] at hx264_3); (try rw [show ((2 : Int)).toNat = 2 from rfl] at hx264_4); (try rw [show 2 * 5 = 10 from rfl] at hx264_4); replace p264 := eq_true p264; replace q264 := eq_true q264) | (go_at_call 21; (with_reducible refine (lex_Quote.calls (⟨#[10]⟩ : ByteArray) t265 _ A11.out).mono ?_); rintro e w25 ⟨rfl, hb⟩; have n0_ := Aside0.mk (Kd.R_below (by (with_reducible repeat (first | apply Kd.R_alloc | apply Kd.R_drewN | apply Kd.R_drew)); exact HO257.out) hb); have n1_ := Aside0.mk (Kd.R_below (by (with_reducible repeat (first | apply Kd.R_alloc | apply Kd.R_drewN | apply Kd.R_drew)); exact HO262.out) hb); have n2_ := Aside0.mk (below_step (by repeat (first | (with_reducible first | exact HB.out | apply below_alloc | apply pw_below_drewN | apply below_drew1) | exact HB.out)) hb); clear HO257; clear HO262; clear HB; have HO257 := n0_; have HO262 := n1_; have HB := n2_; clear n0_ n1_ n2_; (try clear hb); (try clear hb2); (try clear hk); (try clear hi)) | (go_at_call 23; (with_reducible refine (lex_Name.calls k (⟨#[97, 98]⟩ : ByteArray) false _ A13.out).mono ?_); rintro e w26 ⟨rfl, hb⟩; have n0_ := Aside0.mk (Kd.R_below (by (with_reducible repeat (first | apply Kd.R_alloc | apply Kd.R_drewN | apply Kd.R_drew)); exact HO257.out) hb); have n1_ := Aside0.mk (Kd.R_below (by (with_reducible repeat (first | apply Kd.R_alloc | apply Kd.R_drewN | apply Kd.R_drew)); exact HO262.out) hb); have n2_ := Aside0.mk (below_step (by repeat (first | (with_reducible first | exact HB.out | apply below_alloc | apply pw_below_drewN | apply below_drew1) | exact HB.out)) hb); clear HO257; clear HO262; clear HB; have HO257 := n0_; have HO262 := n1_; have HB := n2_; clear n0_ n1_ n2_; (try clear hb); (try clear hb2); (try clear hk); (try clear hi)))
                      go_ret
                      exact ⟨by first | rfl | (simp [errW_none, errW_some] <;> rfl) | (simp [*, errW_none, errW_some] <;> rfl), by repeat (first | (with_reducible first | exact HB.out | apply below_alloc | apply pw_below_drewN | apply below_drew1) | exact HB.out)⟩
                  · rw [if_neg c12] at H
                    have c12b0 : (t265.toList == ([34, 92, 110, 34] : List UInt8)) = false := beq_eq_false_iff_ne.mpr c12
                    have c12b1 : (t265.toList != ([34, 92, 110, 34] : List UInt8)) = true := bne_iff_ne.mpr c12
                    obtain rfl := Option.some.inj H
                    go_enter Try.func13, Try.ntmps13
                    go_wp2_with (first | ((with_reducible refine gate_callee (f := 18) rfl ?_); refine goesL_ (some 8) rfl rfl Try.func18 (by kernel_rfl) rfl #[.string (⟨#[97, 49, 60, 61, 49, 50, 105, 56, 32, 47, 47, 32, 98]⟩ : ByteArray)] rfl (by (try simp only [List.map_toArray, List.map_cons, List.map_nil]); first | done | rfl | (simp only [List.length_drop, List.length_take]; rfl)) ?_; (with_reducible refine (lex_Tokens.calls (⟨#[97, 49, 60, 61, 49, 50, 105, 56, 32, 47, 47, 32, 98]⟩ : ByteArray) t253 t254 t255 _ A1.out).mono ?_); rintro e w27 ⟨v256, rfl, ho0, hb⟩; refine ⟨_, rfl, ?_⟩; have n0_ := Aside0.mk (Kd.R_lower ho0 (below_size (by repeat (first | (with_reducible first | exact HB.out | apply below_alloc | apply pw_below_drewN | apply below_drew1) | exact HB.out)))); have n1_ := Aside0.mk (below_step (by repeat (first | (with_reducible first | exact HB.out | apply below_alloc | apply pw_below_drewN | apply below_drew1) | exact HB.out)) hb); clear HB; have HO257 := n0_; have HB := n1_; clear n0_ n1_; (try clear hb); (try clear hb2); (try clear hk); (try clear hi); (try clear ho0)) | ((with_reducible refine gate_callee (f := 18) rfl ?_); refine goesL_ (some 13) rfl rfl Try.func18 (by kernel_rfl) rfl #[.string (⟨#[120, 32, 49, 50, 97]⟩ : ByteArray)] rfl (by (try simp only [List.map_toArray, List.map_cons, List.map_nil]); first | done | rfl | (simp only [List.length_drop, List.length_take]; rfl)) ?_; (with_reducible refine (lex_Tokens.calls (⟨#[120, 32, 49, 50, 97]⟩ : ByteArray) t258 t259 t260 _ A2.out).mono ?_); rintro e w28 ⟨v261, rfl, ho0, hb⟩; refine ⟨_, rfl, ?_⟩; have n0_ := Aside0.mk (Kd.R_elder' (by (with_reducible repeat (first | apply Kd.R_alloc | apply Kd.R_drewN | apply Kd.R_drew)); exact HO257.out) (Kd.R_base ho0) hb); have n1_ := Aside0.mk (Kd.R_lower (Kd.R_new' ho0 (Kd.R_lt (by (with_reducible repeat (first | apply Kd.R_alloc | apply Kd.R_drewN | apply Kd.R_drew)); exact HO257.out))) (below_size (by repeat (first | (with_reducible first | exact HB.out | apply below_alloc | apply pw_below_drewN | apply below_drew1) | exact HB.out)))); have n2_ := Aside0.mk (below_step (by repeat (first | (with_reducible first | exact HB.out | apply below_alloc | apply pw_below_drewN | apply below_drew1) | exact HB.out)) hb); clear HO257; clear HB; have HO257 := n0_; have HO262 := n1_; have HB := n2_; clear n0_ n1_ n2_; (try clear hb); (try clear hb2); (try clear hk); (try clear hi); (try clear ho0); obtain ⟨Ao29, co29, eo29⟩ := Kd.R_slice HO257.out; subst eo29; have p263 : 0 ≤ (1 : Int) := (by omega); have q263 : 1 < (t253.length : Int) := of_decide_eq_true (by first | (with_reducible assumption) | assumption); obtain ⟨ad263, e263, hx263_0, hx263_1, hx263_2, hx263_3, hx263_4⟩ := at_T31 (Kd.R_reads' HO257.out).2.2 1 p263 q263; cases e263; (try simp only [show (1 : Int).toNat = 1 from rfl, Nat.reduceMul, Nat.reduceEqDiff, Go.Addr.add, ↓reduceIte] at hx263_0); (try simp only [show (1 : Int).toNat = 1 from rfl, Nat.reduceMul, Nat.reduceEqDiff, Go.Addr.add, ↓reduceIte] at hx263_1); (try simp only [show (1 : Int).toNat = 1 from rfl, Nat.reduceMul, Nat.reduceEqDiff, Go.Addr.add, ↓reduceIte] at hx263_2); (try simp only [show (1 : Int).toNat = 1 from rfl, Nat.reduceMul, Nat.reduceEqDiff, Go.Addr.add, ↓reduceIte] at hx263_3); (try simp only [show (1 : Int).toNat = 1 from rfl, Nat.reduceMul, Nat.reduceEqDiff, Go.Addr.add, ↓reduceIte] at hx263_4); have qi263 : (1 < t253.length) = True := eq_true (by omega); (try rw [show ((1 : Int)).toNat = 1 from rfl] at hx263_0); (try rw [show 1 * 5 = 5 from rfl] at hx263_0); (try rw [show ((1 : Int)).toNat = 1 from rfl] at hx263_1); (try rw [show 1 * 5 = 5 from rfl] at hx263_1); (try rw [show ((1 : Int)).toNat = 1 from rfl] at hx263_2); (try rw [show 1 * 5 = 5 from rfl] at hx263_2); (try rw [show ((1 : Int)).toNat = 1 from rfl] at hx263_3); (try rw [show 1 * 5 = 5 from rfl] at hx263_3); (try rw [show ((1 : Int)).toNat = 1 from rfl] at hx263_4); (try rw [show 1 * 5 = 5 from rfl] at hx263_4); replace p263 := eq_true p263; replace q263 := eq_true q263; have p264 : 0 ≤ (2 : Int) := (by omega); have q264 : 2 < (t253.length : Int) := of_decide_eq_true (by first | (with_reducible assumption) | assumption); obtain ⟨ad264, e264, hx264_0, hx264_1, hx264_2, hx264_3, hx264_4⟩ := at_T31 (Kd.R_reads' HO257.out).2.2 2 p264 q264; obtain rfl : ad263 = ad264 := (by injection e264); (try simp only [show (2 : Int).toNat = 2 from rfl, Nat.reduceMul, Nat.reduceEqDiff, Go.Addr.add, ↓reduceIte] at hx264_0); (try simp only [show (2 : Int).toNat = 2 from rfl, Nat.reduceMul, Nat.reduceEqDiff, Go.Addr.add, ↓reduceIte] at hx264_1); (try simp only [show (2 : Int).toNat = 2 from rfl, Nat.reduceMul, Nat.reduceEqDiff, Go.Addr.add, ↓reduceIte] at hx264_2); (try simp only [show (2 : Int).toNat = 2 from rfl, Nat.reduceMul, Nat.reduceEqDiff, Go.Addr.add, ↓reduceIte] at hx264_3); (try simp only [show (2 : Int).toNat = 2 from rfl, Nat.reduceMul, Nat.reduceEqDiff, Go.Addr.add, ↓reduceIte] at hx264_4); have qi264 : (2 < t253.length) = True := eq_true (by omega); (try rw [show ((2 : Int)).toNat = 2 from rfl] at hx264_0); (try rw [show 2 * 5 = 10 from rfl] at hx264_0); (try rw [show ((2 : Int)).toNat = 2 from rfl] at hx264_1); (try rw [show 2 * 5 = 10 from rfl] at hx264_1); (try rw [show ((2 : Int)).toNat = 2 from rfl] at hx264_2); (try rw [show 2 * 5 = 10 from rfl] at hx264_2); (try rw [show ((2 : Int)).toNat = 2 from rfl] at hx264_3); (try rw [show 2 * 5 = 10 from rfl] at hx264_3); (try rw [show ((2 : Int)).toNat = 2 from rfl] at hx264_4); (try rw [show 2 * 5 = 10 from rfl] at hx264_4); replace p264 := eq_true p264; replace q264 := eq_true q264) | (go_at_call 21; (with_reducible refine (lex_Quote.calls (⟨#[10]⟩ : ByteArray) t265 _ A11.out).mono ?_); rintro e w30 ⟨rfl, hb⟩; have n0_ := Aside0.mk (Kd.R_below (by (with_reducible repeat (first | apply Kd.R_alloc | apply Kd.R_drewN | apply Kd.R_drew)); exact HO257.out) hb); have n1_ := Aside0.mk (Kd.R_below (by (with_reducible repeat (first | apply Kd.R_alloc | apply Kd.R_drewN | apply Kd.R_drew)); exact HO262.out) hb); have n2_ := Aside0.mk (below_step (by repeat (first | (with_reducible first | exact HB.out | apply below_alloc | apply pw_below_drewN | apply below_drew1) | exact HB.out)) hb); clear HO257; clear HO262; clear HB; have HO257 := n0_; have HO262 := n1_; have HB := n2_; clear n0_ n1_ n2_; (try clear hb); (try clear hb2); (try clear hk); (try clear hi)))
                    go_ret
                    exact ⟨by first | rfl | (simp [errW_none, errW_some] <;> rfl) | (simp [*, errW_none, errW_some] <;> rfl), by repeat (first | (with_reducible first | exact HB.out | apply below_alloc | apply pw_below_drewN | apply below_drew1) | exact HB.out)⟩
                · rw [if_neg c10] at H
                  have c10b0 : (t259 == 2) = false := beq_eq_false_iff_ne.mpr c10
                  have c10b1 : (t259 != 2) = true := bne_iff_ne.mpr c10
                  obtain rfl := Option.some.inj H
                  go_enter Try.func13, Try.ntmps13
                  go_wp2_with (first | ((with_reducible refine gate_callee (f := 18) rfl ?_); refine goesL_ (some 8) rfl rfl Try.func18 (by kernel_rfl) rfl #[.string (⟨#[97, 49, 60, 61, 49, 50, 105, 56, 32, 47, 47, 32, 98]⟩ : ByteArray)] rfl (by (try simp only [List.map_toArray, List.map_cons, List.map_nil]); first | done | rfl | (simp only [List.length_drop, List.length_take]; rfl)) ?_; (with_reducible refine (lex_Tokens.calls (⟨#[97, 49, 60, 61, 49, 50, 105, 56, 32, 47, 47, 32, 98]⟩ : ByteArray) t253 t254 t255 _ A1.out).mono ?_); rintro e w31 ⟨v256, rfl, ho0, hb⟩; refine ⟨_, rfl, ?_⟩; have n0_ := Aside0.mk (Kd.R_lower ho0 (below_size (by repeat (first | (with_reducible first | exact HB.out | apply below_alloc | apply pw_below_drewN | apply below_drew1) | exact HB.out)))); have n1_ := Aside0.mk (below_step (by repeat (first | (with_reducible first | exact HB.out | apply below_alloc | apply pw_below_drewN | apply below_drew1) | exact HB.out)) hb); clear HB; have HO257 := n0_; have HB := n1_; clear n0_ n1_; (try clear hb); (try clear hb2); (try clear hk); (try clear hi); (try clear ho0)) | ((with_reducible refine gate_callee (f := 18) rfl ?_); refine goesL_ (some 13) rfl rfl Try.func18 (by kernel_rfl) rfl #[.string (⟨#[120, 32, 49, 50, 97]⟩ : ByteArray)] rfl (by (try simp only [List.map_toArray, List.map_cons, List.map_nil]); first | done | rfl | (simp only [List.length_drop, List.length_take]; rfl)) ?_; (with_reducible refine (lex_Tokens.calls (⟨#[120, 32, 49, 50, 97]⟩ : ByteArray) t258 t259 t260 _ A2.out).mono ?_); rintro e w32 ⟨v261, rfl, ho0, hb⟩; refine ⟨_, rfl, ?_⟩; have n0_ := Aside0.mk (Kd.R_elder' (by (with_reducible repeat (first | apply Kd.R_alloc | apply Kd.R_drewN | apply Kd.R_drew)); exact HO257.out) (Kd.R_base ho0) hb); have n1_ := Aside0.mk (Kd.R_lower (Kd.R_new' ho0 (Kd.R_lt (by (with_reducible repeat (first | apply Kd.R_alloc | apply Kd.R_drewN | apply Kd.R_drew)); exact HO257.out))) (below_size (by repeat (first | (with_reducible first | exact HB.out | apply below_alloc | apply pw_below_drewN | apply below_drew1) | exact HB.out)))); have n2_ := Aside0.mk (below_step (by repeat (first | (with_reducible first | exact HB.out | apply below_alloc | apply pw_below_drewN | apply below_drew1) | exact HB.out)) hb); clear HO257; clear HB; have HO257 := n0_; have HO262 := n1_; have HB := n2_; clear n0_ n1_ n2_; (try clear hb); (try clear hb2); (try clear hk); (try clear hi); (try clear ho0); obtain ⟨Ao33, co33, eo33⟩ := Kd.R_slice HO257.out; subst eo33; have p263 : 0 ≤ (1 : Int) := (by omega); have q263 : 1 < (t253.length : Int) := of_decide_eq_true (by first | (with_reducible assumption) | assumption); obtain ⟨ad263, e263, hx263_0, hx263_1, hx263_2, hx263_3, hx263_4⟩ := at_T31 (Kd.R_reads' HO257.out).2.2 1 p263 q263; cases e263; (try simp only [show (1 : Int).toNat = 1 from rfl, Nat.reduceMul, Nat.reduceEqDiff, Go.Addr.add, ↓reduceIte] at hx263_0); (try simp only [show (1 : Int).toNat = 1 from rfl, Nat.reduceMul, Nat.reduceEqDiff, Go.Addr.add, ↓reduceIte] at hx263_1); (try simp only [show (1 : Int).toNat = 1 from rfl, Nat.reduceMul, Nat.reduceEqDiff, Go.Addr.add, ↓reduceIte] at hx263_2); (try simp only [show (1 : Int).toNat = 1 from rfl, Nat.reduceMul, Nat.reduceEqDiff, Go.Addr.add, ↓reduceIte] at hx263_3); (try simp only [show (1 : Int).toNat = 1 from rfl, Nat.reduceMul, Nat.reduceEqDiff, Go.Addr.add, ↓reduceIte] at hx263_4); have qi263 : (1 < t253.length) = True := eq_true (by omega); (try rw [show ((1 : Int)).toNat = 1 from rfl] at hx263_0); (try rw [show 1 * 5 = 5 from rfl] at hx263_0); (try rw [show ((1 : Int)).toNat = 1 from rfl] at hx263_1); (try rw [show 1 * 5 = 5 from rfl] at hx263_1); (try rw [show ((1 : Int)).toNat = 1 from rfl] at hx263_2); (try rw [show 1 * 5 = 5 from rfl] at hx263_2); (try rw [show ((1 : Int)).toNat = 1 from rfl] at hx263_3); (try rw [show 1 * 5 = 5 from rfl] at hx263_3); (try rw [show ((1 : Int)).toNat = 1 from rfl] at hx263_4); (try rw [show 1 * 5 = 5 from rfl] at hx263_4); replace p263 := eq_true p263; replace q263 := eq_true q263; have p264 : 0 ≤ (2 : Int) := (by omega); have q264 : 2 < (t253.length : Int) := of_decide_eq_true (by first | (with_reducible assumption) | assumption); obtain ⟨ad264, e264, hx264_0, hx264_1, hx264_2, hx264_3, hx264_4⟩ := at_T31 (Kd.R_reads' HO257.out).2.2 2 p264 q264; obtain rfl : ad263 = ad264 := (by injection e264); (try simp only [show (2 : Int).toNat = 2 from rfl, Nat.reduceMul, Nat.reduceEqDiff, Go.Addr.add, ↓reduceIte] at hx264_0); (try simp only [show (2 : Int).toNat = 2 from rfl, Nat.reduceMul, Nat.reduceEqDiff, Go.Addr.add, ↓reduceIte] at hx264_1); (try simp only [show (2 : Int).toNat = 2 from rfl, Nat.reduceMul, Nat.reduceEqDiff, Go.Addr.add, ↓reduceIte] at hx264_2); (try simp only [show (2 : Int).toNat = 2 from rfl, Nat.reduceMul, Nat.reduceEqDiff, Go.Addr.add, ↓reduceIte] at hx264_3); (try simp only [show (2 : Int).toNat = 2 from rfl, Nat.reduceMul, Nat.reduceEqDiff, Go.Addr.add, ↓reduceIte] at hx264_4); have qi264 : (2 < t253.length) = True := eq_true (by omega); (try rw [show ((2 : Int)).toNat = 2 from rfl] at hx264_0); (try rw [show 2 * 5 = 10 from rfl] at hx264_0); (try rw [show ((2 : Int)).toNat = 2 from rfl] at hx264_1); (try rw [show 2 * 5 = 10 from rfl] at hx264_1); (try rw [show ((2 : Int)).toNat = 2 from rfl] at hx264_2); (try rw [show 2 * 5 = 10 from rfl] at hx264_2); (try rw [show ((2 : Int)).toNat = 2 from rfl] at hx264_3); (try rw [show 2 * 5 = 10 from rfl] at hx264_3); (try rw [show ((2 : Int)).toNat = 2 from rfl] at hx264_4); (try rw [show 2 * 5 = 10 from rfl] at hx264_4); replace p264 := eq_true p264; replace q264 := eq_true q264))
                  go_ret
                  exact ⟨by first | rfl | (simp [errW_none, errW_some] <;> rfl) | (simp [*, errW_none, errW_some] <;> rfl), by repeat (first | (with_reducible first | exact HB.out | apply below_alloc | apply pw_below_drewN | apply below_drew1) | exact HB.out)⟩
              · rw [if_neg c9] at H
                have c9b0 : (t260 == 33) = false := beq_eq_false_iff_ne.mpr c9
                have c9b1 : (t260 != 33) = true := bne_iff_ne.mpr c9
                obtain rfl := Option.some.inj H
                go_enter Try.func13, Try.ntmps13
                go_wp2_with (first | ((with_reducible refine gate_callee (f := 18) rfl ?_); refine goesL_ (some 8) rfl rfl Try.func18 (by kernel_rfl) rfl #[.string (⟨#[97, 49, 60, 61, 49, 50, 105, 56, 32, 47, 47, 32, 98]⟩ : ByteArray)] rfl (by (try simp only [List.map_toArray, List.map_cons, List.map_nil]); first | done | rfl | (simp only [List.length_drop, List.length_take]; rfl)) ?_; (with_reducible refine (lex_Tokens.calls (⟨#[97, 49, 60, 61, 49, 50, 105, 56, 32, 47, 47, 32, 98]⟩ : ByteArray) t253 t254 t255 _ A1.out).mono ?_); rintro e w34 ⟨v256, rfl, ho0, hb⟩; refine ⟨_, rfl, ?_⟩; have n0_ := Aside0.mk (Kd.R_lower ho0 (below_size (by repeat (first | (with_reducible first | exact HB.out | apply below_alloc | apply pw_below_drewN | apply below_drew1) | exact HB.out)))); have n1_ := Aside0.mk (below_step (by repeat (first | (with_reducible first | exact HB.out | apply below_alloc | apply pw_below_drewN | apply below_drew1) | exact HB.out)) hb); clear HB; have HO257 := n0_; have HB := n1_; clear n0_ n1_; (try clear hb); (try clear hb2); (try clear hk); (try clear hi); (try clear ho0)) | ((with_reducible refine gate_callee (f := 18) rfl ?_); refine goesL_ (some 13) rfl rfl Try.func18 (by kernel_rfl) rfl #[.string (⟨#[120, 32, 49, 50, 97]⟩ : ByteArray)] rfl (by (try simp only [List.map_toArray, List.map_cons, List.map_nil]); first | done | rfl | (simp only [List.length_drop, List.length_take]; rfl)) ?_; (with_reducible refine (lex_Tokens.calls (⟨#[120, 32, 49, 50, 97]⟩ : ByteArray) t258 t259 t260 _ A2.out).mono ?_); rintro e w35 ⟨v261, rfl, ho0, hb⟩; refine ⟨_, rfl, ?_⟩; have n0_ := Aside0.mk (Kd.R_elder' (by (with_reducible repeat (first | apply Kd.R_alloc | apply Kd.R_drewN | apply Kd.R_drew)); exact HO257.out) (Kd.R_base ho0) hb); have n1_ := Aside0.mk (Kd.R_lower (Kd.R_new' ho0 (Kd.R_lt (by (with_reducible repeat (first | apply Kd.R_alloc | apply Kd.R_drewN | apply Kd.R_drew)); exact HO257.out))) (below_size (by repeat (first | (with_reducible first | exact HB.out | apply below_alloc | apply pw_below_drewN | apply below_drew1) | exact HB.out)))); have n2_ := Aside0.mk (below_step (by repeat (first | (with_reducible first | exact HB.out | apply below_alloc | apply pw_below_drewN | apply below_drew1) | exact HB.out)) hb); clear HO257; clear HB; have HO257 := n0_; have HO262 := n1_; have HB := n2_; clear n0_ n1_ n2_; (try clear hb); (try clear hb2); (try clear hk); (try clear hi); (try clear ho0); obtain ⟨Ao36, co36, eo36⟩ := Kd.R_slice HO257.out; subst eo36; have p263 : 0 ≤ (1 : Int) := (by omega); have q263 : 1 < (t253.length : Int) := of_decide_eq_true (by first | (with_reducible assumption) | assumption); obtain ⟨ad263, e263, hx263_0, hx263_1, hx263_2, hx263_3, hx263_4⟩ := at_T31 (Kd.R_reads' HO257.out).2.2 1 p263 q263; cases e263; (try simp only [show (1 : Int).toNat = 1 from rfl, Nat.reduceMul, Nat.reduceEqDiff, Go.Addr.add, ↓reduceIte] at hx263_0); (try simp only [show (1 : Int).toNat = 1 from rfl, Nat.reduceMul, Nat.reduceEqDiff, Go.Addr.add, ↓reduceIte] at hx263_1); (try simp only [show (1 : Int).toNat = 1 from rfl, Nat.reduceMul, Nat.reduceEqDiff, Go.Addr.add, ↓reduceIte] at hx263_2); (try simp only [show (1 : Int).toNat = 1 from rfl, Nat.reduceMul, Nat.reduceEqDiff, Go.Addr.add, ↓reduceIte] at hx263_3); (try simp only [show (1 : Int).toNat = 1 from rfl, Nat.reduceMul, Nat.reduceEqDiff, Go.Addr.add, ↓reduceIte] at hx263_4); have qi263 : (1 < t253.length) = True := eq_true (by omega); (try rw [show ((1 : Int)).toNat = 1 from rfl] at hx263_0); (try rw [show 1 * 5 = 5 from rfl] at hx263_0); (try rw [show ((1 : Int)).toNat = 1 from rfl] at hx263_1); (try rw [show 1 * 5 = 5 from rfl] at hx263_1); (try rw [show ((1 : Int)).toNat = 1 from rfl] at hx263_2); (try rw [show 1 * 5 = 5 from rfl] at hx263_2); (try rw [show ((1 : Int)).toNat = 1 from rfl] at hx263_3); (try rw [show 1 * 5 = 5 from rfl] at hx263_3); (try rw [show ((1 : Int)).toNat = 1 from rfl] at hx263_4); (try rw [show 1 * 5 = 5 from rfl] at hx263_4); replace p263 := eq_true p263; replace q263 := eq_true q263; have p264 : 0 ≤ (2 : Int) := (by omega); have q264 : 2 < (t253.length : Int) := of_decide_eq_true (by first | (with_reducible assumption) | assumption); obtain ⟨ad264, e264, hx264_0, hx264_1, hx264_2, hx264_3, hx264_4⟩ := at_T31 (Kd.R_reads' HO257.out).2.2 2 p264 q264; obtain rfl : ad263 = ad264 := (by injection e264); (try simp only [show (2 : Int).toNat = 2 from rfl, Nat.reduceMul, Nat.reduceEqDiff, Go.Addr.add, ↓reduceIte] at hx264_0); (try simp only [show (2 : Int).toNat = 2 from rfl, Nat.reduceMul, Nat.reduceEqDiff, Go.Addr.add, ↓reduceIte] at hx264_1); (try simp only [show (2 : Int).toNat = 2 from rfl, Nat.reduceMul, Nat.reduceEqDiff, Go.Addr.add, ↓reduceIte] at hx264_2); (try simp only [show (2 : Int).toNat = 2 from rfl, Nat.reduceMul, Nat.reduceEqDiff, Go.Addr.add, ↓reduceIte] at hx264_3); (try simp only [show (2 : Int).toNat = 2 from rfl, Nat.reduceMul, Nat.reduceEqDiff, Go.Addr.add, ↓reduceIte] at hx264_4); have qi264 : (2 < t253.length) = True := eq_true (by omega); (try rw [show ((2 : Int)).toNat = 2 from rfl] at hx264_0); (try rw [show 2 * 5 = 10 from rfl] at hx264_0); (try rw [show ((2 : Int)).toNat = 2 from rfl] at hx264_1); (try rw [show 2 * 5 = 10 from rfl] at hx264_1); (try rw [show ((2 : Int)).toNat = 2 from rfl] at hx264_2); (try rw [show 2 * 5 = 10 from rfl] at hx264_2); (try rw [show ((2 : Int)).toNat = 2 from rfl] at hx264_3); (try rw [show 2 * 5 = 10 from rfl] at hx264_3); (try rw [show ((2 : Int)).toNat = 2 from rfl] at hx264_4); (try rw [show 2 * 5 = 10 from rfl] at hx264_4); replace p264 := eq_true p264; replace q264 := eq_true q264))
                go_ret
                exact ⟨by first | rfl | (simp [errW_none, errW_some] <;> rfl) | (simp [*, errW_none, errW_some] <;> rfl), by repeat (first | (with_reducible first | exact HB.out | apply below_alloc | apply pw_below_drewN | apply below_drew1) | exact HB.out)⟩
            · rw [if_neg c8] at H
              have c8b0 : (((rd_T31 t253 2).f0) == 2 && ((((rd_T31 t253 2).f1).toList) == ([105, 56] : List UInt8) && (((rd_T31 t253 2).f2) == 12 && (((rd_T31 t253 2).f3) == 4 && (((rd_T31 t253 2).f4) == 8))))) = false := by simpa using c8
              (try (have c8b1 : decide (((rd_T31 t253 2).f0) = 2 && ((((rd_T31 t253 2).f1).toList) == ([105, 56] : List UInt8) && (((rd_T31 t253 2).f2) == 12 && (((rd_T31 t253 2).f3) == 4 && (((rd_T31 t253 2).f4) == 8))))) = false := by simpa using c8))
              (try (have c8b2 : (((rd_T31 t253 2).f0) == 2 && ((((rd_T31 t253 2).f1).toList) == ([105, 56] : List UInt8) && (((rd_T31 t253 2).f2) == 12 && (((rd_T31 t253 2).f3) == 4 && (((rd_T31 t253 2).f4) == 8))))) = false := by simpa using c8))
              (try (have c8b3 : ¬ (((rd_T31 t253 2).f0) = 2 && ((((rd_T31 t253 2).f1).toList) == ([105, 56] : List UInt8) && (((rd_T31 t253 2).f2) == 12 && (((rd_T31 t253 2).f3) == 4 && (((rd_T31 t253 2).f4) == 8))))) := by simpa using c8))
              clear c8
              obtain rfl := Option.some.inj H
              go_enter Try.func13, Try.ntmps13
              go_wp2_with (first | ((with_reducible refine gate_callee (f := 18) rfl ?_); refine goesL_ (some 8) rfl rfl Try.func18 (by kernel_rfl) rfl #[.string (⟨#[97, 49, 60, 61, 49, 50, 105, 56, 32, 47, 47, 32, 98]⟩ : ByteArray)] rfl (by (try simp only [List.map_toArray, List.map_cons, List.map_nil]); first | done | rfl | (simp only [List.length_drop, List.length_take]; rfl)) ?_; (with_reducible refine (lex_Tokens.calls (⟨#[97, 49, 60, 61, 49, 50, 105, 56, 32, 47, 47, 32, 98]⟩ : ByteArray) t253 t254 t255 _ A1.out).mono ?_); rintro e w37 ⟨v256, rfl, ho0, hb⟩; refine ⟨_, rfl, ?_⟩; have n0_ := Aside0.mk (Kd.R_lower ho0 (below_size (by repeat (first | (with_reducible first | exact HB.out | apply below_alloc | apply pw_below_drewN | apply below_drew1) | exact HB.out)))); have n1_ := Aside0.mk (below_step (by repeat (first | (with_reducible first | exact HB.out | apply below_alloc | apply pw_below_drewN | apply below_drew1) | exact HB.out)) hb); clear HB; have HO257 := n0_; have HB := n1_; clear n0_ n1_; (try clear hb); (try clear hb2); (try clear hk); (try clear hi); (try clear ho0)) | ((with_reducible refine gate_callee (f := 18) rfl ?_); refine goesL_ (some 13) rfl rfl Try.func18 (by kernel_rfl) rfl #[.string (⟨#[120, 32, 49, 50, 97]⟩ : ByteArray)] rfl (by (try simp only [List.map_toArray, List.map_cons, List.map_nil]); first | done | rfl | (simp only [List.length_drop, List.length_take]; rfl)) ?_; (with_reducible refine (lex_Tokens.calls (⟨#[120, 32, 49, 50, 97]⟩ : ByteArray) t258 t259 t260 _ A2.out).mono ?_); rintro e w38 ⟨v261, rfl, ho0, hb⟩; refine ⟨_, rfl, ?_⟩; have n0_ := Aside0.mk (Kd.R_elder' (by (with_reducible repeat (first | apply Kd.R_alloc | apply Kd.R_drewN | apply Kd.R_drew)); exact HO257.out) (Kd.R_base ho0) hb); have n1_ := Aside0.mk (Kd.R_lower (Kd.R_new' ho0 (Kd.R_lt (by (with_reducible repeat (first | apply Kd.R_alloc | apply Kd.R_drewN | apply Kd.R_drew)); exact HO257.out))) (below_size (by repeat (first | (with_reducible first | exact HB.out | apply below_alloc | apply pw_below_drewN | apply below_drew1) | exact HB.out)))); have n2_ := Aside0.mk (below_step (by repeat (first | (with_reducible first | exact HB.out | apply below_alloc | apply pw_below_drewN | apply below_drew1) | exact HB.out)) hb); clear HO257; clear HB; have HO257 := n0_; have HO262 := n1_; have HB := n2_; clear n0_ n1_ n2_; (try clear hb); (try clear hb2); (try clear hk); (try clear hi); (try clear ho0); obtain ⟨Ao39, co39, eo39⟩ := Kd.R_slice HO257.out; subst eo39; have p263 : 0 ≤ (1 : Int) := (by omega); have q263 : 1 < (t253.length : Int) := of_decide_eq_true (by first | (with_reducible assumption) | assumption); obtain ⟨ad263, e263, hx263_0, hx263_1, hx263_2, hx263_3, hx263_4⟩ := at_T31 (Kd.R_reads' HO257.out).2.2 1 p263 q263; cases e263; (try simp only [show (1 : Int).toNat = 1 from rfl, Nat.reduceMul, Nat.reduceEqDiff, Go.Addr.add, ↓reduceIte] at hx263_0); (try simp only [show (1 : Int).toNat = 1 from rfl, Nat.reduceMul, Nat.reduceEqDiff, Go.Addr.add, ↓reduceIte] at hx263_1); (try simp only [show (1 : Int).toNat = 1 from rfl, Nat.reduceMul, Nat.reduceEqDiff, Go.Addr.add, ↓reduceIte] at hx263_2); (try simp only [show (1 : Int).toNat = 1 from rfl, Nat.reduceMul, Nat.reduceEqDiff, Go.Addr.add, ↓reduceIte] at hx263_3); (try simp only [show (1 : Int).toNat = 1 from rfl, Nat.reduceMul, Nat.reduceEqDiff, Go.Addr.add, ↓reduceIte] at hx263_4); have qi263 : (1 < t253.length) = True := eq_true (by omega); (try rw [show ((1 : Int)).toNat = 1 from rfl] at hx263_0); (try rw [show 1 * 5 = 5 from rfl] at hx263_0); (try rw [show ((1 : Int)).toNat = 1 from rfl] at hx263_1); (try rw [show 1 * 5 = 5 from rfl] at hx263_1); (try rw [show ((1 : Int)).toNat = 1 from rfl] at hx263_2); (try rw [show 1 * 5 = 5 from rfl] at hx263_2); (try rw [show ((1 : Int)).toNat = 1 from rfl] at hx263_3); (try rw [show 1 * 5 = 5 from rfl] at hx263_3); (try rw [show ((1 : Int)).toNat = 1 from rfl] at hx263_4); (try rw [show 1 * 5 = 5 from rfl] at hx263_4); replace p263 := eq_true p263; replace q263 := eq_true q263; have p264 : 0 ≤ (2 : Int) := (by omega); have q264 : 2 < (t253.length : Int) := of_decide_eq_true (by first | (with_reducible assumption) | assumption); obtain ⟨ad264, e264, hx264_0, hx264_1, hx264_2, hx264_3, hx264_4⟩ := at_T31 (Kd.R_reads' HO257.out).2.2 2 p264 q264; obtain rfl : ad263 = ad264 := (by injection e264); (try simp only [show (2 : Int).toNat = 2 from rfl, Nat.reduceMul, Nat.reduceEqDiff, Go.Addr.add, ↓reduceIte] at hx264_0); (try simp only [show (2 : Int).toNat = 2 from rfl, Nat.reduceMul, Nat.reduceEqDiff, Go.Addr.add, ↓reduceIte] at hx264_1); (try simp only [show (2 : Int).toNat = 2 from rfl, Nat.reduceMul, Nat.reduceEqDiff, Go.Addr.add, ↓reduceIte] at hx264_2); (try simp only [show (2 : Int).toNat = 2 from rfl, Nat.reduceMul, Nat.reduceEqDiff, Go.Addr.add, ↓reduceIte] at hx264_3); (try simp only [show (2 : Int).toNat = 2 from rfl, Nat.reduceMul, Nat.reduceEqDiff, Go.Addr.add, ↓reduceIte] at hx264_4); have qi264 : (2 < t253.length) = True := eq_true (by omega); (try rw [show ((2 : Int)).toNat = 2 from rfl] at hx264_0); (try rw [show 2 * 5 = 10 from rfl] at hx264_0); (try rw [show ((2 : Int)).toNat = 2 from rfl] at hx264_1); (try rw [show 2 * 5 = 10 from rfl] at hx264_1); (try rw [show ((2 : Int)).toNat = 2 from rfl] at hx264_2); (try rw [show 2 * 5 = 10 from rfl] at hx264_2); (try rw [show ((2 : Int)).toNat = 2 from rfl] at hx264_3); (try rw [show 2 * 5 = 10 from rfl] at hx264_3); (try rw [show ((2 : Int)).toNat = 2 from rfl] at hx264_4); (try rw [show 2 * 5 = 10 from rfl] at hx264_4); replace p264 := eq_true p264; replace q264 := eq_true q264))
              go_ret
              exact ⟨by first | rfl | (simp [errW_none, errW_some] <;> rfl) | (simp [*, errW_none, errW_some] <;> rfl), by repeat (first | (with_reducible first | exact HB.out | apply below_alloc | apply pw_below_drewN | apply below_drew1) | exact HB.out)⟩
          · rw [if_neg c7] at H
            exact absurd H (by simp)
        · rw [if_neg c6] at H
          have c6b0 : (((rd_T31 t253 1).f1).toList == ([60, 61] : List UInt8)) = false := beq_eq_false_iff_ne.mpr c6
          have c6b1 : (((rd_T31 t253 1).f1).toList != ([60, 61] : List UInt8)) = true := bne_iff_ne.mpr c6
          obtain rfl := Option.some.inj H
          go_enter Try.func13, Try.ntmps13
          go_wp2_with (first | ((with_reducible refine gate_callee (f := 18) rfl ?_); refine goesL_ (some 8) rfl rfl Try.func18 (by kernel_rfl) rfl #[.string (⟨#[97, 49, 60, 61, 49, 50, 105, 56, 32, 47, 47, 32, 98]⟩ : ByteArray)] rfl (by (try simp only [List.map_toArray, List.map_cons, List.map_nil]); first | done | rfl | (simp only [List.length_drop, List.length_take]; rfl)) ?_; (with_reducible refine (lex_Tokens.calls (⟨#[97, 49, 60, 61, 49, 50, 105, 56, 32, 47, 47, 32, 98]⟩ : ByteArray) t253 t254 t255 _ A1.out).mono ?_); rintro e w40 ⟨v256, rfl, ho0, hb⟩; refine ⟨_, rfl, ?_⟩; have n0_ := Aside0.mk (Kd.R_lower ho0 (below_size (by repeat (first | (with_reducible first | exact HB.out | apply below_alloc | apply pw_below_drewN | apply below_drew1) | exact HB.out)))); have n1_ := Aside0.mk (below_step (by repeat (first | (with_reducible first | exact HB.out | apply below_alloc | apply pw_below_drewN | apply below_drew1) | exact HB.out)) hb); clear HB; have HO257 := n0_; have HB := n1_; clear n0_ n1_; (try clear hb); (try clear hb2); (try clear hk); (try clear hi); (try clear ho0)) | ((with_reducible refine gate_callee (f := 18) rfl ?_); refine goesL_ (some 13) rfl rfl Try.func18 (by kernel_rfl) rfl #[.string (⟨#[120, 32, 49, 50, 97]⟩ : ByteArray)] rfl (by (try simp only [List.map_toArray, List.map_cons, List.map_nil]); first | done | rfl | (simp only [List.length_drop, List.length_take]; rfl)) ?_; (with_reducible refine (lex_Tokens.calls (⟨#[120, 32, 49, 50, 97]⟩ : ByteArray) t258 t259 t260 _ A2.out).mono ?_); rintro e w41 ⟨v261, rfl, ho0, hb⟩; refine ⟨_, rfl, ?_⟩; have n0_ := Aside0.mk (Kd.R_elder' (by (with_reducible repeat (first | apply Kd.R_alloc | apply Kd.R_drewN | apply Kd.R_drew)); exact HO257.out) (Kd.R_base ho0) hb); have n1_ := Aside0.mk (Kd.R_lower (Kd.R_new' ho0 (Kd.R_lt (by (with_reducible repeat (first | apply Kd.R_alloc | apply Kd.R_drewN | apply Kd.R_drew)); exact HO257.out))) (below_size (by repeat (first | (with_reducible first | exact HB.out | apply below_alloc | apply pw_below_drewN | apply below_drew1) | exact HB.out)))); have n2_ := Aside0.mk (below_step (by repeat (first | (with_reducible first | exact HB.out | apply below_alloc | apply pw_below_drewN | apply below_drew1) | exact HB.out)) hb); clear HO257; clear HB; have HO257 := n0_; have HO262 := n1_; have HB := n2_; clear n0_ n1_ n2_; (try clear hb); (try clear hb2); (try clear hk); (try clear hi); (try clear ho0); obtain ⟨Ao42, co42, eo42⟩ := Kd.R_slice HO257.out; subst eo42; have p263 : 0 ≤ (1 : Int) := (by omega); have q263 : 1 < (t253.length : Int) := of_decide_eq_true (by first | (with_reducible assumption) | assumption); obtain ⟨ad263, e263, hx263_0, hx263_1, hx263_2, hx263_3, hx263_4⟩ := at_T31 (Kd.R_reads' HO257.out).2.2 1 p263 q263; cases e263; (try simp only [show (1 : Int).toNat = 1 from rfl, Nat.reduceMul, Nat.reduceEqDiff, Go.Addr.add, ↓reduceIte] at hx263_0); (try simp only [show (1 : Int).toNat = 1 from rfl, Nat.reduceMul, Nat.reduceEqDiff, Go.Addr.add, ↓reduceIte] at hx263_1); (try simp only [show (1 : Int).toNat = 1 from rfl, Nat.reduceMul, Nat.reduceEqDiff, Go.Addr.add, ↓reduceIte] at hx263_2); (try simp only [show (1 : Int).toNat = 1 from rfl, Nat.reduceMul, Nat.reduceEqDiff, Go.Addr.add, ↓reduceIte] at hx263_3); (try simp only [show (1 : Int).toNat = 1 from rfl, Nat.reduceMul, Nat.reduceEqDiff, Go.Addr.add, ↓reduceIte] at hx263_4); have qi263 : (1 < t253.length) = True := eq_true (by omega); (try rw [show ((1 : Int)).toNat = 1 from rfl] at hx263_0); (try rw [show 1 * 5 = 5 from rfl] at hx263_0); (try rw [show ((1 : Int)).toNat = 1 from rfl] at hx263_1); (try rw [show 1 * 5 = 5 from rfl] at hx263_1); (try rw [show ((1 : Int)).toNat = 1 from rfl] at hx263_2); (try rw [show 1 * 5 = 5 from rfl] at hx263_2); (try rw [show ((1 : Int)).toNat = 1 from rfl] at hx263_3); (try rw [show 1 * 5 = 5 from rfl] at hx263_3); (try rw [show ((1 : Int)).toNat = 1 from rfl] at hx263_4); (try rw [show 1 * 5 = 5 from rfl] at hx263_4); replace p263 := eq_true p263; replace q263 := eq_true q263))
          go_ret
          exact ⟨by first | rfl | (simp [errW_none, errW_some] <;> rfl) | (simp [*, errW_none, errW_some] <;> rfl), by repeat (first | (with_reducible first | exact HB.out | apply below_alloc | apply pw_below_drewN | apply below_drew1) | exact HB.out)⟩
      · rw [if_neg c5] at H
        exact absurd H (by simp)
    · rw [if_neg c4] at H
      have c4b0 : ((t253.length : Int) == 3) = false := beq_eq_false_iff_ne.mpr c4
      have c4b1 : ((t253.length : Int) != 3) = true := bne_iff_ne.mpr c4
      obtain rfl := Option.some.inj H
      go_enter Try.func13, Try.ntmps13
      go_wp2_with (first | ((with_reducible refine gate_callee (f := 18) rfl ?_); refine goesL_ (some 8) rfl rfl Try.func18 (by kernel_rfl) rfl #[.string (⟨#[97, 49, 60, 61, 49, 50, 105, 56, 32, 47, 47, 32, 98]⟩ : ByteArray)] rfl (by (try simp only [List.map_toArray, List.map_cons, List.map_nil]); first | done | rfl | (simp only [List.length_drop, List.length_take]; rfl)) ?_; (with_reducible refine (lex_Tokens.calls (⟨#[97, 49, 60, 61, 49, 50, 105, 56, 32, 47, 47, 32, 98]⟩ : ByteArray) t253 t254 t255 _ A1.out).mono ?_); rintro e w43 ⟨v256, rfl, ho0, hb⟩; refine ⟨_, rfl, ?_⟩; have n0_ := Aside0.mk (Kd.R_lower ho0 (below_size (by repeat (first | (with_reducible first | exact HB.out | apply below_alloc | apply pw_below_drewN | apply below_drew1) | exact HB.out)))); have n1_ := Aside0.mk (below_step (by repeat (first | (with_reducible first | exact HB.out | apply below_alloc | apply pw_below_drewN | apply below_drew1) | exact HB.out)) hb); clear HB; have HO257 := n0_; have HB := n1_; clear n0_ n1_; (try clear hb); (try clear hb2); (try clear hk); (try clear hi); (try clear ho0)) | ((with_reducible refine gate_callee (f := 18) rfl ?_); refine goesL_ (some 13) rfl rfl Try.func18 (by kernel_rfl) rfl #[.string (⟨#[120, 32, 49, 50, 97]⟩ : ByteArray)] rfl (by (try simp only [List.map_toArray, List.map_cons, List.map_nil]); first | done | rfl | (simp only [List.length_drop, List.length_take]; rfl)) ?_; (with_reducible refine (lex_Tokens.calls (⟨#[120, 32, 49, 50, 97]⟩ : ByteArray) t258 t259 t260 _ A2.out).mono ?_); rintro e w44 ⟨v261, rfl, ho0, hb⟩; refine ⟨_, rfl, ?_⟩; have n0_ := Aside0.mk (Kd.R_elder' (by (with_reducible repeat (first | apply Kd.R_alloc | apply Kd.R_drewN | apply Kd.R_drew)); exact HO257.out) (Kd.R_base ho0) hb); have n1_ := Aside0.mk (Kd.R_lower (Kd.R_new' ho0 (Kd.R_lt (by (with_reducible repeat (first | apply Kd.R_alloc | apply Kd.R_drewN | apply Kd.R_drew)); exact HO257.out))) (below_size (by repeat (first | (with_reducible first | exact HB.out | apply below_alloc | apply pw_below_drewN | apply below_drew1) | exact HB.out)))); have n2_ := Aside0.mk (below_step (by repeat (first | (with_reducible first | exact HB.out | apply below_alloc | apply pw_below_drewN | apply below_drew1) | exact HB.out)) hb); clear HO257; clear HB; have HO257 := n0_; have HO262 := n1_; have HB := n2_; clear n0_ n1_ n2_; (try clear hb); (try clear hb2); (try clear hk); (try clear hi); (try clear ho0); obtain ⟨Ao45, co45, eo45⟩ := Kd.R_slice HO257.out; subst eo45))
      go_ret
      exact ⟨by first | rfl | (simp [errW_none, errW_some] <;> rfl) | (simp [*, errW_none, errW_some] <;> rfl), by repeat (first | (with_reducible first | exact HB.out | apply below_alloc | apply pw_below_drewN | apply below_drew1) | exact HB.out)⟩
  · rw [if_neg c3] at H
    have c3b0 : (t255 == 0) = false := beq_eq_false_iff_ne.mpr c3
    have c3b1 : (t255 != 0) = true := bne_iff_ne.mpr c3
    obtain rfl := Option.some.inj H
    go_enter Try.func13, Try.ntmps13
    go_wp2_with (first | ((with_reducible refine gate_callee (f := 18) rfl ?_); refine goesL_ (some 8) rfl rfl Try.func18 (by kernel_rfl) rfl #[.string (⟨#[97, 49, 60, 61, 49, 50, 105, 56, 32, 47, 47, 32, 98]⟩ : ByteArray)] rfl (by (try simp only [List.map_toArray, List.map_cons, List.map_nil]); first | done | rfl | (simp only [List.length_drop, List.length_take]; rfl)) ?_; (with_reducible refine (lex_Tokens.calls (⟨#[97, 49, 60, 61, 49, 50, 105, 56, 32, 47, 47, 32, 98]⟩ : ByteArray) t253 t254 t255 _ A1.out).mono ?_); rintro e w46 ⟨v256, rfl, ho0, hb⟩; refine ⟨_, rfl, ?_⟩; have n0_ := Aside0.mk (Kd.R_lower ho0 (below_size (by repeat (first | (with_reducible first | exact HB.out | apply below_alloc | apply pw_below_drewN | apply below_drew1) | exact HB.out)))); have n1_ := Aside0.mk (below_step (by repeat (first | (with_reducible first | exact HB.out | apply below_alloc | apply pw_below_drewN | apply below_drew1) | exact HB.out)) hb); clear HB; have HO257 := n0_; have HB := n1_; clear n0_ n1_; (try clear hb); (try clear hb2); (try clear hk); (try clear hi); (try clear ho0)) | ((with_reducible refine gate_callee (f := 18) rfl ?_); refine goesL_ (some 13) rfl rfl Try.func18 (by kernel_rfl) rfl #[.string (⟨#[120, 32, 49, 50, 97]⟩ : ByteArray)] rfl (by (try simp only [List.map_toArray, List.map_cons, List.map_nil]); first | done | rfl | (simp only [List.length_drop, List.length_take]; rfl)) ?_; (with_reducible refine (lex_Tokens.calls (⟨#[120, 32, 49, 50, 97]⟩ : ByteArray) t258 t259 t260 _ A2.out).mono ?_); rintro e w47 ⟨v261, rfl, ho0, hb⟩; refine ⟨_, rfl, ?_⟩; have n0_ := Aside0.mk (Kd.R_elder' (by (with_reducible repeat (first | apply Kd.R_alloc | apply Kd.R_drewN | apply Kd.R_drew)); exact HO257.out) (Kd.R_base ho0) hb); have n1_ := Aside0.mk (Kd.R_lower (Kd.R_new' ho0 (Kd.R_lt (by (with_reducible repeat (first | apply Kd.R_alloc | apply Kd.R_drewN | apply Kd.R_drew)); exact HO257.out))) (below_size (by repeat (first | (with_reducible first | exact HB.out | apply below_alloc | apply pw_below_drewN | apply below_drew1) | exact HB.out)))); have n2_ := Aside0.mk (below_step (by repeat (first | (with_reducible first | exact HB.out | apply below_alloc | apply pw_below_drewN | apply below_drew1) | exact HB.out)) hb); clear HO257; clear HB; have HO257 := n0_; have HO262 := n1_; have HB := n2_; clear n0_ n1_ n2_; (try clear hb); (try clear hb2); (try clear hk); (try clear hi); (try clear ho0)))
    go_ret
    exact ⟨by first | rfl | (simp [errW_none, errW_some] <;> rfl) | (simp [*, errW_none, errW_some] <;> rfl), by repeat (first | (with_reducible first | exact HB.out | apply below_alloc | apply pw_below_drewN | apply below_drew1) | exact HB.out)⟩

/-! ### trammellaw03_LexTokens: function 5 -/
def trammellaw03_LexTokens.j0 : Nat → List (S31) → List (S31) → List (S31) → Bool → Option (Bool)
  | 0, _, _, _, _ => none
  | k + 1, x3, x6, x9, x62 => if x62 = true then (some false) else ((trammelkit_SpoilTokens.f x3).bind fun _ => ((trammelkit_SameTokens.f k x6 x9).bind fun t287 => (if t287 = true then ((trammellaw03_works.f k).bind fun t288 => (some t288)) else (some false))))
def trammellaw03_LexTokens.f (k : Nat) (a0 : ByteArray) : Option (Bool) := if (a0.size : Int) > 8192 then (some true) else ((lex_Tokens.f a0).bind fun bt270 => ((lex_Tokens.f a0).bind fun bt275 => ((trammelref03_Tokens.f k a0).bind fun bt280 => (if bt270.2.2 = bt280.2.2 then (if bt275.2.2 = bt280.2.2 then (if bt270.2.1 = bt280.2.1 then (if bt275.2.1 = bt280.2.1 then ((trammelkit_SameTokens.f k bt270.1 bt280.1).bind fun t285 => (if t285 = true then ((trammelkit_SameTokens.f k bt275.1 bt280.1).bind fun t286 => (trammellaw03_LexTokens.j0 k bt270.1 bt275.1 bt280.1 (!t286))) else (trammellaw03_LexTokens.j0 k bt270.1 bt275.1 bt280.1 true))) else (trammellaw03_LexTokens.j0 k bt270.1 bt275.1 bt280.1 true)) else (trammellaw03_LexTokens.j0 k bt270.1 bt275.1 bt280.1 true)) else (trammellaw03_LexTokens.j0 k bt270.1 bt275.1 bt280.1 true)) else (trammellaw03_LexTokens.j0 k bt270.1 bt275.1 bt280.1 true)))))
theorem trammellaw03_LexTokens.mono_l : ∀ k, (∀ y0 y1 y2 y3, LeO (trammellaw03_LexTokens.j0 k y0 y1 y2 y3) (trammellaw03_LexTokens.j0 (k + 1) y0 y1 y2 y3))
  | 0 => fun _ _ _ _ r h => by simp [trammellaw03_LexTokens.j0] at h
  | k + 1 => by
    have ih0 := trammellaw03_LexTokens.mono_l k
    · intro y0 y1 y2 y3
      unfold trammellaw03_LexTokens.j0
      repeat' first
      | (with_reducible exact ih0 _ _ _ _)
      | (with_reducible exact trammelkit_SameTokens.mono _ _ _)
      | (with_reducible exact trammellaw03_works.mono _)
      | (with_reducible exact trammelref03_Tokens.mono _ _)
      | (with_reducible exact LeO.refl _)
      | (with_reducible exact LeO.none _)
      | (with_reducible refine LeO.ite ?_ ?_)
      | (with_reducible refine LeO.bind ?_ (fun _ => ?_))
      | exact ih0 _ _ _ _
      | exact trammelkit_SameTokens.mono _ _ _
      | exact trammellaw03_works.mono _
      | exact trammelref03_Tokens.mono _ _
      | exact LeO.none _
      | refine LeO.ite ?_ ?_
      | refine LeO.bind ?_ (fun _ => ?_)
theorem trammellaw03_LexTokens.mono : ∀ a0 k, LeO (trammellaw03_LexTokens.f k a0) (trammellaw03_LexTokens.f (k + 1) a0) := by
  intro a0 k
  have ih0 := trammellaw03_LexTokens.mono_l k
  unfold trammellaw03_LexTokens.f
  repeat' first
      | (with_reducible exact ih0 _ _ _ _)
      | (with_reducible exact trammelkit_SameTokens.mono _ _ _)
      | (with_reducible exact trammellaw03_works.mono _)
      | (with_reducible exact trammelref03_Tokens.mono _ _)
      | (with_reducible exact LeO.refl _)
      | (with_reducible exact LeO.none _)
      | (with_reducible refine LeO.ite ?_ ?_)
      | (with_reducible refine LeO.bind ?_ (fun _ => ?_))
      | exact ih0 _ _ _ _
      | exact trammelkit_SameTokens.mono _ _ _
      | exact trammellaw03_works.mono _
      | exact trammelref03_Tokens.mono _ _
      | exact LeO.none _
      | refine LeO.ite ?_ ?_
      | refine LeO.bind ?_ (fun _ => ?_)
set_option maxHeartbeats 8000000 in
set_option maxRecDepth 100000 in
theorem trammellaw03_LexTokens.calls (k : Nat) (a0 : ByteArray) (r : Bool) (w : World) (h : trammellaw03_LexTokens.f k a0 = some r) :
    Calls Try.prog 5 #[.string a0] w fun e w' => e = .returned (.bool r) ∧ Below w.heap.size w w' := by
  have HB := Aside0.mk (Below.refl w.heap.size w)
  have H : (if (a0.size : Int) > 8192 then (some true) else ((lex_Tokens.f a0).bind fun bt270 => ((lex_Tokens.f a0).bind fun bt275 => ((trammelref03_Tokens.f k a0).bind fun bt280 => (if bt270.2.2 = bt280.2.2 then (if bt275.2.2 = bt280.2.2 then (if bt270.2.1 = bt280.2.1 then (if bt275.2.1 = bt280.2.1 then ((trammelkit_SameTokens.f k bt270.1 bt280.1).bind fun t285 => (if t285 = true then ((trammelkit_SameTokens.f k bt275.1 bt280.1).bind fun t286 => (trammellaw03_LexTokens.j0 k bt270.1 bt275.1 bt280.1 (!t286))) else (trammellaw03_LexTokens.j0 k bt270.1 bt275.1 bt280.1 true))) else (trammellaw03_LexTokens.j0 k bt270.1 bt275.1 bt280.1 true)) else (trammellaw03_LexTokens.j0 k bt270.1 bt275.1 bt280.1 true)) else (trammellaw03_LexTokens.j0 k bt270.1 bt275.1 bt280.1 true)) else (trammellaw03_LexTokens.j0 k bt270.1 bt275.1 bt280.1 true)))))) = some r := h
  clear h
  by_cases c2 : (a0.size : Int) > 8192
  · rw [if_pos c2] at H
    have c2b0 : decide (8192 < (a0.size : Int)) = true := decide_eq_true c2
    have c2b1 : decide (8192 < a0.size) = true := decide_eq_true (by omega)
    clear c2
    obtain rfl := Option.some.inj H
    go_enter Try.func5, Try.ntmps5
    go_wp2
    go_ret
    exact ⟨by first | rfl | (simp [errW_none, errW_some] <;> rfl) | (simp [*, errW_none, errW_some] <;> rfl), by repeat (first | (with_reducible first | exact HB.out | apply below_alloc | apply pw_below_drewN | apply below_drew1) | exact HB.out)⟩
  · rw [if_neg c2] at H
    have c2b0 : decide (8192 < (a0.size : Int)) = false := decide_eq_false c2
    have c2b1 : decide (8192 < a0.size) = false := decide_eq_false (by omega)
    clear c2
    replace H := Option.bind_eq_some_iff.mp H
    obtain ⟨⟨t270, t271, t272⟩, A30, H⟩ := H
    replace H : ((lex_Tokens.f a0).bind fun bt275 => ((trammelref03_Tokens.f k a0).bind fun bt280 => (if t272 = bt280.2.2 then (if bt275.2.2 = bt280.2.2 then (if t271 = bt280.2.1 then (if bt275.2.1 = bt280.2.1 then ((trammelkit_SameTokens.f k t270 bt280.1).bind fun t285 => (if t285 = true then ((trammelkit_SameTokens.f k bt275.1 bt280.1).bind fun t286 => (trammellaw03_LexTokens.j0 k t270 bt275.1 bt280.1 (!t286))) else (trammellaw03_LexTokens.j0 k t270 bt275.1 bt280.1 true))) else (trammellaw03_LexTokens.j0 k t270 bt275.1 bt280.1 true)) else (trammellaw03_LexTokens.j0 k t270 bt275.1 bt280.1 true)) else (trammellaw03_LexTokens.j0 k t270 bt275.1 bt280.1 true)) else (trammellaw03_LexTokens.j0 k t270 bt275.1 bt280.1 true)))) = some r := H
    have A3 := Aside0.mk A30
    clear A30
    replace H := Option.bind_eq_some_iff.mp H
    obtain ⟨⟨t275, t276, t277⟩, A40, H⟩ := H
    replace H : ((trammelref03_Tokens.f k a0).bind fun bt280 => (if t272 = bt280.2.2 then (if t277 = bt280.2.2 then (if t271 = bt280.2.1 then (if t276 = bt280.2.1 then ((trammelkit_SameTokens.f k t270 bt280.1).bind fun t285 => (if t285 = true then ((trammelkit_SameTokens.f k t275 bt280.1).bind fun t286 => (trammellaw03_LexTokens.j0 k t270 t275 bt280.1 (!t286))) else (trammellaw03_LexTokens.j0 k t270 t275 bt280.1 true))) else (trammellaw03_LexTokens.j0 k t270 t275 bt280.1 true)) else (trammellaw03_LexTokens.j0 k t270 t275 bt280.1 true)) else (trammellaw03_LexTokens.j0 k t270 t275 bt280.1 true)) else (trammellaw03_LexTokens.j0 k t270 t275 bt280.1 true))) = some r := H
    have A4 := Aside0.mk A40
    clear A40
    replace H := Option.bind_eq_some_iff.mp H
    obtain ⟨⟨t280, t281, t282⟩, A50, H⟩ := H
    replace H : (if t272 = t282 then (if t277 = t282 then (if t271 = t281 then (if t276 = t281 then ((trammelkit_SameTokens.f k t270 t280).bind fun t285 => (if t285 = true then ((trammelkit_SameTokens.f k t275 t280).bind fun t286 => (trammellaw03_LexTokens.j0 k t270 t275 t280 (!t286))) else (trammellaw03_LexTokens.j0 k t270 t275 t280 true))) else (trammellaw03_LexTokens.j0 k t270 t275 t280 true)) else (trammellaw03_LexTokens.j0 k t270 t275 t280 true)) else (trammellaw03_LexTokens.j0 k t270 t275 t280 true)) else (trammellaw03_LexTokens.j0 k t270 t275 t280 true)) = some r := H
    have A5 := Aside0.mk A50
    clear A50
    have HC6 := Aside0.mk H
    clear H
    go_enter Try.func5, Try.ntmps5
    go_upto_region 6 with (first | ((with_reducible refine gate_callee (f := 18) rfl ?_); refine goesL_ (some 17) rfl rfl Try.func18 (by kernel_rfl) rfl #[.string a0] rfl (by (try simp only [List.map_toArray, List.map_cons, List.map_nil]); first | done | rfl | (simp only [List.length_drop, List.length_take]; rfl)) ?_; (with_reducible refine (lex_Tokens.calls a0 t270 t271 t272 _ A3.out).mono ?_); rintro e w7 ⟨v273, rfl, ho0, hb⟩; refine ⟨_, rfl, ?_⟩; have n0_ := Aside0.mk (Kd.R_lower ho0 (below_size (by repeat (first | (with_reducible first | exact HB.out | apply below_alloc | apply pw_below_drewN | apply below_drew1) | exact HB.out)))); have n1_ := Aside0.mk (below_step (by repeat (first | (with_reducible first | exact HB.out | apply below_alloc | apply pw_below_drewN | apply below_drew1) | exact HB.out)) hb); clear HB; have HO274 := n0_; have HB := n1_; clear n0_ n1_; (try clear hb); (try clear hb2); (try clear hk); (try clear hi); (try clear ho0)) | ((with_reducible refine gate_callee (f := 18) rfl ?_); refine goesL_ (some 23) rfl rfl Try.func18 (by kernel_rfl) rfl #[.string a0] rfl (by (try simp only [List.map_toArray, List.map_cons, List.map_nil]); first | done | rfl | (simp only [List.length_drop, List.length_take]; rfl)) ?_; (with_reducible refine (lex_Tokens.calls a0 t275 t276 t277 _ A4.out).mono ?_); rintro e w8 ⟨v278, rfl, ho0, hb⟩; refine ⟨_, rfl, ?_⟩; have n0_ := Aside0.mk (Kd.R_elder' (by (with_reducible repeat (first | apply Kd.R_alloc | apply Kd.R_drewN | apply Kd.R_drew)); exact HO274.out) (Kd.R_base ho0) hb); have n1_ := Aside0.mk (Kd.R_lower (Kd.R_new' ho0 (Kd.R_lt (by (with_reducible repeat (first | apply Kd.R_alloc | apply Kd.R_drewN | apply Kd.R_drew)); exact HO274.out))) (below_size (by repeat (first | (with_reducible first | exact HB.out | apply below_alloc | apply pw_below_drewN | apply below_drew1) | exact HB.out)))); have n2_ := Aside0.mk (below_step (by repeat (first | (with_reducible first | exact HB.out | apply below_alloc | apply pw_below_drewN | apply below_drew1) | exact HB.out)) hb); clear HO274; clear HB; have HO274 := n0_; have HO279 := n1_; have HB := n2_; clear n0_ n1_ n2_; (try clear hb); (try clear hb2); (try clear hk); (try clear hi); (try clear ho0)) | ((with_reducible refine gate_callee (f := 10) rfl ?_); refine goesL_ (some 29) rfl rfl Try.func10 (by kernel_rfl) rfl #[.string a0] rfl (by (try simp only [List.map_toArray, List.map_cons, List.map_nil]); first | done | rfl | (simp only [List.length_drop, List.length_take]; rfl)) ?_; (with_reducible refine (trammelref03_Tokens.calls k a0 t280 t281 t282 _ A5.out).mono ?_); rintro e w9 ⟨v283, rfl, ho0, hb⟩; refine ⟨_, rfl, ?_⟩; have n0_ := Aside0.mk (Kd.R_elder' (by (with_reducible repeat (first | apply Kd.R_alloc | apply Kd.R_drewN | apply Kd.R_drew)); exact HO274.out) (Kd.R_base ho0) hb); have n1_ := Aside0.mk (Kd.R_elder' (by (with_reducible repeat (first | apply Kd.R_alloc | apply Kd.R_drewN | apply Kd.R_drew)); exact HO279.out) (Kd.R_base ho0) hb); have n2_ := Aside0.mk (Kd.R_lower (Kd.R_new' (Kd.R_new' ho0 (Kd.R_lt (by (with_reducible repeat (first | apply Kd.R_alloc | apply Kd.R_drewN | apply Kd.R_drew)); exact HO274.out))) (Kd.R_lt (by (with_reducible repeat (first | apply Kd.R_alloc | apply Kd.R_drewN | apply Kd.R_drew)); exact HO279.out))) (below_size (by repeat (first | (with_reducible first | exact HB.out | apply below_alloc | apply pw_below_drewN | apply below_drew1) | exact HB.out)))); have n3_ := Aside0.mk (below_step (by repeat (first | (with_reducible first | exact HB.out | apply below_alloc | apply pw_below_drewN | apply below_drew1) | exact HB.out)) hb); clear HO274; clear HO279; clear HB; have HO274 := n0_; have HO279 := n1_; have HO284 := n2_; have HB := n3_; clear n0_ n1_ n2_ n3_; (try clear hb); (try clear hb2); (try clear hk); (try clear hi); (try clear ho0)))
    (try simp only [Act.put, List.setIfInBounds_toArray, List.set_cons_zero, List.set_cons_succ])
    go_cut [62] (fun v62 wc => ∃ (kq : Nat) (x62_5 : Bool), v62 = .bool x62_5 ∧ Aside0 (trammellaw03_LexTokens.j0 kq t270 t275 t280 x62_5 = some r) ∧ Aside0 (kq ≤ k) ∧ Aside0 (Kd.R k31 31 wc w.heap.size (fun k_ => some k_ ≠ (v278 : Value).ownBlock ∧ some k_ ≠ (v283 : Value).ownBlock) v273 t270) ∧ Aside0 (Kd.R k31 31 wc w.heap.size (fun k_ => some k_ ≠ (v273 : Value).ownBlock ∧ some k_ ≠ (v283 : Value).ownBlock) v278 t275) ∧ Aside0 (Kd.R k31 31 wc w.heap.size (fun k_ => some k_ ≠ (v273 : Value).ownBlock ∧ some k_ ≠ (v278 : Value).ownBlock) v283 t280) ∧ Aside0 (Below w.heap.size w wc))
    case first =>
      have H := HC6.out
      clear HC6
      by_cases c10 : t272 = t282
      · rw [if_pos c10] at H
        have c10b0 : (t272 == t282) = true := beq_iff_eq.mpr c10
        have c10b1 : (t272 != t282) = false := bne_eq_false_iff_eq.mpr c10
        clear c10
        (first | rw [c10b0] | (simp only [i64_w, i32_w]; rw [c10b0]) | skip)
        by_cases c11 : t277 = t282
        · rw [if_pos c11] at H
          have c11b0 : (t277 == t282) = true := beq_iff_eq.mpr c11
          have c11b1 : (t277 != t282) = false := bne_eq_false_iff_eq.mpr c11
          clear c11
          by_cases c12 : t271 = t281
          · rw [if_pos c12] at H
            have c12b0 : (t271 == t281) = true := beq_iff_eq.mpr c12
            have c12b1 : (t271 != t281) = false := bne_eq_false_iff_eq.mpr c12
            clear c12
            by_cases c13 : t276 = t281
            · rw [if_pos c13] at H
              have c13b0 : (t276 == t281) = true := beq_iff_eq.mpr c13
              have c13b1 : (t276 != t281) = false := bne_eq_false_iff_eq.mpr c13
              clear c13
              replace H := Option.bind_eq_some_iff.mp H
              obtain ⟨t285, A140, H⟩ := H
              replace H : (if t285 = true then ((trammelkit_SameTokens.f k t275 t280).bind fun t286 => (trammellaw03_LexTokens.j0 k t270 t275 t280 (!t286))) else (trammellaw03_LexTokens.j0 k t270 t275 t280 true)) = some r := H
              have A14 := Aside0.mk A140
              clear A140
              by_cases c15 : t285 = true
              · subst c15
                have H1 : ((trammelkit_SameTokens.f k t275 t280).bind fun t286 => (trammellaw03_LexTokens.j0 k t270 t275 t280 (!t286))) = some r := by rw [if_pos rfl] at H; exact H
                clear H
                have H := H1
                clear H1
                replace H := Option.bind_eq_some_iff.mp H
                obtain ⟨t286, A160, H⟩ := H
                replace H : (trammellaw03_LexTokens.j0 k t270 t275 t280 (!t286)) = some r := H
                have A16 := Aside0.mk A160
                clear A160
                have H' := Aside0.mk H
                clear H
                obtain ⟨Ao17, co17, eo17⟩ := Kd.R_slice HO274.out
                subst eo17
                obtain ⟨Ao18, co18, eo18⟩ := Kd.R_slice HO284.out
                subst eo18
                go_wp2_with (first | (go_at_call 19; (with_reducible refine (trammelkit_SameTokens.calls k _ _ t270 _ _ t280 true _ ?side1 ?side2 ?side3 ?side4 A14.out).mono ?_); (case side1 => repeat (first | exact (Kd.R_reads' HO274.out).2.2 | (with_reducible refine Kd.C_alloc ?_ _) | (with_reducible refine Kd.C_drewN ?_ _) | (with_reducible refine Kd.C_drew ?_))); (case side2 => exact (Kd.R_reads' HO274.out).2.1); (case side3 => repeat (first | exact (Kd.R_reads' HO284.out).2.2 | (with_reducible refine Kd.C_alloc ?_ _) | (with_reducible refine Kd.C_drewN ?_ _) | (with_reducible refine Kd.C_drew ?_))); (case side4 => exact (Kd.R_reads' HO284.out).2.1); rintro e w' ⟨rfl, ⟨nd, rfl⟩⟩; obtain ⟨Ao19, co19, eo19⟩ := Kd.R_slice HO279.out; subst eo19) | (go_at_call 19; (with_reducible refine (trammelkit_SameTokens.calls k _ _ t275 _ _ t280 t286 _ ?side1 ?side2 ?side3 ?side4 A16.out).mono ?_); (case side1 => repeat (first | exact (Kd.R_reads' HO279.out).2.2 | (with_reducible refine Kd.C_alloc ?_ _) | (with_reducible refine Kd.C_drewN ?_ _) | (with_reducible refine Kd.C_drew ?_))); (case side2 => exact (Kd.R_reads' HO279.out).2.1); (case side3 => repeat (first | exact (Kd.R_reads' HO284.out).2.2 | (with_reducible refine Kd.C_alloc ?_ _) | (with_reducible refine Kd.C_drewN ?_ _) | (with_reducible refine Kd.C_drew ?_))); (case side4 => exact (Kd.R_reads' HO284.out).2.1); rintro e w' ⟨rfl, ⟨nd, rfl⟩⟩))
                go_meet
                case rel => exact ⟨_, (!t286), (by first | rfl | (simp; done) | (simp [*]; done)), H', ⟨by first | omega | exact Nat.le_refl _⟩, ⟨by (with_reducible repeat (first | apply Kd.R_alloc | apply Kd.R_drewN | apply Kd.R_drew)); exact Kd.R_mono HO274.out (fun _ hk => ⟨hk.1.2, hk.2⟩)⟩, ⟨by (with_reducible repeat (first | apply Kd.R_alloc | apply Kd.R_drewN | apply Kd.R_drew)); exact Kd.R_mono HO279.out (fun _ hk => ⟨hk.1.2, hk.2⟩)⟩, ⟨by (with_reducible repeat (first | apply Kd.R_alloc | apply Kd.R_drewN | apply Kd.R_drew)); exact Kd.R_mono HO284.out (fun _ hk => ⟨hk.1.2, hk.2⟩)⟩, ⟨by repeat (first | (with_reducible first | exact HB.out | apply below_alloc | apply pw_below_drewN | apply below_drew1) | exact HB.out)⟩⟩
              · replace c15 := Bool.eq_false_iff.mpr c15
                subst c15
                have H1 : (trammellaw03_LexTokens.j0 k t270 t275 t280 true) = some r := by rw [if_neg (show ¬ (false = true) by decide)] at H; exact H
                clear H
                have H := H1
                clear H1
                have H' := Aside0.mk H
                clear H
                obtain ⟨Ao20, co20, eo20⟩ := Kd.R_slice HO274.out
                subst eo20
                obtain ⟨Ao21, co21, eo21⟩ := Kd.R_slice HO284.out
                subst eo21
                go_wp2_with (first | (go_at_call 19; (with_reducible refine (trammelkit_SameTokens.calls k _ _ t270 _ _ t280 false _ ?side1 ?side2 ?side3 ?side4 A14.out).mono ?_); (case side1 => repeat (first | exact (Kd.R_reads' HO274.out).2.2 | (with_reducible refine Kd.C_alloc ?_ _) | (with_reducible refine Kd.C_drewN ?_ _) | (with_reducible refine Kd.C_drew ?_))); (case side2 => exact (Kd.R_reads' HO274.out).2.1); (case side3 => repeat (first | exact (Kd.R_reads' HO284.out).2.2 | (with_reducible refine Kd.C_alloc ?_ _) | (with_reducible refine Kd.C_drewN ?_ _) | (with_reducible refine Kd.C_drew ?_))); (case side4 => exact (Kd.R_reads' HO284.out).2.1); rintro e w' ⟨rfl, ⟨nd, rfl⟩⟩))
                go_meet
                case rel => exact ⟨_, (true), (by first | rfl | (simp; done) | (simp [*]; done)), H', ⟨by first | omega | exact Nat.le_refl _⟩, ⟨by (with_reducible repeat (first | apply Kd.R_alloc | apply Kd.R_drewN | apply Kd.R_drew)); exact Kd.R_mono HO274.out (fun _ hk => ⟨hk.1.2, hk.2⟩)⟩, ⟨by (with_reducible repeat (first | apply Kd.R_alloc | apply Kd.R_drewN | apply Kd.R_drew)); exact Kd.R_mono HO279.out (fun _ hk => ⟨hk.1.2, hk.2⟩)⟩, ⟨by (with_reducible repeat (first | apply Kd.R_alloc | apply Kd.R_drewN | apply Kd.R_drew)); exact Kd.R_mono HO284.out (fun _ hk => ⟨hk.1.2, hk.2⟩)⟩, ⟨by repeat (first | (with_reducible first | exact HB.out | apply below_alloc | apply pw_below_drewN | apply below_drew1) | exact HB.out)⟩⟩
            · rw [if_neg c13] at H
              have c13b0 : (t276 == t281) = false := beq_eq_false_iff_ne.mpr c13
              have c13b1 : (t276 != t281) = true := bne_iff_ne.mpr c13
              have H' := Aside0.mk H
              clear H
              go_wp2
              go_meet
              case rel => exact ⟨_, (true), (by first | rfl | (simp; done) | (simp [*]; done)), H', ⟨by first | omega | exact Nat.le_refl _⟩, ⟨by (with_reducible repeat (first | apply Kd.R_alloc | apply Kd.R_drewN | apply Kd.R_drew)); exact Kd.R_mono HO274.out (fun _ hk => ⟨hk.1.2, hk.2⟩)⟩, ⟨by (with_reducible repeat (first | apply Kd.R_alloc | apply Kd.R_drewN | apply Kd.R_drew)); exact Kd.R_mono HO279.out (fun _ hk => ⟨hk.1.2, hk.2⟩)⟩, ⟨by (with_reducible repeat (first | apply Kd.R_alloc | apply Kd.R_drewN | apply Kd.R_drew)); exact Kd.R_mono HO284.out (fun _ hk => ⟨hk.1.2, hk.2⟩)⟩, ⟨by repeat (first | (with_reducible first | exact HB.out | apply below_alloc | apply pw_below_drewN | apply below_drew1) | exact HB.out)⟩⟩
          · rw [if_neg c12] at H
            have c12b0 : (t271 == t281) = false := beq_eq_false_iff_ne.mpr c12
            have c12b1 : (t271 != t281) = true := bne_iff_ne.mpr c12
            have H' := Aside0.mk H
            clear H
            go_wp2
            go_meet
            case rel => exact ⟨_, (true), (by first | rfl | (simp; done) | (simp [*]; done)), H', ⟨by first | omega | exact Nat.le_refl _⟩, ⟨by (with_reducible repeat (first | apply Kd.R_alloc | apply Kd.R_drewN | apply Kd.R_drew)); exact Kd.R_mono HO274.out (fun _ hk => ⟨hk.1.2, hk.2⟩)⟩, ⟨by (with_reducible repeat (first | apply Kd.R_alloc | apply Kd.R_drewN | apply Kd.R_drew)); exact Kd.R_mono HO279.out (fun _ hk => ⟨hk.1.2, hk.2⟩)⟩, ⟨by (with_reducible repeat (first | apply Kd.R_alloc | apply Kd.R_drewN | apply Kd.R_drew)); exact Kd.R_mono HO284.out (fun _ hk => ⟨hk.1.2, hk.2⟩)⟩, ⟨by repeat (first | (with_reducible first | exact HB.out | apply below_alloc | apply pw_below_drewN | apply below_drew1) | exact HB.out)⟩⟩
        · rw [if_neg c11] at H
          have c11b0 : (t277 == t282) = false := beq_eq_false_iff_ne.mpr c11
          have c11b1 : (t277 != t282) = true := bne_iff_ne.mpr c11
          have H' := Aside0.mk H
          clear H
          go_wp2
          go_meet
          case rel => exact ⟨_, (true), (by first | rfl | (simp; done) | (simp [*]; done)), H', ⟨by first | omega | exact Nat.le_refl _⟩, ⟨by (with_reducible repeat (first | apply Kd.R_alloc | apply Kd.R_drewN | apply Kd.R_drew)); exact Kd.R_mono HO274.out (fun _ hk => ⟨hk.1.2, hk.2⟩)⟩, ⟨by (with_reducible repeat (first | apply Kd.R_alloc | apply Kd.R_drewN | apply Kd.R_drew)); exact Kd.R_mono HO279.out (fun _ hk => ⟨hk.1.2, hk.2⟩)⟩, ⟨by (with_reducible repeat (first | apply Kd.R_alloc | apply Kd.R_drewN | apply Kd.R_drew)); exact Kd.R_mono HO284.out (fun _ hk => ⟨hk.1.2, hk.2⟩)⟩, ⟨by repeat (first | (with_reducible first | exact HB.out | apply below_alloc | apply pw_below_drewN | apply below_drew1) | exact HB.out)⟩⟩
      · rw [if_neg c10] at H
        have c10b0 : (t272 == t282) = false := beq_eq_false_iff_ne.mpr c10
        have c10b1 : (t272 != t282) = true := bne_iff_ne.mpr c10
        (first | rw [c10b0] | (simp only [i64_w, i32_w]; rw [c10b0]) | skip)
        have H' := Aside0.mk H
        clear H
        go_wp2
        go_meet
        case rel => exact ⟨_, (true), (by first | rfl | (simp; done) | (simp [*]; done)), H', ⟨by first | omega | exact Nat.le_refl _⟩, ⟨by (with_reducible repeat (first | apply Kd.R_alloc | apply Kd.R_drewN | apply Kd.R_drew)); exact Kd.R_mono HO274.out (fun _ hk => ⟨hk.1.2, hk.2⟩)⟩, ⟨by (with_reducible repeat (first | apply Kd.R_alloc | apply Kd.R_drewN | apply Kd.R_drew)); exact Kd.R_mono HO279.out (fun _ hk => ⟨hk.1.2, hk.2⟩)⟩, ⟨by (with_reducible repeat (first | apply Kd.R_alloc | apply Kd.R_drewN | apply Kd.R_drew)); exact Kd.R_mono HO284.out (fun _ hk => ⟨hk.1.2, hk.2⟩)⟩, ⟨by repeat (first | (with_reducible first | exact HB.out | apply below_alloc | apply pw_below_drewN | apply below_drew1) | exact HB.out)⟩⟩
    case rest =>
      clear HC6
      try clear c1
      try clear c2
      try clear c2b0
      try clear c2b1
      try clear p2
      try clear c5
      try clear c10
      try clear c10b0
      try clear c10b1
      try clear c11
      try clear c11b0
      try clear c11b1
      try clear c12
      try clear c12b0
      try clear c12b1
      try clear c13
      try clear c13b0
      try clear c13b1
      try clear c15
      try clear c18
      obtain ⟨kq, x62_5, rfl, HA, HJ5, HO_3, HO_6, HO_9, HB⟩ := hcut
      cases kq with
      | zero => exact absurd HA.out (by simp [trammellaw03_LexTokens.j0])
      | succ kj5 =>
        have H := HA.out
        clear HA
        simp only [trammellaw03_LexTokens.j0] at H
        by_cases c22 : x62_5 = true
        · subst c22
          have H1 : (some false) = some r := by rw [if_pos rfl] at H; exact H
          clear H
          have H := H1
          clear H1
          obtain rfl := Option.some.inj H
          go_wp2
          go_ret
          exact ⟨by first | rfl | (simp [errW_none, errW_some] <;> rfl) | (simp [*, errW_none, errW_some] <;> rfl), by repeat (first | (with_reducible first | exact HB.out | apply below_alloc | apply pw_below_drewN | apply below_drew1) | exact HB.out)⟩
        · replace c22 := Bool.eq_false_iff.mpr c22
          subst c22
          have H1 : ((trammelkit_SpoilTokens.f t270).bind fun _ => ((trammelkit_SameTokens.f kj5 t275 t280).bind fun t287 => (if t287 = true then ((trammellaw03_works.f kj5).bind fun t288 => (some t288)) else (some false)))) = some r := by rw [if_neg (show ¬ (false = true) by decide)] at H; exact H
          clear H
          have H := H1
          clear H1
          replace H := Option.bind_eq_some_iff.mp H
          obtain ⟨_, A230, H⟩ := H
          replace H : ((trammelkit_SameTokens.f kj5 t275 t280).bind fun t287 => (if t287 = true then ((trammellaw03_works.f kj5).bind fun t288 => (some t288)) else (some false))) = some r := H
          have A23 := Aside0.mk A230
          clear A230
          replace H := Option.bind_eq_some_iff.mp H
          obtain ⟨t287, A240, H⟩ := H
          replace H : (if t287 = true then ((trammellaw03_works.f kj5).bind fun t288 => (some t288)) else (some false)) = some r := H
          have A24 := Aside0.mk A240
          clear A240
          by_cases c25 : t287 = true
          · subst c25
            have H1 : ((trammellaw03_works.f kj5).bind fun t288 => (some t288)) = some r := by rw [if_pos rfl] at H; exact H
            clear H
            have H := H1
            clear H1
            replace H := Option.bind_eq_some_iff.mp H
            obtain ⟨t288, A260, H⟩ := H
            replace H : (some t288) = some r := H
            have A26 := Aside0.mk A260
            clear A260
            obtain rfl := Option.some.inj H
            obtain ⟨Ao27, co27, eo27⟩ := Kd.R_slice HO_3.out
            subst eo27
            go_wp2_with (first | ((with_reducible refine gate_callee (f := 20) rfl ?_); refine goesL_ (some 64) rfl rfl Try.func20 (by kernel_rfl) rfl #[.slice Ao27 t270.length co27] rfl (by (try simp only [List.map_toArray, List.map_cons, List.map_nil]); first | done | rfl | (simp only [List.length_drop, List.length_take]; rfl)) ?_; (with_reducible refine (trammelkit_SpoilTokens.calls (fun k_ => some k_ = (.slice Ao27 t270.length co27 : Value).ownBlock) (.slice Ao27 t270.length co27) t270  w _ ?side1 ?side2 A23.out).mono ?_); (case side1 => repeat (first | (with_reducible first | exact HB.out | apply below_alloc | apply pw_below_drewN | apply below_drew1) | exact HB.out)); (case side2 => exact Kd.R_tight rfl HO_3.out); rintro e w28 ⟨rfl, hb, hkp⟩; refine ⟨_, rfl, ?_⟩; have n0_ := Aside0.mk (Kd.R_mono (ok' := fun k_ => some k_ ≠ (v283 : Value).ownBlock) (Kd.R_keptB (HO_6.out) hkp (fun k_ hk_ hs_ => (hk_.1) hs_)) (fun k_ hk_ => hk_.1.2)); have n1_ := Aside0.mk (Kd.R_mono (ok' := fun k_ => some k_ ≠ (v278 : Value).ownBlock) (Kd.R_keptB (HO_9.out) hkp (fun k_ hk_ hs_ => (hk_.1) hs_)) (fun k_ hk_ => hk_.1.2)); have n2_ := Aside0.mk (hb); clear HO_6; clear HO_9; clear HB; clear HO_3; have HO_6 := n0_; have HO_9 := n1_; have HB := n2_; clear n0_ n1_ n2_; (try clear hb); (try clear hkp); obtain ⟨Ao29, co29, eo29⟩ := Kd.R_slice HO_6.out; subst eo29; obtain ⟨Ao30, co30, eo30⟩ := Kd.R_slice HO_9.out; subst eo30) | ((with_reducible refine gate_callee (f := 19) rfl ?_); refine goesL_ (some 67) rfl rfl Try.func19 (by kernel_rfl) rfl #[.slice Ao29 t275.length co29, .slice Ao30 t280.length co30] rfl (by (try simp only [List.map_toArray, List.map_cons, List.map_nil]); first | done | rfl | (simp only [List.length_drop, List.length_take]; rfl)) ?_; (with_reducible refine (trammelkit_SameTokens.calls kj5 _ _ t275 _ _ t280 true _ ?side1 ?side2 ?side3 ?side4 A24.out).mono ?_); (case side1 => repeat (first | exact (Kd.R_reads' HO_6.out).2.2 | (with_reducible refine Kd.C_alloc ?_ _) | (with_reducible refine Kd.C_drewN ?_ _) | (with_reducible refine Kd.C_drew ?_))); (case side2 => exact (Kd.R_reads' HO_6.out).2.1); (case side3 => repeat (first | exact (Kd.R_reads' HO_9.out).2.2 | (with_reducible refine Kd.C_alloc ?_ _) | (with_reducible refine Kd.C_drewN ?_ _) | (with_reducible refine Kd.C_drew ?_))); (case side4 => exact (Kd.R_reads' HO_9.out).2.1); rintro e w' ⟨rfl, ⟨nd, rfl⟩⟩; refine ⟨_, rfl, ?_⟩) | (go_at_call 13; (with_reducible refine (trammellaw03_works.calls kj5  t288 _ A26.out).mono ?_); rintro e w31 ⟨rfl, hb⟩; have n0_ := Aside0.mk (Kd.R_below (by (with_reducible repeat (first | apply Kd.R_alloc | apply Kd.R_drewN | apply Kd.R_drew)); exact HO_6.out) hb); have n1_ := Aside0.mk (Kd.R_below (by (with_reducible repeat (first | apply Kd.R_alloc | apply Kd.R_drewN | apply Kd.R_drew)); exact HO_9.out) hb); have n2_ := Aside0.mk (below_step (by repeat (first | (with_reducible first | exact HB.out | apply below_alloc | apply pw_below_drewN | apply below_drew1) | exact HB.out)) hb); clear HO_6; clear HO_9; clear HB; have HO_6 := n0_; have HO_9 := n1_; have HB := n2_; clear n0_ n1_ n2_; (try clear hb); (try clear hb2); (try clear hk); (try clear hi)))
            go_ret
            exact ⟨by first | rfl | (simp [errW_none, errW_some] <;> rfl) | (simp [*, errW_none, errW_some] <;> rfl), by repeat (first | (with_reducible first | exact HB.out | apply below_alloc | apply pw_below_drewN | apply below_drew1) | exact HB.out)⟩
          · replace c25 := Bool.eq_false_iff.mpr c25
            subst c25
            have H1 : (some false) = some r := by rw [if_neg (show ¬ (false = true) by decide)] at H; exact H
            clear H
            have H := H1
            clear H1
            obtain rfl := Option.some.inj H
            obtain ⟨Ao32, co32, eo32⟩ := Kd.R_slice HO_3.out
            subst eo32
            go_wp2_with (first | ((with_reducible refine gate_callee (f := 20) rfl ?_); refine goesL_ (some 64) rfl rfl Try.func20 (by kernel_rfl) rfl #[.slice Ao32 t270.length co32] rfl (by (try simp only [List.map_toArray, List.map_cons, List.map_nil]); first | done | rfl | (simp only [List.length_drop, List.length_take]; rfl)) ?_; (with_reducible refine (trammelkit_SpoilTokens.calls (fun k_ => some k_ = (.slice Ao32 t270.length co32 : Value).ownBlock) (.slice Ao32 t270.length co32) t270  w _ ?side1 ?side2 A23.out).mono ?_); (case side1 => repeat (first | (with_reducible first | exact HB.out | apply below_alloc | apply pw_below_drewN | apply below_drew1) | exact HB.out)); (case side2 => exact Kd.R_tight rfl HO_3.out); rintro e w33 ⟨rfl, hb, hkp⟩; refine ⟨_, rfl, ?_⟩; have n0_ := Aside0.mk (Kd.R_mono (ok' := fun k_ => some k_ ≠ (v283 : Value).ownBlock) (Kd.R_keptB (HO_6.out) hkp (fun k_ hk_ hs_ => (hk_.1) hs_)) (fun k_ hk_ => hk_.1.2)); have n1_ := Aside0.mk (Kd.R_mono (ok' := fun k_ => some k_ ≠ (v278 : Value).ownBlock) (Kd.R_keptB (HO_9.out) hkp (fun k_ hk_ hs_ => (hk_.1) hs_)) (fun k_ hk_ => hk_.1.2)); have n2_ := Aside0.mk (hb); clear HO_6; clear HO_9; clear HB; clear HO_3; have HO_6 := n0_; have HO_9 := n1_; have HB := n2_; clear n0_ n1_ n2_; (try clear hb); (try clear hkp); obtain ⟨Ao34, co34, eo34⟩ := Kd.R_slice HO_6.out; subst eo34; obtain ⟨Ao35, co35, eo35⟩ := Kd.R_slice HO_9.out; subst eo35) | ((with_reducible refine gate_callee (f := 19) rfl ?_); refine goesL_ (some 67) rfl rfl Try.func19 (by kernel_rfl) rfl #[.slice Ao34 t275.length co34, .slice Ao35 t280.length co35] rfl (by (try simp only [List.map_toArray, List.map_cons, List.map_nil]); first | done | rfl | (simp only [List.length_drop, List.length_take]; rfl)) ?_; (with_reducible refine (trammelkit_SameTokens.calls kj5 _ _ t275 _ _ t280 false _ ?side1 ?side2 ?side3 ?side4 A24.out).mono ?_); (case side1 => repeat (first | exact (Kd.R_reads' HO_6.out).2.2 | (with_reducible refine Kd.C_alloc ?_ _) | (with_reducible refine Kd.C_drewN ?_ _) | (with_reducible refine Kd.C_drew ?_))); (case side2 => exact (Kd.R_reads' HO_6.out).2.1); (case side3 => repeat (first | exact (Kd.R_reads' HO_9.out).2.2 | (with_reducible refine Kd.C_alloc ?_ _) | (with_reducible refine Kd.C_drewN ?_ _) | (with_reducible refine Kd.C_drew ?_))); (case side4 => exact (Kd.R_reads' HO_9.out).2.1); rintro e w' ⟨rfl, ⟨nd, rfl⟩⟩; refine ⟨_, rfl, ?_⟩))
            go_ret
            exact ⟨by first | rfl | (simp [errW_none, errW_some] <;> rfl) | (simp [*, errW_none, errW_some] <;> rfl), by repeat (first | (with_reducible first | exact HB.out | apply below_alloc | apply pw_below_drewN | apply below_drew1) | exact HB.out)⟩

/-- THE ONE PURE STATEMENT of trammellaw03_LexTokens: yours. -/
def trammellaw03_LexTokens.Pure : Prop := ∀ (a0 : ByteArray), a0.size ≤ 140737488351232 → ∃ k, trammellaw03_LexTokens.f k a0 = some true
theorem trammellaw03_LexTokens.walk (P : trammellaw03_LexTokens.Pure) (a0 : ByteArray) (w : World) (w0 : a0.size ≤ 140737488351232) :
    Calls Try.prog 5 #[.string a0] w fun e w' => e = .returned (.bool true) ∧ Below w.heap.size w w' := by
  obtain ⟨k, h⟩ := P a0 w0
  refine (trammellaw03_LexTokens.calls k a0 true w h).mono ?_
  rintro e w' ⟨rfl, hd⟩
  exact ⟨rfl, hd⟩

end Go.Proofs.Ytmmilinbpimfaaa.PLexTokens
