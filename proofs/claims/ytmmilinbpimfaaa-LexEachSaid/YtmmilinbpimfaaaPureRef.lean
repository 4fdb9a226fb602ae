/- What the document's functions answer, in plain Lean, over the printed functions. No conditions. -/
import Derived.Test.YtmmilinbpimfaaaPLexKnownx5
import Derived.Test.YtmmilinbpimfaaaPureRef0
import Derived.Test.YtmmilinbpimfaaaWalkBlanks
import Derived.Test.YtmmilinbpimfaaaPlainLex
set_option linter.unusedSimpArgs false
namespace Go.Proofs.Ytmmilinbpimfaaa.PureRef
open Go.RowKit Go.Proofs.Ytmmilinbpimfaaa.PLexKnown Go.Proofs.YtmmilinbpimfaaaW.PrintWords Go.Proofs.Ytmmilinbpimfaaa.Spec Go.Proofs.Ytmmilinbpimfaaa.PureLex Go.Proofs.Ytmmilinbpimfaaa.WalkBlanks
set_option maxRecDepth 100000 in
theorem plain_r (c : UInt8) : trammelref03_plain.f (c.toNat : Int) = some (!(opn [c] || c == 34 || c == 92)) := by
  revert c
  refine byAll ?_
  decide +kernel
def hexI (c : UInt8) : Int := match hexv c with | none => -1 | some v => (v : Int)
set_option maxRecDepth 100000 in
theorem hex_r {k : Nat} (hk : 1 ≤ k) (c : UInt8) : trammelref03_hex.f k (c.toNat : Int) = some (hexI c) := by
  have h1 : trammelref03_hex.f 1 (c.toNat : Int) = some (hexI c) := by
    revert c
    refine byAll ?_
    decide +kernel
  obtain ⟨m, rfl⟩ : ∃ m, k = m + 1 := ⟨k - 1, by omega⟩
  induction m with
  | zero => exact h1
  | succ m ih => exact trammelref03_hex.mono _ _ _ (ih (by omega))
theorem has_r {a : ByteArray} (hn : a.size ≤ 1000000) {i : Nat} (hi : i ≤ a.size) {x : ByteArray} (hx : x.size ≤ 1000) : trammelref03_has.f a (i : Int) x = some (decide ((D a i).take x.size = x.data.toList)) := by
  unfold trammelref03_has.f
  rw [w64 (by omega) (by omega)]
  by_cases h : i + x.size ≤ a.size
  · rw [if_pos (by omega), if_pos (by omega), if_pos (by omega), Lib.toList_data, Lib.toList_data, show ((i : Int) + (x.size : Int)).toNat = i + x.size by omega, show ((i : Int)).toNat = i by omega, Lib.extract_data, Nat.add_sub_cancel_left]
    congr 1
    rw [Bool.eq_iff_iff, beq_iff_eq, decide_eq_true_eq]
  · rw [if_neg (by omega)]
    congr 1
    refine (decide_eq_false ?_).symm
    intro e
    have := congrArg List.length e
    rw [List.length_take, D_len, ← size_len] at this
    omega
theorem cmt_has {a : ByteArray} (hn : a.size ≤ 1000000) {i : Nat} (hi : i ≤ a.size) : trammelref03_has.f a (i : Int) (⟨#[47, 47]⟩ : ByteArray) = some (cmt (D a i)) := by
  rw [has_r hn hi (by decide)]
  congr 1
  show decide ((D a i).take 2 = [47, 47]) = _
  match D a i with
  | [] => rfl
  | [_] => simp [cmt]
  | c :: d :: t =>
    simp only [List.take_succ_cons, List.take_zero, cmt, List.cons.injEq, and_true]
    cases hc : (c == 47) <;> cases hd : (d == 47) <;> simp_all
theorem isB_r (c : UInt8) : isB c = decide ((c.toNat : Int) = 9 ∨ (c.toNat : Int) = 10 ∨ (c.toNat : Int) = 13 ∨ (c.toNat : Int) = 32) := by
  unfold isB
  rw [Bool.eq_iff_iff]
  simp [← UInt8.toNat_inj]
  omega
theorem line_cons {c : UInt8} {t : B} (h : c ≠ 10) : line (c :: t) = line t := by simp [line, h]
theorem blank_l (a : ByteArray) (hn : a.size ≤ 1000000) : ∀ (d i : Nat), i + d = a.size →
    (∀ k, 3 * d + 1 ≤ k → trammelref03_blank.l0 k a (i : Int) = some ((a.size - (sk (D a i)).length : Nat) : Int)) ∧
    (∀ k, 3 * d + 2 ≤ k → trammelref03_blank.l1 k a (i : Int) = some ((a.size - (sk (line (D a i))).length : Nat) : Int)) := by
  intro d
  induction d with
  | zero =>
    intro i hd
    have h0 : ∀ k, 1 ≤ k → trammelref03_blank.l0 k a (i : Int) = some ((a.size - (sk (D a i)).length : Nat) : Int) := by
      intro k hk
      obtain ⟨k, rfl⟩ : ∃ m, k = m + 1 := ⟨k - 1, by omega⟩
      simp only [trammelref03_blank.l0]
      rw [if_neg (by omega), D_nil (by omega), sk_nil]
      simp
      omega
    refine ⟨h0, fun k hk => ?_⟩
    obtain ⟨k, rfl⟩ : ∃ m, k = m + 1 := ⟨k - 1, by omega⟩
    simp only [trammelref03_blank.l1]
    rw [if_neg (by omega), h0 k (by omega), D_nil (by omega)]
    rfl
  | succ d ih =>
    intro i hd
    obtain ⟨c, hc, hb⟩ := D_cons (s := a) (i := i) (by omega)
    obtain ⟨ihA, ihB⟩ := ih (i + 1) (by omega)
    have hA : ∀ k, 3 * (d + 1) + 1 ≤ k → trammelref03_blank.l0 k a (i : Int) = some ((a.size - (sk (D a i)).length : Nat) : Int) := by
      intro k hk
      obtain ⟨k, rfl⟩ : ∃ m, k = m + 1 := ⟨k - 1, by omega⟩
      simp only [trammelref03_blank.l0]
      rw [if_pos (by omega), cmt_has hn (by omega)]
      simp only [Option.bind_some]
      cases hm : cmt (D a i) with
      | true =>
        rw [if_pos rfl]
        obtain ⟨k, rfl⟩ : ∃ m, k = m + 1 := ⟨k - 1, by omega⟩
        simp only [trammelref03_blank.l1]
        have h47 : c = 47 := by
          rw [hc] at hm
          unfold cmt at hm
          split at hm
          · rename_i e; injection e with e1 e2; subst e1; simp at hm; exact hm.1
          · cases hm
        subst h47
        rw [if_pos (by omega), if_pos (by omega), hb, if_neg (by decide), up1 hn (by omega), ihB k (by omega), hc]
        rw [hc] at hm
        rw [sk_cmt hm, line_cons (by decide)]
      | false =>
        rw [if_neg (by simp), if_pos (by omega), hb, up1 hn (by omega), ihA k (by omega)]
        rw [hc] at hm ⊢
        have hB := isB_r c
        by_cases h9 : (c.toNat : Int) = 9
        · rw [if_pos h9, sk_blank hm (by rw [hB, decide_eq_true (Or.inl h9)])]
        · rw [if_neg h9]
          by_cases h10 : (c.toNat : Int) = 10
          · rw [if_pos h10, sk_blank hm (by rw [hB, decide_eq_true (Or.inr (Or.inl h10))])]
          · rw [if_neg h10]
            by_cases h13 : (c.toNat : Int) = 13
            · rw [if_pos h13, sk_blank hm (by rw [hB, decide_eq_true (Or.inr (Or.inr (Or.inl h13)))])]
            · rw [if_neg h13]
              by_cases h32 : (c.toNat : Int) = 32
              · rw [if_pos h32, sk_blank hm (by rw [hB, decide_eq_true (Or.inr (Or.inr (Or.inr h32)))])]
              · rw [if_neg h32, sk_stop hm (by rw [hB, decide_eq_false (by omega)]), ← hc, D_len]
                congr 2
                omega
    refine ⟨hA, fun k hk => ?_⟩
    obtain ⟨k, rfl⟩ : ∃ m, k = m + 1 := ⟨k - 1, by omega⟩
    simp only [trammelref03_blank.l1]
    rw [if_pos (by omega), if_pos (by omega), hb]
    by_cases h10 : (c.toNat : Int) = 10
    · have h10' : c = 10 := UInt8.toNat_inj.1 (by have : ((10 : UInt8)).toNat = 10 := rfl; omega)
      rw [if_pos h10, hA k (by omega), hc, h10']
      rfl
    · have h10' : c ≠ 10 := fun e => h10 (by subst e; rfl)
      rw [if_neg h10, up1 hn (by omega), ihB k (by omega), hc, line_cons h10']
theorem blank_r {a : ByteArray} (hn : a.size ≤ 1000000) {i k : Nat} (hi : i ≤ a.size) (hk : 3 * a.size + 1 ≤ k) : trammelref03_blank.f k a (i : Int) = some ((a.size - (sk (D a i)).length : Nat) : Int) :=
  (blank_l a hn (a.size - i) i (by omega)).1 k (by omega)
theorem ends_r {a : ByteArray} (i : Nat) : trammelref03_ends.f a (i : Int) = some (opn (D a i)) := by
  unfold trammelref03_ends.f
  by_cases h : i < a.size
  · obtain ⟨c, hc, hb⟩ := D_cons (s := a) (i := i) h
    rw [if_neg (by omega), if_pos (by omega), if_pos (by omega), hb, hc]
    unfold opn
    by_cases h32 : (c.toNat : Int) < 32
    · rw [if_pos h32]
      congr 1
      simp [UInt8.lt_iff_toNat_lt]
      omega
    · rw [if_neg h32]
      congr 1
      rw [Bool.eq_iff_iff]
      simp [UInt8.lt_iff_toNat_lt, ← UInt8.toNat_inj]
      omega
  · rw [if_pos (by omega), D_nil (by omega)]
    rfl
def escT : Esc → Int × Int × Int
  | .cut => (0, 0, 31)
  | .bad => (0, 0, 32)
  | .ok y n => ((y.toNat : Int), ((n + 1 : Nat) : Int), 0)
theorem hexI_none {c : UInt8} (h : hexv c = none) : hexI c = -1 := by unfold hexI; rw [h]
theorem hexI_some {c : UInt8} {v : Nat} (h : hexv c = some v) : hexI c = (v : Int) := by unfold hexI; rw [h]
theorem opn_cons {c : UInt8} (t u : B) : opn (c :: t) = opn (c :: u) := rfl
theorem hexv_r {c : UInt8} {v : Nat} (h : hexv c = some v) : v ≤ 15 := hexv_le h
theorem esc_x0 {t : B} (h : opn t = true) : esc (120 :: t) = .cut := by
  simp only [esc]
  rw [if_neg (show ¬ opn (120 :: _) = true from fun e => by cases e), if_neg (by decide), if_neg (by decide), if_neg (by decide), if_neg (by decide), if_neg (by decide), if_pos trivial, if_pos h]
theorem esc_x1 {c : UInt8} {t : B} (h : opn (c :: t) = false) (hv : hexv c = none) : esc (120 :: c :: t) = .bad := by
  simp only [esc]
  rw [if_neg (show ¬ opn (120 :: _) = true from fun e => by cases e), if_neg (by decide), if_neg (by decide), if_neg (by decide), if_neg (by decide), if_neg (by decide), if_pos trivial, if_neg (by rw [h]; decide), hv]
theorem esc_x2 {c : UInt8} {t : B} {x : Nat} (h : opn (c :: t) = false) (hv : hexv c = some x) (ho : opn t = true) : esc (120 :: c :: t) = .cut := by
  simp only [esc]
  rw [if_neg (show ¬ opn (120 :: _) = true from fun e => by cases e), if_neg (by decide), if_neg (by decide), if_neg (by decide), if_neg (by decide), if_neg (by decide), if_pos trivial, if_neg (by rw [h]; decide), hv]
  simp only
  rw [if_pos ho]
theorem esc_x3 {c d : UInt8} {t : B} {x : Nat} (h : opn (c :: d :: t) = false) (hv : hexv c = some x) (ho : opn (d :: t) = false) (hw : hexv d = none) : esc (120 :: c :: d :: t) = .bad := by
  simp only [esc]
  rw [if_neg (show ¬ opn (120 :: _) = true from fun e => by cases e), if_neg (by decide), if_neg (by decide), if_neg (by decide), if_neg (by decide), if_neg (by decide), if_pos trivial, if_neg (by rw [h]; decide), hv]
  simp only
  rw [if_neg (by rw [ho]; decide), hw]
theorem esc_x4 {c d : UInt8} {t : B} {x y : Nat} (h : opn (c :: d :: t) = false) (hv : hexv c = some x) (ho : opn (d :: t) = false) (hw : hexv d = some y) : esc (120 :: c :: d :: t) = .ok (UInt8.ofNat (16 * x + y)) 3 := by
  simp only [esc]
  rw [if_neg (show ¬ opn (120 :: _) = true from fun e => by cases e), if_neg (by decide), if_neg (by decide), if_neg (by decide), if_neg (by decide), if_neg (by decide), if_pos trivial, if_neg (by rw [h]; decide), hv]
  simp only
  rw [if_neg (by rw [ho]; decide), hw]
theorem esc_l0 {a : ByteArray} (hn : a.size ≤ 1000000) {i k : Nat} (hi : i + 2 ≤ a.size) (hk : 8 ≤ k) {t : B} (ht : D a (i + 1) = 120 :: t) :
    trammelref03_escape.l0 k a (i : Int) 0 2 = some (escT (esc (120 :: t))) := by
  have ht2 : D a (i + 2) = t := by have := D_drop a (i + 1) 1; rw [ht] at this; exact this.symm
  obtain ⟨k, rfl⟩ : ∃ m, k = m + 1 := ⟨k - 1, by omega⟩
  simp only [trammelref03_escape.l0]
  rw [if_pos (by omega), show wrap64 ((i : Int) + 2) = ((i + 2 : Nat) : Int) by rw [w64 (by omega) (by omega)]; omega, ends_r, ht2]
  simp only [Option.bind_some]
  cases ho : opn t with
  | true => rw [esc_x0 ho]; rfl
  | false =>
    obtain ⟨a1, t1, rfl⟩ : ∃ a1 t1, t = a1 :: t1 := by cases t with
      | nil => cases ho
      | cons a1 t1 => exact ⟨_, _, rfl⟩
    have hl : i + 2 < a.size := by
      rcases Nat.lt_or_ge (i + 2) a.size with h | h
      · exact h
      · rw [D_nil h] at ht2; cases ht2
    obtain ⟨c, hc, hb⟩ := D_cons (s := a) (i := i + 2) hl
    rw [ht2] at hc
    injection hc with hc1 hc2
    subst hc1
    simp only [Bool.false_eq_true, if_false]
    rw [if_pos (by omega), if_pos (by omega), hb, hex_r (by omega)]
    simp only [Option.bind_some]
    cases hv : hexv a1 with
    | none => rw [hexI_none hv, esc_x1 ho hv]; rfl
    | some x =>
      have hx := hexv_r hv
      rw [hexI_some hv, if_neg (by omega), show wrap64 (wrap64 (16 * 0) + (x : Int)) = (x : Int) by rw [show wrap64 (16 * 0) = 0 by rw [w64 (by omega) (by omega)]; rfl, w64 (by omega) (by omega)]; omega, show wrap64 (2 + 1) = 3 by rw [w64 (by omega) (by omega)]; rfl]
      obtain ⟨k, rfl⟩ : ∃ m, k = m + 1 := ⟨k - 1, by omega⟩
      simp only [trammelref03_escape.l0]
      rw [if_pos (by omega), show wrap64 ((i : Int) + 3) = ((i + 3 : Nat) : Int) by rw [w64 (by omega) (by omega)]; omega, ends_r, ← hc2]
      simp only [Option.bind_some]
      cases ho1 : opn t1 with
      | true => rw [esc_x2 ho hv ho1]; rfl
      | false =>
        obtain ⟨b1, t2, rfl⟩ : ∃ b1 t2, t1 = b1 :: t2 := by cases t1 with
          | nil => cases ho1
          | cons b1 t2 => exact ⟨_, _, rfl⟩
        have hl3 : i + 3 < a.size := by
          rcases Nat.lt_or_ge (i + 3) a.size with h | h
          · exact h
          · rw [D_nil h] at hc2; cases hc2
        obtain ⟨c, hc, hb⟩ := D_cons (s := a) (i := i + 3) hl3
        rw [← hc2] at hc
        injection hc with hc3 hc4
        subst hc3
        simp only [Bool.false_eq_true, if_false]
        rw [if_pos (by omega), if_pos (by omega), hb, hex_r (by omega)]
        simp only [Option.bind_some]
        cases hw : hexv b1 with
        | none => rw [hexI_none hw, esc_x3 ho hv ho1 hw]; rfl
        | some y =>
          have hy := hexv_r hw
          rw [hexI_some hw, if_neg (by omega), show wrap64 (wrap64 (16 * (x : Int)) + (y : Int)) = ((16 * x + y : Nat) : Int) by rw [w64 (x := 16 * (x : Int)) (by omega) (by omega), w64 (by omega) (by omega)]; omega, show wrap64 (3 + 1) = 4 by rw [w64 (by omega) (by omega)]; rfl]
          obtain ⟨k, rfl⟩ : ∃ m, k = m + 1 := ⟨k - 1, by omega⟩
          simp only [trammelref03_escape.l0]
          rw [if_neg (by omega), esc_x4 ho hv ho1 hw]
          simp only [escT]
          congr 2
theorem esc_r {a : ByteArray} (hn : a.size ≤ 1000000) {i k : Nat} (hi : i + 1 ≤ a.size) (hk : 10 ≤ k) : trammelref03_escape.f k a (i : Int) = some (escT (esc (D a (i + 1)))) := by
  unfold trammelref03_escape.f
  rw [up1 hn (by omega), ends_r]
  simp only [Option.bind_some]
  cases ho : opn (D a (i + 1)) with
  | true =>
    rw [if_pos rfl]
    cases hD : D a (i + 1) with
    | nil => rfl
    | cons c t => rw [hD] at ho; simp only [esc]; rw [if_pos ho]; rfl
  | false =>
    have hl : i + 1 < a.size := by
      rcases Nat.lt_or_ge (i + 1) a.size with h | h
      · exact h
      · rw [D_nil h] at ho; cases ho
    obtain ⟨c, hc, hb⟩ := D_cons (s := a) (i := i + 1) hl
    rw [hc] at ho
    rw [if_neg (by simp), if_pos (by omega), if_pos (by omega), hb]
    have hj : ∀ q, trammelref03_escape.j0 k a (i : Int) (c.toNat : Int) q = if q = true then some ((c.toNat : Int), 2, 0) else if (c.toNat : Int) = 110 then some (10, 2, 0) else if (c.toNat : Int) = 116 then some (9, 2, 0) else if (c.toNat : Int) = 114 then some (13, 2, 0) else if (c.toNat : Int) = 120 then trammelref03_escape.l0 (k - 1) a (i : Int) 0 2 else some (0, 0, 32) := by
      intro q
      obtain ⟨k, rfl⟩ : ∃ m, k = m + 1 := ⟨k - 1, by omega⟩
      simp only [trammelref03_escape.j0]
      rw [up1 hn (by omega), if_pos (by omega : (0 : Int) ≤ ((i + 1 : Nat) : Int)), if_pos (by omega : ((i + 1 : Nat) : Int) < (a.size : Int)), hb]
      rfl
    rw [hj, hj, hc]
    simp only [esc]
    rw [if_neg (show ¬ opn (c :: D a (i + 1 + 1)) = true by rw [ho]; decide)]
    have n : ∀ m : UInt8, (c.toNat : Int) = (m.toNat : Int) ↔ c = m := fun m => by rw [← UInt8.toNat_inj]; omega
    have n34 := n 34
    have n92 := n 92
    have n110 := n 110
    have n116 := n 116
    have n114 := n 114
    have n120 := n 120
    simp only [show ((34 : UInt8).toNat : Int) = 34 from rfl, show ((92 : UInt8).toNat : Int) = 92 from rfl, show ((110 : UInt8).toNat : Int) = 110 from rfl, show ((116 : UInt8).toNat : Int) = 116 from rfl, show ((114 : UInt8).toNat : Int) = 114 from rfl, show ((120 : UInt8).toNat : Int) = 120 from rfl] at n34 n92 n110 n116 n114 n120
    by_cases h34 : c = 34
    · rw [if_pos (n34.2 h34), if_pos (by rw [beq_iff_eq]; exact n34.2 h34), if_pos h34, n34.2 h34]; rfl
    · rw [if_neg (fun e => h34 (n34.1 e)), if_neg h34]
      by_cases h92 : c = 92
      · rw [if_pos (by rw [beq_iff_eq]; exact n92.2 h92), if_pos h92, n92.2 h92]; rfl
      · rw [if_neg (by rw [beq_iff_eq]; exact fun e => h92 (n92.1 e)), if_neg h92]
        by_cases h110 : c = 110
        · rw [if_pos (n110.2 h110), if_pos h110]; rfl
        · rw [if_neg (fun e => h110 (n110.1 e)), if_neg h110]
          by_cases h116 : c = 116
          · rw [if_pos (n116.2 h116), if_pos h116]; rfl
          · rw [if_neg (fun e => h116 (n116.1 e)), if_neg h116]
            by_cases h114 : c = 114
            · rw [if_pos (n114.2 h114), if_pos h114]; rfl
            · rw [if_neg (fun e => h114 (n114.1 e)), if_neg h114]
              by_cases h120 : c = 120
              · subst h120
                rw [if_pos (n120.2 rfl), esc_l0 hn (by omega) (by omega) hc]
                rfl
              · rw [if_neg (fun e => h120 (n120.1 e)), if_neg h120]
                rfl
end Go.Proofs.Ytmmilinbpimfaaa.PureRef
