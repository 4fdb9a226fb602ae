/- Tokens lie side by side; each alone is that token; blanks between two tokens change places alone: in plain Lean. No conditions. -/
import Derived.Test.YtmmilinbpimfaaaPlainLex
set_option linter.unusedSimpArgs false
namespace Go.Proofs.Ytmmilinbpimfaaa.Spec
/-- What may stand behind a token instead. -/
def Sep (r r' : B) : Prop := r'.head? = r.head? ∨ r' = [] ∨ ∃ b t, r' = b :: t ∧ isB b = true
theorem isB_cases {b : UInt8} (h : isB b = true) : b = 9 ∨ b = 10 ∨ b = 13 ∨ b = 32 := by
  unfold isB at h
  simpa [or_assoc] using h
theorem isB_noW {b : UInt8} (h : isB b = true) : isW b = false := by
  rcases isB_cases h with rfl | rfl | rfl | rfl <;> rfl
theorem sep_W {r r' : B} (h : Sep r r') (hr : r.takeWhile isW = []) : r'.takeWhile isW = [] := by
  rcases h with h | rfl | ⟨b, t, rfl, hb⟩
  · cases r' with
    | nil => rfl
    | cons c' t' =>
      cases r with
      | nil => simp at h
      | cons c t =>
        simp only [List.head?_cons, Option.some.injEq] at h
        subst h
        rw [List.takeWhile_cons] at hr ⊢
        cases hc : isW c' with
        | true => rw [hc] at hr; simp at hr
        | false => rfl
  · rfl
  · rw [List.takeWhile_cons, isB_noW hb]; rfl
theorem word_app {u r : B} (h : word (u ++ r) = u) : u.takeWhile isW = u ∧ r.takeWhile isW = [] := by
  unfold word at h
  rw [List.takeWhile_append] at h
  split at h
  · rename_i hl
    have h1 : u.takeWhile isW = u := (List.takeWhile_prefix _).eq_of_length hl
    refine ⟨h1, ?_⟩
    have := congrArg List.length h
    rw [List.length_append] at this
    exact List.eq_nil_of_length_eq_zero (by omega)
  · rename_i hl
    exact absurd (congrArg List.length h) hl
theorem word_mk {u r : B} (h1 : u.takeWhile isW = u) (h2 : r.takeWhile isW = []) : word (u ++ r) = u := by
  unfold word
  rw [List.takeWhile_append, if_pos (by rw [h1]), h2, List.append_nil]
theorem noW_noD {r : B} (h : r.takeWhile isW = []) : r.takeWhile isD = [] := by
  cases r with
  | nil => rfl
  | cons c t =>
    rw [List.takeWhile_cons] at h ⊢
    cases hc : isD c with
    | true => rw [isW_D hc] at h; simp at h
    | false => rfl
theorem digits_app {u r : B} (h2 : r.takeWhile isW = []) : digits (u ++ r) = digits u := by
  unfold digits
  rw [List.takeWhile_append, noW_noD h2]
  split
  · rename_i hl
    rw [List.append_nil]
    exact ((List.takeWhile_prefix _).eq_of_length hl).symm
  · rfl
theorem num_app {u r r' : B} (h : word (u ++ r) = u) (hs : Sep r r') : num (u ++ r') = num (u ++ r) := by
  obtain ⟨h1, h2⟩ := word_app h
  have h3 := sep_W hs h2
  unfold num suffix
  rw [word_mk h1 h3, h, digits_app h2, digits_app h3]
theorem word_pre {l u r : B} (hl : l = u ++ r) (h : (word l).length = u.length) : word l = u := by
  have hp := List.takeWhile_prefix (l := l) isW
  have h2 : word l = l.take (word l).length := List.prefix_iff_eq_take.1 hp
  rw [h2, h, hl, List.take_left]
theorem esc_app {w r r' : B} {y : UInt8} {q : Nat} (h : esc (w ++ r) = .ok y q) (hq : q ≤ w.length) : esc (w ++ r') = .ok y q := by
  have hl := esc_len2 h
  cases w with
  | nil => simp only [List.length_nil] at hq; omega
  | cons c w =>
    rw [List.cons_append] at h ⊢
    by_cases hx : c = 120
    · subst hx
      simp only [esc] at h
      rw [if_neg (show ¬ opn (120 :: _) = true from fun e => by cases e), if_neg (by decide), if_neg (by decide), if_neg (by decide), if_neg (by decide), if_neg (by decide), if_pos trivial] at h
      split at h
      · cases h
      · rename_i ho
        split at h
        · cases h
        · rename_i a t1 e1
          split at h
          · cases h
          · rename_i x hv
            split at h
            · cases h
            · rename_i ho1
              split at h
              · cases h
              · rename_i b t2
                split at h
                · cases h
                · rename_i z hw
                  injection h with h1 h2
                  subst h1; subst h2
                  cases w with
                  | nil => simp only [List.length_cons, List.length_nil] at hq; omega
                  | cons a' w =>
                    cases w with
                    | nil => simp only [List.length_cons, List.length_nil] at hq; omega
                    | cons b' w =>
                      simp only [List.cons_append, List.cons.injEq] at e1
                      obtain ⟨rfl, rfl, rfl⟩ := e1
                      have ho' : opn (a' :: b' :: (w ++ r')) = false := by rw [Bool.not_eq_true] at ho; exact ho
                      have ho1' : opn (b' :: (w ++ r')) = false := by rw [Bool.not_eq_true] at ho1; exact ho1
                      show esc (120 :: a' :: b' :: (w ++ r')) = _
                      simp only [esc]
                      rw [if_neg (show ¬ opn (120 :: _) = true from fun e => by cases e), if_neg (by decide), if_neg (by decide), if_neg (by decide), if_neg (by decide), if_neg (by decide), if_pos trivial, if_neg (by rw [ho']; decide), hv]
                      simp only
                      rw [if_neg (by rw [ho1']; decide), hw]
    · simp only [esc] at h ⊢
      rw [show opn (c :: (w ++ r')) = opn (c :: (w ++ r)) from rfl]
      simp only [if_neg hx] at h ⊢
      exact h
theorem txt_app : ∀ (n : Nat) (u r : B) (i : Nat) (acc : B) (k : Nat) (x : B) (v : Nat) (n' : Nat) (r' : B), txt n (u ++ r) i acc = .ok k x v (i + u.length) → u.length < n' → txt n' (u ++ r') i acc = .ok k x v (i + u.length)
  | 0, _, _, _, _, _, _, _, _, _, h, _ => by cases h
  | n + 1, [], r, i, acc, k, x, v, n', r', h, hn => by
    have := txt_ok _ _ _ _ _ _ _ _ h
    simp only [List.length_nil] at this
    omega
  | n + 1, c :: w, r, i, acc, k, x, v, 0, r', h, hn => by omega
  | n + 1, c :: w, r, i, acc, k, x, v, n' + 1, r', h, hn => by
    rw [List.cons_append] at h ⊢
    simp only [List.length_cons] at hn
    simp only [txt] at h ⊢
    rw [show opn (c :: (w ++ r')) = opn (c :: (w ++ r)) from rfl]
    split at h
    · cases h
    · rename_i ho
      rw [if_neg ho]
      split at h
      · rename_i hc
        rw [if_pos hc]
        exact h
      · rename_i hc
        rw [if_neg hc]
        split at h
        · rename_i h92
          rw [if_pos h92]
          split at h
          · cases h
          · cases h
          · rename_i y q he
            have h3 := txt_ok _ _ _ _ _ _ _ _ h
            simp only [List.length_cons] at h3
            have hq : q ≤ w.length := by omega
            rw [esc_app he hq]
            simp only
            have hl := esc_len2 he
            have e1 : (w ++ r).drop q = w.drop q ++ r := by rw [List.drop_append_of_le_length hq]
            have e2 : (w ++ r').drop q = w.drop q ++ r' := by rw [List.drop_append_of_le_length hq]
            have e3 : i + (c :: w).length = i + 1 + q + (w.drop q).length := by rw [List.length_cons, List.length_drop]; omega
            rw [e1, e3] at h
            rw [e2, e3]
            exact txt_app n _ _ _ _ _ _ _ n' r' h (by rw [List.length_drop]; omega)
        · rename_i h92
          rw [if_neg h92]
          have e3 : i + (c :: w).length = i + 1 + w.length := by rw [List.length_cons]; omega
          rw [e3] at h ⊢
          exact txt_app n _ _ _ _ _ _ _ n' r' h (by omega)
theorem two_no {c b : UInt8} (h : isB b = true) : [c, b] ∉ two := by
  rcases isB_cases h with rfl | rfl | rfl | rfl <;> simp [two]
theorem two_no1 {c : UInt8} : [c] ∉ two := by simp [two]
theorem sgn_app {u r r' : B} {k : Nat} {x : B} {v : Nat} (h : sgn (u ++ r) = .ok k x v u.length) (hs : Sep r r') : sgn (u ++ r') = .ok k x v u.length := by
  unfold sgn at h ⊢
  split at h
  · rename_i hc
    injection h with h1 h2 h3 h4
    have hu : u.length = 2 := h4.symm
    obtain ⟨a, b, rfl⟩ : ∃ a b, u = [a, b] := by
      match u, hu with
      | [a, b], _ => exact ⟨a, b, rfl⟩
    have e1 : ([a, b] ++ r).take 2 = [a, b] := rfl
    have e2 : ([a, b] ++ r').take 2 = [a, b] := rfl
    rw [e1] at hc h2
    rw [if_pos ⟨by simp, by rw [e2]; exact hc.2⟩, e2, ← h1, ← h2, ← h3]
    rfl
  · rename_i hc
    split at h
    · cases h
    · rename_i c t e
      split at h
      · rename_i ho
        injection h with h1 h2 h3 h4
        have hu : u.length = 1 := h4.symm
        obtain ⟨a, rfl⟩ : ∃ a, u = [a] := by
          match u, hu with
          | [a], _ => exact ⟨a, rfl⟩
        rw [List.singleton_append] at e
        injection e with e1 e2
        subst e1; subst e2
        have hno : ¬ (1 < ([a] ++ r').length ∧ ([a] ++ r').take 2 ∈ two) := by
          rintro ⟨g1, g2⟩
          rcases hs with hs | rfl | ⟨b, t', rfl, hb⟩
          · cases r' with
            | nil => simp at g1
            | cons c' t' =>
              cases r with
              | nil => simp at hs
              | cons c2 t2 =>
                simp only [List.head?_cons, Option.some.injEq] at hs
                subst hs
                exact hc ⟨by simp, g2⟩
          · simp at g1
          · exact two_no hb g2
        rw [if_neg hno]
        simp only [List.singleton_append]
        rw [if_pos ho, ← h1, ← h2, ← h3]
        rfl
      · cases h
theorem nxt_cons (c : UInt8) (t : B) : nxt (c :: t) = if isL c then .ok 1 (word (c :: t)) 0 (word (c :: t)).length else if isD c then num (c :: t) else if c = 34 then txt (t.length + 1) t 1 [] else sgn (c :: t) := rfl
/-- A token hangs on its own bytes, and on what byte stands behind them. -/
theorem nxt_app {u r r' : B} {k : Nat} {x : B} {v : Nat} (h : nxt (u ++ r) = .ok k x v u.length) (hs : Sep r r') : nxt (u ++ r') = .ok k x v u.length := by
  have hl := nxt_len h
  cases u with
  | nil => simp only [List.length_nil] at hl; omega
  | cons c w =>
    rw [List.cons_append, nxt_cons] at h ⊢
    rw [← List.cons_append] at h ⊢
    by_cases h1 : isL c = true
    · rw [if_pos h1] at h ⊢
      injection h with e1 e2 e3 e4
      have hw := word_pre rfl e4
      obtain ⟨g1, g2⟩ := word_app hw
      rw [word_mk g1 (sep_W hs g2), ← e1, ← e2, ← e3, hw]
    · rw [if_neg h1] at h ⊢
      by_cases h2 : isD c = true
      · rw [if_pos h2] at h ⊢
        obtain ⟨_, _, e4⟩ := num_ok h
        have hw := word_pre rfl e4.symm
        rw [num_app hw hs]
        exact h
      · rw [if_neg h2] at h ⊢
        by_cases h3 : c = 34
        · rw [if_pos h3] at h ⊢
          have e3 : (c :: w).length = 1 + w.length := by rw [List.length_cons]; omega
          rw [e3] at h ⊢
          exact txt_app _ _ _ _ _ _ _ _ _ _ h (by rw [List.length_append]; omega)
        · rw [if_neg h3] at h ⊢
          exact sgn_app h hs
/-! ### blanks -/
theorem sk_le (l : B) : (sk l).length ≤ l.length := skip_len _ _
theorem sk_fix {c : UInt8} {t : B} (h : sk (c :: t) = c :: t) : cmt (c :: t) = false ∧ isB c = false := by
  cases hc : cmt (c :: t) with
  | true =>
    rw [sk_cmt hc] at h
    have h1 := sk_le (line (c :: t))
    have h2 := line_lt (c :: t) hc
    rw [h] at h1
    omega
  | false =>
    refine ⟨rfl, ?_⟩
    cases hb : isB c with
    | true =>
      rw [sk_blank hc hb] at h
      have h1 := sk_le t
      rw [h, List.length_cons] at h1
      omega
    | false => rfl
theorem sk_idem : ∀ (n : Nat) (l : B), l.length ≤ n → sk (sk l) = sk l
  | _, [], _ => rfl
  | 0, c :: t, h => by simp at h
  | n + 1, c :: t, h => by
    simp only [List.length_cons] at h
    cases hc : cmt (c :: t) with
    | true =>
      rw [sk_cmt hc]
      have h2 := line_lt (c :: t) hc
      simp only [List.length_cons] at h2
      exact sk_idem n _ (by omega)
    | false =>
      cases hb : isB c with
      | true => rw [sk_blank hc hb]; exact sk_idem n t (by omega)
      | false => rw [sk_stop hc hb, sk_stop hc hb]
theorem cmt_B {c : UInt8} {t : B} (h : isB c = true) : cmt (c :: t) = false := by
  unfold cmt
  split
  · rename_i e
    injection e with e1 e2
    subst e1
    rcases isB_cases h with rfl | rfl | rfl | rfl <;> rfl
  · rfl
/-- Tokens stay where blanks end. -/
theorem sk_app {u r r' : B} (hu : u ≠ []) (h : sk (u ++ r) = u ++ r) (hs : Sep r r') : sk (u ++ r') = u ++ r' := by
  cases u with
  | nil => exact absurd rfl hu
  | cons c w =>
    rw [List.cons_append] at h ⊢
    obtain ⟨h1, h2⟩ := sk_fix h
    refine sk_stop ?_ h2
    cases w with
    | cons d w => exact h1
    | nil =>
      rw [List.nil_append] at h1 ⊢
      rcases hs with hs | rfl | ⟨b, t, rfl, hb⟩
      · cases r' with
        | nil => rfl
        | cons c' t' =>
          cases r with
          | nil => simp at hs
          | cons c2 t2 =>
            simp only [List.head?_cons, Option.some.injEq] at hs
            subst hs
            exact h1
      · rfl
      · unfold cmt
        rcases isB_cases hb with rfl | rfl | rfl | rfl <;> simp
theorem line_app_nl : ∀ (g y : B), 10 ∈ g → line (g ++ y) = line g ++ y
  | [], _, h => by simp at h
  | c :: g, y, h => by
    unfold line
    rw [List.cons_append, List.dropWhile_cons, List.dropWhile_cons]
    by_cases hc : c = 10
    · subst hc
      rfl
    · rw [if_pos (by simpa using hc), if_pos (by simpa using hc)]
      rcases List.mem_cons.1 h with e | e
      · exact absurd e.symm hc
      · exact line_app_nl g y e
theorem line_app_no : ∀ (g y : B), 10 ∉ g → line (g ++ y) = line y
  | [], _, _ => rfl
  | c :: g, y, h => by
    have h1 : c ≠ 10 := fun e => h (by rw [e]; exact List.mem_cons_self)
    have h2 : 10 ∉ g := fun e => h (List.mem_cons_of_mem _ e)
    have := line_app_no g y h2
    unfold line at this ⊢
    rw [List.cons_append, List.dropWhile_cons, if_pos (by simpa using h1)]
    exact this
theorem line_le (l : B) : (line l).length ≤ l.length := (List.dropWhile_suffix _).length_le
/-- A gap ahead of a token is a gap ahead of all else. -/
theorem gap (r : B) (hr : r ≠ []) : ∀ (n : Nat) (g : B), g.length ≤ n → sk (g ++ r) = r → ∀ y, sk (g ++ y) = sk y
  | _, [], _, _, y => rfl
  | 0, c :: g, h, _, _ => by simp at h
  | n + 1, c :: g, hn, h, y => by
    simp only [List.length_cons] at hn
    rw [List.cons_append] at h ⊢
    cases hc : cmt (c :: (g ++ r)) with
    | true =>
      have hlt := line_lt _ hc
      rw [sk_cmt hc] at h
      cases g with
      | nil =>
        rw [List.nil_append] at h hlt hc
        have h1 := sk_le (line (c :: r))
        rw [h] at h1
        have h2 : line (c :: r) = line r := by
          have : c ≠ 10 := by
            unfold cmt at hc
            split at hc
            · rename_i e; injection e with e1 e2; subst e1; simp at hc; rw [hc.1]; decide
            · cases hc
          exact line_app_no [c] r (by simpa using this.symm)
        rw [h2] at h h1
        have h3 := line_le r
        have h4 : line r = r := (List.dropWhile_suffix _).eq_of_length (show (line r).length = r.length by omega)
        cases r with
        | nil => exact absurd rfl hr
        | cons a t =>
          have : a = 10 := by
            unfold line at h4
            rw [List.dropWhile_cons] at h4
            split at h4
            · have := congrArg List.length h4
              have h5 := (List.dropWhile_suffix (l := t) (· != 10)).length_le
              simp only [List.length_cons] at this
              omega
            · rename_i hh
              simpa using hh
          rw [h4] at h
          have h6 := (sk_fix h).2
          rw [this] at h6
          cases h6
      | cons d g =>
        have hcd : cmt (c :: d :: (g ++ y)) = true := hc
        show sk (c :: d :: (g ++ y)) = _
        rw [sk_cmt hcd]
        by_cases hnl : 10 ∈ c :: d :: g
        · have e1 : line (c :: d :: (g ++ r)) = line (c :: d :: g) ++ r := line_app_nl (c :: d :: g) r hnl
          have e2 : line (c :: d :: (g ++ y)) = line (c :: d :: g) ++ y := line_app_nl (c :: d :: g) y hnl
          have hc3 : cmt (c :: d :: g) = true := hc
          have hl3 := line_lt _ hc3
          rw [List.cons_append, e1] at h
          rw [e2]
          simp only [List.length_cons] at hn hl3
          exact gap r hr n _ (by omega) h y
        · have e1 : line (c :: d :: (g ++ r)) = line r := line_app_no (c :: d :: g) r hnl
          rw [List.cons_append, e1] at h
          have h1 := sk_le (line r)
          rw [h] at h1
          have h3 := line_le r
          have h4 : line r = r := (List.dropWhile_suffix _).eq_of_length (show (line r).length = r.length by omega)
          cases r with
          | nil => exact absurd rfl hr
          | cons a t =>
            have : a = 10 := by
              unfold line at h4
              rw [List.dropWhile_cons] at h4
              split at h4
              · have := congrArg List.length h4
                have h5 := (List.dropWhile_suffix (l := t) (· != 10)).length_le
                simp only [List.length_cons] at this
                omega
              · rename_i hh
                simpa using hh
            rw [h4] at h
            have h6 := (sk_fix h).2
            rw [this] at h6
            cases h6
    | false =>
      cases hb : isB c with
      | true =>
        rw [sk_blank hc hb] at h
        rw [sk_blank (cmt_B hb) hb]
        exact gap r hr n g (by omega) h y
      | false =>
        rw [sk_stop hc hb] at h
        have := congrArg List.length h
        simp only [List.length_cons, List.length_append] at this
        omega
theorem end_blank (b : B) (h1 : sk b = []) (h2 : sk (line b) = []) : ∀ (n : Nat) (l : B), l.length ≤ n → sk l = [] → sk (l ++ b) = []
  | _, [], _, _ => h1
  | 0, c :: t, h, _ => by simp at h
  | n + 1, c :: t, hn, h => by
    simp only [List.length_cons] at hn
    cases hc : cmt (c :: t) with
    | true =>
      have hlt := line_lt _ hc
      simp only [List.length_cons] at hlt
      rw [sk_cmt hc] at h
      have hc2 : cmt (c :: (t ++ b)) = true := by
        cases t with
        | nil => cases hc
        | cons d t => exact hc
      rw [List.cons_append, sk_cmt hc2]
      by_cases hnl : 10 ∈ c :: t
      · rw [← List.cons_append, line_app_nl _ _ hnl]
        exact end_blank b h1 h2 n _ (by omega) h
      · rw [← List.cons_append, line_app_no _ _ hnl]
        exact h2
    | false =>
      cases hb : isB c with
      | true =>
        rw [sk_blank hc hb] at h
        rw [List.cons_append, sk_blank (cmt_B hb) hb]
        exact end_blank b h1 h2 n t (by omega) h
      | false =>
        rw [sk_stop hc hb] at h
        cases h
theorem sk_suffix (l : B) : ∃ g, l = g ++ sk l := by
  have : ∀ (n : Nat) (l : B), skip n l <:+ l := by
    intro n
    induction n with
    | zero => intro l; exact List.suffix_refl l
    | succ n ih =>
      intro l
      cases l with
      | nil => exact List.suffix_refl _
      | cons c t =>
        simp only [skip]
        split
        · exact (ih _).trans (List.dropWhile_suffix _)
        · split
          · exact (ih t).trans (List.suffix_cons c t)
          · exact List.suffix_refl _
  obtain ⟨g, hg⟩ := this l.length l
  exact ⟨g, hg.symm⟩
/-! ### items -/
def shift (d : Nat) (x : Nat × Res) : Nat × Res := (x.1 + d, x.2)
theorem items_end {f n o : Nat} {l : B} (h : sk l = []) : items f n o l = [] := by
  cases f with
  | zero => rfl
  | succ f => rw [items, h]
theorem items_ok {f n o : Nat} {g r : B} {k : Nat} {x : B} {v m : Nat} (h : sk (g ++ r) = r) (hr : r ≠ []) (hn : n ≠ 32768) (hx : nxt r = .ok k x v m) : items (f + 1) n o (g ++ r) = (o + g.length, .ok k x v m) :: items f (n + 1) (o + g.length + m) (r.drop m) := by
  cases r with
  | nil => exact absurd rfl hr
  | cons c t =>
    rw [items, h]
    simp only
    rw [if_neg hn, hx]
    simp only
    have : o + ((g ++ c :: t).length - (t.length + 1)) = o + g.length := by rw [List.length_append, List.length_cons]; omega
    rw [this]
theorem items_shift : ∀ (f n o d : Nat) (l : B), items f n (o + d) l = (items f n o l).map (shift d)
  | 0, _, _, _, _ => rfl
  | f + 1, n, o, d, l => by
    rw [items, items]
    cases sk l with
    | nil => rfl
    | cons c t =>
      simp only
      split
      · simp [shift]; omega
      · split
        · simp [shift]; omega
        · rename_i k x v m _
          rw [List.map_cons, ← items_shift]
          simp only [shift]
          rw [show o + d + (l.length - (t.length + 1)) + m = o + (l.length - (t.length + 1)) + m + d by omega, show o + d + (l.length - (t.length + 1)) = o + (l.length - (t.length + 1)) + d by omega]
def AllOk (rs : List (Nat × Res)) : Prop := ∀ o r, (o, r) ∈ rs → ∃ k x v m, r = .ok k x v m
theorem items_cases {f n o : Nat} {l : B} (h : AllOk (items (f + 1) n o l)) : sk l = [] ∨ ∃ g r k x v m, l = g ++ r ∧ sk (g ++ r) = r ∧ r ≠ [] ∧ n ≠ 32768 ∧ nxt r = .ok k x v m := by
  obtain ⟨g, hg⟩ := sk_suffix l
  cases hs : sk l with
  | nil => exact .inl rfl
  | cons c t =>
    right
    rw [items, hs] at h
    simp only at h
    have hn : n ≠ 32768 := by
      intro e
      rw [if_pos e] at h
      obtain ⟨_, _, _, _, e2⟩ := h _ _ List.mem_cons_self
      cases e2
    rw [if_neg hn] at h
    cases hx : nxt (c :: t) with
    | bad d e =>
      rw [hx] at h
      obtain ⟨_, _, _, _, e2⟩ := h _ _ List.mem_cons_self
      cases e2
    | ok k x v m => exact ⟨g, c :: t, k, x, v, m, by rw [← hs]; exact hg, by rw [← hs, ← hg], by simp, hn, hx⟩
/-- Each item's bytes; items stand one behind the other. -/
theorem items_at : ∀ (f n o : Nat) (l : B), AllOk (items f n o l) → ∀ (i : Nat) (a k : Nat) (x : B) (v m : Nat), (items f n o l)[i]? = some (a, .ok k x v m) →
    o ≤ a ∧ a + m ≤ o + l.length ∧ 1 ≤ m ∧ sk (l.drop (a - o)) = l.drop (a - o) ∧ nxt (l.drop (a - o)) = .ok k x v m ∧ (∀ a' r', (items f n o l)[i + 1]? = some (a', r') → a + m ≤ a')
  | 0, _, _, _, _, i, a, k, x, v, m, h => by simp [items] at h
  | f + 1, n, o, l, hA, i, a, k, x, v, m, h => by
    rcases items_cases hA with hs | ⟨g, r, k0, x0, v0, m0, hl, hs, hr, hn, hx⟩
    · rw [items_end hs] at h
      simp at h
    · subst hl
      rw [items_ok hs hr hn hx] at h hA ⊢
      have hA2 : AllOk (items f (n + 1) (o + g.length + m0) (r.drop m0)) := fun o r hm => hA o r (List.mem_cons_of_mem _ hm)
      have hml := nxt_len hx
      cases i with
      | zero =>
        rw [List.getElem?_cons_zero, Option.some.injEq, Prod.mk.injEq, Res.ok.injEq] at h
        obtain ⟨rfl, rfl, rfl, rfl, rfl⟩ := h
        have e : (g ++ r).drop (o + g.length - o) = r := by rw [show o + g.length - o = g.length by omega, List.drop_left]
        rw [e]
        refine ⟨by omega, by rw [List.length_append]; omega, hml.1, ?_, hx, fun a' r' h' => ?_⟩
        · rw [← hs]; rw [sk_idem _ _ (Nat.le_refl _)]
        · rw [List.getElem?_cons_succ] at h'
          obtain ⟨k', x', v', m', rfl⟩ := hA2 _ _ (List.mem_of_getElem? h')
          exact (items_at f _ _ _ hA2 _ _ _ _ _ _ h').1
      | succ i =>
        rw [List.getElem?_cons_succ] at h
        obtain ⟨b1, b2, b3, b4, b5, b6⟩ := items_at f _ _ _ hA2 _ _ _ _ _ _ h
        have e : (r.drop m0).drop (a - (o + g.length + m0)) = (g ++ r).drop (a - o) := by
          rw [List.drop_drop, List.drop_append, List.drop_eq_nil_of_le (as := g) (by omega), List.nil_append]
          congr 1
          omega
        rw [e] at b4 b5
        refine ⟨by omega, ?_, b3, b4, b5, fun a' r' h' => b6 a' r' (by rw [List.getElem?_cons_succ] at h'; exact h')⟩
        rw [List.length_drop] at b2
        rw [List.length_append]
        omega
/-- A token's bytes, alone. -/
theorem items_alone {l : B} {k : Nat} {x : B} {v m : Nat} (hs : sk l = l) (hx : nxt l = .ok k x v m) (f : Nat) : items (f + 2) 0 0 (l.take m) = [(0, .ok k x v m)] := by
  have hml := nxt_len hx
  have hl : l = l.take m ++ l.drop m := (List.take_append_drop m l).symm
  have hm : (l.take m).length = m := by rw [List.length_take]; omega
  have h1 : nxt (l.take m ++ l.drop m) = .ok k x v (l.take m).length := by rw [← hl, hm]; exact hx
  have h2 := nxt_app (r' := []) h1 (.inr (.inl rfl))
  rw [List.append_nil, hm] at h2
  have hne : l.take m ≠ [] := fun e => by rw [e, List.length_nil] at hm; omega
  have h3 := sk_app (u := l.take m) (r := l.drop m) (r' := []) hne (by rw [← hl]; exact hs) (.inr (.inl rfl))
  rw [List.append_nil] at h3
  have h4 := items_ok (f := f + 1) (n := 0) (o := 0) (g := []) (r := l.take m) h3 hne (by decide) h2
  rw [List.nil_append] at h4
  rw [h4, List.drop_eq_nil_of_le (by omega), items_end (by rfl)]
  rfl
/-- Blanks put ahead of the token k, or behind the last one. -/
theorem items_ins (b : B) (hb : ∀ y, sk (b ++ y) = sk y) (hb0 : ∃ c t, b = c :: t ∧ isB c = true) (hb2 : sk (line b) = []) : ∀ (f n o : Nat) (l : B) (k q : Nat), AllOk (items f n o l) → k ≤ (items f n o l).length →
    (match (items f n o l)[k]? with | some x => o + q = x.1 | none => q = l.length) →
    items f n o (l.take q ++ b ++ l.drop q) = (items f n o l).take k ++ ((items f n o l).drop k).map (shift b.length)
  | 0, _, _, _, _, _, _, _, _ => by simp [items]
  | f + 1, n, o, l, k, q, hA, hk, hq => by
    rcases items_cases hA with hs | ⟨g, r, k0, x0, v0, m0, hl, hs, hr, hn, hx⟩
    · rw [items_end hs] at hk hq ⊢
      have hk0 : k = 0 := by simpa using hk
      subst hk0
      have hq : q = l.length := by simpa using hq
      subst hq
      rw [List.take_length, List.drop_length, List.append_nil]
      have hb1 : sk b = [] := by have := hb []; rwa [List.append_nil] at this
      rw [items_end (end_blank b hb1 hb2 _ l (Nat.le_refl _) hs)]
      rfl
    · subst hl
      have hi := items_ok (f := f) (o := o) hs hr hn hx
      rw [hi] at hk hq hA ⊢
      have hA2 : AllOk (items f (n + 1) (o + g.length + m0) (r.drop m0)) := fun o r hm => hA o r (List.mem_cons_of_mem _ hm)
      have hml := nxt_len hx
      have hgap := gap r hr _ g (Nat.le_refl _) hs
      cases k with
      | zero =>
        rw [List.getElem?_cons_zero] at hq
        have hq : q = g.length := by have : o + q = o + g.length := hq; omega
        subst hq
        rw [List.take_left, List.drop_left]
        have hs2 : sk ((g ++ b) ++ r) = r := by
          rw [List.append_assoc, hgap, hb]
          rw [← hs]
          exact sk_idem _ _ (Nat.le_refl _)
        rw [items_ok (f := f) (o := o) hs2 hr hn hx, List.take_zero, List.nil_append, List.drop_zero, List.map_cons, ← items_shift]
        simp only [shift]
        rw [List.length_append, show o + (g.length + b.length) + m0 = o + g.length + m0 + b.length by omega, show o + (g.length + b.length) = o + g.length + b.length by omega]
      | succ k =>
        rw [List.getElem?_cons_succ] at hq
        simp only [List.length_cons] at hk
        have hqm : g.length + m0 ≤ q := by
          cases h' : (items f (n + 1) (o + g.length + m0) (r.drop m0))[k]? with
          | none =>
            rw [h'] at hq
            have hq : q = (g ++ r).length := hq
            rw [hq, List.length_append]
            omega
          | some y =>
            rw [h'] at hq
            obtain ⟨a', r'⟩ := y
            have hq : o + q = a' := hq
            obtain ⟨k', x', v', m', rfl⟩ := hA2 _ _ (List.mem_of_getElem? h')
            have := (items_at f _ _ _ hA2 _ _ _ _ _ _ h').1
            omega
        have hq2 : (match (items f (n + 1) (o + g.length + m0) (r.drop m0))[k]? with | some x => o + g.length + m0 + (q - g.length - m0) = x.1 | none => q - g.length - m0 = (r.drop m0).length) := by
          cases h' : (items f (n + 1) (o + g.length + m0) (r.drop m0))[k]? with
          | none =>
            rw [h'] at hq
            have hq : q = (g ++ r).length := hq
            simp only
            rw [hq, List.length_append, List.length_drop]
            omega
          | some y =>
            rw [h'] at hq
            have hq : o + q = y.1 := hq
            simp only
            omega
        have ih := items_ins b hb hb0 hb2 f (n + 1) (o + g.length + m0) (r.drop m0) k (q - g.length - m0) hA2 (by omega) hq2
        have hm : (r.take m0).length = m0 := by rw [List.length_take]; omega
        have et : (g ++ r).take q = g ++ (r.take m0 ++ (r.drop m0).take (q - g.length - m0)) := by
          rw [List.take_append, List.take_of_length_le (by omega)]
          congr 1
          conv => lhs; rw [show q - g.length = m0 + (q - g.length - m0) by omega]
          rw [List.take_add]
        have ed : (g ++ r).drop q = (r.drop m0).drop (q - g.length - m0) := by
          rw [List.drop_append, List.drop_eq_nil_of_le (by omega), List.nil_append, List.drop_drop]
          congr 1
          omega
        rw [et, ed]
        obtain ⟨X, hX⟩ : ∃ X, (r.drop m0).take (q - g.length - m0) ++ b ++ (r.drop m0).drop (q - g.length - m0) = X := ⟨_, rfl⟩
        have hsep : Sep (r.drop m0) X := by
          rw [← hX]
          cases hz : (r.drop m0).take (q - g.length - m0) with
          | nil =>
            obtain ⟨c, t, rfl, hc⟩ := hb0
            exact .inr (.inr ⟨c, _, rfl, hc⟩)
          | cons c t =>
            refine .inl ?_
            have : (r.drop m0).head? = some c := by
              have h9 := congrArg List.head? (List.take_append_drop (q - g.length - m0) (r.drop m0))
              rw [hz] at h9
              simpa using h9.symm
            rw [this]
            rfl
        have e0 : g ++ (r.take m0 ++ (r.drop m0).take (q - g.length - m0)) ++ b ++ (r.drop m0).drop (q - g.length - m0) = g ++ (r.take m0 ++ X) := by rw [← hX]; simp only [List.append_assoc]
        rw [e0]
        have hl : r = r.take m0 ++ r.drop m0 := (List.take_append_drop m0 r).symm
        have h1 : nxt (r.take m0 ++ r.drop m0) = .ok k0 x0 v0 (r.take m0).length := by rw [← hl, hm]; exact hx
        have h2 := nxt_app (r' := X) h1 hsep
        rw [hm] at h2
        have hne : r.take m0 ≠ [] := fun e => by rw [e, List.length_nil] at hm; omega
        have hsr : sk r = r := by conv => lhs; rw [← hs]
                                  rw [sk_idem _ _ (Nat.le_refl _)]; exact hs
        have h3 := sk_app (u := r.take m0) (r := r.drop m0) (r' := X) hne (by rw [← hl]; exact hsr) hsep
        have h4 : sk (g ++ (r.take m0 ++ X)) = r.take m0 ++ X := by rw [hgap]; exact h3
        rw [items_ok (f := f) (o := o) h4 (by simp [hne]) hn h2]
        have e5 : (r.take m0 ++ X).drop m0 = X := by
          exact List.drop_left' hm
        rw [e5, ← hX, ih]
        rfl
end Go.Proofs.Ytmmilinbpimfaaa.Spec
