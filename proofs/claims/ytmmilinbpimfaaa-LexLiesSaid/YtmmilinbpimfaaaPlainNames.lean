/- Names are one token; kept words are. In plain Lean, and what the program's Name and Kept answer. No conditions. -/
import Derived.Test.YtmmilinbpimfaaaPLexKnownx7
import Derived.Test.YtmmilinbpimfaaaPlainLies
import Derived.Test.YtmmilinbpimfaaaWalkTokens
set_option linter.unusedSimpArgs false
namespace Go.Proofs.Ytmmilinbpimfaaa.PlainNames
open Go.RowKit Go.Proofs.Ytmmilinbpimfaaa.PLexKnown Go.Proofs.YtmmilinbpimfaaaW.PrintWords Go.Proofs.Ytmmilinbpimfaaa.Spec Go.Proofs.Ytmmilinbpimfaaa.PureLex Go.Proofs.Ytmmilinbpimfaaa.WalkTokens Go.Proofs.Ytmmilinbpimfaaa.WalkBlanks Go.Proofs.Ytmmilinbpimfaaa.WalkSign
/-- Letters and digits throughout, a letter first. -/
def nameL : B → Bool
  | [] => false
  | c :: t => isL c && (c :: t).all isW
theorem word_all {l : B} : word l = l ↔ l.all isW = true := by
  unfold word
  rw [List.all_eq_true]
  constructor
  · intro h x hx
    rw [← h] at hx
    exact List.all_eq_true.1 List.all_takeWhile x hx
  · intro h
    induction l with
    | nil => rfl
    | cons c t ih =>
      rw [List.takeWhile_cons, if_pos (h c List.mem_cons_self), ih (fun x hx => h x (List.mem_cons_of_mem _ hx))]
theorem word_len_all {l : B} : (word l).length = l.length ↔ l.all isW = true := by
  rw [← word_all]
  constructor
  · intro h
    exact (List.takeWhile_prefix _).eq_of_length h
  · intro h
    rw [h]
theorem isL_no {c : UInt8} (h : isL c = true) : c ≠ 47 ∧ isB c = false := by
  constructor
  · rintro rfl; cases h
  · cases hb : isB c with
    | false => rfl
    | true =>
      rcases isB_cases hb with rfl | rfl | rfl | rfl <;> cases h
theorem name_items {l : B} (h : nameL l = true) (f : Nat) : items (f + 2) 0 0 l = [(0, .ok 1 l 0 l.length)] := by
  cases l with
  | nil => cases h
  | cons c t =>
    simp only [nameL, Bool.and_eq_true] at h
    obtain ⟨h1, h2⟩ := h
    have hw := word_all.2 h2
    obtain ⟨h3, h4⟩ := isL_no h1
    have hc : cmt (c :: t) = false := by
      unfold cmt
      split
      · rename_i e
        injection e with e1 e2
        subst e1
        have : (c == 47) = false := by simpa using h3
        rw [this]
        rfl
      · rfl
    have hs := sk_stop hc h4
    have hx : nxt (c :: t) = .ok 1 (c :: t) 0 (c :: t).length := by rw [nxt_cons, if_pos h1, hw]
    have h5 := items_ok (f := f + 1) (n := 0) (o := 0) (g := []) (r := c :: t) hs (by simp) (by decide) hx
    rw [List.nil_append] at h5
    rw [h5, List.drop_length, items_end rfl]
    rfl
/-- One name that is the whole. -/
def oneN (s : B) (r : List S31 × Int × Int) : Prop := r.2.2 = 0 ∧ ∃ t : S31, r.1 = [t] ∧ t.f0 = 1 ∧ t.f1.data.toList = s
theorem fin_zero {rs : List (Nat × Res)} : ∀ (acc : List S31), (fin rs acc).2.2 = 0 → WalkTokens.Good rs → AllOk rs := by
  induction rs with
  | nil => intro _ _ _ o r h; simp at h
  | cons x rs ih =>
    intro acc h hg
    obtain ⟨o, x⟩ := x
    cases x with
    | bad d e =>
      rw [fin] at h
      have he := hg o d e List.mem_cons_self
      have h : (e : Int) = 0 := h
      omega
    | ok k t n m =>
      rw [fin] at h
      have := ih _ h (fun o d e hm => hg o d e (List.mem_cons_of_mem _ hm))
      intro o' r' hm
      rcases List.mem_cons.1 hm with e | e
      · injection e with e1 e2
        exact ⟨k, t, n, m, e2⟩
      · exact this o' r' e
def toT : Nat × Res → S31
  | (o, .ok k t n m) => ⟨(k : Int), ⟨t.toArray⟩, (n : Int), (o : Int), ((o + m : Nat) : Int)⟩
  | (_, .bad _ _) => ⟨0, ⟨#[]⟩, 0, 0, 0⟩
theorem fin_ok : ∀ (rs : List (Nat × Res)) (acc : List S31), AllOk rs → fin rs acc = (acc ++ rs.map toT, 0, 0)
  | [], acc, _ => by simp [fin]
  | (o, .ok k t n m) :: rs, acc, h => by
    rw [fin, fin_ok rs _ (fun o r hm => h o r (List.mem_cons_of_mem _ hm))]
    simp [toT]
  | (o, .bad d e) :: rs, acc, h => by
    obtain ⟨_, _, _, _, e2⟩ := h _ _ List.mem_cons_self
    cases e2
theorem toks_ok {s : B} (hs : s.length ≤ 65536) (h : (toks s).2.2 = 0) : AllOk (items 32770 0 0 s) ∧ toks s = ((items 32770 0 0 s).map toT, 0, 0) := by
  unfold toks at h ⊢
  rw [if_neg (by omega)] at h ⊢
  have hA := fin_zero [] h (items_good _ _ _ _)
  exact ⟨hA, by rw [fin_ok _ _ hA]; rfl⟩
theorem nxt_one {l : B} {x : B} {v m : Nat} (h : nxt l = .ok 1 x v m) : (∃ c t, l = c :: t ∧ isL c = true) ∧ x = word l ∧ m = (word l).length := by
  cases l with
  | nil => cases h
  | cons c t =>
    rw [nxt_cons] at h
    by_cases h1 : isL c = true
    · rw [if_pos h1] at h
      injection h with e1 e2 e3 e4
      exact ⟨⟨c, t, rfl, h1⟩, e2.symm, e4.symm⟩
    · rw [if_neg h1] at h
      by_cases h2 : isD c = true
      · rw [if_pos h2] at h
        have := (num_ok h).1
        omega
      · rw [if_neg h2] at h
        by_cases h3 : c = 34
        · rw [if_pos h3] at h
          have := (txt_ok _ _ _ _ _ _ _ _ h).1
          omega
        · rw [if_neg h3] at h
          have := (sgn_ok h).1
          omega
theorem one_iff {s : B} (hs : s.length ≤ 65536) : oneN s (toks s) ↔ nameL s = true := by
  constructor
  · rintro ⟨h0, t, h1, h2, h3⟩
    obtain ⟨hA, he⟩ := toks_ok hs h0
    rw [he] at h1
    simp only at h1
    obtain ⟨x, hx, ht⟩ : ∃ x, items 32770 0 0 s = [x] ∧ toT x = t := by
      cases hi : items 32770 0 0 s with
      | nil => rw [hi] at h1; cases h1
      | cons x r =>
        rw [hi, List.map_cons] at h1
        injection h1 with e1 e2
        refine ⟨x, ?_, e1⟩
        rw [List.map_eq_nil_iff.1 e2]
    obtain ⟨a, r⟩ := x
    obtain ⟨k, y, v, m, rfl⟩ := hA a r (by rw [hx]; exact List.mem_singleton_self _)
    have h4 := items_at 32770 0 0 s hA 0 a k y v m (by rw [hx]; rfl)
    obtain ⟨_, b2, b3, _, b5, _⟩ := h4
    rw [← ht] at h2 h3
    have hk : k = 1 := by have h2 : (k : Int) = 1 := h2; omega
    subst hk
    have hy : y = s := h3
    subst hy
    obtain ⟨⟨c, t', hc, hL⟩, e1, e2⟩ := nxt_one b5
    have hlen := congrArg List.length e1
    have hwl := word_le (y.drop (a - 0))
    rw [List.length_drop] at hwl
    have ha : a = 0 := by
      have : 0 < y.length := by omega
      omega
    subst ha
    rw [Nat.sub_zero, List.drop_zero] at e1 hc
    subst hc
    simp only [nameL, Bool.and_eq_true]
    exact ⟨hL, word_all.1 e1.symm⟩
  · intro h
    unfold toks
    rw [if_neg (by omega), name_items h 32768]
    refine ⟨rfl, _, rfl, rfl, ?_⟩
    show (⟨s.toArray⟩ : ByteArray).data.toList = s
    simp
/-! ### the program's Kept and Name -/
def keptL : List ByteArray := [(⟨#[114, 101, 99, 111, 114, 100]⟩ : ByteArray), (⟨#[102, 110]⟩ : ByteArray), (⟨#[118, 97, 114]⟩ : ByteArray), (⟨#[105, 102]⟩ : ByteArray), (⟨#[101, 108, 115, 101]⟩ : ByteArray), (⟨#[119, 104, 105, 108, 101]⟩ : ByteArray), (⟨#[102, 111, 114]⟩ : ByteArray), (⟨#[115, 119, 105, 116, 99, 104]⟩ : ByteArray), (⟨#[99, 97, 115, 101]⟩ : ByteArray), (⟨#[100, 101, 102, 97, 117, 108, 116]⟩ : ByteArray), (⟨#[98, 114, 101, 97, 107]⟩ : ByteArray), (⟨#[99, 111, 110, 116, 105, 110, 117, 101]⟩ : ByteArray), (⟨#[114, 101, 116, 117, 114, 110]⟩ : ByteArray), (⟨#[116, 114, 97, 112]⟩ : ByteArray), (⟨#[110, 101, 119]⟩ : ByteArray), (⟨#[116, 114, 117, 101]⟩ : ByteArray), (⟨#[102, 97, 108, 115, 101]⟩ : ByteArray), (⟨#[105, 56]⟩ : ByteArray), (⟨#[105, 51, 50]⟩ : ByteArray), (⟨#[105, 54, 52]⟩ : ByteArray), (⟨#[98, 111, 111, 108]⟩ : ByteArray), (⟨#[98, 121, 116, 101, 115]⟩ : ByteArray), (⟨#[108, 101, 110]⟩ : ByteArray), (⟨#[99, 117, 116]⟩ : ByteArray), (⟨#[98, 121, 116, 101]⟩ : ByteArray), (⟨#[112, 117, 115, 104]⟩ : ByteArray), (⟨#[112, 111, 112]⟩ : ByteArray)]
def keptB : List B := keptL.map fun x => x.data.toList
def kept (s : B) : Bool := decide (s ∈ keptB)
theorem kept_name {s : B} (h : kept s = true) : nameL s = true := by
  have key : keptB.all nameL = true := by decide +kernel
  exact List.all_eq_true.1 key s (of_decide_eq_true h)
theorem kept_f {k : Nat} (hk : 30 ≤ k) (a : ByteArray) : lex_Kept.f k a = some (kept a.data.toList) := by
  show (lex_among.f k a keptL).bind _ = _
  rw [among_f a keptL (by decide) (show keptL.length < k by show 27 < k; omega)]
  rfl
theorem name_f {a : ByteArray} (hn : a.size ≤ 1000000) {k : Nat} (hk : a.size + 30 ≤ k) : lex_Name.f k a = some (nameL a.data.toList && !kept a.data.toList) := by
  unfold lex_Name.f
  rw [Lib.toList_data]
  cases h : a.data.toList with
  | nil => rw [if_pos rfl]; rfl
  | cons c t =>
    have hs : a.size = t.length + 1 := by rw [size_len, h]; rfl
    have hb := bt_nat a 0 (by rw [h]; simp)
    have hb' : bt a 0 = (c.toNat : Int) := by simpa [h] using hb
    rw [if_neg (by simp), if_pos (by omega), hb', letter_k (by omega)]
    simp only [Option.bind_some, nameL]
    cases hL : isL c with
    | false => rw [if_neg (by decide)]; rfl
    | true =>
      rw [if_pos rfl, run_f a (by omega) (by omega), h]
      simp only [Option.bind_some]
      by_cases hw : (c :: t).all isW = true
      · have := word_len_all.2 hw
        rw [if_pos (by rw [this, hs]; rfl), kept_f (by omega), h, hw]
        rfl
      · have : ¬ (word (c :: t)).length = (c :: t).length := fun e => hw (word_len_all.1 e)
        rw [if_neg (fun e => this (by rw [hs] at e; rw [List.length_cons]; omega)), Bool.eq_false_iff.2 hw]
        rfl
end Go.Proofs.Ytmmilinbpimfaaa.PlainNames
