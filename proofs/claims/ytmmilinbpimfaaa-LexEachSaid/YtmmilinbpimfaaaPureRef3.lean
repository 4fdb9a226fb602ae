/- What the document's one and Tokens answer, in plain Lean, over the printed functions. No conditions. -/
import Derived.Test.YtmmilinbpimfaaaPureRef2
import Derived.Test.YtmmilinbpimfaaaWalkTokens
set_option linter.unusedSimpArgs false
namespace Go.Proofs.Ytmmilinbpimfaaa.PureRef
open Go.RowKit Go.Proofs.Ytmmilinbpimfaaa.PLexKnown Go.Proofs.YtmmilinbpimfaaaW.PrintWords Go.Proofs.Ytmmilinbpimfaaa.Spec Go.Proofs.Ytmmilinbpimfaaa.PureLex Go.Proofs.Ytmmilinbpimfaaa.WalkBlanks Go.Proofs.Ytmmilinbpimfaaa.WalkText Go.Proofs.Ytmmilinbpimfaaa.WalkTokens Go.Proofs.Ytmmilinbpimfaaa.WalkEachC
theorem find_take (n : Nat) (l : B) : ∀ L : List ByteArray, (∀ x ∈ L, x.size = n) → L.find? (fun x => decide (l.take x.size = x.data.toList)) = if l.take n ∈ L.map (fun x => x.data.toList) then some (⟨(l.take n).toArray⟩ : ByteArray) else none
  | [], _ => by simp
  | x :: L, h => by
    have hx := h x List.mem_cons_self
    rw [List.find?_cons, hx, List.map_cons]
    by_cases e : l.take n = x.data.toList
    · rw [decide_eq_true e, if_pos (by rw [e]; exact List.mem_cons_self)]
      simp only
      rw [WalkSign.str_eq e.symm]
    · rw [decide_eq_false e]
      simp only
      rw [find_take n l L (fun y hy => h y (List.mem_cons_of_mem _ hy))]
      by_cases e2 : l.take n ∈ L.map fun x => x.data.toList
      · rw [if_pos e2, if_pos (List.mem_cons_of_mem _ e2)]
      · rw [if_neg e2, if_neg (fun h => by rcases List.mem_cons.1 h with h | h; exact e h; exact e2 h)]
theorem one_l0 {a : ByteArray} (hn : a.size ≤ 1000000) {at_ : Nat} (ha : at_ ≤ a.size) (l : List ByteArray) (hl : l.length ≤ 1000) (hs : ∀ x ∈ l, x.size ≤ 1000) : ∀ (d i k : Nat), i + d = l.length → d < k →
    trammelref03_one.l0 k a (at_ : Int) l (i : Int) = some (match (l.drop i).find? (fun x => decide ((D a at_).take x.size = x.data.toList)) with
      | some x => (4, x, 0, (at_ : Int), ((at_ + x.size : Nat) : Int), 0, 0)
      | none => (0, ⟨#[]⟩, 0, 0, 0, (at_ : Int), 30)) := by
  intro d
  induction d with
  | zero =>
    intro i k hd hk
    obtain ⟨k, rfl⟩ : ∃ m, k = m + 1 := ⟨k - 1, by omega⟩
    simp only [trammelref03_one.l0]
    rw [if_neg (by omega), List.drop_eq_nil_of_le (by omega)]
    rfl
  | succ d ih =>
    intro i k hd hk
    obtain ⟨k, rfl⟩ : ∃ m, k = m + 1 := ⟨k - 1, by omega⟩
    have hi : i < l.length := by omega
    have h1 : rdOf ByteArray.empty l (i : Int) = l[i] := by simp [rdOf, List.getD_eq_getElem?_getD, hi]
    have h2 := hs l[i] (List.getElem_mem hi)
    simp only [trammelref03_one.l0]
    rw [if_pos (by omega), if_pos (by omega), h1, has_r hn ha h2]
    simp only [Option.bind_some]
    rw [List.drop_eq_getElem_cons hi, List.find?_cons]
    cases hq : decide ((D a at_).take l[i].size = l[i].data.toList) with
    | true =>
      rw [if_pos rfl]
      simp only
      rw [w64 (by omega) (by omega)]
      congr 6
    | false =>
      rw [if_neg (by decide), w64 (by omega) (by omega), show (i : Int) + 1 = ((i + 1 : Nat) : Int) by omega, ih (i + 1) k (by omega) (by omega)]
def OneR (at_ : Nat) : Res → (Int × ByteArray × Int × Int × Int × Int × Int) → Prop
  | .ok k t n m, r => ∃ p : Int, r = ((k : Int), ⟨t.toArray⟩, (n : Int), (at_ : Int), ((at_ + m : Nat) : Int), p, 0)
  | .bad d e, r => r.2.2.2.2.2.1 = ((at_ + d : Nat) : Int) ∧ r.2.2.2.2.2.2 = (e : Int)
theorem oneR_tup (at_ : Nat) (r : Res) : OneR at_ r (tup at_ r) := by
  cases r with
  | ok k t n m => exact ⟨0, rfl⟩
  | bad d e => exact ⟨rfl, rfl⟩
def twoL : List ByteArray := [(⟨#[60, 60]⟩ : ByteArray), (⟨#[62, 62]⟩ : ByteArray), (⟨#[61, 61]⟩ : ByteArray), (⟨#[33, 61]⟩ : ByteArray), (⟨#[60, 61]⟩ : ByteArray), (⟨#[62, 61]⟩ : ByteArray), (⟨#[38, 38]⟩ : ByteArray), (⟨#[124, 124]⟩ : ByteArray)]
def oneL : List ByteArray := [(⟨#[40]⟩ : ByteArray), (⟨#[41]⟩ : ByteArray), (⟨#[123]⟩ : ByteArray), (⟨#[125]⟩ : ByteArray), (⟨#[91]⟩ : ByteArray), (⟨#[93]⟩ : ByteArray), (⟨#[44]⟩ : ByteArray), (⟨#[59]⟩ : ByteArray), (⟨#[58]⟩ : ByteArray), (⟨#[46]⟩ : ByteArray), (⟨#[43]⟩ : ByteArray), (⟨#[45]⟩ : ByteArray), (⟨#[42]⟩ : ByteArray), (⟨#[47]⟩ : ByteArray), (⟨#[37]⟩ : ByteArray), (⟨#[38]⟩ : ByteArray), (⟨#[124]⟩ : ByteArray), (⟨#[94]⟩ : ByteArray), (⟨#[126]⟩ : ByteArray), (⟨#[33]⟩ : ByteArray), (⟨#[60]⟩ : ByteArray), (⟨#[62]⟩ : ByteArray), (⟨#[61]⟩ : ByteArray)]
theorem signs_f : trammelref03_signs.f = some (twoL ++ oneL) := rfl
theorem twoL_size : ∀ x ∈ twoL, x.size = 2 := by
  intro x hx
  simp only [twoL, List.mem_cons, List.not_mem_nil, or_false] at hx
  rcases hx with rfl | rfl | rfl | rfl | rfl | rfl | rfl | rfl <;> rfl
theorem oneL_size : ∀ x ∈ oneL, x.size = 1 := by
  intro x hx
  simp only [oneL, List.mem_cons, List.not_mem_nil, or_false] at hx
  rcases hx with rfl | rfl | rfl | rfl | rfl | rfl | rfl | rfl | rfl | rfl | rfl | rfl | rfl | rfl | rfl | rfl | rfl | rfl | rfl | rfl | rfl | rfl | rfl <;> rfl
theorem twoL_map : twoL.map (fun x => x.data.toList) = two := rfl
theorem oneL_map : oneL.map (fun x => x.data.toList) = ones.map (fun c => [c]) := rfl
theorem two_len {x : B} (h : x ∈ two) : x.length = 2 := by
  simp only [two, List.mem_cons, List.not_mem_nil, or_false] at h
  rcases h with rfl | rfl | rfl | rfl | rfl | rfl | rfl | rfl <;> rfl
theorem sign_r {a : ByteArray} (hn : a.size ≤ 1000000) {at_ k : Nat} (ha : at_ < a.size) (hk : 40 < k) : ∃ r, trammelref03_one.l0 k a (at_ : Int) (twoL ++ oneL) 0 = some r ∧ OneR at_ (sgn (D a at_)) r := by
  have h0 := one_l0 hn (Nat.le_of_lt ha) (twoL ++ oneL) (by decide) (fun x hx => by rcases List.mem_append.1 hx with h | h; rw [twoL_size x h]; decide; rw [oneL_size x h]; decide) 31 0 k (by decide) (by omega)
  rw [show ((0 : Nat) : Int) = 0 from rfl, List.drop_zero, List.find?_append, find_take 2 (D a at_) twoL twoL_size, find_take 1 (D a at_) oneL oneL_size, twoL_map, oneL_map] at h0
  refine ⟨_, h0, ?_⟩
  obtain ⟨c, hc, hb⟩ := D_cons (s := a) (i := at_) ha
  rw [hc]
  unfold sgn
  by_cases h2 : (c :: D a (at_ + 1)).take 2 ∈ two
  · have hl := two_len h2
    rw [List.length_take] at hl
    rw [if_pos h2, if_pos ⟨by omega, h2⟩]
    refine ⟨0, ?_⟩
    show (_, _, _, _, ((at_ + _ : Nat) : Int), _, _) = _
    rw [show (⟨((c :: D a (at_ + 1)).take 2).toArray⟩ : ByteArray).size = 2 by rw [size_len]; simp only [List.toList_toArray]; rw [List.length_take]; omega]
    rfl
  · rw [if_neg h2, if_neg (fun h => h2 h.2), Option.none_or]
    rw [show (c :: D a (at_ + 1)).take 1 = [c] from rfl]
    simp only
    by_cases h1 : c ∈ ones
    · rw [if_pos h1, if_pos (List.mem_map.2 ⟨c, h1, rfl⟩)]
      exact ⟨0, rfl⟩
    · rw [if_neg h1, if_neg (fun h => by obtain ⟨d, hd, e⟩ := List.mem_map.1 h; injection e with e; subst e; exact h1 hd)]
      exact ⟨rfl, rfl⟩
theorem one_r {a : ByteArray} (hn : a.size ≤ 1000000) {at_ k : Nat} (ha : at_ < a.size) (hk : 3 * a.size + 50 < k) : ∃ r, trammelref03_one.f k a (at_ : Int) = some r ∧ OneR at_ (nxt (D a at_)) r := by
  obtain ⟨c, hc, hb⟩ := D_cons (s := a) (i := at_) ha
  unfold trammelref03_one.f
  rw [if_pos (by omega), if_pos (by omega), hb, letter_r, digit_r]
  simp only [Option.bind_some]
  have n34 : (c.toNat : Int) = 34 ↔ c = 34 := by
    have : ((34 : UInt8)).toNat = 34 := rfl
    rw [← UInt8.toNat_inj]
    omega
  have hnx : nxt (D a at_) = if isL c = true then .ok 1 (word (D a at_)) 0 (word (D a at_)).length else if isD c = true then num (D a at_) else if c = 34 then tx (D a (at_ + 1)) 1 [] else sgn (D a at_) := by rw [hc]; rfl
  rw [hnx]
  by_cases hL : isL c = true
  · obtain ⟨he, hle⟩ := ext_word (a := a) (Nat.le_of_lt ha)
    rw [if_pos hL, if_pos hL, words_r hn (by omega) (by omega)]
    simp only [Option.bind_some]
    rw [if_pos (by omega), if_pos (by omega), show ((at_ : Int)).toNat = at_ by omega, show (((at_ + (word (D a at_)).length : Nat) : Int)).toNat = at_ + (word (D a at_)).length by omega, he]
    exact ⟨_, rfl, 0, rfl⟩
  · rw [if_neg hL, if_neg hL]
    by_cases hD : isD c = true
    · rw [if_pos hD, if_pos hD, number_r hn (by omega) (by omega)]
      refine ⟨_, rfl, ?_⟩
      cases hN : num (D a at_) with
      | ok q t n m => exact ⟨(at_ : Int), rfl⟩
      | bad d e =>
        obtain ⟨rfl, rfl⟩ := num_bad hN
        exact ⟨rfl, rfl⟩
    · rw [if_neg hD, if_neg hD]
      by_cases h34 : c = 34
      · rw [if_pos (n34.2 h34), if_pos h34, text_r hn ha (by omega)]
        exact ⟨_, rfl, oneR_tup _ _⟩
      · rw [if_neg (fun e => h34 (n34.1 e)), if_neg h34, signs_f]
        exact sign_r hn ha (by omega)
theorem tokens_l0 (a : ByteArray) (hn : a.size ≤ 1000000) : ∀ (f n i k : Nat) (acc : List S31), f + n = 32770 → n ≤ 32768 → acc.length = n → i ≤ a.size → f + 3 * a.size + 60 ≤ k →
    trammelref03_Tokens.l0 k a acc ((a.size - (sk (D a i)).length : Nat) : Int) = some (fin (items f n i (D a i)) acc) := by
  intro f
  induction f with
  | zero => intro n i k acc h1 h2; omega
  | succ f ih =>
    intro n i k acc h1 h2 h3 h4 h5
    obtain ⟨k, rfl⟩ : ∃ m, k = m + 1 := ⟨k - 1, by omega⟩
    simp only [trammelref03_Tokens.l0]
    rw [items]
    cases hk : sk (D a i) with
    | nil =>
      rw [if_neg (by simp)]
      rfl
    | cons c t =>
      obtain ⟨hps, hD, hle⟩ := D_sk hk
      have hp : i + ((D a i).length - (t.length + 1)) = a.size - (t.length + 1) := by
        rw [hk, D_len, List.length_cons] at hle
        rw [D_len]
        omega
      rw [hk, List.length_cons] at hps hD
      rw [List.length_cons]
      simp only [hp]
      obtain ⟨p, hpe⟩ : ∃ p, a.size - (t.length + 1) = p := ⟨_, rfl⟩
      rw [hpe] at hps hD ⊢
      rw [if_pos (by omega)]
      by_cases hx : n = 32768
      · rw [if_pos (by omega), if_pos hx]
        rfl
      · rw [if_neg (by omega), if_neg hx]
        obtain ⟨r, hr, ho⟩ := one_r (k := k) hn hps (by omega)
        rw [hr]
        rw [hD] at ho
        simp only [Option.bind_some]
        cases hN : nxt (c :: t) with
        | bad d e =>
          rw [hN] at ho
          obtain ⟨o1, o2⟩ := ho
          have he := nxt_bad hN
          rw [o1, o2, if_neg (by omega)]
          rfl
        | ok q x v m =>
          rw [hN] at ho
          obtain ⟨pl, rfl⟩ := ho
          have hml := nxt_len hN
          have hpm : p + m ≤ a.size := by
            have := D_len a p
            rw [hD] at this
            omega
          simp only
          rw [if_pos (by trivial), if_pos (by omega), blank_r hn hpm (by omega)]
          simp only [Option.bind_some]
          rw [ih (n + 1) (p + m) k _ (by omega) (by omega) (by simp; omega) hpm (by omega), ← hD, D_drop]
          rfl
theorem tokens_r {a : ByteArray} (hn : a.size ≤ 1000000) {k : Nat} (hk : 3 * a.size + 40000 ≤ k) : trammelref03_Tokens.f k a = some (toks a.data.toList) := by
  unfold trammelref03_Tokens.f toks
  by_cases h : 65536 < a.size
  · rw [if_pos (by omega), if_pos (by rw [← size_len]; exact h)]
  · rw [if_neg (by omega), if_neg (by rw [← size_len]; exact h)]
    have hb := blank_r (k := k) hn (Nat.zero_le a.size) (by omega)
    rw [show ((0 : Nat) : Int) = 0 from rfl] at hb
    rw [hb]
    simp only [Option.bind_some]
    rw [tokens_l0 a hn 32770 0 0 k [] (by omega) (by omega) rfl (Nat.zero_le _) (by omega)]
    rfl
end Go.Proofs.Ytmmilinbpimfaaa.PureRef
