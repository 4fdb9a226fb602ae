/- The pure statement of the law LexLies: where tokens lie, each alone, and blanks put in between. No conditions beyond the statement's own. -/
import Derived.Test.YtmmilinbpimfaaaPLexLiesx2
import Derived.Test.YtmmilinbpimfaaaPlainNames
set_option linter.unusedSimpArgs false
namespace Go.Proofs.Ytmmilinbpimfaaa.Pure
open Go.RowKit Go.Proofs.Ytmmilinbpimfaaa.PLexLies Go.Proofs.Ytmmilinbpimfaaa.PLexKnown Go.Proofs.Ytmmilinbpimfaaa.Given Go.Proofs.YtmmilinbpimfaaaW.PrintWords Go.Proofs.YtmmilinbpimfaaaW.PrintLast Go.Proofs.Ytmmilinbpimfaaa.Spec Go.Proofs.Ytmmilinbpimfaaa.PureLex Go.Proofs.Ytmmilinbpimfaaa.WalkTokens Go.Proofs.Ytmmilinbpimfaaa.PlainNames
set_option maxRecDepth 100000 in
theorem works_l {k : Nat} (hk : 100 ≤ k) : trammellaw03_works.f k = some true := by
  obtain ⟨k, rfl⟩ : ∃ q, k = q + 100 := ⟨k - 100, by omega⟩
  kernel_rfl
theorem pick_f (a : Int) {n : Nat} (h : 1 ≤ n) (hn : n ≤ 1000000) : ∃ r : Nat, trammelkit_Pick.f a (n : Int) = some (r : Int) ∧ r < n := by
  unfold trammelkit_Pick.f
  rw [if_neg (by omega), if_neg (by omega)]
  have h1 := Int.tmod_lt_of_pos a (show (0 : Int) < (n : Int) by omega)
  have h2 := Int.lt_tmod_of_pos a (show (0 : Int) < (n : Int) by omega)
  generalize Int.tmod a (n : Int) = x at h1 h2 ⊢
  by_cases hx : x < 0
  · rw [if_pos hx, w64 (by omega) (by omega)]
    exact ⟨(x + n).toNat, by congr 1; omega, by omega⟩
  · rw [if_neg hx]
    exact ⟨x.toNat, by congr 1; omega, by omega⟩
/-! ### what is wrong lies within -/
theorem txt_off : ∀ (n : Nat) (l : B) (i : Nat) (acc : B) (d e : Nat), txt n l i acc = .bad d e → d ≤ i + l.length
  | 0, _, _, _, _, _, h => by injection h with h1; omega
  | _ + 1, [], _, _, _, _, h => by injection h with h1; omega
  | n + 1, c :: t, i, acc, d, e, h => by
    rw [txt] at h
    split at h
    · injection h with h1; omega
    · split at h
      · cases h
      · split at h
        · split at h
          · injection h with h1; omega
          · injection h with h1; rw [List.length_cons]; omega
          · rename_i y m hE
            have hm := esc_len2 hE
            have := txt_off n _ _ _ _ _ h
            rw [List.length_drop] at this
            rw [List.length_cons]
            omega
        · have := txt_off n _ _ _ _ _ h
          rw [List.length_cons]
          omega
theorem nxt_off {l : B} {d e : Nat} (h : nxt l = .bad d e) : d ≤ l.length := by
  cases l with
  | nil => injection h with h1; omega
  | cons c t =>
    simp only [nxt] at h
    split at h
    · cases h
    · split at h
      · have := (num_bad h).1; omega
      · split at h
        · have := txt_off _ _ _ _ _ _ h
          rw [List.length_cons]
          omega
        · have := (sgn_bad h).1; omega
theorem items_bad : ∀ (f n o : Nat) (l : B) (a d e : Nat), (a, Res.bad d e) ∈ items f n o l → a + d ≤ o + l.length
  | 0, _, _, _, _, _, _, h => by simp [items] at h
  | f + 1, n, o, l, a, d, e, h => by
    rw [items] at h
    cases hs : sk l with
    | nil => rw [hs] at h; simp at h
    | cons c t =>
      have hl := sk_le l
      rw [hs] at h hl
      rw [List.length_cons] at hl
      simp only at h
      split at h
      · rw [List.mem_singleton] at h
        injection h with h1 h2
        injection h2 with h3 h4
        omega
      · split at h
        · rename_i d' e' hx
          rw [List.mem_singleton] at h
          injection h with h1 h2
          injection h2 with h3 h4
          have := nxt_off hx
          rw [List.length_cons] at this
          omega
        · rename_i k x v m hx
          rcases List.mem_cons.1 h with h | h
          · injection h with h1 h2
            cases h2
          · have := items_bad f _ _ _ _ _ _ h
            have hm := nxt_len hx
            rw [List.length_drop] at this
            rw [List.length_cons] at this hm
            omega
theorem fin_bad {N : Nat} : ∀ (rs : List (Nat × Res)) (acc : List S31), (∀ a d e, (a, Res.bad d e) ∈ rs → a + d ≤ N) → (fin rs acc).2.2 ≠ 0 → ∃ p : Nat, p ≤ N ∧ (fin rs acc).1 = [] ∧ (fin rs acc).2.1 = (p : Int)
  | [], _, _, h => absurd rfl h
  | (o, .ok k t n m) :: rs, acc, hb, h => by
    rw [fin] at h ⊢
    exact fin_bad rs _ (fun a d e hm => hb a d e (List.mem_cons_of_mem _ hm)) h
  | (o, .bad d e) :: rs, acc, hb, h => by
    rw [fin]
    exact ⟨o + d, hb o d e List.mem_cons_self, rfl, rfl⟩
theorem items_len2 : ∀ (f n o : Nat) (l : B), (items f n o l).length ≤ f
  | 0, _, _, _ => by simp [items]
  | f + 1, n, o, l => by
    rw [items]
    split
    · simp
    · split
      · simp
      · split
        · simp
        · simp only [List.length_cons]
          exact Nat.succ_le_succ (items_len2 f _ _ _)
/-! ### the blanks that are put in -/
theorem blank_1 (y : B) : sk ([32] ++ y) = sk y := sk_blank (cmt_B (by decide)) (by decide)
theorem blank_2 (y : B) : sk ([10] ++ y) = sk y := sk_blank (cmt_B (by decide)) (by decide)
theorem blank_3 (y : B) : sk ([9, 32, 47, 47, 32, 120, 10] ++ y) = sk y := by
  show sk (9 :: 32 :: 47 :: 47 :: 32 :: 120 :: 10 :: y) = _
  rw [sk_blank (cmt_B (by decide)) (by decide), sk_blank (cmt_B (by decide)) (by decide), sk_cmt rfl, show line (47 :: 47 :: 32 :: 120 :: 10 :: y) = 10 :: y from rfl, sk_blank (cmt_B (by decide)) (by decide)]
theorem blank_4 (y : B) : sk ([13, 47, 47, 10] ++ y) = sk y := by
  show sk (13 :: 47 :: 47 :: 10 :: y) = _
  rw [sk_blank (cmt_B (by decide)) (by decide), sk_cmt rfl, show line (47 :: 47 :: 10 :: y) = 10 :: y from rfl, sk_blank (cmt_B (by decide)) (by decide)]
abbrev bl : List ByteArray := [(⟨#[32]⟩ : ByteArray), (⟨#[10]⟩ : ByteArray), (⟨#[9, 32, 47, 47, 32, 120, 10]⟩ : ByteArray), (⟨#[13, 47, 47, 10]⟩ : ByteArray)]
def BlankOk (b : B) : Prop := (∀ y, sk (b ++ y) = sk y) ∧ (∃ c t, b = c :: t ∧ isB c = true) ∧ sk (line b) = [] ∧ b.length ≤ 7
theorem bl_ok {r : Nat} (h : r < 4) : BlankOk (rdOf ByteArray.empty bl (r : Int)).data.toList := by
  match r, h with
  | 0, _ => exact ⟨blank_1, ⟨32, [], rfl, rfl⟩, rfl, by decide⟩
  | 1, _ => exact ⟨blank_2, ⟨10, [], rfl, rfl⟩, rfl, by decide⟩
  | 2, _ => exact ⟨blank_3, ⟨9, _, rfl, rfl⟩, rfl, by decide⟩
  | 3, _ => exact ⟨blank_4, ⟨13, _, rfl, rfl⟩, rfl, by decide⟩
/-! ### the tokens, one by one -/
def its (s : B) : List (Nat × Res) := items 32770 0 0 s
def lay (s : B) : List S31 := (its s).map toT
theorem lay_len (s : B) : (lay s).length ≤ 32770 := by
  unfold lay its
  rw [List.length_map]
  exact items_len2 _ _ _ _
theorem rd_lay {rs : List (Nat × Res)} {i : Nat} {x : Nat × Res} (h : rs[i]? = some x) : rd_T31 (rs.map toT) (i : Int) = toT x := by
  unfold rd_T31
  rw [Int.toNat_natCast, List.getD_eq_getElem?_getD, List.getElem?_map, h]
  rfl
theorem one_at {s : B} (hA : AllOk (its s)) {i : Nat} (hi : i < (its s).length) : ∃ a k x v m, (its s)[i]? = some (a, .ok k x v m) ∧ rd_T31 (lay s) (i : Int) = ⟨(k : Int), ⟨x.toArray⟩, (v : Int), (a : Int), ((a + m : Nat) : Int)⟩ ∧
    a + m ≤ s.length ∧ 1 ≤ m ∧ sk (s.drop a) = s.drop a ∧ nxt (s.drop a) = .ok k x v m ∧ ∀ a' r', (its s)[i + 1]? = some (a', r') → a + m ≤ a' := by
  obtain ⟨⟨a, r⟩, hx⟩ : ∃ y, (its s)[i]? = some y := ⟨_, List.getElem?_eq_getElem hi⟩
  obtain ⟨k, x, v, m, rfl⟩ := hA a r (List.mem_of_getElem? hx)
  obtain ⟨_, b2, b3, b4, b5, b6⟩ := items_at 32770 0 0 s hA i a k x v m hx
  rw [Nat.sub_zero] at b4 b5
  exact ⟨a, k, x, v, m, hx, rd_lay hx, by omega, b3, b4, b5, b6⟩
/-- One token's bytes alone are that token. -/
theorem alone {s : B} {a k : Nat} {x : B} {v m : Nat} (hs : sk (s.drop a) = s.drop a) (hx : nxt (s.drop a) = .ok k x v m) (hl : m ≤ 65536) : toks ((s.drop a).take m) = ([⟨(k : Int), ⟨x.toArray⟩, (v : Int), 0, ((0 + m : Nat) : Int)⟩], 0, 0) := by
  unfold toks
  rw [if_neg (by rw [List.length_take]; omega), items_alone hs hx 32768]
  rfl
/-- Blanks put in ahead of a token, or at the end. -/
theorem put_in {s b : B} (hA : AllOk (its s)) (hb : BlankOk b) (hl : s.length ≤ 8192) {k q : Nat} (hk : k ≤ (its s).length) (hq : match (its s)[k]? with | some x => q = x.1 | none => q = s.length) :
    toks (s.take q ++ b ++ s.drop q) = (((its s).take k ++ ((its s).drop k).map (shift b.length)).map toT, 0, 0) := by
  obtain ⟨h1, h2, h3, h4⟩ := hb
  have h5 := items_ins b h1 h2 h3 32770 0 0 s k q hA hk (by
    cases h : (its s)[k]? with
    | none => rw [h] at hq; rw [show (items 32770 0 0 s)[k]? = none from h]; exact hq
    | some x => rw [h] at hq; rw [show (items 32770 0 0 s)[k]? = some x from h]; exact (Nat.zero_add _).trans hq)
  unfold toks
  rw [if_neg (by simp only [List.length_append, List.length_take, List.length_drop]; omega), h5, fin_ok]
  · rfl
  · intro o r hm
    rcases List.mem_append.1 hm with h | h
    · exact hA o r (List.mem_of_mem_take h)
    · obtain ⟨⟨o', r'⟩, h6, h7⟩ := List.mem_map.1 h
      obtain ⟨k', x', v', m', e⟩ := hA o' r' (List.mem_of_mem_drop h6)
      injection h7 with h8 h9
      subst h9
      exact ⟨k', x', v', m', e⟩
/-- What stands at a place then. -/
theorem put_at {rs : List (Nat × Res)} {k d i : Nat} {x : Nat × Res} (h : rs[i]? = some x) (hk : k ≤ rs.length) : (rs.take k ++ (rs.drop k).map (shift d))[i]? = some (if k ≤ i then shift d x else x) := by
  by_cases hi : k ≤ i
  · rw [if_pos hi, List.getElem?_append_right (by rw [List.length_take]; omega), List.getElem?_map, List.getElem?_drop, List.length_take, show k + (i - min k rs.length) = i by omega, h]
    rfl
  · rw [if_neg hi, List.getElem?_append_left (by rw [List.length_take]; have := List.getElem?_eq_some_iff.1 h; obtain ⟨h1, _⟩ := this; omega), List.getElem?_take, if_pos (by omega), h]
/-- What is known of the tokens of a source, one by one. -/
structure Lay (s : B) (R : List (Nat × Res)) : Prop where
  len : R.length ≤ 32770
  one : ∀ i, i < R.length → ∃ a k x v m, R[i]? = some (a, Res.ok k x v m) ∧ rd_T31 (R.map toT) (i : Int) = ⟨(k : Int), ⟨x.toArray⟩, (v : Int), (a : Int), ((a + m : Nat) : Int)⟩ ∧
    a + m ≤ s.length ∧ 1 ≤ m ∧ toks ((s.drop a).take m) = ([⟨(k : Int), ⟨x.toArray⟩, (v : Int), 0, ((0 + m : Nat) : Int)⟩], 0, 0) ∧ ∀ a' r', R[i + 1]? = some (a', r') → a + m ≤ a'
  put : ∀ b k q, BlankOk b → k ≤ R.length → (match R[k]? with | some x => q = x.1 | none => q = s.length) → toks (s.take q ++ b ++ s.drop q) = ((R.take k ++ (R.drop k).map (shift b.length)).map toT, 0, 0)
theorem lay_ok {s : B} (hA : AllOk (its s)) (hs : s.length ≤ 8192) : Lay s (its s) := by
  refine ⟨by unfold its; exact items_len2 _ _ _ _, fun i hi => ?_, fun b k q hb hk hq => put_in hA hb hs hk hq⟩
  obtain ⟨a, k, x, v, m, h1, h2, h3, h4, h5, h6, h7⟩ := one_at hA hi
  exact ⟨a, k, x, v, m, h1, h2, h3, h4, alone h5 h6 (Nat.le_trans (Nat.le_trans (Nat.le_add_left m a) h3) (Nat.le_trans hs (by decide))), h7⟩
theorem lay_bad {s : B} (hs : s.length ≤ 8192) (h : (toks s).2.2 ≠ 0) : ∃ p : Nat, p ≤ s.length ∧ (toks s).1 = [] ∧ (toks s).2.1 = (p : Int) := by
  have hT : toks s = fin (items 32770 0 0 s) [] := if_neg (by omega)
  rw [hT] at h ⊢
  exact fin_bad (N := s.length) _ [] (fun a d e hm => by have := items_bad _ _ _ _ _ _ _ hm; rwa [Nat.zero_add] at this) h
theorem lay_good {s : B} (hs : s.length ≤ 8192) (h : (toks s).2.2 = 0) : ∃ R, Lay s R ∧ toks s = (R.map toT, 0, 0) := by
  obtain ⟨hA, hl⟩ := toks_ok (Nat.le_trans hs (by decide)) h
  exact ⟨_, lay_ok hA hs, hl⟩
/-! ### the law's own rounds -/
theorem w_add {x y : Nat} (h : x + y ≤ 1000000000) : wrap64 ((x : Int) + (y : Int)) = ((x + y : Nat) : Int) := by rw [w64 (by omega) (by omega)]; omega
theorem w_add3 {a m b : Nat} (h : a + m + b ≤ 1000000000) : wrap64 (((a + m : Nat) : Int) + (b : Int)) = ((a + b + m : Nat) : Int) := by rw [w_add h, Nat.add_right_comm]
theorem l1_ok {s : B} {R : List (Nat × Res)} (hR : Lay s R) {b : ByteArray} {kk : Nat} (hs : s.length ≤ 8192) (hb : b.size ≤ 7) (hk : kk ≤ R.length) : ∀ (d i K : Nat), i + d = R.length → d + 101 < K →
    trammellaw03_LexLies.l1 K (R.map toT) (kk : Int) b ((R.take kk ++ (R.drop kk).map (shift b.size)).map toT) (i : Int) = some true := by
  have hn : (R.map toT).length = R.length := List.length_map _
  have hn2 : ((R.take kk ++ (R.drop kk).map (shift b.size)).map toT).length = R.length := by
    simp only [List.length_map, List.length_append, List.length_take, List.length_drop]
    omega
  have hle := hR.len
  intro d
  induction d with
  | zero =>
    intro i K hd hK
    obtain ⟨K, rfl⟩ : ∃ m, K = m + 1 := ⟨K - 1, by omega⟩
    rw [trammellaw03_LexLies.l1]
    rw [if_neg (by omega), works_l (by omega)]
    rfl
  | succ d ih =>
    intro i K hd hK
    obtain ⟨K, rfl⟩ : ∃ m, K = m + 1 := ⟨K - 1, by omega⟩
    have hiR : i < R.length := by omega
    obtain ⟨a, k, x, v, m, hx, hr, ham, hm, _⟩ := hR.one i hiR
    have hr2 := rd_lay (put_at (d := b.size) hx hk)
    have hi := ih (i + 1) K (by omega) (by omega)
    have g1 : (i : Int) < ((R.map toT).length : Int) := by rw [hn]; exact Int.ofNat_lt.2 hiR
    have g2 : (i : Int) < (((R.take kk ++ (R.drop kk).map (shift b.size)).map toT).length : Int) := by rw [hn2]; exact Int.ofNat_lt.2 hiR
    have e0 : wrap64 ((i : Int) + 1) = ((i + 1 : Nat) : Int) := w_add (x := i) (y := 1) (by omega)
    have hsum : a + m + b.size ≤ 1000000000 := Nat.le_trans (Nat.add_le_add (Nat.le_trans ham hs) hb) (by decide)
    have e1 : wrap64 ((a : Int) + (b.size : Int)) = ((a + b.size : Nat) : Int) := w_add (Nat.le_trans (Nat.add_le_add_right (Nat.le_add_right a m) _) hsum)
    have e2 : wrap64 (((a + m : Nat) : Int) + (b.size : Int)) = ((a + b.size + m : Nat) : Int) := w_add3 hsum
    clear hn hn2 hle ih hd hK
    rw [trammellaw03_LexLies.l1]
    rw [if_pos g1, if_pos (Int.natCast_nonneg i)]
    by_cases hki : kk ≤ i
    · rw [if_pos hki, show toT (shift b.size (a, Res.ok k x v m)) = ⟨(k : Int), ⟨x.toArray⟩, (v : Int), ((a + b.size : Nat) : Int), ((a + b.size + m : Nat) : Int)⟩ from rfl] at hr2
      rw [if_pos (show (i : Int) ≥ (kk : Int) from Int.ofNat_le.2 hki), if_pos g2, hr, hr2]
      simp only
      rw [e0, e1, e2, if_neg (by simp)]
      exact hi
    · rw [if_neg hki, show toT (a, Res.ok k x v m) = ⟨(k : Int), ⟨x.toArray⟩, (v : Int), (a : Int), ((a + m : Nat) : Int)⟩ from rfl] at hr2
      rw [if_neg (show ¬ (i : Int) ≥ (kk : Int) from fun h => hki (Int.ofNat_le.1 h)), if_pos g2, hr, hr2]
      simp only
      rw [e0, if_neg (by simp)]
      exact hi
theorem j2_ok {a0 : ByteArray} {R : List (Nat × Res)} (hR : Lay a0.data.toList R) (hs : a0.size ≤ 8192) (x2 : Int) {kk q K : Nat} (hk : kk ≤ R.length) (hq : match R[kk]? with | some x => q = x.1 | none => q = a0.data.toList.length) (hq2 : q ≤ a0.size) (hK : 40000 < K) :
    trammellaw03_LexLies.j2 K a0 x2 (R.map toT) (kk : Int) (q : Int) = some true := by
  obtain ⟨K, rfl⟩ : ∃ m, K = m + 1 + 1 := ⟨K - 2, by omega⟩
  have hsl := size_len a0
  have hle := hR.len
  obtain ⟨r, hr, hr4⟩ := pick_f x2 (n := 4) (by omega) (by omega)
  have hr : trammelkit_Pick.f x2 4 = some (r : Int) := hr
  have hB := bl_ok hr4
  obtain ⟨b, hb⟩ : ∃ b, rdOf ByteArray.empty bl (r : Int) = b := ⟨_, rfl⟩
  rw [hb] at hB
  have hbs : b.size ≤ 7 := by rw [size_len]; exact hB.2.2.2
  have hput := hR.put b.data.toList kk q hB hk hq
  have hl1 := fun K hK => l1_ok hR (b := b) (by omega) hbs hk R.length 0 K (Nat.zero_add _) hK
  clear hq hB
  rw [trammellaw03_LexLies.j2]
  rw [hr]
  simp only [Option.bind_some]
  rw [hb, if_pos (Int.natCast_nonneg r), if_pos (show (r : Int) < (bl.length : Int) from Int.ofNat_lt.2 hr4), if_pos (Int.natCast_nonneg q), if_pos (Int.ofNat_le.2 hq2)]
  rw [if_pos (by rw [ByteArray.size_extract]; omega), if_pos (by rw [ByteArray.size_append, ByteArray.size_extract, ByteArray.size_extract]; omega)]
  obtain ⟨X, hX⟩ : ∃ X : ByteArray, a0.extract 0 ((q : Int)).toNat ++ b ++ a0.extract ((q : Int)).toNat a0.size = X := ⟨_, rfl⟩
  have hXd : X.data.toList = a0.data.toList.take q ++ b.data.toList ++ a0.data.toList.drop q := by
    rw [← hX, ByteArray.data_append, Array.toList_append, ByteArray.data_append, Array.toList_append, Lib.extract_data, Lib.extract_data, Int.toNat_natCast, List.drop_zero, Nat.sub_zero, hsl, ← List.length_drop, List.take_length]
  rw [hX, show lex_Tokens.f X = some (toks X.data.toList) from rfl, hXd, hput, ← size_len]
  simp only [Option.bind_some]
  rw [if_pos trivial]
  have hj : ∀ c : Bool, c = false → trammellaw03_LexLies.j3 (K + 1) (R.map toT) (kk : Int) b ((R.take kk ++ (R.drop kk).map (shift b.size)).map toT) c = some true := by
    rintro c rfl
    rw [trammellaw03_LexLies.j3]
    rw [if_neg (by decide)]
    exact hl1 K (by omega)
  refine hj _ ?_
  rw [bne_eq_false_iff_eq]
  simp only [List.length_map, List.length_append, List.length_take, List.length_drop]
  omega
theorem l0_ok {a0 : ByteArray} {R : List (Nat × Res)} (hR : Lay a0.data.toList R) (hs : a0.size ≤ 8192) (x1 x2 : Int) : ∀ (d i e K : Nat), i + d = R.length → 2 * d + 40100 < K → (∀ a r, R[i]? = some (a, r) → e ≤ a) →
    trammellaw03_LexLies.l0 K a0 x1 x2 (R.map toT) (e : Int) (i : Int) = some true := by
  have hsl := size_len a0
  have hle := hR.len
  have hn : (R.map toT).length = R.length := List.length_map _
  intro d
  induction d with
  | zero =>
    intro i e K hd hK he
    clear he
    obtain ⟨K, rfl⟩ : ∃ m, K = m + 1 := ⟨K - 1, by omega⟩
    rw [trammellaw03_LexLies.l0]
    obtain ⟨r, hr, hr2⟩ := pick_f x1 (n := (R.map toT).length + 1) (by omega) (by omega)
    rw [if_neg (by omega), show wrap64 (((R.map toT).length : Int) + 1) = (((R.map toT).length + 1 : Nat) : Int) from w_add (y := 1) (by omega), hr]
    simp only [Option.bind_some]
    by_cases h : r < (R.map toT).length
    · obtain ⟨a, k, x, v, m, hx, hrd, ham, hm, _⟩ := hR.one r (by omega)
      rw [if_pos (Int.ofNat_lt.2 h), if_pos (Int.natCast_nonneg r), hrd]
      exact j2_ok hR hs x2 (by omega) (by rw [hx]) (by omega) (by omega)
    · rw [if_neg (fun e => h (Int.ofNat_lt.1 e))]
      exact j2_ok hR hs x2 (by omega) (by rw [List.getElem?_eq_none (by omega)]; exact hsl) (Nat.le_refl _) (by omega)
  | succ d ih =>
    intro i e K hd hK he
    obtain ⟨K, rfl⟩ : ∃ m, K = m + 1 + 1 := ⟨K - 2, by omega⟩
    have hiR : i < R.length := by omega
    obtain ⟨a, k, x, v, m, hx, hrd, ham, hm, hal, hnext⟩ := hR.one i hiR
    have hea := he a _ hx
    have hi := ih (i + 1) (a + m) K (by omega) (by omega) hnext
    have e0 : wrap64 ((i : Int) + 1) = ((i + 1 : Nat) : Int) := w_add (x := i) (y := 1) (by omega)
    have g1 : (i : Int) < ((R.map toT).length : Int) := by rw [hn]; exact Int.ofNat_lt.2 hiR
    have g2 : ((a + m : Nat) : Int) ≤ (a0.size : Int) := by rw [hsl]; exact Int.ofNat_le.2 ham
    have g3 : (a : Int) ≤ ((a + m : Nat) : Int) := Int.ofNat_le.2 (Nat.le_add_right a m)
    have g4 : ¬ (a : Int) < (e : Int) := fun h => Nat.not_lt.2 hea (Int.ofNat_lt.1 h)
    have g5 : ¬ ((a + m : Nat) : Int) ≤ (a : Int) := fun h => by have := Int.ofNat_le.1 h; omega
    clear hn hle ih hd hK he hx hnext hsl
    have hj : ∀ c : Bool, c = false → trammellaw03_LexLies.j1 (K + 1) a0 x1 x2 (R.map toT) (i : Int) c = some true := by
      rintro c rfl
      obtain ⟨r, hr, hr2⟩ := pick_f x1 (n := 7) (by decide) (by decide)
      have hr : trammelkit_Pick.f x1 7 = some (r : Int) := hr
      rw [trammellaw03_LexLies.j1]
      rw [if_neg (by decide), if_pos (Int.natCast_nonneg i), if_pos g1, hr, hrd]
      simp only [Option.bind_some]
      rw [e0, hi]
      by_cases hc : Int.tmod (i : Int) 7 = (r : Int)
      · have hX : (a0.extract ((a : Int)).toNat (((a + m : Nat) : Int)).toNat).data.toList = (a0.data.toList.drop a).take m := by
          rw [Lib.extract_data, Int.toNat_natCast, Int.toNat_natCast, Nat.add_sub_cancel_left]
        rw [if_pos hc, if_pos (Int.natCast_nonneg a), if_pos g3, if_pos g2, show ∀ Y : ByteArray, lex_Tokens.f Y = some (toks Y.data.toList) from fun _ => rfl, hX, hal]
        simp only [Option.bind_some]
        rw [if_pos trivial, if_pos (by rfl), if_pos (by exact Int.natCast_pos.2 (Nat.succ_pos 0))]
        rw [if_pos (by rfl), if_pos (by rfl), if_pos (by rfl)]
      · rw [if_neg hc]
    rw [trammellaw03_LexLies.l0]
    rw [if_pos g1, if_pos (Int.natCast_nonneg i), hrd]
    simp only
    rw [if_neg g4, if_neg g5]
    exact hj _ (by rw [decide_eq_false_iff_not]; exact fun h => absurd g2 (Int.not_le.2 h))
theorem LexLies : trammellaw03_LexLies.Pure := by
  intro a0 a1 a2 _ _ _
  by_cases h : (a0.size : Int) > 8192
  · exact ⟨0, by unfold trammellaw03_LexLies.f; rw [if_pos h]⟩
  · have hs : a0.size ≤ 8192 := by omega
    have hs2 : a0.data.toList.length ≤ 8192 := by rw [← size_len]; exact hs
    have hT : lex_Tokens.f a0 = some (toks a0.data.toList) := rfl
    by_cases h0 : (toks a0.data.toList).2.2 = 0
    · obtain ⟨R, hR, hl⟩ := lay_good hs2 h0
      rw [hl] at hT
      have hle := hR.len
      have := l0_ok hR hs a1 a2 R.length 0 0 (2 * R.length + 40101) (Nat.zero_add _) (by omega) (fun _ _ _ => Nat.zero_le _)
      refine ⟨2 * R.length + 40101, ?_⟩
      unfold trammellaw03_LexLies.f
      rw [if_neg h, hT]
      simp only [Option.bind_some]
      rw [if_pos trivial]
      exact this
    · obtain ⟨p, hp, h1, h2⟩ := lay_bad hs2 h0
      refine ⟨100, ?_⟩
      unfold trammellaw03_LexLies.f
      rw [if_neg h, hT]
      simp only [Option.bind_some]
      rw [if_neg h0, h1, h2, if_pos (by rfl), if_pos (show (p : Int) ≥ 0 from Int.natCast_nonneg p), if_pos (show (p : Int) ≤ (a0.size : Int) by rw [size_len]; exact Int.ofNat_le.2 hp), works_l (Nat.le_refl 100)]
      rfl
end Go.Proofs.Ytmmilinbpimfaaa.Pure
