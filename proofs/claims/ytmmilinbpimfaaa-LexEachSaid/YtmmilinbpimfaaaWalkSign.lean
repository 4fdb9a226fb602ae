/- The signs of the lexer. Under no conditions beyond the statements' own. -/
import Derived.Test.YtmmilinbpimfaaaPureLex
import Derived.Test.YtmmilinbpimfaaaSwitch
import Derived.Test.YtmmilinbpimfaaaWalkBlanks
import Derived.Outline
import Derived.Deep.RegionWith
import Derived.Deep.QuietTactic
import Derived.BigQuiet
import Derived.Deep.LoopGhost
import Derived.StillTailTactics
set_option linter.unusedSimpArgs false
set_option linter.unusedVariables false
namespace Go.Proofs.Ytmmilinbpimfaaa.WalkSign
open Go.RowKit Go.Proofs.Ytmmilinbpimfaaa.PLexKnown Go.Proofs.YtmmilinbpimfaaaW.PrintWords Go.Proofs.YtmmilinbpimfaaaW.PrintLast Go.Proofs.YtmmilinbpimfaaaW.PrintMore Go.Proofs.Ytmmilinbpimfaaa.Switch Go.Proofs.Ytmmilinbpimfaaa.Spec Go.Proofs.Ytmmilinbpimfaaa.PureLex
open Go.Proofs.Ytmmilinbpimfaaa.WalkBlanks
/-- What a token is handed back as: its cells, and no fault; or whatever, and the fault. -/
def Tok (at_ : Nat) : Res → Ending → Prop
  | .ok k t n m, e => e = .returned (.tuple #[.agg #[.int .u8 (k : Int), .string ⟨t.toArray⟩, .int .u64 (n : Int), .int .i64 (at_ : Int), .int .i64 ((at_ + m : Nat) : Int)], .agg #[.int .i64 0, .int .i64 0]])
  | .bad d er, e => ∃ (k : Int) (t : ByteArray) (n a b : Int), e = .returned (.tuple #[.agg #[.int .u8 k, .string t, .int .u64 n, .int .i64 a, .int .i64 b], .agg #[.int .i64 ((at_ + d : Nat) : Int), .int .i64 (er : Int)]])
theorem str_eq {x : ByteArray} {t : B} (h : x.data.toList = t) : x = ⟨t.toArray⟩ := by
  subst h
  cases x
  simp
abbrev Scan (w : World) (g : Nat) (s : ByteArray) (i : Nat) : Prop := w.heap[g]? = some (.cells #[.string s, .int .i64 (i : Int)] 49 (0, 0))
/-- rest reads, and no more. -/
theorem rest_q (s r : ByteArray) (g i : Nat) (hi : i ≤ s.size) (hr : s.extract i s.size = r) (w : World) (h : Scan w g s i) : Calls Try.prog 56 #[.pointer (some ⟨g, 0, none⟩)] w fun e w' => e = .returned (.string r) ∧ Drawn0 w w' := by
  subst hr
  have hcz_0 := cellS49_0 h
  have hcz_1 := cellS49_1 h
  have p1 : (0 ≤ (i : Int)) = True := eq_true (by omega)
  have q1 : ((i : Int) ≤ (s.size : Int)) = True := eq_true (by omega)
  have q2 : (i ≤ s.size) = True := eq_true hi
  clear h hi
  go_enter Try.func56, Try.ntmps56
  go_wp2
  go_quiet (fail)
  go_wp2
  go_ret
  exact ⟨by first | rfl | (simp; done), by repeat (first | exact Drawn0.refl _ | apply Drawn0.step)⟩
theorem rd_strs {W : World} {g : Nat} {xs : List ByteArray} {cs : Array Value} (hcs : cs = (xs.map Value.string).toArray) (hx : xs.length ≤ 1000) (h : W.heap[g]? = some (.cells cs 9 (0, 0))) : Kd.C Kd.string W (some ⟨g, 0, none⟩) xs.length xs := by
  subst hcs
  refine Kd.C_of_reads (enc := Value.string) (d := ByteArray.empty) (h1 := fun _ => rfl) ⟨rfl, by omega, fun _ => ⟨_, rfl, fun j hj => ?_⟩⟩
  rw [add_plain, blk_cell h]
  simp [List.getD_eq_getElem?_getD, hj]
theorem among_l0 (x : ByteArray) (l : List ByteArray) (hl : l.length ≤ 1000) : ∀ (d i k : Nat), i + d = l.length → d < k → lex_among.l0 k x l (l.length : Int) (i : Int) = some (decide (x.data.toList ∈ (l.drop i).map fun y => y.data.toList)) := by
  intro d
  induction d with
  | zero =>
    intro i k hd hk
    obtain ⟨k, rfl⟩ : ∃ m, k = m + 1 := ⟨k - 1, by omega⟩
    simp only [lex_among.l0]
    rw [if_neg (by omega), List.drop_eq_nil_of_le (by omega)]
    simp
  | succ d ih =>
    intro i k hd hk
    obtain ⟨k, rfl⟩ : ∃ m, k = m + 1 := ⟨k - 1, by omega⟩
    have hi : i < l.length := by omega
    have h1 : rdOf ByteArray.empty l (i : Int) = l[i] := by simp [rdOf, List.getD_eq_getElem?_getD, hi]
    simp only [lex_among.l0]
    rw [if_pos (by omega), if_pos (by omega), if_pos (by omega), h1, w64 (by omega) (by omega), show (i : Int) + 1 = ((i + 1 : Nat) : Int) by omega, ih (i + 1) k (by omega) (by omega), List.drop_eq_getElem_cons hi, Lib.toList_data, Lib.toList_data, List.map_cons]
    by_cases h : x.data.toList = l[i].data.toList
    · rw [if_pos h, decide_eq_true (by rw [h]; exact List.mem_cons_self)]
    · rw [if_neg h]
      congr 1
      rw [Bool.eq_iff_iff, decide_eq_true_eq, decide_eq_true_eq, List.mem_cons]
      constructor
      · exact Or.inr
      · rintro (e | e)
        · exact absurd e h
        · exact e
theorem among_f (x : ByteArray) (l : List ByteArray) (hl : l.length ≤ 1000) {k : Nat} (hk : l.length < k) : lex_among.f k x l = some (decide (x.data.toList ∈ l.map fun y => y.data.toList)) := by
  unfold lex_among.f
  have := among_l0 x l hl l.length 0 k (by omega) hk
  simpa using this
theorem among_t (k : Nat) (x : ByteArray) (A : Option Addr) (c : Nat) (l : List ByteArray) (n : Nat) (hn : l.length = n) (r : Bool) (w : World) (hr : Kd.C Kd.string w A l.length l) (hc : n ≤ c) (h : lex_among.f k x l = some r) :
    Calls Try.prog 40 #[.string x, .slice A n c] w fun e w' => e = .returned (.bool r) ∧ Drawn0 w w' := by
  subst hn
  exact lex_among.calls k x A c l r w hr hc h
abbrev twoS : List ByteArray := [(⟨#[60, 60]⟩ : ByteArray), (⟨#[62, 62]⟩ : ByteArray), (⟨#[61, 61]⟩ : ByteArray), (⟨#[33, 61]⟩ : ByteArray), (⟨#[60, 61]⟩ : ByteArray), (⟨#[62, 61]⟩ : ByteArray), (⟨#[38, 38]⟩ : ByteArray), (⟨#[124, 124]⟩ : ByteArray)]
theorem rd_two (W : World) : Kd.C Kd.string (W.alloc (.cells #[.string (⟨#[60, 60]⟩ : ByteArray), .string (⟨#[62, 62]⟩ : ByteArray), .string (⟨#[61, 61]⟩ : ByteArray), .string (⟨#[33, 61]⟩ : ByteArray), .string (⟨#[60, 61]⟩ : ByteArray), .string (⟨#[62, 61]⟩ : ByteArray), .string (⟨#[38, 38]⟩ : ByteArray), .string (⟨#[124, 124]⟩ : ByteArray)] 9)) (some ⟨W.heap.size, 0, none⟩) twoS.length twoS := rd_strs rfl (by decide) (blk_new _ _)
theorem bt_first {r : ByteArray} {l : B} {c : UInt8} {t : B} (h : r.data.toList = l) (hc : l = c :: t) : bt r 0 = (c.toNat : Int) := by
  subst h
  have := bt_nat r 0 (by rw [hc]; simp)
  simpa [hc] using this
theorem ones_index {c : UInt8} {q x : Int} (hq : q = (c.toNat : Int)) (h : strings_IndexByte.f (⟨#[40, 41, 123, 125, 91, 93, 44, 59, 58, 46, 43, 45, 42, 47, 37, 38, 124, 94, 126, 33, 60, 62, 61]⟩ : ByteArray) q = some x) : x = Lib.indexByte ones c := by
  unfold strings_IndexByte.f at h
  rw [hq, Int.toNat_natCast] at h
  have := (Option.some.inj h).symm
  rw [this]
  simp only [Nat.toUInt8_eq, UInt8.ofNat_toNat]
  rfl
theorem two_f (x : ByteArray) : lex_among.f 9 x twoS = some (decide (x.data.toList ∈ two)) := by
  rw [among_f x twoS (by decide) (by decide)]
  rfl
theorem index_mem : ∀ (l : B) (c : UInt8), (0 ≤ Lib.indexByte l c ↔ c ∈ l)
  | [], c => by simp [Lib.indexByte]
  | b :: t, c => by
    have ih := index_mem t c
    have hg := Lib.indexByte_ge t c
    simp only [Lib.indexByte, List.mem_cons]
    by_cases h : b = c
    · subst h; simp
    · have hb : (b == c) = false := by simpa using h
      rw [hb]
      by_cases h1 : Lib.indexByte t c = -1
      · simp [h1] at ih ⊢
        exact ⟨fun e => h e.symm, ih⟩
      · have h1' : (Lib.indexByte t c == -1) = false := by simp [h1]
        simp only [h1', Bool.false_eq_true, if_false]
        rw [← ih]
        constructor
        · intro _; right; omega
        · intro _; omega
theorem put5 {w : World} {g t : Nat} {a0 a1 a2 a3 a4 : Value} (b0 b1 b2 b3 b4 : Value) (h : w.heap[g]? = some (.cells #[a0, a1, a2, a3, a4] t (0, 0))) :
    (((((w.setCell ⟨g, 0, none⟩ b0).setCell ⟨g, 1, none⟩ b1).setCell ⟨g, 2, none⟩ b2).setCell ⟨g, 3, none⟩ b3).setCell ⟨g, 4, none⟩ b4).heap[g]? = some (.cells #[b0, b1, b2, b3, b4] t (0, 0)) :=
  blk_put (blk_put (blk_put (blk_put (blk_put (cs' := #[b0, a1, a2, a3, a4]) h 0 b0 rfl) (cs' := #[b0, b1, a2, a3, a4]) 1 b1 rfl) (cs' := #[b0, b1, b2, a3, a4]) 2 b2 rfl) (cs' := #[b0, b1, b2, b3, a4]) 3 b3 rfl) (cs' := #[b0, b1, b2, b3, b4]) 4 b4 rfl
theorem put2 {w : World} {g t : Nat} {a0 a1 : Value} (b0 b1 : Value) (h : w.heap[g]? = some (.cells #[a0, a1] t (0, 0))) :
    ((w.setCell ⟨g, 0, none⟩ b0).setCell ⟨g, 1, none⟩ b1).heap[g]? = some (.cells #[b0, b1] t (0, 0)) :=
  blk_put (blk_put (cs' := #[b0, a1]) h 0 b0 rfl) (cs' := #[b0, b1]) 1 b1 rfl
theorem far5 {w : World} {g h t : Nat} {cs : Array Value} (hne : h ≠ g) (b0 b1 b2 b3 b4 : Value) (k : w.heap[h]? = some (.cells cs t (0, 0))) :
    (((((w.setCell ⟨g, 0, none⟩ b0).setCell ⟨g, 1, none⟩ b1).setCell ⟨g, 2, none⟩ b2).setCell ⟨g, 3, none⟩ b3).setCell ⟨g, 4, none⟩ b4).heap[h]? = some (.cells cs t (0, 0)) :=
  blk_far (p := ⟨g, 4, none⟩) (blk_far (p := ⟨g, 3, none⟩) (blk_far (p := ⟨g, 2, none⟩) (blk_far (p := ⟨g, 1, none⟩) (blk_far (p := ⟨g, 0, none⟩) k hne b0) hne b1) hne b2) hne b3) hne b4
theorem far2 {w : World} {g h t : Nat} {cs : Array Value} (hne : h ≠ g) (b0 b1 : Value) (k : w.heap[h]? = some (.cells cs t (0, 0))) :
    ((w.setCell ⟨g, 0, none⟩ b0).setCell ⟨g, 1, none⟩ b1).heap[h]? = some (.cells cs t (0, 0)) := blk_far (p := ⟨g, 1, none⟩) (blk_far (p := ⟨g, 0, none⟩) k hne b0) hne b1
theorem set5 {w W : World} {g : Nat} (b0 b1 b2 b3 b4 : Value) (h : Below w.heap.size w W) (e : w.heap.size ≤ g) :
    Below w.heap.size w (((((W.setCell ⟨g, 0, none⟩ b0).setCell ⟨g, 1, none⟩ b1).setCell ⟨g, 2, none⟩ b2).setCell ⟨g, 3, none⟩ b3).setCell ⟨g, 4, none⟩ b4) := below_set (below_set (below_set (below_set (below_set h e) e) e) e) e
theorem set2 {w W : World} {g : Nat} (b0 b1 : Value) (h : Below w.heap.size w W) (e : w.heap.size ≤ g) :
    Below w.heap.size w ((W.setCell ⟨g, 0, none⟩ b0).setCell ⟨g, 1, none⟩ b1) := below_set (below_set h e) e
set_option maxHeartbeats 8000000 in
set_option maxRecDepth 100000 in
theorem sign_c (s : ByteArray) (hn : s.size ≤ 1000000) (g at_ : Nat) (hlt : at_ < s.size) (w : World) (hg : Scan w g s at_) :
    Calls Try.prog 59 #[.pointer (some ⟨g, 0, none⟩)] w fun e w' => Tok at_ (sgn (D s at_)) e ∧ Below w.heap.size w w' := by
  obtain ⟨c, hc, hbt⟩ := D_cons hlt
  obtain ⟨r, hr⟩ : ∃ r, s.extract at_ s.size = r := ⟨_, rfl⟩
  have hrd : r.data.toList = D s at_ := by rw [← hr, D_rest]
  have hrs : r.size = s.size - at_ := by rw [size_len, hrd, D_len]
  have HR := Aside0.mk hr
  have HG := Aside0.mk hg
  have HB := Aside0.mk (Below.refl w.heap.size w)
  have HLT := Aside0.mk hlt
  have hu31 := Try.underlying31
  have hu51 := Try.underlying51
  have p1 : (0 ≤ (at_ : Int)) = True := eq_true (by omega)
  have b1 : (at_ : Int) ≤ 1000000 := by omega
  have b0 : 0 ≤ (at_ : Int) := by omega
  have q2 : (at_ < s.size) = True := eq_true hlt
  clear hg hr hlt hn
  by_cases h1 : 1 < r.size
  · have c1 : decide ((r.size : Int) > 1) = true := decide_eq_true (by omega)
    have c2 : decide (1 < r.size) = true := decide_eq_true h1
    have c3 : decide ((1 : Int) < (r.size : Int)) = true := decide_eq_true (by omega)
    have ht := two_f (r.extract 0 2)
    rw [Lib.extract_data, List.drop_zero, hrd] at ht
    have hsz2 : ((2 : Nat) ≤ r.size) = True := eq_true (by omega)
    have b5 : (2 : Int) ≤ (r.size : Int) := by omega
    have HRS := Aside0.mk hrs
    have HRD := Aside0.mk hrd
    have HC := Aside0.mk hc
    obtain ⟨q, hq⟩ : ∃ q : Int, q = (c.toNat : Int) := ⟨_, rfl⟩
    have hr0 : ∀ h : 0 < r.size, (((r[0]'h).toNat : Nat) : Int) = q := fun h => by rw [hq, ← bt_first hrd hc]; simp [bt, h]
    have hs0 : (0 < r.size) = True := eq_true (by have := HLT.out; omega)
    have HQ := Aside0.mk hq
    have bq0 : 0 ≤ q := by omega
    have bq1 : q ≤ 255 := by have := c.toNat_lt; omega
    clear hrs hrd hc hbt hq
    by_cases h2 : (D s at_).take 2 ∈ two
    · rw [decide_eq_true h2] at ht
      have HT := Aside0.mk ht
      clear ht
      have hw2 : IntKind.i64.wrap ((at_ : Int) + 2) = (at_ : Int) + 2 := by rw [i64_w, w64 (by omega) (by omega)]
      go_enter Try.func59, Try.ntmps59
      go_upto_region 8 with (first
        | ((with_reducible refine gate_dst (N := 2) rfl ?_); refine box_event ?hg (N := 2) ?hd (cs := #[.int .u8 0, .string (⟨#[]⟩ : ByteArray), .int .u64 0, .int .i64 0, .int .i64 0]) (t := 31) ?hr ?_; (case hd => rfl); (case hg => rfl); (case hr => first | (go_simp; done) | (go_simp; rfl)); intro gb2 hg_ wb2 hbox hb_; have GE2 := Aside0.mk ((by rw [hg_]; exact (below_size (by repeat (first | (with_reducible first | exact HB.out | apply below_alloc | apply pw_below_drewN | apply below_drew1 | apply below_drew) | exact HB.out)))) : w.heap.size ≤ gb2); have tHB_ := Aside0.mk (below_step (by repeat (first | (with_reducible first | exact HB.out | apply below_alloc | apply pw_below_drewN | apply below_drew1 | apply below_drew) | exact HB.out)) hb_); clear HB; have HB := tHB_; clear tHB_; have BK2 := Aside0.mk hbox; have HG2 := Aside0.mk hg_; have DB2 := Aside0.mk hb_; clear hbox hg_ hb_; (try clear hcz_0); (try clear hcz_1); have hcz_0 := cellS49_0 (blk_below HG.out HB.out); have hcz_1 := cellS49_1 (blk_below HG.out HB.out))
        | ((with_reducible refine gate_dst (N := 3) rfl ?_); have HLT2 := Aside0.mk (blk_lt BK2.out); refine box_event ?hg (N := 3) ?hd (cs := #[.int .i64 0, .int .i64 0]) (t := 51) ?hr ?_; (case hd => rfl); (case hg => rfl); (case hr => first | (go_simp; done) | (go_simp; rfl)); intro gb3 hg_ wb3 hbox hb_; have GE3 := Aside0.mk ((by rw [hg_]; exact (below_size (by repeat (first | (with_reducible first | exact HB.out | apply below_alloc | apply pw_below_drewN | apply below_drew1 | apply below_drew) | exact HB.out)))) : w.heap.size ≤ gb3); have tHB_ := Aside0.mk (below_step (by repeat (first | (with_reducible first | exact HB.out | apply below_alloc | apply pw_below_drewN | apply below_drew1 | apply below_drew) | exact HB.out)) hb_); have bk2_ := Aside0.mk (blk_below (g := gb2) (o := .cells #[.int .u8 0, .string (⟨#[]⟩ : ByteArray), .int .u64 0, .int .i64 0, .int .i64 0] 31 (0, 0)) (by (with_reducible repeat (first | refine blk_drewN ?_ _ | refine blk_drew ?_ | refine blk_alloc ?_ _)); exact BK2.out) hb_); clear BK2; have BK2 := bk2_; clear bk2_; clear HB; have HB := tHB_; clear tHB_; have BK3 := Aside0.mk hbox; have HG3 := Aside0.mk hg_; have DB3 := Aside0.mk hb_; clear hbox hg_ hb_; (try clear hcz_0); (try clear hcz_1); have hcz_0 := cellS49_0 (blk_below HG.out HB.out); have hcz_1 := cellS49_1 (blk_below HG.out HB.out))
        | (go_at_call 56; (with_reducible refine (rest_q s r g at_ (Nat.le_of_lt HLT.out) HR.out _ (blk_below HG.out (by repeat (first | (with_reducible first | exact HB.out | apply below_alloc | apply pw_below_drewN | apply below_drew1 | apply below_drew) | exact HB.out)))).mono ?_); rintro e wc ⟨rfl, hd_⟩; have hb_ := drawn_below hd_; clear hd_; have tHB_ := Aside0.mk (below_step (by repeat (first | (with_reducible first | exact HB.out | apply below_alloc | apply pw_below_drewN | apply below_drew1 | apply below_drew) | exact HB.out)) hb_); have bk2_ := Aside0.mk (blk_below (g := gb2) (o := .cells #[.int .u8 0, .string (⟨#[]⟩ : ByteArray), .int .u64 0, .int .i64 0, .int .i64 0] 31 (0, 0)) (by (with_reducible repeat (first | refine blk_drewN ?_ _ | refine blk_drew ?_ | refine blk_alloc ?_ _)); exact BK2.out) hb_); clear BK2; have BK2 := bk2_; clear bk2_; have bk2_ := Aside0.mk (blk_below (g := gb3) (o := .cells #[.int .i64 0, .int .i64 0] 51 (0, 0)) (by (with_reducible repeat (first | refine blk_drewN ?_ _ | refine blk_drew ?_ | refine blk_alloc ?_ _)); exact BK3.out) hb_); clear BK3; have BK3 := bk2_; clear bk2_; clear HB; have HB := tHB_; clear tHB_; (try clear hcz2_0); (try clear hcz2_1); (try clear hcz2_2); (try clear hcz2_3); (try clear hcz2_4); (try clear hcz3_0); (try clear hcz3_1); (try clear hb_); (try clear hcz_0); (try clear hcz_1); have hcz_0 := cellS49_0 (blk_below HG.out HB.out); have hcz_1 := cellS49_1 (blk_below HG.out HB.out))
        | (go_at_call 40; (with_reducible refine (among_t 9 (r.extract 0 2) _ 8 twoS 8 rfl true _ (rd_two _) (by decide) HT.out).mono ?_); rintro e wc ⟨rfl, hd_⟩; have hb_ := drawn_below hd_; clear hd_; have tHB_ := Aside0.mk (below_step (by repeat (first | (with_reducible first | exact HB.out | apply below_alloc | apply pw_below_drewN | apply below_drew1 | apply below_drew) | exact HB.out)) hb_); have bk2_ := Aside0.mk (blk_below (g := gb2) (o := .cells #[.int .u8 0, .string (⟨#[]⟩ : ByteArray), .int .u64 0, .int .i64 0, .int .i64 0] 31 (0, 0)) (by (with_reducible repeat (first | refine blk_drewN ?_ _ | refine blk_drew ?_ | refine blk_alloc ?_ _)); exact BK2.out) hb_); clear BK2; have BK2 := bk2_; clear bk2_; have bk2_ := Aside0.mk (blk_below (g := gb3) (o := .cells #[.int .i64 0, .int .i64 0] 51 (0, 0)) (by (with_reducible repeat (first | refine blk_drewN ?_ _ | refine blk_drew ?_ | refine blk_alloc ?_ _)); exact BK3.out) hb_); clear BK3; have BK3 := bk2_; clear bk2_; clear HB; have HB := tHB_; clear tHB_; (try clear hcz2_0); (try clear hcz2_1); (try clear hcz2_2); (try clear hcz2_3); (try clear hcz2_4); (try clear hcz3_0); (try clear hcz3_1); (try clear hb_); (try clear hcz_0); (try clear hcz_1); have hcz_0 := cellS49_0 (blk_below HG.out HB.out); have hcz_1 := cellS49_1 (blk_below HG.out HB.out)))
      have hne : gb2 ≠ gb3 := by rw [HG3.out]; exact Nat.ne_of_lt HLT2.out
      refine start_ (n := 17) (S := fun w' => Below w.heap.size w w') (ds := []) #[false, false, false, false, false, false, false, false, false, false, false, false, false, false, false, false, false] (by kernel_rfl) rfl rfl (below_drew HB.out) (fun hHeld => ?_)
      refine pure_ (i := 0) (N := some 29) (v := ?_) (a' := ?_) #[true, false, false, false, false, false, false, false, false, false, false, false, false, false, false, false, false] rfl rfl (by kernel_rfl) (fun _ _ _ h => h) (Or.inl ⟨by rfl, ?_⟩) ?_ ?_
      rotate_left
      · intro w'
        go_simp
        with_reducible rfl
      rotate_left
      · simp only [Act.put, List.setIfInBounds_toArray, List.set_cons_zero, List.set_cons_succ, i64_w, i32_w]
        rfl
      refine pure_ (i := 1) (N := some 30) (v := ?_) (a' := ?_) #[true, true, false, false, false, false, false, false, false, false, false, false, false, false, false, false, false] rfl rfl (by kernel_rfl) (fun _ _ _ h => h) (Or.inl ⟨by rfl, ?_⟩) ?_ ?_
      rotate_left
      · intro w'
        go_simp
        with_reducible rfl
      rotate_left
      · simp only [Act.put, List.setIfInBounds_toArray, List.set_cons_zero, List.set_cons_succ, i64_w, i32_w]
        rfl
      refine pure_ (i := 2) (N := some 31) (v := ?_) (a' := ?_) #[true, true, true, false, false, false, false, false, false, false, false, false, false, false, false, false, false] rfl rfl (by kernel_rfl) (fun _ _ _ h => h) (Or.inl ⟨by rfl, ?_⟩) ?_ ?_
      rotate_left
      · intro w'
        go_simp
        with_reducible rfl
      rotate_left
      · simp only [Act.put, List.setIfInBounds_toArray, List.set_cons_zero, List.set_cons_succ, i64_w, i32_w]
        rfl
      refine pure_ (i := 3) (N := some 32) (v := ?_) (a' := ?_) #[true, true, true, true, false, false, false, false, false, false, false, false, false, false, false, false, false] rfl rfl (by kernel_rfl) (fun _ _ _ h => h) (Or.inl ⟨by rfl, ?_⟩) ?_ ?_
      rotate_left
      · intro w'
        go_simp
        with_reducible rfl
      rotate_left
      · simp only [Act.put, List.setIfInBounds_toArray, List.set_cons_zero, List.set_cons_succ, i64_w, i32_w]
        rfl
      refine pure_ (i := 4) (N := some 33) (v := ?_) (a' := ?_) #[true, true, true, true, true, false, false, false, false, false, false, false, false, false, false, false, false] rfl rfl (by kernel_rfl) (fun _ _ _ h => h) (Or.inl ⟨by rfl, ?_⟩) ?_ ?_
      rotate_left
      · intro w'
        go_simp
        with_reducible rfl
      rotate_left
      · simp only [Act.put, List.setIfInBounds_toArray, List.set_cons_zero, List.set_cons_succ, i64_w, i32_w]
        rfl
      refine pure_ (i := 5) (N := some 34) (v := ?_) (a' := ?_) #[true, true, true, true, true, true, false, false, false, false, false, false, false, false, false, false, false] rfl rfl (by kernel_rfl) (fun _ _ _ h => h) (Or.inl ⟨by rfl, ?_⟩) ?_ ?_
      rotate_left
      · intro w'
        go_simp
        with_reducible rfl
      rotate_left
      · simp only [Act.put, List.setIfInBounds_toArray, List.set_cons_zero, List.set_cons_succ, i64_w, i32_w]
        rfl
      refine pure_ (i := 7) (N := some 36) (v := ?_) (a' := ?_) #[true, true, true, true, true, true, false, true, false, false, false, false, false, false, false, false, false] rfl rfl (by kernel_rfl) (fun _ _ _ h => h) (Or.inl ⟨by rfl, ?_⟩) ?_ ?_
      rotate_left
      · intro w'
        go_simp
        with_reducible rfl
      rotate_left
      · simp only [Act.put, List.setIfInBounds_toArray, List.set_cons_zero, List.set_cons_succ, i64_w, i32_w]
        rfl
      refine pure_ (i := 8) (N := some 37) (v := ?_) (a' := ?_) #[true, true, true, true, true, true, false, true, true, false, false, false, false, false, false, false, false] rfl rfl (by kernel_rfl) (fun _ _ _ h => h) (Or.inl ⟨by rfl, ?_⟩) ?_ ?_
      rotate_left
      · intro w'
        go_simp
        with_reducible rfl
      rotate_left
      · simp only [Act.put, List.setIfInBounds_toArray, List.set_cons_zero, List.set_cons_succ, i64_w, i32_w]
        rfl
      refine pure_ (i := 9) (N := some 38) (v := ?_) (a' := ?_) #[true, true, true, true, true, true, false, true, true, true, false, false, false, false, false, false, false] rfl rfl (by kernel_rfl) (fun _ _ _ h => h) (Or.inl ⟨by rfl, ?_⟩) ?_ ?_
      rotate_left
      · intro w'
        go_simp
        with_reducible rfl
      rotate_left
      · simp only [Act.put, List.setIfInBounds_toArray, List.set_cons_zero, List.set_cons_succ, i64_w, i32_w]
        rfl
      refine pure_ (i := 11) (N := some 40) (v := ?_) (a' := ?_) #[true, true, true, true, true, true, false, true, true, true, false, true, false, false, false, false, false] rfl rfl (by kernel_rfl) (fun _ _ _ h => h) (Or.inl ⟨by rfl, ?_⟩) ?_ ?_
      rotate_left
      · intro w'
        go_simp
        with_reducible rfl
      rotate_left
      · simp only [Act.put, List.setIfInBounds_toArray, List.set_cons_zero, List.set_cons_succ, i64_w, i32_w]
        rfl
      refine pure_ (i := 14) (N := some 43) (v := ?_) (a' := ?_) #[true, true, true, true, true, true, false, true, true, true, false, true, false, false, true, false, false] rfl rfl (by kernel_rfl) (fun _ _ _ h => h) (Or.inl ⟨by rfl, ?_⟩) ?_ ?_
      rotate_left
      · intro w'
        go_simp
        with_reducible rfl
      rotate_left
      · simp only [Act.put, List.setIfInBounds_toArray, List.set_cons_zero, List.set_cons_succ, i64_w, i32_w]
        rfl
      refine take_ (i := 6) (N := some 35) (v := ?_) (a' := ?_) #[true, true, true, true, true, true, true, true, true, true, false, true, false, false, true, false, false] rfl rfl (by kernel_rfl) (fun _ _ _ h => h) (Or.inl ⟨by rfl, ?_⟩) hHeld ?_ ?_
      rotate_left
      · intro w' hS
        have hcz_1 := cellS49_1 (blk_below HG.out hS)
        go_simp
        with_reducible rfl
      rotate_left
      · simp only [Act.put, List.setIfInBounds_toArray, List.set_cons_zero, List.set_cons_succ, i64_w, i32_w]
        rfl
      refine take_ (i := 10) (N := some 39) (v := ?_) (a' := ?_) #[true, true, true, true, true, true, true, true, true, true, true, true, false, false, true, false, false] rfl rfl (by kernel_rfl) (fun _ _ _ h => h) (Or.inl ⟨by rfl, ?_⟩) hHeld ?_ ?_
      rotate_left
      · intro w' hS
        have hcz_1 := cellS49_1 (blk_below HG.out hS)
        go_simp
        with_reducible rfl
      rotate_left
      · simp only [Act.put, List.setIfInBounds_toArray, List.set_cons_zero, List.set_cons_succ, i64_w, i32_w]
        rfl
      refine pure_ (i := 12) (N := some 41) (v := ?_) (a' := ?_) #[true, true, true, true, true, true, true, true, true, true, true, true, true, false, true, false, false] rfl rfl (by kernel_rfl) (fun _ _ _ h => h) (Or.inl ⟨by rfl, ?_⟩) ?_ ?_
      rotate_left
      · intro w'
        go_simp
        with_reducible rfl
      rotate_left
      · simp only [Act.put, List.setIfInBounds_toArray, List.set_cons_zero, List.set_cons_succ, i64_w, i32_w]
        rfl
      refine pure_ (i := 13) (N := some 42) (v := ?_) (a' := ?_) #[true, true, true, true, true, true, true, true, true, true, true, true, true, true, true, false, false] rfl rfl (by kernel_rfl) (fun _ _ _ h => h) (Or.inl ⟨by rfl, ?_⟩) ?_ ?_
      rotate_left
      · intro w'
        go_simp
        with_reducible rfl
      rotate_left
      · simp only [Act.put, List.setIfInBounds_toArray, List.set_cons_zero, List.set_cons_succ, i64_w, i32_w]
        rfl
      have k2 := blk_drew BK2.out
      have k3 := blk_drew BK3.out
      have hz := below_drew HB.out
      clear HB BK2 BK3 hHeld
      (try clear hcz_0 hcz_1)
      generalize hWD : World.drew _ = WD at k2 k3 hz ⊢
      clear hWD
      have hcw_0 := blk_cell k2 0
      have hcw_1 := blk_cell k2 1
      have hcw_2 := blk_cell k2 2
      have hcw_3 := blk_cell k2 3
      have hcw_4 := blk_cell k2 4
      have hfw_0 := blk_frozen k2 0
      have hfw_1 := blk_frozen k2 1
      have hfw_2 := blk_frozen k2 2
      have hfw_3 := blk_frozen k2 3
      have hfw_4 := blk_frozen k2 4
      simp only [List.getElem?_toArray, List.getElem?_cons_zero, List.getElem?_cons_succ] at hcw_0 hcw_1 hcw_2 hcw_3 hcw_4
      refine one_ (i := 15) (N := none) #[true, true, true, true, true, true, true, true, true, true, true, true, true, true, true, true, false] rfl rfl (by kernel_rfl) (by decide) (fun K hK => ?_)
      refine skip_ (w1 := ?_) (by rfl) rfl ?_ ?_
      rotate_left
      · go_simp
        rfl
      refine hK.out _ _ (set5 (.int .u8 4) (.string (r.extract 0 2)) (.int .u64 0) (.int .i64 (at_ : Int)) (.int .i64 ((at_ : Int) + 2)) hz GE2.out) (fun hHeld => ?_)
      clear hK K hHeld
      clear hcw_0 hfw_0 hcw_1 hfw_1 hcw_2 hfw_2 hcw_3 hfw_3 hcw_4 hfw_4
      have t2 := put5 (.int .u8 4) (.string (r.extract 0 2)) (.int .u64 0) (.int .i64 (at_ : Int)) (.int .i64 ((at_ : Int) + 2)) k2
      have t3 := far5 hne.symm (.int .u8 4) (.string (r.extract 0 2)) (.int .u64 0) (.int .i64 (at_ : Int)) (.int .i64 ((at_ : Int) + 2)) k3
      have tz := set5 (.int .u8 4) (.string (r.extract 0 2)) (.int .u64 0) (.int .i64 (at_ : Int)) (.int .i64 ((at_ : Int) + 2)) hz GE2.out
      clear k2 k3 hz
      obtain ⟨Z1, hZ1⟩ : ∃ Z, (((((WD).setCell ⟨gb2, 0, none⟩ (.int .u8 4)).setCell ⟨gb2, 1, none⟩ (.string (r.extract 0 2))).setCell ⟨gb2, 2, none⟩ (.int .u64 0)).setCell ⟨gb2, 3, none⟩ (.int .i64 (at_ : Int))).setCell ⟨gb2, 4, none⟩ (.int .i64 ((at_ : Int) + 2)) = Z := ⟨_, rfl⟩
      rw [hZ1] at t2 t3 tz ⊢
      clear hZ1
      have k2 := t2; have k3 := t3; have hz := tz; clear t2 t3 tz
      have hcw_0 := blk_cell k3 0
      have hcw_1 := blk_cell k3 1
      have hfw_0 := blk_frozen k3 0
      have hfw_1 := blk_frozen k3 1
      simp only [List.getElem?_toArray, List.getElem?_cons_zero, List.getElem?_cons_succ] at hcw_0 hcw_1
      refine one_ (i := 16) (N := none) #[true, true, true, true, true, true, true, true, true, true, true, true, true, true, true, true, true] rfl rfl (by kernel_rfl) (by decide) (fun K hK => ?_)
      refine skip_ (w1 := ?_) (by rfl) rfl ?_ ?_
      rotate_left
      · go_simp
        rfl
      refine hK.out _ _ (set2 (.int .i64 0) (.int .i64 0) hz GE3.out) (fun hHeld => ?_)
      clear hK K hHeld
      clear hcw_0 hfw_0 hcw_1 hfw_1
      have t3 := put2 (.int .i64 0) (.int .i64 0) k3
      have t2 := far2 hne (.int .i64 0) (.int .i64 0) k2
      have tz := set2 (.int .i64 0) (.int .i64 0) hz GE3.out
      clear k2 k3 hz
      obtain ⟨Z2, hZ2⟩ : ∃ Z, ((Z1).setCell ⟨gb3, 0, none⟩ (.int .i64 0)).setCell ⟨gb3, 1, none⟩ (.int .i64 0) = Z := ⟨_, rfl⟩
      rw [hZ2] at t2 t3 tz ⊢
      clear hZ2
      have k2 := t2; have k3 := t3; have hz := tz; clear t2 t3 tz
      refine done_ (by kernel_rfl) ?_
      go_wp2
      refine bodyPost_ret (results_cc rfl _ _ gb2 gb3 31 51 _ _ (0, 0) (0, 0) _ _ rfl k2 Try.underlying31 rfl (by kernel_rfl) rfl k3 Try.underlying51 rfl (by kernel_rfl)) rfl ?_
      exact ⟨(by rw [show sgn (D s at_) = .ok 4 ((D s at_).take 2) 0 2 from by unfold sgn; rw [if_pos ⟨by rw [← HRD.out, ← size_len]; exact h1, h2⟩]]; show _ = _; rw [← str_eq (x := r.extract 0 2) (by rw [Lib.extract_data, List.drop_zero, HRD.out])]; simp), hz⟩

    · rw [decide_eq_false h2] at ht
      have HT := Aside0.mk ht
      clear ht
      have hsg : sgn (D s at_) = if c ∈ ones then .ok 4 [c] 0 1 else .bad 0 30 := by rw [HC.out] at h2 ⊢; unfold sgn; rw [if_neg (fun h => h2 h.2)]
      have HSG := Aside0.mk hsg
      clear hsg h2
      obtain ⟨x, hx⟩ : ∃ x, strings_IndexByte.f (⟨#[40, 41, 123, 125, 91, 93, 44, 59, 58, 46, 43, 45, 42, 47, 37, 38, 124, 94, 126, 33, 60, 62, 61]⟩ : ByteArray) q = some x := ⟨_, rfl⟩
      have hxm : 0 ≤ x ↔ c ∈ ones := by rw [ones_index HQ.out hx]; exact index_mem _ _
      have HX := Aside0.mk hx
      have h1' : ((1 : Nat) ≤ r.size) = True := eq_true (by have := of_eq_true hs0; omega)
      have b6 : (1 : Int) ≤ (r.size : Int) := by have := of_eq_true hs0; omega
      clear hx
      by_cases hm : c ∈ ones
      · have hx0 := hxm.2 hm
        have d1 : decide (x ≥ 0) = true := decide_eq_true hx0
        have d2 : decide (0 ≤ x) = true := decide_eq_true hx0
        have hw1 : IntKind.i64.wrap ((at_ : Int) + 1) = (at_ : Int) + 1 := by rw [i64_w, w64 (by omega) (by omega)]
        clear hxm hx0
        go_enter Try.func59, Try.ntmps59
        go_upto_region 8 with (first
          | ((with_reducible refine gate_dst (N := 2) rfl ?_); refine box_event ?hg (N := 2) ?hd (cs := #[.int .u8 0, .string (⟨#[]⟩ : ByteArray), .int .u64 0, .int .i64 0, .int .i64 0]) (t := 31) ?hr ?_; (case hd => rfl); (case hg => rfl); (case hr => first | (go_simp; done) | (go_simp; rfl)); intro gb2 hg_ wb2 hbox hb_; have GE2 := Aside0.mk ((by rw [hg_]; exact (below_size (by repeat (first | (with_reducible first | exact HB.out | apply below_alloc | apply pw_below_drewN | apply below_drew1 | apply below_drew) | exact HB.out)))) : w.heap.size ≤ gb2); have tHB_ := Aside0.mk (below_step (by repeat (first | (with_reducible first | exact HB.out | apply below_alloc | apply pw_below_drewN | apply below_drew1 | apply below_drew) | exact HB.out)) hb_); clear HB; have HB := tHB_; clear tHB_; have BK2 := Aside0.mk hbox; have HG2 := Aside0.mk hg_; have DB2 := Aside0.mk hb_; clear hbox hg_ hb_; (try clear hcz_0); (try clear hcz_1); have hcz_0 := cellS49_0 (blk_below HG.out HB.out); have hcz_1 := cellS49_1 (blk_below HG.out HB.out))
          | ((with_reducible refine gate_dst (N := 3) rfl ?_); have HLT2 := Aside0.mk (blk_lt BK2.out); refine box_event ?hg (N := 3) ?hd (cs := #[.int .i64 0, .int .i64 0]) (t := 51) ?hr ?_; (case hd => rfl); (case hg => rfl); (case hr => first | (go_simp; done) | (go_simp; rfl)); intro gb3 hg_ wb3 hbox hb_; have GE3 := Aside0.mk ((by rw [hg_]; exact (below_size (by repeat (first | (with_reducible first | exact HB.out | apply below_alloc | apply pw_below_drewN | apply below_drew1 | apply below_drew) | exact HB.out)))) : w.heap.size ≤ gb3); have tHB_ := Aside0.mk (below_step (by repeat (first | (with_reducible first | exact HB.out | apply below_alloc | apply pw_below_drewN | apply below_drew1 | apply below_drew) | exact HB.out)) hb_); have bk2_ := Aside0.mk (blk_below (g := gb2) (o := .cells #[.int .u8 0, .string (⟨#[]⟩ : ByteArray), .int .u64 0, .int .i64 0, .int .i64 0] 31 (0, 0)) (by (with_reducible repeat (first | refine blk_drewN ?_ _ | refine blk_drew ?_ | refine blk_alloc ?_ _)); exact BK2.out) hb_); clear BK2; have BK2 := bk2_; clear bk2_; clear HB; have HB := tHB_; clear tHB_; have BK3 := Aside0.mk hbox; have HG3 := Aside0.mk hg_; have DB3 := Aside0.mk hb_; clear hbox hg_ hb_; (try clear hcz_0); (try clear hcz_1); have hcz_0 := cellS49_0 (blk_below HG.out HB.out); have hcz_1 := cellS49_1 (blk_below HG.out HB.out))
          | (go_at_call 56; (with_reducible refine (rest_q s r g at_ (Nat.le_of_lt HLT.out) HR.out _ (blk_below HG.out (by repeat (first | (with_reducible first | exact HB.out | apply below_alloc | apply pw_below_drewN | apply below_drew1 | apply below_drew) | exact HB.out)))).mono ?_); rintro e wc ⟨rfl, hd_⟩; have hb_ := drawn_below hd_; clear hd_; have tHB_ := Aside0.mk (below_step (by repeat (first | (with_reducible first | exact HB.out | apply below_alloc | apply pw_below_drewN | apply below_drew1 | apply below_drew) | exact HB.out)) hb_); have bk2_ := Aside0.mk (blk_below (g := gb2) (o := .cells #[.int .u8 0, .string (⟨#[]⟩ : ByteArray), .int .u64 0, .int .i64 0, .int .i64 0] 31 (0, 0)) (by (with_reducible repeat (first | refine blk_drewN ?_ _ | refine blk_drew ?_ | refine blk_alloc ?_ _)); exact BK2.out) hb_); clear BK2; have BK2 := bk2_; clear bk2_; have bk2_ := Aside0.mk (blk_below (g := gb3) (o := .cells #[.int .i64 0, .int .i64 0] 51 (0, 0)) (by (with_reducible repeat (first | refine blk_drewN ?_ _ | refine blk_drew ?_ | refine blk_alloc ?_ _)); exact BK3.out) hb_); clear BK3; have BK3 := bk2_; clear bk2_; clear HB; have HB := tHB_; clear tHB_; (try clear hcz2_0); (try clear hcz2_1); (try clear hcz2_2); (try clear hcz2_3); (try clear hcz2_4); (try clear hcz3_0); (try clear hcz3_1); (try clear hb_); (try clear hcz_0); (try clear hcz_1); have hcz_0 := cellS49_0 (blk_below HG.out HB.out); have hcz_1 := cellS49_1 (blk_below HG.out HB.out))
          | (go_at_call 40; (with_reducible refine (among_t 9 (r.extract 0 2) _ 8 twoS 8 rfl false _ (rd_two _) (by decide) HT.out).mono ?_); rintro e wc ⟨rfl, hd_⟩; have hb_ := drawn_below hd_; clear hd_; have tHB_ := Aside0.mk (below_step (by repeat (first | (with_reducible first | exact HB.out | apply below_alloc | apply pw_below_drewN | apply below_drew1 | apply below_drew) | exact HB.out)) hb_); have bk2_ := Aside0.mk (blk_below (g := gb2) (o := .cells #[.int .u8 0, .string (⟨#[]⟩ : ByteArray), .int .u64 0, .int .i64 0, .int .i64 0] 31 (0, 0)) (by (with_reducible repeat (first | refine blk_drewN ?_ _ | refine blk_drew ?_ | refine blk_alloc ?_ _)); exact BK2.out) hb_); clear BK2; have BK2 := bk2_; clear bk2_; have bk2_ := Aside0.mk (blk_below (g := gb3) (o := .cells #[.int .i64 0, .int .i64 0] 51 (0, 0)) (by (with_reducible repeat (first | refine blk_drewN ?_ _ | refine blk_drew ?_ | refine blk_alloc ?_ _)); exact BK3.out) hb_); clear BK3; have BK3 := bk2_; clear bk2_; clear HB; have HB := tHB_; clear tHB_; (try clear hcz2_0); (try clear hcz2_1); (try clear hcz2_2); (try clear hcz2_3); (try clear hcz2_4); (try clear hcz3_0); (try clear hcz3_1); (try clear hb_); (try clear hcz_0); (try clear hcz_1); have hcz_0 := cellS49_0 (blk_below HG.out HB.out); have hcz_1 := cellS49_1 (blk_below HG.out HB.out))
          | (go_at_call 32; (with_reducible refine (strings_IndexByte.calls (⟨#[40, 41, 123, 125, 91, 93, 44, 59, 58, 46, 43, 45, 42, 47, 37, 38, 124, 94, 126, 33, 60, 62, 61]⟩ : ByteArray) q x _ HX.out).mono ?_); rintro e wc ⟨rfl, hd_⟩; have hb_ := drawn_below hd_; clear hd_; have tHB_ := Aside0.mk (below_step (by repeat (first | (with_reducible first | exact HB.out | apply below_alloc | apply pw_below_drewN | apply below_drew1 | apply below_drew) | exact HB.out)) hb_); have bk2_ := Aside0.mk (blk_below (g := gb2) (o := .cells #[.int .u8 0, .string (⟨#[]⟩ : ByteArray), .int .u64 0, .int .i64 0, .int .i64 0] 31 (0, 0)) (by (with_reducible repeat (first | refine blk_drewN ?_ _ | refine blk_drew ?_ | refine blk_alloc ?_ _)); exact BK2.out) hb_); clear BK2; have BK2 := bk2_; clear bk2_; have bk2_ := Aside0.mk (blk_below (g := gb3) (o := .cells #[.int .i64 0, .int .i64 0] 51 (0, 0)) (by (with_reducible repeat (first | refine blk_drewN ?_ _ | refine blk_drew ?_ | refine blk_alloc ?_ _)); exact BK3.out) hb_); clear BK3; have BK3 := bk2_; clear bk2_; clear HB; have HB := tHB_; clear tHB_; (try clear hcz2_0); (try clear hcz2_1); (try clear hcz2_2); (try clear hcz2_3); (try clear hcz2_4); (try clear hcz3_0); (try clear hcz3_1); (try clear hb_); (try clear hcz_0); (try clear hcz_1); have hcz_0 := cellS49_0 (blk_below HG.out HB.out); have hcz_1 := cellS49_1 (blk_below HG.out HB.out)))
        have hne : gb2 ≠ gb3 := by rw [HG3.out]; exact Nat.ne_of_lt HLT2.out
        refine start_ (n := 17) (S := fun w' => Below w.heap.size w w') (ds := []) #[false, false, false, false, false, false, false, false, false, false, false, false, false, false, false, false, false] (by kernel_rfl) rfl rfl (below_drew HB.out) (fun hHeld => ?_)
        refine pure_ (i := 0) (N := some 29) (v := ?_) (a' := ?_) #[true, false, false, false, false, false, false, false, false, false, false, false, false, false, false, false, false] rfl rfl (by kernel_rfl) (fun _ _ _ h => h) (Or.inl ⟨by rfl, ?_⟩) ?_ ?_
        rotate_left
        · intro w'
          go_simp
          with_reducible rfl
        rotate_left
        · simp only [Act.put, List.setIfInBounds_toArray, List.set_cons_zero, List.set_cons_succ, i64_w, i32_w]
          rfl
        refine pure_ (i := 1) (N := some 30) (v := ?_) (a' := ?_) #[true, true, false, false, false, false, false, false, false, false, false, false, false, false, false, false, false] rfl rfl (by kernel_rfl) (fun _ _ _ h => h) (Or.inl ⟨by rfl, ?_⟩) ?_ ?_
        rotate_left
        · intro w'
          go_simp
          with_reducible rfl
        rotate_left
        · simp only [Act.put, List.setIfInBounds_toArray, List.set_cons_zero, List.set_cons_succ, i64_w, i32_w]
          rfl
        refine pure_ (i := 2) (N := some 31) (v := ?_) (a' := ?_) #[true, true, true, false, false, false, false, false, false, false, false, false, false, false, false, false, false] rfl rfl (by kernel_rfl) (fun _ _ _ h => h) (Or.inl ⟨by rfl, ?_⟩) ?_ ?_
        rotate_left
        · intro w'
          go_simp
          with_reducible rfl
        rotate_left
        · simp only [Act.put, List.setIfInBounds_toArray, List.set_cons_zero, List.set_cons_succ, i64_w, i32_w]
          rfl
        refine pure_ (i := 3) (N := some 32) (v := ?_) (a' := ?_) #[true, true, true, true, false, false, false, false, false, false, false, false, false, false, false, false, false] rfl rfl (by kernel_rfl) (fun _ _ _ h => h) (Or.inl ⟨by rfl, ?_⟩) ?_ ?_
        rotate_left
        · intro w'
          go_simp
          with_reducible rfl
        rotate_left
        · simp only [Act.put, List.setIfInBounds_toArray, List.set_cons_zero, List.set_cons_succ, i64_w, i32_w]
          rfl
        refine pure_ (i := 4) (N := some 33) (v := ?_) (a' := ?_) #[true, true, true, true, true, false, false, false, false, false, false, false, false, false, false, false, false] rfl rfl (by kernel_rfl) (fun _ _ _ h => h) (Or.inl ⟨by rfl, ?_⟩) ?_ ?_
        rotate_left
        · intro w'
          go_simp
          with_reducible rfl
        rotate_left
        · simp only [Act.put, List.setIfInBounds_toArray, List.set_cons_zero, List.set_cons_succ, i64_w, i32_w]
          rfl
        refine pure_ (i := 5) (N := some 34) (v := ?_) (a' := ?_) #[true, true, true, true, true, true, false, false, false, false, false, false, false, false, false, false, false] rfl rfl (by kernel_rfl) (fun _ _ _ h => h) (Or.inl ⟨by rfl, ?_⟩) ?_ ?_
        rotate_left
        · intro w'
          go_simp
          with_reducible rfl
        rotate_left
        · simp only [Act.put, List.setIfInBounds_toArray, List.set_cons_zero, List.set_cons_succ, i64_w, i32_w]
          rfl
        refine pure_ (i := 7) (N := some 36) (v := ?_) (a' := ?_) #[true, true, true, true, true, true, false, true, false, false, false, false, false, false, false, false, false] rfl rfl (by kernel_rfl) (fun _ _ _ h => h) (Or.inl ⟨by rfl, ?_⟩) ?_ ?_
        rotate_left
        · intro w'
          go_simp
          with_reducible rfl
        rotate_left
        · simp only [Act.put, List.setIfInBounds_toArray, List.set_cons_zero, List.set_cons_succ, i64_w, i32_w]
          rfl
        refine pure_ (i := 8) (N := some 37) (v := ?_) (a' := ?_) #[true, true, true, true, true, true, false, true, true, false, false, false, false, false, false, false, false] rfl rfl (by kernel_rfl) (fun _ _ _ h => h) (Or.inl ⟨by rfl, ?_⟩) ?_ ?_
        rotate_left
        · intro w'
          go_simp
          with_reducible rfl
        rotate_left
        · simp only [Act.put, List.setIfInBounds_toArray, List.set_cons_zero, List.set_cons_succ, i64_w, i32_w]
          rfl
        refine pure_ (i := 9) (N := some 38) (v := ?_) (a' := ?_) #[true, true, true, true, true, true, false, true, true, true, false, false, false, false, false, false, false] rfl rfl (by kernel_rfl) (fun _ _ _ h => h) (Or.inl ⟨by rfl, ?_⟩) ?_ ?_
        rotate_left
        · intro w'
          go_simp
          with_reducible rfl
        rotate_left
        · simp only [Act.put, List.setIfInBounds_toArray, List.set_cons_zero, List.set_cons_succ, i64_w, i32_w]
          rfl
        refine pure_ (i := 11) (N := some 40) (v := ?_) (a' := ?_) #[true, true, true, true, true, true, false, true, true, true, false, true, false, false, false, false, false] rfl rfl (by kernel_rfl) (fun _ _ _ h => h) (Or.inl ⟨by rfl, ?_⟩) ?_ ?_
        rotate_left
        · intro w'
          go_simp
          with_reducible rfl
        rotate_left
        · simp only [Act.put, List.setIfInBounds_toArray, List.set_cons_zero, List.set_cons_succ, i64_w, i32_w]
          rfl
        refine pure_ (i := 14) (N := some 43) (v := ?_) (a' := ?_) #[true, true, true, true, true, true, false, true, true, true, false, true, false, false, true, false, false] rfl rfl (by kernel_rfl) (fun _ _ _ h => h) (Or.inl ⟨by rfl, ?_⟩) ?_ ?_
        rotate_left
        · intro w'
          go_simp
          with_reducible rfl
        rotate_left
        · simp only [Act.put, List.setIfInBounds_toArray, List.set_cons_zero, List.set_cons_succ, i64_w, i32_w]
          rfl
        refine take_ (i := 6) (N := some 35) (v := ?_) (a' := ?_) #[true, true, true, true, true, true, true, true, true, true, false, true, false, false, true, false, false] rfl rfl (by kernel_rfl) (fun _ _ _ h => h) (Or.inl ⟨by rfl, ?_⟩) hHeld ?_ ?_
        rotate_left
        · intro w' hS
          have hcz_1 := cellS49_1 (blk_below HG.out hS)
          go_simp
          with_reducible rfl
        rotate_left
        · simp only [Act.put, List.setIfInBounds_toArray, List.set_cons_zero, List.set_cons_succ, i64_w, i32_w]
          rfl
        refine take_ (i := 10) (N := some 39) (v := ?_) (a' := ?_) #[true, true, true, true, true, true, true, true, true, true, true, true, false, false, true, false, false] rfl rfl (by kernel_rfl) (fun _ _ _ h => h) (Or.inl ⟨by rfl, ?_⟩) hHeld ?_ ?_
        rotate_left
        · intro w' hS
          have hcz_1 := cellS49_1 (blk_below HG.out hS)
          go_simp
          with_reducible rfl
        rotate_left
        · simp only [Act.put, List.setIfInBounds_toArray, List.set_cons_zero, List.set_cons_succ, i64_w, i32_w]
          rfl
        refine pure_ (i := 12) (N := some 41) (v := ?_) (a' := ?_) #[true, true, true, true, true, true, true, true, true, true, true, true, true, false, true, false, false] rfl rfl (by kernel_rfl) (fun _ _ _ h => h) (Or.inl ⟨by rfl, ?_⟩) ?_ ?_
        rotate_left
        · intro w'
          go_simp
          with_reducible rfl
        rotate_left
        · simp only [Act.put, List.setIfInBounds_toArray, List.set_cons_zero, List.set_cons_succ, i64_w, i32_w]
          rfl
        refine pure_ (i := 13) (N := some 42) (v := ?_) (a' := ?_) #[true, true, true, true, true, true, true, true, true, true, true, true, true, true, true, false, false] rfl rfl (by kernel_rfl) (fun _ _ _ h => h) (Or.inl ⟨by rfl, ?_⟩) ?_ ?_
        rotate_left
        · intro w'
          go_simp
          with_reducible rfl
        rotate_left
        · simp only [Act.put, List.setIfInBounds_toArray, List.set_cons_zero, List.set_cons_succ, i64_w, i32_w]
          rfl
        have k2 := blk_drew BK2.out
        have k3 := blk_drew BK3.out
        have hz := below_drew HB.out
        clear HB BK2 BK3 hHeld
        (try clear hcz_0 hcz_1)
        generalize hWD : World.drew _ = WD at k2 k3 hz ⊢
        clear hWD
        have hcw_0 := blk_cell k2 0
        have hcw_1 := blk_cell k2 1
        have hcw_2 := blk_cell k2 2
        have hcw_3 := blk_cell k2 3
        have hcw_4 := blk_cell k2 4
        have hfw_0 := blk_frozen k2 0
        have hfw_1 := blk_frozen k2 1
        have hfw_2 := blk_frozen k2 2
        have hfw_3 := blk_frozen k2 3
        have hfw_4 := blk_frozen k2 4
        simp only [List.getElem?_toArray, List.getElem?_cons_zero, List.getElem?_cons_succ] at hcw_0 hcw_1 hcw_2 hcw_3 hcw_4
        refine one_ (i := 15) (N := none) #[true, true, true, true, true, true, true, true, true, true, true, true, true, true, true, true, false] rfl rfl (by kernel_rfl) (by decide) (fun K hK => ?_)
        refine skip_ (w1 := ?_) (by rfl) rfl ?_ ?_
        rotate_left
        · go_simp
          rfl
        refine hK.out _ _ (set5 (.int .u8 4) (.string (r.extract 0 1)) (.int .u64 0) (.int .i64 (at_ : Int)) (.int .i64 ((at_ : Int) + 1)) hz GE2.out) (fun hHeld => ?_)
        clear hK K hHeld
        clear hcw_0 hfw_0 hcw_1 hfw_1 hcw_2 hfw_2 hcw_3 hfw_3 hcw_4 hfw_4
        have t2 := put5 (.int .u8 4) (.string (r.extract 0 1)) (.int .u64 0) (.int .i64 (at_ : Int)) (.int .i64 ((at_ : Int) + 1)) k2
        have t3 := far5 hne.symm (.int .u8 4) (.string (r.extract 0 1)) (.int .u64 0) (.int .i64 (at_ : Int)) (.int .i64 ((at_ : Int) + 1)) k3
        have tz := set5 (.int .u8 4) (.string (r.extract 0 1)) (.int .u64 0) (.int .i64 (at_ : Int)) (.int .i64 ((at_ : Int) + 1)) hz GE2.out
        clear k2 k3 hz
        obtain ⟨Z1, hZ1⟩ : ∃ Z, (((((WD).setCell ⟨gb2, 0, none⟩ (.int .u8 4)).setCell ⟨gb2, 1, none⟩ (.string (r.extract 0 1))).setCell ⟨gb2, 2, none⟩ (.int .u64 0)).setCell ⟨gb2, 3, none⟩ (.int .i64 (at_ : Int))).setCell ⟨gb2, 4, none⟩ (.int .i64 ((at_ : Int) + 1)) = Z := ⟨_, rfl⟩
        rw [hZ1] at t2 t3 tz ⊢
        clear hZ1
        have k2 := t2; have k3 := t3; have hz := tz; clear t2 t3 tz
        have hcw_0 := blk_cell k3 0
        have hcw_1 := blk_cell k3 1
        have hfw_0 := blk_frozen k3 0
        have hfw_1 := blk_frozen k3 1
        simp only [List.getElem?_toArray, List.getElem?_cons_zero, List.getElem?_cons_succ] at hcw_0 hcw_1
        refine one_ (i := 16) (N := none) #[true, true, true, true, true, true, true, true, true, true, true, true, true, true, true, true, true] rfl rfl (by kernel_rfl) (by decide) (fun K hK => ?_)
        refine skip_ (w1 := ?_) (by rfl) rfl ?_ ?_
        rotate_left
        · go_simp
          rfl
        refine hK.out _ _ (set2 (.int .i64 0) (.int .i64 0) hz GE3.out) (fun hHeld => ?_)
        clear hK K hHeld
        clear hcw_0 hfw_0 hcw_1 hfw_1
        have t3 := put2 (.int .i64 0) (.int .i64 0) k3
        have t2 := far2 hne (.int .i64 0) (.int .i64 0) k2
        have tz := set2 (.int .i64 0) (.int .i64 0) hz GE3.out
        clear k2 k3 hz
        obtain ⟨Z2, hZ2⟩ : ∃ Z, ((Z1).setCell ⟨gb3, 0, none⟩ (.int .i64 0)).setCell ⟨gb3, 1, none⟩ (.int .i64 0) = Z := ⟨_, rfl⟩
        rw [hZ2] at t2 t3 tz ⊢
        clear hZ2
        have k2 := t2; have k3 := t3; have hz := tz; clear t2 t3 tz
        refine done_ (by kernel_rfl) ?_
        go_wp2
        refine bodyPost_ret (results_cc rfl _ _ gb2 gb3 31 51 _ _ (0, 0) (0, 0) _ _ rfl k2 Try.underlying31 rfl (by kernel_rfl) rfl k3 Try.underlying51 rfl (by kernel_rfl)) rfl ?_
        exact ⟨(by rw [HSG.out, if_pos hm]; show _ = _; rw [← str_eq (x := r.extract 0 1) (t := [c]) (by rw [Lib.extract_data, List.drop_zero, HRD.out, HC.out]; rfl)]; simp), hz⟩
      · have hx0 : ¬ 0 ≤ x := fun h => hm (hxm.1 h)
        have d1 : decide (x ≥ 0) = false := decide_eq_false hx0
        have d2 : decide (0 ≤ x) = false := decide_eq_false hx0
        clear hxm hx0
        go_enter Try.func59, Try.ntmps59
        go_upto_region 3 with (first
          | ((with_reducible refine gate_dst (N := 2) rfl ?_); refine box_event ?hg (N := 2) ?hd (cs := #[.int .u8 0, .string (⟨#[]⟩ : ByteArray), .int .u64 0, .int .i64 0, .int .i64 0]) (t := 31) ?hr ?_; (case hd => rfl); (case hg => rfl); (case hr => first | (go_simp; done) | (go_simp; rfl)); intro gb2 hg_ wb2 hbox hb_; have GE2 := Aside0.mk ((by rw [hg_]; exact (below_size (by repeat (first | (with_reducible first | exact HB.out | apply below_alloc | apply pw_below_drewN | apply below_drew1 | apply below_drew) | exact HB.out)))) : w.heap.size ≤ gb2); have tHB_ := Aside0.mk (below_step (by repeat (first | (with_reducible first | exact HB.out | apply below_alloc | apply pw_below_drewN | apply below_drew1 | apply below_drew) | exact HB.out)) hb_); clear HB; have HB := tHB_; clear tHB_; have BK2 := Aside0.mk hbox; have HG2 := Aside0.mk hg_; have DB2 := Aside0.mk hb_; clear hbox hg_ hb_; (try clear hcz_0); (try clear hcz_1); have hcz_0 := cellS49_0 (blk_below HG.out HB.out); have hcz_1 := cellS49_1 (blk_below HG.out HB.out))
          | ((with_reducible refine gate_dst (N := 3) rfl ?_); have HLT2 := Aside0.mk (blk_lt BK2.out); refine box_event ?hg (N := 3) ?hd (cs := #[.int .i64 0, .int .i64 0]) (t := 51) ?hr ?_; (case hd => rfl); (case hg => rfl); (case hr => first | (go_simp; done) | (go_simp; rfl)); intro gb3 hg_ wb3 hbox hb_; have GE3 := Aside0.mk ((by rw [hg_]; exact (below_size (by repeat (first | (with_reducible first | exact HB.out | apply below_alloc | apply pw_below_drewN | apply below_drew1 | apply below_drew) | exact HB.out)))) : w.heap.size ≤ gb3); have tHB_ := Aside0.mk (below_step (by repeat (first | (with_reducible first | exact HB.out | apply below_alloc | apply pw_below_drewN | apply below_drew1 | apply below_drew) | exact HB.out)) hb_); have bk2_ := Aside0.mk (blk_below (g := gb2) (o := .cells #[.int .u8 0, .string (⟨#[]⟩ : ByteArray), .int .u64 0, .int .i64 0, .int .i64 0] 31 (0, 0)) (by (with_reducible repeat (first | refine blk_drewN ?_ _ | refine blk_drew ?_ | refine blk_alloc ?_ _)); exact BK2.out) hb_); clear BK2; have BK2 := bk2_; clear bk2_; clear HB; have HB := tHB_; clear tHB_; have BK3 := Aside0.mk hbox; have HG3 := Aside0.mk hg_; have DB3 := Aside0.mk hb_; clear hbox hg_ hb_; (try clear hcz_0); (try clear hcz_1); have hcz_0 := cellS49_0 (blk_below HG.out HB.out); have hcz_1 := cellS49_1 (blk_below HG.out HB.out))
          | (go_at_call 56; (with_reducible refine (rest_q s r g at_ (Nat.le_of_lt HLT.out) HR.out _ (blk_below HG.out (by repeat (first | (with_reducible first | exact HB.out | apply below_alloc | apply pw_below_drewN | apply below_drew1 | apply below_drew) | exact HB.out)))).mono ?_); rintro e wc ⟨rfl, hd_⟩; have hb_ := drawn_below hd_; clear hd_; have tHB_ := Aside0.mk (below_step (by repeat (first | (with_reducible first | exact HB.out | apply below_alloc | apply pw_below_drewN | apply below_drew1 | apply below_drew) | exact HB.out)) hb_); have bk2_ := Aside0.mk (blk_below (g := gb2) (o := .cells #[.int .u8 0, .string (⟨#[]⟩ : ByteArray), .int .u64 0, .int .i64 0, .int .i64 0] 31 (0, 0)) (by (with_reducible repeat (first | refine blk_drewN ?_ _ | refine blk_drew ?_ | refine blk_alloc ?_ _)); exact BK2.out) hb_); clear BK2; have BK2 := bk2_; clear bk2_; have bk2_ := Aside0.mk (blk_below (g := gb3) (o := .cells #[.int .i64 0, .int .i64 0] 51 (0, 0)) (by (with_reducible repeat (first | refine blk_drewN ?_ _ | refine blk_drew ?_ | refine blk_alloc ?_ _)); exact BK3.out) hb_); clear BK3; have BK3 := bk2_; clear bk2_; clear HB; have HB := tHB_; clear tHB_; (try clear hcz2_0); (try clear hcz2_1); (try clear hcz2_2); (try clear hcz2_3); (try clear hcz2_4); (try clear hcz3_0); (try clear hcz3_1); (try clear hb_); (try clear hcz_0); (try clear hcz_1); have hcz_0 := cellS49_0 (blk_below HG.out HB.out); have hcz_1 := cellS49_1 (blk_below HG.out HB.out))
          | (go_at_call 40; (with_reducible refine (among_t 9 (r.extract 0 2) _ 8 twoS 8 rfl false _ (rd_two _) (by decide) HT.out).mono ?_); rintro e wc ⟨rfl, hd_⟩; have hb_ := drawn_below hd_; clear hd_; have tHB_ := Aside0.mk (below_step (by repeat (first | (with_reducible first | exact HB.out | apply below_alloc | apply pw_below_drewN | apply below_drew1 | apply below_drew) | exact HB.out)) hb_); have bk2_ := Aside0.mk (blk_below (g := gb2) (o := .cells #[.int .u8 0, .string (⟨#[]⟩ : ByteArray), .int .u64 0, .int .i64 0, .int .i64 0] 31 (0, 0)) (by (with_reducible repeat (first | refine blk_drewN ?_ _ | refine blk_drew ?_ | refine blk_alloc ?_ _)); exact BK2.out) hb_); clear BK2; have BK2 := bk2_; clear bk2_; have bk2_ := Aside0.mk (blk_below (g := gb3) (o := .cells #[.int .i64 0, .int .i64 0] 51 (0, 0)) (by (with_reducible repeat (first | refine blk_drewN ?_ _ | refine blk_drew ?_ | refine blk_alloc ?_ _)); exact BK3.out) hb_); clear BK3; have BK3 := bk2_; clear bk2_; clear HB; have HB := tHB_; clear tHB_; (try clear hcz2_0); (try clear hcz2_1); (try clear hcz2_2); (try clear hcz2_3); (try clear hcz2_4); (try clear hcz3_0); (try clear hcz3_1); (try clear hb_); (try clear hcz_0); (try clear hcz_1); have hcz_0 := cellS49_0 (blk_below HG.out HB.out); have hcz_1 := cellS49_1 (blk_below HG.out HB.out))
          | (go_at_call 32; (with_reducible refine (strings_IndexByte.calls (⟨#[40, 41, 123, 125, 91, 93, 44, 59, 58, 46, 43, 45, 42, 47, 37, 38, 124, 94, 126, 33, 60, 62, 61]⟩ : ByteArray) q x _ HX.out).mono ?_); rintro e wc ⟨rfl, hd_⟩; have hb_ := drawn_below hd_; clear hd_; have tHB_ := Aside0.mk (below_step (by repeat (first | (with_reducible first | exact HB.out | apply below_alloc | apply pw_below_drewN | apply below_drew1 | apply below_drew) | exact HB.out)) hb_); have bk2_ := Aside0.mk (blk_below (g := gb2) (o := .cells #[.int .u8 0, .string (⟨#[]⟩ : ByteArray), .int .u64 0, .int .i64 0, .int .i64 0] 31 (0, 0)) (by (with_reducible repeat (first | refine blk_drewN ?_ _ | refine blk_drew ?_ | refine blk_alloc ?_ _)); exact BK2.out) hb_); clear BK2; have BK2 := bk2_; clear bk2_; have bk2_ := Aside0.mk (blk_below (g := gb3) (o := .cells #[.int .i64 0, .int .i64 0] 51 (0, 0)) (by (with_reducible repeat (first | refine blk_drewN ?_ _ | refine blk_drew ?_ | refine blk_alloc ?_ _)); exact BK3.out) hb_); clear BK3; have BK3 := bk2_; clear bk2_; clear HB; have HB := tHB_; clear tHB_; (try clear hcz2_0); (try clear hcz2_1); (try clear hcz2_2); (try clear hcz2_3); (try clear hcz2_4); (try clear hcz3_0); (try clear hcz3_1); (try clear hb_); (try clear hcz_0); (try clear hcz_1); have hcz_0 := cellS49_0 (blk_below HG.out HB.out); have hcz_1 := cellS49_1 (blk_below HG.out HB.out)))
        have hne : gb2 ≠ gb3 := by rw [HG3.out]; exact Nat.ne_of_lt HLT2.out
        refine start_ (n := 8) (S := fun w' => Below w.heap.size w w') (ds := []) #[false, false, false, false, false, false, false, false] (by kernel_rfl) rfl rfl (below_drew HB.out) (fun hHeld => ?_)
        refine pure_ (i := 0) (N := some 8) (v := ?_) (a' := ?_) #[true, false, false, false, false, false, false, false] rfl rfl (by kernel_rfl) (fun _ _ _ h => h) (Or.inl ⟨by rfl, ?_⟩) ?_ ?_
        rotate_left
        · intro w'
          go_simp
          with_reducible rfl
        rotate_left
        · simp only [Act.put, List.setIfInBounds_toArray, List.set_cons_zero, List.set_cons_succ, i64_w, i32_w]
          rfl
        refine pure_ (i := 1) (N := some 9) (v := ?_) (a' := ?_) #[true, true, false, false, false, false, false, false] rfl rfl (by kernel_rfl) (fun _ _ _ h => h) (Or.inl ⟨by rfl, ?_⟩) ?_ ?_
        rotate_left
        · intro w'
          go_simp
          with_reducible rfl
        rotate_left
        · simp only [Act.put, List.setIfInBounds_toArray, List.set_cons_zero, List.set_cons_succ, i64_w, i32_w]
          rfl
        refine pure_ (i := 2) (N := some 10) (v := ?_) (a' := ?_) #[true, true, true, false, false, false, false, false] rfl rfl (by kernel_rfl) (fun _ _ _ h => h) (Or.inl ⟨by rfl, ?_⟩) ?_ ?_
        rotate_left
        · intro w'
          go_simp
          with_reducible rfl
        rotate_left
        · simp only [Act.put, List.setIfInBounds_toArray, List.set_cons_zero, List.set_cons_succ, i64_w, i32_w]
          rfl
        refine pure_ (i := 3) (N := some 11) (v := ?_) (a' := ?_) #[true, true, true, true, false, false, false, false] rfl rfl (by kernel_rfl) (fun _ _ _ h => h) (Or.inl ⟨by rfl, ?_⟩) ?_ ?_
        rotate_left
        · intro w'
          go_simp
          with_reducible rfl
        rotate_left
        · simp only [Act.put, List.setIfInBounds_toArray, List.set_cons_zero, List.set_cons_succ, i64_w, i32_w]
          rfl
        refine take_ (i := 4) (N := some 12) (v := ?_) (a' := ?_) #[true, true, true, true, true, false, false, false] rfl rfl (by kernel_rfl) (fun _ _ _ h => h) (Or.inl ⟨by rfl, ?_⟩) hHeld ?_ ?_
        rotate_left
        · intro w' hS
          have hcz_1 := cellS49_1 (blk_below HG.out hS)
          go_simp
          with_reducible rfl
        rotate_left
        · simp only [Act.put, List.setIfInBounds_toArray, List.set_cons_zero, List.set_cons_succ, i64_w, i32_w]
          rfl
        refine pure_ (i := 5) (N := some 13) (v := ?_) (a' := ?_) #[true, true, true, true, true, true, false, false] rfl rfl (by kernel_rfl) (fun _ _ _ h => h) (Or.inl ⟨by rfl, ?_⟩) ?_ ?_
        rotate_left
        · intro w'
          go_simp
          with_reducible rfl
        rotate_left
        · simp only [Act.put, List.setIfInBounds_toArray, List.set_cons_zero, List.set_cons_succ, i64_w, i32_w]
          rfl
        have k2 := blk_drew BK2.out
        have k3 := blk_drew BK3.out
        have hz := below_drew HB.out
        clear HB BK2 BK3 hHeld
        (try clear hcz_0 hcz_1)
        generalize hWD : World.drew _ = WD at k2 k3 hz ⊢
        clear hWD
        have hcw_0 := blk_cell k2 0
        have hcw_1 := blk_cell k2 1
        have hcw_2 := blk_cell k2 2
        have hcw_3 := blk_cell k2 3
        have hcw_4 := blk_cell k2 4
        have hfw_0 := blk_frozen k2 0
        have hfw_1 := blk_frozen k2 1
        have hfw_2 := blk_frozen k2 2
        have hfw_3 := blk_frozen k2 3
        have hfw_4 := blk_frozen k2 4
        simp only [List.getElem?_toArray, List.getElem?_cons_zero, List.getElem?_cons_succ] at hcw_0 hcw_1 hcw_2 hcw_3 hcw_4
        refine one_ (i := 6) (N := none) #[true, true, true, true, true, true, true, false] rfl rfl (by kernel_rfl) (by decide) (fun K hK => ?_)
        refine skip_ (w1 := ?_) (by rfl) rfl ?_ ?_
        rotate_left
        · go_simp
          rfl
        refine hK.out _ _ (set5 (.int .u8 0) (.string (⟨#[]⟩ : ByteArray)) (.int .u64 0) (.int .i64 0) (.int .i64 0) hz GE2.out) (fun hHeld => ?_)
        clear hK K hHeld
        clear hcw_0 hfw_0 hcw_1 hfw_1 hcw_2 hfw_2 hcw_3 hfw_3 hcw_4 hfw_4
        have t2 := put5 (.int .u8 0) (.string (⟨#[]⟩ : ByteArray)) (.int .u64 0) (.int .i64 0) (.int .i64 0) k2
        have t3 := far5 hne.symm (.int .u8 0) (.string (⟨#[]⟩ : ByteArray)) (.int .u64 0) (.int .i64 0) (.int .i64 0) k3
        have tz := set5 (.int .u8 0) (.string (⟨#[]⟩ : ByteArray)) (.int .u64 0) (.int .i64 0) (.int .i64 0) hz GE2.out
        clear k2 k3 hz
        obtain ⟨Z1, hZ1⟩ : ∃ Z, (((((WD).setCell ⟨gb2, 0, none⟩ (.int .u8 0)).setCell ⟨gb2, 1, none⟩ (.string (⟨#[]⟩ : ByteArray))).setCell ⟨gb2, 2, none⟩ (.int .u64 0)).setCell ⟨gb2, 3, none⟩ (.int .i64 0)).setCell ⟨gb2, 4, none⟩ (.int .i64 0) = Z := ⟨_, rfl⟩
        rw [hZ1] at t2 t3 tz ⊢
        clear hZ1
        have k2 := t2; have k3 := t3; have hz := tz; clear t2 t3 tz
        have hcw_0 := blk_cell k3 0
        have hcw_1 := blk_cell k3 1
        have hfw_0 := blk_frozen k3 0
        have hfw_1 := blk_frozen k3 1
        simp only [List.getElem?_toArray, List.getElem?_cons_zero, List.getElem?_cons_succ] at hcw_0 hcw_1
        refine one_ (i := 7) (N := none) #[true, true, true, true, true, true, true, true] rfl rfl (by kernel_rfl) (by decide) (fun K hK => ?_)
        refine skip_ (w1 := ?_) (by rfl) rfl ?_ ?_
        rotate_left
        · go_simp
          rfl
        refine hK.out _ _ (set2 (.int .i64 (at_ : Int)) (.int .i64 30) hz GE3.out) (fun hHeld => ?_)
        clear hK K hHeld
        clear hcw_0 hfw_0 hcw_1 hfw_1
        have t3 := put2 (.int .i64 (at_ : Int)) (.int .i64 30) k3
        have t2 := far2 hne (.int .i64 (at_ : Int)) (.int .i64 30) k2
        have tz := set2 (.int .i64 (at_ : Int)) (.int .i64 30) hz GE3.out
        clear k2 k3 hz
        obtain ⟨Z2, hZ2⟩ : ∃ Z, ((Z1).setCell ⟨gb3, 0, none⟩ (.int .i64 (at_ : Int))).setCell ⟨gb3, 1, none⟩ (.int .i64 30) = Z := ⟨_, rfl⟩
        rw [hZ2] at t2 t3 tz ⊢
        clear hZ2
        have k2 := t2; have k3 := t3; have hz := tz; clear t2 t3 tz
        refine done_ (by kernel_rfl) ?_
        go_wp2
        refine bodyPost_ret (results_cc rfl _ _ gb2 gb3 31 51 _ _ (0, 0) (0, 0) _ _ rfl k2 Try.underlying31 rfl (by kernel_rfl) rfl k3 Try.underlying51 rfl (by kernel_rfl)) rfl ?_
        exact ⟨(by rw [HSG.out, if_neg hm]; exact ⟨0, ⟨#[]⟩, 0, 0, 0, by simp⟩), hz⟩
  · have c1 : decide ((r.size : Int) > 1) = false := decide_eq_false (by omega)
    have c2 : decide (1 < r.size) = false := decide_eq_false h1
    have c3 : decide ((1 : Int) < (r.size : Int)) = false := decide_eq_false (by omega)
    have hsg : sgn (D s at_) = if c ∈ ones then .ok 4 [c] 0 1 else .bad 0 30 := by rw [hc]; unfold sgn; rw [if_neg (fun h => h1 (by rw [size_len, hrd, hc]; exact h.1))]
    have HRS := Aside0.mk hrs
    have HRD := Aside0.mk hrd
    have HC := Aside0.mk hc
    obtain ⟨q, hq⟩ : ∃ q : Int, q = (c.toNat : Int) := ⟨_, rfl⟩
    have hr0 : ∀ h : 0 < r.size, (((r[0]'h).toNat : Nat) : Int) = q := fun h => by rw [hq, ← bt_first hrd hc]; simp [bt, h]
    have hs0 : (0 < r.size) = True := eq_true (by have := HLT.out; omega)
    have HQ := Aside0.mk hq
    have bq0 : 0 ≤ q := by omega
    have bq1 : q ≤ 255 := by have := c.toNat_lt; omega
    clear hrs hrd hc hbt hq
    have HSG := Aside0.mk hsg
    have HT := Aside0.mk trivial
    clear hsg
    obtain ⟨x, hx⟩ : ∃ x, strings_IndexByte.f (⟨#[40, 41, 123, 125, 91, 93, 44, 59, 58, 46, 43, 45, 42, 47, 37, 38, 124, 94, 126, 33, 60, 62, 61]⟩ : ByteArray) q = some x := ⟨_, rfl⟩
    have hxm : 0 ≤ x ↔ c ∈ ones := by rw [ones_index HQ.out hx]; exact index_mem _ _
    have HX := Aside0.mk hx
    have h1' : ((1 : Nat) ≤ r.size) = True := eq_true (by have := of_eq_true hs0; omega)
    have b6 : (1 : Int) ≤ (r.size : Int) := by have := of_eq_true hs0; omega
    clear hx
    by_cases hm : c ∈ ones
    · have hx0 := hxm.2 hm
      have d1 : decide (x ≥ 0) = true := decide_eq_true hx0
      have d2 : decide (0 ≤ x) = true := decide_eq_true hx0
      have hw1 : IntKind.i64.wrap ((at_ : Int) + 1) = (at_ : Int) + 1 := by rw [i64_w, w64 (by omega) (by omega)]
      clear hxm hx0
      go_enter Try.func59, Try.ntmps59
      go_upto_region 8 with (first
        | ((with_reducible refine gate_dst (N := 2) rfl ?_); refine box_event ?hg (N := 2) ?hd (cs := #[.int .u8 0, .string (⟨#[]⟩ : ByteArray), .int .u64 0, .int .i64 0, .int .i64 0]) (t := 31) ?hr ?_; (case hd => rfl); (case hg => rfl); (case hr => first | (go_simp; done) | (go_simp; rfl)); intro gb2 hg_ wb2 hbox hb_; have GE2 := Aside0.mk ((by rw [hg_]; exact (below_size (by repeat (first | (with_reducible first | exact HB.out | apply below_alloc | apply pw_below_drewN | apply below_drew1 | apply below_drew) | exact HB.out)))) : w.heap.size ≤ gb2); have tHB_ := Aside0.mk (below_step (by repeat (first | (with_reducible first | exact HB.out | apply below_alloc | apply pw_below_drewN | apply below_drew1 | apply below_drew) | exact HB.out)) hb_); clear HB; have HB := tHB_; clear tHB_; have BK2 := Aside0.mk hbox; have HG2 := Aside0.mk hg_; have DB2 := Aside0.mk hb_; clear hbox hg_ hb_; (try clear hcz_0); (try clear hcz_1); have hcz_0 := cellS49_0 (blk_below HG.out HB.out); have hcz_1 := cellS49_1 (blk_below HG.out HB.out))
        | ((with_reducible refine gate_dst (N := 3) rfl ?_); have HLT2 := Aside0.mk (blk_lt BK2.out); refine box_event ?hg (N := 3) ?hd (cs := #[.int .i64 0, .int .i64 0]) (t := 51) ?hr ?_; (case hd => rfl); (case hg => rfl); (case hr => first | (go_simp; done) | (go_simp; rfl)); intro gb3 hg_ wb3 hbox hb_; have GE3 := Aside0.mk ((by rw [hg_]; exact (below_size (by repeat (first | (with_reducible first | exact HB.out | apply below_alloc | apply pw_below_drewN | apply below_drew1 | apply below_drew) | exact HB.out)))) : w.heap.size ≤ gb3); have tHB_ := Aside0.mk (below_step (by repeat (first | (with_reducible first | exact HB.out | apply below_alloc | apply pw_below_drewN | apply below_drew1 | apply below_drew) | exact HB.out)) hb_); have bk2_ := Aside0.mk (blk_below (g := gb2) (o := .cells #[.int .u8 0, .string (⟨#[]⟩ : ByteArray), .int .u64 0, .int .i64 0, .int .i64 0] 31 (0, 0)) (by (with_reducible repeat (first | refine blk_drewN ?_ _ | refine blk_drew ?_ | refine blk_alloc ?_ _)); exact BK2.out) hb_); clear BK2; have BK2 := bk2_; clear bk2_; clear HB; have HB := tHB_; clear tHB_; have BK3 := Aside0.mk hbox; have HG3 := Aside0.mk hg_; have DB3 := Aside0.mk hb_; clear hbox hg_ hb_; (try clear hcz_0); (try clear hcz_1); have hcz_0 := cellS49_0 (blk_below HG.out HB.out); have hcz_1 := cellS49_1 (blk_below HG.out HB.out))
        | (go_at_call 56; (with_reducible refine (rest_q s r g at_ (Nat.le_of_lt HLT.out) HR.out _ (blk_below HG.out (by repeat (first | (with_reducible first | exact HB.out | apply below_alloc | apply pw_below_drewN | apply below_drew1 | apply below_drew) | exact HB.out)))).mono ?_); rintro e wc ⟨rfl, hd_⟩; have hb_ := drawn_below hd_; clear hd_; have tHB_ := Aside0.mk (below_step (by repeat (first | (with_reducible first | exact HB.out | apply below_alloc | apply pw_below_drewN | apply below_drew1 | apply below_drew) | exact HB.out)) hb_); have bk2_ := Aside0.mk (blk_below (g := gb2) (o := .cells #[.int .u8 0, .string (⟨#[]⟩ : ByteArray), .int .u64 0, .int .i64 0, .int .i64 0] 31 (0, 0)) (by (with_reducible repeat (first | refine blk_drewN ?_ _ | refine blk_drew ?_ | refine blk_alloc ?_ _)); exact BK2.out) hb_); clear BK2; have BK2 := bk2_; clear bk2_; have bk2_ := Aside0.mk (blk_below (g := gb3) (o := .cells #[.int .i64 0, .int .i64 0] 51 (0, 0)) (by (with_reducible repeat (first | refine blk_drewN ?_ _ | refine blk_drew ?_ | refine blk_alloc ?_ _)); exact BK3.out) hb_); clear BK3; have BK3 := bk2_; clear bk2_; clear HB; have HB := tHB_; clear tHB_; (try clear hcz2_0); (try clear hcz2_1); (try clear hcz2_2); (try clear hcz2_3); (try clear hcz2_4); (try clear hcz3_0); (try clear hcz3_1); (try clear hb_); (try clear hcz_0); (try clear hcz_1); have hcz_0 := cellS49_0 (blk_below HG.out HB.out); have hcz_1 := cellS49_1 (blk_below HG.out HB.out))
        | (go_at_call 32; (with_reducible refine (strings_IndexByte.calls (⟨#[40, 41, 123, 125, 91, 93, 44, 59, 58, 46, 43, 45, 42, 47, 37, 38, 124, 94, 126, 33, 60, 62, 61]⟩ : ByteArray) q x _ HX.out).mono ?_); rintro e wc ⟨rfl, hd_⟩; have hb_ := drawn_below hd_; clear hd_; have tHB_ := Aside0.mk (below_step (by repeat (first | (with_reducible first | exact HB.out | apply below_alloc | apply pw_below_drewN | apply below_drew1 | apply below_drew) | exact HB.out)) hb_); have bk2_ := Aside0.mk (blk_below (g := gb2) (o := .cells #[.int .u8 0, .string (⟨#[]⟩ : ByteArray), .int .u64 0, .int .i64 0, .int .i64 0] 31 (0, 0)) (by (with_reducible repeat (first | refine blk_drewN ?_ _ | refine blk_drew ?_ | refine blk_alloc ?_ _)); exact BK2.out) hb_); clear BK2; have BK2 := bk2_; clear bk2_; have bk2_ := Aside0.mk (blk_below (g := gb3) (o := .cells #[.int .i64 0, .int .i64 0] 51 (0, 0)) (by (with_reducible repeat (first | refine blk_drewN ?_ _ | refine blk_drew ?_ | refine blk_alloc ?_ _)); exact BK3.out) hb_); clear BK3; have BK3 := bk2_; clear bk2_; clear HB; have HB := tHB_; clear tHB_; (try clear hcz2_0); (try clear hcz2_1); (try clear hcz2_2); (try clear hcz2_3); (try clear hcz2_4); (try clear hcz3_0); (try clear hcz3_1); (try clear hb_); (try clear hcz_0); (try clear hcz_1); have hcz_0 := cellS49_0 (blk_below HG.out HB.out); have hcz_1 := cellS49_1 (blk_below HG.out HB.out)))
      have hne : gb2 ≠ gb3 := by rw [HG3.out]; exact Nat.ne_of_lt HLT2.out
      refine start_ (n := 17) (S := fun w' => Below w.heap.size w w') (ds := []) #[false, false, false, false, false, false, false, false, false, false, false, false, false, false, false, false, false] (by kernel_rfl) rfl rfl (below_drew HB.out) (fun hHeld => ?_)
      refine pure_ (i := 0) (N := some 29) (v := ?_) (a' := ?_) #[true, false, false, false, false, false, false, false, false, false, false, false, false, false, false, false, false] rfl rfl (by kernel_rfl) (fun _ _ _ h => h) (Or.inl ⟨by rfl, ?_⟩) ?_ ?_
      rotate_left
      · intro w'
        go_simp
        with_reducible rfl
      rotate_left
      · simp only [Act.put, List.setIfInBounds_toArray, List.set_cons_zero, List.set_cons_succ, i64_w, i32_w]
        rfl
      refine pure_ (i := 1) (N := some 30) (v := ?_) (a' := ?_) #[true, true, false, false, false, false, false, false, false, false, false, false, false, false, false, false, false] rfl rfl (by kernel_rfl) (fun _ _ _ h => h) (Or.inl ⟨by rfl, ?_⟩) ?_ ?_
      rotate_left
      · intro w'
        go_simp
        with_reducible rfl
      rotate_left
      · simp only [Act.put, List.setIfInBounds_toArray, List.set_cons_zero, List.set_cons_succ, i64_w, i32_w]
        rfl
      refine pure_ (i := 2) (N := some 31) (v := ?_) (a' := ?_) #[true, true, true, false, false, false, false, false, false, false, false, false, false, false, false, false, false] rfl rfl (by kernel_rfl) (fun _ _ _ h => h) (Or.inl ⟨by rfl, ?_⟩) ?_ ?_
      rotate_left
      · intro w'
        go_simp
        with_reducible rfl
      rotate_left
      · simp only [Act.put, List.setIfInBounds_toArray, List.set_cons_zero, List.set_cons_succ, i64_w, i32_w]
        rfl
      refine pure_ (i := 3) (N := some 32) (v := ?_) (a' := ?_) #[true, true, true, true, false, false, false, false, false, false, false, false, false, false, false, false, false] rfl rfl (by kernel_rfl) (fun _ _ _ h => h) (Or.inl ⟨by rfl, ?_⟩) ?_ ?_
      rotate_left
      · intro w'
        go_simp
        with_reducible rfl
      rotate_left
      · simp only [Act.put, List.setIfInBounds_toArray, List.set_cons_zero, List.set_cons_succ, i64_w, i32_w]
        rfl
      refine pure_ (i := 4) (N := some 33) (v := ?_) (a' := ?_) #[true, true, true, true, true, false, false, false, false, false, false, false, false, false, false, false, false] rfl rfl (by kernel_rfl) (fun _ _ _ h => h) (Or.inl ⟨by rfl, ?_⟩) ?_ ?_
      rotate_left
      · intro w'
        go_simp
        with_reducible rfl
      rotate_left
      · simp only [Act.put, List.setIfInBounds_toArray, List.set_cons_zero, List.set_cons_succ, i64_w, i32_w]
        rfl
      refine pure_ (i := 5) (N := some 34) (v := ?_) (a' := ?_) #[true, true, true, true, true, true, false, false, false, false, false, false, false, false, false, false, false] rfl rfl (by kernel_rfl) (fun _ _ _ h => h) (Or.inl ⟨by rfl, ?_⟩) ?_ ?_
      rotate_left
      · intro w'
        go_simp
        with_reducible rfl
      rotate_left
      · simp only [Act.put, List.setIfInBounds_toArray, List.set_cons_zero, List.set_cons_succ, i64_w, i32_w]
        rfl
      refine pure_ (i := 7) (N := some 36) (v := ?_) (a' := ?_) #[true, true, true, true, true, true, false, true, false, false, false, false, false, false, false, false, false] rfl rfl (by kernel_rfl) (fun _ _ _ h => h) (Or.inl ⟨by rfl, ?_⟩) ?_ ?_
      rotate_left
      · intro w'
        go_simp
        with_reducible rfl
      rotate_left
      · simp only [Act.put, List.setIfInBounds_toArray, List.set_cons_zero, List.set_cons_succ, i64_w, i32_w]
        rfl
      refine pure_ (i := 8) (N := some 37) (v := ?_) (a' := ?_) #[true, true, true, true, true, true, false, true, true, false, false, false, false, false, false, false, false] rfl rfl (by kernel_rfl) (fun _ _ _ h => h) (Or.inl ⟨by rfl, ?_⟩) ?_ ?_
      rotate_left
      · intro w'
        go_simp
        with_reducible rfl
      rotate_left
      · simp only [Act.put, List.setIfInBounds_toArray, List.set_cons_zero, List.set_cons_succ, i64_w, i32_w]
        rfl
      refine pure_ (i := 9) (N := some 38) (v := ?_) (a' := ?_) #[true, true, true, true, true, true, false, true, true, true, false, false, false, false, false, false, false] rfl rfl (by kernel_rfl) (fun _ _ _ h => h) (Or.inl ⟨by rfl, ?_⟩) ?_ ?_
      rotate_left
      · intro w'
        go_simp
        with_reducible rfl
      rotate_left
      · simp only [Act.put, List.setIfInBounds_toArray, List.set_cons_zero, List.set_cons_succ, i64_w, i32_w]
        rfl
      refine pure_ (i := 11) (N := some 40) (v := ?_) (a' := ?_) #[true, true, true, true, true, true, false, true, true, true, false, true, false, false, false, false, false] rfl rfl (by kernel_rfl) (fun _ _ _ h => h) (Or.inl ⟨by rfl, ?_⟩) ?_ ?_
      rotate_left
      · intro w'
        go_simp
        with_reducible rfl
      rotate_left
      · simp only [Act.put, List.setIfInBounds_toArray, List.set_cons_zero, List.set_cons_succ, i64_w, i32_w]
        rfl
      refine pure_ (i := 14) (N := some 43) (v := ?_) (a' := ?_) #[true, true, true, true, true, true, false, true, true, true, false, true, false, false, true, false, false] rfl rfl (by kernel_rfl) (fun _ _ _ h => h) (Or.inl ⟨by rfl, ?_⟩) ?_ ?_
      rotate_left
      · intro w'
        go_simp
        with_reducible rfl
      rotate_left
      · simp only [Act.put, List.setIfInBounds_toArray, List.set_cons_zero, List.set_cons_succ, i64_w, i32_w]
        rfl
      refine take_ (i := 6) (N := some 35) (v := ?_) (a' := ?_) #[true, true, true, true, true, true, true, true, true, true, false, true, false, false, true, false, false] rfl rfl (by kernel_rfl) (fun _ _ _ h => h) (Or.inl ⟨by rfl, ?_⟩) hHeld ?_ ?_
      rotate_left
      · intro w' hS
        have hcz_1 := cellS49_1 (blk_below HG.out hS)
        go_simp
        with_reducible rfl
      rotate_left
      · simp only [Act.put, List.setIfInBounds_toArray, List.set_cons_zero, List.set_cons_succ, i64_w, i32_w]
        rfl
      refine take_ (i := 10) (N := some 39) (v := ?_) (a' := ?_) #[true, true, true, true, true, true, true, true, true, true, true, true, false, false, true, false, false] rfl rfl (by kernel_rfl) (fun _ _ _ h => h) (Or.inl ⟨by rfl, ?_⟩) hHeld ?_ ?_
      rotate_left
      · intro w' hS
        have hcz_1 := cellS49_1 (blk_below HG.out hS)
        go_simp
        with_reducible rfl
      rotate_left
      · simp only [Act.put, List.setIfInBounds_toArray, List.set_cons_zero, List.set_cons_succ, i64_w, i32_w]
        rfl
      refine pure_ (i := 12) (N := some 41) (v := ?_) (a' := ?_) #[true, true, true, true, true, true, true, true, true, true, true, true, true, false, true, false, false] rfl rfl (by kernel_rfl) (fun _ _ _ h => h) (Or.inl ⟨by rfl, ?_⟩) ?_ ?_
      rotate_left
      · intro w'
        go_simp
        with_reducible rfl
      rotate_left
      · simp only [Act.put, List.setIfInBounds_toArray, List.set_cons_zero, List.set_cons_succ, i64_w, i32_w]
        rfl
      refine pure_ (i := 13) (N := some 42) (v := ?_) (a' := ?_) #[true, true, true, true, true, true, true, true, true, true, true, true, true, true, true, false, false] rfl rfl (by kernel_rfl) (fun _ _ _ h => h) (Or.inl ⟨by rfl, ?_⟩) ?_ ?_
      rotate_left
      · intro w'
        go_simp
        with_reducible rfl
      rotate_left
      · simp only [Act.put, List.setIfInBounds_toArray, List.set_cons_zero, List.set_cons_succ, i64_w, i32_w]
        rfl
      have k2 := blk_drew BK2.out
      have k3 := blk_drew BK3.out
      have hz := below_drew HB.out
      clear HB BK2 BK3 hHeld
      (try clear hcz_0 hcz_1)
      generalize hWD : World.drew _ = WD at k2 k3 hz ⊢
      clear hWD
      have hcw_0 := blk_cell k2 0
      have hcw_1 := blk_cell k2 1
      have hcw_2 := blk_cell k2 2
      have hcw_3 := blk_cell k2 3
      have hcw_4 := blk_cell k2 4
      have hfw_0 := blk_frozen k2 0
      have hfw_1 := blk_frozen k2 1
      have hfw_2 := blk_frozen k2 2
      have hfw_3 := blk_frozen k2 3
      have hfw_4 := blk_frozen k2 4
      simp only [List.getElem?_toArray, List.getElem?_cons_zero, List.getElem?_cons_succ] at hcw_0 hcw_1 hcw_2 hcw_3 hcw_4
      refine one_ (i := 15) (N := none) #[true, true, true, true, true, true, true, true, true, true, true, true, true, true, true, true, false] rfl rfl (by kernel_rfl) (by decide) (fun K hK => ?_)
      refine skip_ (w1 := ?_) (by rfl) rfl ?_ ?_
      rotate_left
      · go_simp
        rfl
      refine hK.out _ _ (set5 (.int .u8 4) (.string (r.extract 0 1)) (.int .u64 0) (.int .i64 (at_ : Int)) (.int .i64 ((at_ : Int) + 1)) hz GE2.out) (fun hHeld => ?_)
      clear hK K hHeld
      clear hcw_0 hfw_0 hcw_1 hfw_1 hcw_2 hfw_2 hcw_3 hfw_3 hcw_4 hfw_4
      have t2 := put5 (.int .u8 4) (.string (r.extract 0 1)) (.int .u64 0) (.int .i64 (at_ : Int)) (.int .i64 ((at_ : Int) + 1)) k2
      have t3 := far5 hne.symm (.int .u8 4) (.string (r.extract 0 1)) (.int .u64 0) (.int .i64 (at_ : Int)) (.int .i64 ((at_ : Int) + 1)) k3
      have tz := set5 (.int .u8 4) (.string (r.extract 0 1)) (.int .u64 0) (.int .i64 (at_ : Int)) (.int .i64 ((at_ : Int) + 1)) hz GE2.out
      clear k2 k3 hz
      obtain ⟨Z1, hZ1⟩ : ∃ Z, (((((WD).setCell ⟨gb2, 0, none⟩ (.int .u8 4)).setCell ⟨gb2, 1, none⟩ (.string (r.extract 0 1))).setCell ⟨gb2, 2, none⟩ (.int .u64 0)).setCell ⟨gb2, 3, none⟩ (.int .i64 (at_ : Int))).setCell ⟨gb2, 4, none⟩ (.int .i64 ((at_ : Int) + 1)) = Z := ⟨_, rfl⟩
      rw [hZ1] at t2 t3 tz ⊢
      clear hZ1
      have k2 := t2; have k3 := t3; have hz := tz; clear t2 t3 tz
      have hcw_0 := blk_cell k3 0
      have hcw_1 := blk_cell k3 1
      have hfw_0 := blk_frozen k3 0
      have hfw_1 := blk_frozen k3 1
      simp only [List.getElem?_toArray, List.getElem?_cons_zero, List.getElem?_cons_succ] at hcw_0 hcw_1
      refine one_ (i := 16) (N := none) #[true, true, true, true, true, true, true, true, true, true, true, true, true, true, true, true, true] rfl rfl (by kernel_rfl) (by decide) (fun K hK => ?_)
      refine skip_ (w1 := ?_) (by rfl) rfl ?_ ?_
      rotate_left
      · go_simp
        rfl
      refine hK.out _ _ (set2 (.int .i64 0) (.int .i64 0) hz GE3.out) (fun hHeld => ?_)
      clear hK K hHeld
      clear hcw_0 hfw_0 hcw_1 hfw_1
      have t3 := put2 (.int .i64 0) (.int .i64 0) k3
      have t2 := far2 hne (.int .i64 0) (.int .i64 0) k2
      have tz := set2 (.int .i64 0) (.int .i64 0) hz GE3.out
      clear k2 k3 hz
      obtain ⟨Z2, hZ2⟩ : ∃ Z, ((Z1).setCell ⟨gb3, 0, none⟩ (.int .i64 0)).setCell ⟨gb3, 1, none⟩ (.int .i64 0) = Z := ⟨_, rfl⟩
      rw [hZ2] at t2 t3 tz ⊢
      clear hZ2
      have k2 := t2; have k3 := t3; have hz := tz; clear t2 t3 tz
      refine done_ (by kernel_rfl) ?_
      go_wp2
      refine bodyPost_ret (results_cc rfl _ _ gb2 gb3 31 51 _ _ (0, 0) (0, 0) _ _ rfl k2 Try.underlying31 rfl (by kernel_rfl) rfl k3 Try.underlying51 rfl (by kernel_rfl)) rfl ?_
      exact ⟨(by rw [HSG.out, if_pos hm]; show _ = _; rw [← str_eq (x := r.extract 0 1) (t := [c]) (by rw [Lib.extract_data, List.drop_zero, HRD.out, HC.out]; rfl)]; simp), hz⟩
    · have hx0 : ¬ 0 ≤ x := fun h => hm (hxm.1 h)
      have d1 : decide (x ≥ 0) = false := decide_eq_false hx0
      have d2 : decide (0 ≤ x) = false := decide_eq_false hx0
      clear hxm hx0
      go_enter Try.func59, Try.ntmps59
      go_upto_region 3 with (first
        | ((with_reducible refine gate_dst (N := 2) rfl ?_); refine box_event ?hg (N := 2) ?hd (cs := #[.int .u8 0, .string (⟨#[]⟩ : ByteArray), .int .u64 0, .int .i64 0, .int .i64 0]) (t := 31) ?hr ?_; (case hd => rfl); (case hg => rfl); (case hr => first | (go_simp; done) | (go_simp; rfl)); intro gb2 hg_ wb2 hbox hb_; have GE2 := Aside0.mk ((by rw [hg_]; exact (below_size (by repeat (first | (with_reducible first | exact HB.out | apply below_alloc | apply pw_below_drewN | apply below_drew1 | apply below_drew) | exact HB.out)))) : w.heap.size ≤ gb2); have tHB_ := Aside0.mk (below_step (by repeat (first | (with_reducible first | exact HB.out | apply below_alloc | apply pw_below_drewN | apply below_drew1 | apply below_drew) | exact HB.out)) hb_); clear HB; have HB := tHB_; clear tHB_; have BK2 := Aside0.mk hbox; have HG2 := Aside0.mk hg_; have DB2 := Aside0.mk hb_; clear hbox hg_ hb_; (try clear hcz_0); (try clear hcz_1); have hcz_0 := cellS49_0 (blk_below HG.out HB.out); have hcz_1 := cellS49_1 (blk_below HG.out HB.out))
        | ((with_reducible refine gate_dst (N := 3) rfl ?_); have HLT2 := Aside0.mk (blk_lt BK2.out); refine box_event ?hg (N := 3) ?hd (cs := #[.int .i64 0, .int .i64 0]) (t := 51) ?hr ?_; (case hd => rfl); (case hg => rfl); (case hr => first | (go_simp; done) | (go_simp; rfl)); intro gb3 hg_ wb3 hbox hb_; have GE3 := Aside0.mk ((by rw [hg_]; exact (below_size (by repeat (first | (with_reducible first | exact HB.out | apply below_alloc | apply pw_below_drewN | apply below_drew1 | apply below_drew) | exact HB.out)))) : w.heap.size ≤ gb3); have tHB_ := Aside0.mk (below_step (by repeat (first | (with_reducible first | exact HB.out | apply below_alloc | apply pw_below_drewN | apply below_drew1 | apply below_drew) | exact HB.out)) hb_); have bk2_ := Aside0.mk (blk_below (g := gb2) (o := .cells #[.int .u8 0, .string (⟨#[]⟩ : ByteArray), .int .u64 0, .int .i64 0, .int .i64 0] 31 (0, 0)) (by (with_reducible repeat (first | refine blk_drewN ?_ _ | refine blk_drew ?_ | refine blk_alloc ?_ _)); exact BK2.out) hb_); clear BK2; have BK2 := bk2_; clear bk2_; clear HB; have HB := tHB_; clear tHB_; have BK3 := Aside0.mk hbox; have HG3 := Aside0.mk hg_; have DB3 := Aside0.mk hb_; clear hbox hg_ hb_; (try clear hcz_0); (try clear hcz_1); have hcz_0 := cellS49_0 (blk_below HG.out HB.out); have hcz_1 := cellS49_1 (blk_below HG.out HB.out))
        | (go_at_call 56; (with_reducible refine (rest_q s r g at_ (Nat.le_of_lt HLT.out) HR.out _ (blk_below HG.out (by repeat (first | (with_reducible first | exact HB.out | apply below_alloc | apply pw_below_drewN | apply below_drew1 | apply below_drew) | exact HB.out)))).mono ?_); rintro e wc ⟨rfl, hd_⟩; have hb_ := drawn_below hd_; clear hd_; have tHB_ := Aside0.mk (below_step (by repeat (first | (with_reducible first | exact HB.out | apply below_alloc | apply pw_below_drewN | apply below_drew1 | apply below_drew) | exact HB.out)) hb_); have bk2_ := Aside0.mk (blk_below (g := gb2) (o := .cells #[.int .u8 0, .string (⟨#[]⟩ : ByteArray), .int .u64 0, .int .i64 0, .int .i64 0] 31 (0, 0)) (by (with_reducible repeat (first | refine blk_drewN ?_ _ | refine blk_drew ?_ | refine blk_alloc ?_ _)); exact BK2.out) hb_); clear BK2; have BK2 := bk2_; clear bk2_; have bk2_ := Aside0.mk (blk_below (g := gb3) (o := .cells #[.int .i64 0, .int .i64 0] 51 (0, 0)) (by (with_reducible repeat (first | refine blk_drewN ?_ _ | refine blk_drew ?_ | refine blk_alloc ?_ _)); exact BK3.out) hb_); clear BK3; have BK3 := bk2_; clear bk2_; clear HB; have HB := tHB_; clear tHB_; (try clear hcz2_0); (try clear hcz2_1); (try clear hcz2_2); (try clear hcz2_3); (try clear hcz2_4); (try clear hcz3_0); (try clear hcz3_1); (try clear hb_); (try clear hcz_0); (try clear hcz_1); have hcz_0 := cellS49_0 (blk_below HG.out HB.out); have hcz_1 := cellS49_1 (blk_below HG.out HB.out))
        | (go_at_call 32; (with_reducible refine (strings_IndexByte.calls (⟨#[40, 41, 123, 125, 91, 93, 44, 59, 58, 46, 43, 45, 42, 47, 37, 38, 124, 94, 126, 33, 60, 62, 61]⟩ : ByteArray) q x _ HX.out).mono ?_); rintro e wc ⟨rfl, hd_⟩; have hb_ := drawn_below hd_; clear hd_; have tHB_ := Aside0.mk (below_step (by repeat (first | (with_reducible first | exact HB.out | apply below_alloc | apply pw_below_drewN | apply below_drew1 | apply below_drew) | exact HB.out)) hb_); have bk2_ := Aside0.mk (blk_below (g := gb2) (o := .cells #[.int .u8 0, .string (⟨#[]⟩ : ByteArray), .int .u64 0, .int .i64 0, .int .i64 0] 31 (0, 0)) (by (with_reducible repeat (first | refine blk_drewN ?_ _ | refine blk_drew ?_ | refine blk_alloc ?_ _)); exact BK2.out) hb_); clear BK2; have BK2 := bk2_; clear bk2_; have bk2_ := Aside0.mk (blk_below (g := gb3) (o := .cells #[.int .i64 0, .int .i64 0] 51 (0, 0)) (by (with_reducible repeat (first | refine blk_drewN ?_ _ | refine blk_drew ?_ | refine blk_alloc ?_ _)); exact BK3.out) hb_); clear BK3; have BK3 := bk2_; clear bk2_; clear HB; have HB := tHB_; clear tHB_; (try clear hcz2_0); (try clear hcz2_1); (try clear hcz2_2); (try clear hcz2_3); (try clear hcz2_4); (try clear hcz3_0); (try clear hcz3_1); (try clear hb_); (try clear hcz_0); (try clear hcz_1); have hcz_0 := cellS49_0 (blk_below HG.out HB.out); have hcz_1 := cellS49_1 (blk_below HG.out HB.out)))
      have hne : gb2 ≠ gb3 := by rw [HG3.out]; exact Nat.ne_of_lt HLT2.out
      refine start_ (n := 8) (S := fun w' => Below w.heap.size w w') (ds := []) #[false, false, false, false, false, false, false, false] (by kernel_rfl) rfl rfl (below_drew HB.out) (fun hHeld => ?_)
      refine pure_ (i := 0) (N := some 8) (v := ?_) (a' := ?_) #[true, false, false, false, false, false, false, false] rfl rfl (by kernel_rfl) (fun _ _ _ h => h) (Or.inl ⟨by rfl, ?_⟩) ?_ ?_
      rotate_left
      · intro w'
        go_simp
        with_reducible rfl
      rotate_left
      · simp only [Act.put, List.setIfInBounds_toArray, List.set_cons_zero, List.set_cons_succ, i64_w, i32_w]
        rfl
      refine pure_ (i := 1) (N := some 9) (v := ?_) (a' := ?_) #[true, true, false, false, false, false, false, false] rfl rfl (by kernel_rfl) (fun _ _ _ h => h) (Or.inl ⟨by rfl, ?_⟩) ?_ ?_
      rotate_left
      · intro w'
        go_simp
        with_reducible rfl
      rotate_left
      · simp only [Act.put, List.setIfInBounds_toArray, List.set_cons_zero, List.set_cons_succ, i64_w, i32_w]
        rfl
      refine pure_ (i := 2) (N := some 10) (v := ?_) (a' := ?_) #[true, true, true, false, false, false, false, false] rfl rfl (by kernel_rfl) (fun _ _ _ h => h) (Or.inl ⟨by rfl, ?_⟩) ?_ ?_
      rotate_left
      · intro w'
        go_simp
        with_reducible rfl
      rotate_left
      · simp only [Act.put, List.setIfInBounds_toArray, List.set_cons_zero, List.set_cons_succ, i64_w, i32_w]
        rfl
      refine pure_ (i := 3) (N := some 11) (v := ?_) (a' := ?_) #[true, true, true, true, false, false, false, false] rfl rfl (by kernel_rfl) (fun _ _ _ h => h) (Or.inl ⟨by rfl, ?_⟩) ?_ ?_
      rotate_left
      · intro w'
        go_simp
        with_reducible rfl
      rotate_left
      · simp only [Act.put, List.setIfInBounds_toArray, List.set_cons_zero, List.set_cons_succ, i64_w, i32_w]
        rfl
      refine take_ (i := 4) (N := some 12) (v := ?_) (a' := ?_) #[true, true, true, true, true, false, false, false] rfl rfl (by kernel_rfl) (fun _ _ _ h => h) (Or.inl ⟨by rfl, ?_⟩) hHeld ?_ ?_
      rotate_left
      · intro w' hS
        have hcz_1 := cellS49_1 (blk_below HG.out hS)
        go_simp
        with_reducible rfl
      rotate_left
      · simp only [Act.put, List.setIfInBounds_toArray, List.set_cons_zero, List.set_cons_succ, i64_w, i32_w]
        rfl
      refine pure_ (i := 5) (N := some 13) (v := ?_) (a' := ?_) #[true, true, true, true, true, true, false, false] rfl rfl (by kernel_rfl) (fun _ _ _ h => h) (Or.inl ⟨by rfl, ?_⟩) ?_ ?_
      rotate_left
      · intro w'
        go_simp
        with_reducible rfl
      rotate_left
      · simp only [Act.put, List.setIfInBounds_toArray, List.set_cons_zero, List.set_cons_succ, i64_w, i32_w]
        rfl
      have k2 := blk_drew BK2.out
      have k3 := blk_drew BK3.out
      have hz := below_drew HB.out
      clear HB BK2 BK3 hHeld
      (try clear hcz_0 hcz_1)
      generalize hWD : World.drew _ = WD at k2 k3 hz ⊢
      clear hWD
      have hcw_0 := blk_cell k2 0
      have hcw_1 := blk_cell k2 1
      have hcw_2 := blk_cell k2 2
      have hcw_3 := blk_cell k2 3
      have hcw_4 := blk_cell k2 4
      have hfw_0 := blk_frozen k2 0
      have hfw_1 := blk_frozen k2 1
      have hfw_2 := blk_frozen k2 2
      have hfw_3 := blk_frozen k2 3
      have hfw_4 := blk_frozen k2 4
      simp only [List.getElem?_toArray, List.getElem?_cons_zero, List.getElem?_cons_succ] at hcw_0 hcw_1 hcw_2 hcw_3 hcw_4
      refine one_ (i := 6) (N := none) #[true, true, true, true, true, true, true, false] rfl rfl (by kernel_rfl) (by decide) (fun K hK => ?_)
      refine skip_ (w1 := ?_) (by rfl) rfl ?_ ?_
      rotate_left
      · go_simp
        rfl
      refine hK.out _ _ (set5 (.int .u8 0) (.string (⟨#[]⟩ : ByteArray)) (.int .u64 0) (.int .i64 0) (.int .i64 0) hz GE2.out) (fun hHeld => ?_)
      clear hK K hHeld
      clear hcw_0 hfw_0 hcw_1 hfw_1 hcw_2 hfw_2 hcw_3 hfw_3 hcw_4 hfw_4
      have t2 := put5 (.int .u8 0) (.string (⟨#[]⟩ : ByteArray)) (.int .u64 0) (.int .i64 0) (.int .i64 0) k2
      have t3 := far5 hne.symm (.int .u8 0) (.string (⟨#[]⟩ : ByteArray)) (.int .u64 0) (.int .i64 0) (.int .i64 0) k3
      have tz := set5 (.int .u8 0) (.string (⟨#[]⟩ : ByteArray)) (.int .u64 0) (.int .i64 0) (.int .i64 0) hz GE2.out
      clear k2 k3 hz
      obtain ⟨Z1, hZ1⟩ : ∃ Z, (((((WD).setCell ⟨gb2, 0, none⟩ (.int .u8 0)).setCell ⟨gb2, 1, none⟩ (.string (⟨#[]⟩ : ByteArray))).setCell ⟨gb2, 2, none⟩ (.int .u64 0)).setCell ⟨gb2, 3, none⟩ (.int .i64 0)).setCell ⟨gb2, 4, none⟩ (.int .i64 0) = Z := ⟨_, rfl⟩
      rw [hZ1] at t2 t3 tz ⊢
      clear hZ1
      have k2 := t2; have k3 := t3; have hz := tz; clear t2 t3 tz
      have hcw_0 := blk_cell k3 0
      have hcw_1 := blk_cell k3 1
      have hfw_0 := blk_frozen k3 0
      have hfw_1 := blk_frozen k3 1
      simp only [List.getElem?_toArray, List.getElem?_cons_zero, List.getElem?_cons_succ] at hcw_0 hcw_1
      refine one_ (i := 7) (N := none) #[true, true, true, true, true, true, true, true] rfl rfl (by kernel_rfl) (by decide) (fun K hK => ?_)
      refine skip_ (w1 := ?_) (by rfl) rfl ?_ ?_
      rotate_left
      · go_simp
        rfl
      refine hK.out _ _ (set2 (.int .i64 (at_ : Int)) (.int .i64 30) hz GE3.out) (fun hHeld => ?_)
      clear hK K hHeld
      clear hcw_0 hfw_0 hcw_1 hfw_1
      have t3 := put2 (.int .i64 (at_ : Int)) (.int .i64 30) k3
      have t2 := far2 hne (.int .i64 (at_ : Int)) (.int .i64 30) k2
      have tz := set2 (.int .i64 (at_ : Int)) (.int .i64 30) hz GE3.out
      clear k2 k3 hz
      obtain ⟨Z2, hZ2⟩ : ∃ Z, ((Z1).setCell ⟨gb3, 0, none⟩ (.int .i64 (at_ : Int))).setCell ⟨gb3, 1, none⟩ (.int .i64 30) = Z := ⟨_, rfl⟩
      rw [hZ2] at t2 t3 tz ⊢
      clear hZ2
      have k2 := t2; have k3 := t3; have hz := tz; clear t2 t3 tz
      refine done_ (by kernel_rfl) ?_
      go_wp2
      refine bodyPost_ret (results_cc rfl _ _ gb2 gb3 31 51 _ _ (0, 0) (0, 0) _ _ rfl k2 Try.underlying31 rfl (by kernel_rfl) rfl k3 Try.underlying51 rfl (by kernel_rfl)) rfl ?_
      exact ⟨(by rw [HSG.out, if_neg hm]; exact ⟨0, ⟨#[]⟩, 0, 0, 0, by simp⟩), hz⟩

end Go.Proofs.Ytmmilinbpimfaaa.WalkSign
