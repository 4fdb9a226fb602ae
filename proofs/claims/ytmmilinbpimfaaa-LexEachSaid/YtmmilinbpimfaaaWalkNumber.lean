/- Numbers. Under no conditions beyond the statements' own. -/
import Derived.Test.YtmmilinbpimfaaaPureLex
import Derived.Test.YtmmilinbpimfaaaSwitch
import Derived.Test.YtmmilinbpimfaaaWalkBlanks
import Derived.Test.YtmmilinbpimfaaaWalkSign
import Derived.Outline
import Derived.Deep.RegionWith
import Derived.Deep.QuietTactic
import Derived.BigQuiet
import Derived.Deep.LoopGhost
import Derived.StillTailTactics
import Derived.Deep.DeepCutAuto
import Derived.Deep.CutBlock
set_option linter.unusedSimpArgs false
set_option linter.unusedVariables false
namespace Go.Proofs.Ytmmilinbpimfaaa.WalkNumber
open Go.RowKit Go.Proofs.Ytmmilinbpimfaaa.PLexKnown Go.Proofs.YtmmilinbpimfaaaW.PrintWords Go.Proofs.YtmmilinbpimfaaaW.PrintLast Go.Proofs.YtmmilinbpimfaaaW.PrintMore Go.Proofs.Ytmmilinbpimfaaa.Switch Go.Proofs.Ytmmilinbpimfaaa.Spec Go.Proofs.Ytmmilinbpimfaaa.PureLex
open Go.Proofs.Ytmmilinbpimfaaa.WalkBlanks
open Go.Proofs.Ytmmilinbpimfaaa.WalkSign
theorem digit_range {c : UInt8} (h : isD c = true) : 48 ≤ c.toNat ∧ c.toNat ≤ 57 := by
  simp only [isD, Bool.and_eq_true, decide_eq_true_eq, UInt8.le_iff_toNat_le] at h
  exact h
theorem digit_at (l : B) {i : Nat} (h : i < (digits l).length) : ∃ c, (digits l).drop i = c :: (digits l).drop (i + 1) ∧ isD c = true ∧ l[i]? = some c := by
  refine ⟨(digits l)[i], List.drop_eq_getElem_cons h, ?_, ?_⟩
  · exact (List.all_eq_true.1 (List.all_takeWhile (p := isD) (l := l))) _ (List.getElem_mem h)
  · have := List.IsPrefix.getElem (List.takeWhile_prefix (p := isD) (l := l)) h
    rw [List.getElem?_eq_some_iff]
    exact ⟨_, this.symm⟩
theorem top_range {l : B} {m : Nat} (h : top l = some m) : 255 ≤ m ∧ m ≤ 18446744073709551615 := by
  unfold top at h
  split at h
  · cases h; decide
  · split at h
    · cases h; decide
    · split at h
      · cases h; decide
      · split at h
        · cases h; decide
        · cases h
theorem digits_word : ∀ l : B, (digits l).length ≤ (word l).length
  | [] => Nat.le_refl _
  | c :: t => by
    have := digits_word t
    simp only [digits, word, List.takeWhile_cons] at this ⊢
    by_cases h : isD c = true
    · simp only [h, isW, Bool.or_true, if_true, List.length_cons]
      omega
    · simp [h]
theorem word_len (l : B) : (word l).length ≤ l.length := (List.takeWhile_prefix _).length_le
theorem sub_word (l : B) (i : Nat) : (l.take (word l).length).drop i = (word l).drop i := by
  rw [show l.take (word l).length = word l from (List.prefix_iff_eq_take.1 (List.takeWhile_prefix _)).symm]

set_option maxHeartbeats 8000000 in
set_option maxRecDepth 100000 in
theorem number_c (s : ByteArray) (hn : s.size ≤ 1000000) (g at_ : Nat) (hlt : at_ < s.size) (w : World) (hg : Scan w g s at_) :
    Calls Try.prog 57 #[.pointer (some ⟨g, 0, none⟩)] w fun e w' => Tok at_ (num (D s at_)) e ∧ Below w.heap.size w w' := by
  obtain ⟨r, hr⟩ : ∃ r, s.extract at_ s.size = r := ⟨_, rfl⟩
  have hrd : r.data.toList = D s at_ := by rw [← hr, D_rest]
  have hrs : r.size = s.size - at_ := by rw [size_len, hrd, D_len]
  obtain ⟨n, hnw⟩ : ∃ n, (word (D s at_)).length = n := ⟨_, rfl⟩
  have hnr : n ≤ r.size := by rw [← hnw, hrs, ← D_len]; exact word_len _
  have hrun : lex_run.f (r.size + 6) r = some (n : Int) := by rw [run_f r (by omega) (by omega), hrd, hnw]
  obtain ⟨dn, hdn⟩ : ∃ dn, (digits (D s at_)).length = dn := ⟨_, rfl⟩
  have hdw : dn ≤ n := by rw [← hdn, ← hnw]; exact digits_word _
  have HN := Aside0.mk hrun
  have HR := Aside0.mk hr
  have HG := Aside0.mk hg
  have HB := Aside0.mk (Below.refl w.heap.size w)
  have HLT := Aside0.mk hlt
  have HRD := Aside0.mk hrd
  have HRS := Aside0.mk hrs
  have HNW := Aside0.mk hnw
  have HDN := Aside0.mk hdn
  have HNR := Aside0.mk hnr
  have HDW := Aside0.mk hdw
  have HSZ := Aside0.mk hn
  clear hg hr hlt hn hrun hnw hdn hrd hrs hnr hdw
  go_enter Try.func57, Try.ntmps57
  go_upto_block 0 with (first
    | ((with_reducible refine gate_dst (N := 2) rfl ?_); refine box_event ?hg (N := 2) ?hd (cs := #[.int .u8 0, .string (⟨#[]⟩ : ByteArray), .int .u64 0, .int .i64 0, .int .i64 0]) (t := 31) ?hr ?_; (case hd => rfl); (case hg => rfl); (case hr => first | (go_simp; done) | (go_simp; rfl)); intro gb2 hg_ wb2 hbox hb_; have GE2 := Aside0.mk ((by rw [hg_]; exact (below_size (by repeat (first | (with_reducible first | exact HB.out | apply below_alloc | apply pw_below_drewN | apply below_drew1 | apply below_drew) | exact HB.out)))) : w.heap.size ≤ gb2); have tHB_ := Aside0.mk (below_step (by repeat (first | (with_reducible first | exact HB.out | apply below_alloc | apply pw_below_drewN | apply below_drew1 | apply below_drew) | exact HB.out)) hb_); clear HB; have HB := tHB_; clear tHB_; have BK2 := Aside0.mk hbox; have HG2 := Aside0.mk hg_; have DB2 := Aside0.mk hb_; clear hbox hg_ hb_; (try clear hcz_0); (try clear hcz_1); have hcz_0 := cellS49_0 (blk_below HG.out HB.out); have hcz_1 := cellS49_1 (blk_below HG.out HB.out))
    | ((with_reducible refine gate_dst (N := 3) rfl ?_); have HLT2 := Aside0.mk (blk_lt BK2.out); refine box_event ?hg (N := 3) ?hd (cs := #[.int .i64 0, .int .i64 0]) (t := 51) ?hr ?_; (case hd => rfl); (case hg => rfl); (case hr => first | (go_simp; done) | (go_simp; rfl)); intro gb3 hg_ wb3 hbox hb_; have GE3 := Aside0.mk ((by rw [hg_]; exact (below_size (by repeat (first | (with_reducible first | exact HB.out | apply below_alloc | apply pw_below_drewN | apply below_drew1 | apply below_drew) | exact HB.out)))) : w.heap.size ≤ gb3); have tHB_ := Aside0.mk (below_step (by repeat (first | (with_reducible first | exact HB.out | apply below_alloc | apply pw_below_drewN | apply below_drew1 | apply below_drew) | exact HB.out)) hb_); have bk2_ := Aside0.mk (blk_below (g := gb2) (o := .cells #[.int .u8 0, .string (⟨#[]⟩ : ByteArray), .int .u64 0, .int .i64 0, .int .i64 0] 31 (0, 0)) (by (with_reducible repeat (first | refine blk_drewN ?_ _ | refine blk_drew ?_ | refine blk_alloc ?_ _)); exact BK2.out) hb_); clear BK2; have BK2 := bk2_; clear bk2_; clear HB; have HB := tHB_; clear tHB_; have BK3 := Aside0.mk hbox; have HG3 := Aside0.mk hg_; have DB3 := Aside0.mk hb_; clear hbox hg_ hb_; (try clear hcz_0); (try clear hcz_1); have hcz_0 := cellS49_0 (blk_below HG.out HB.out); have hcz_1 := cellS49_1 (blk_below HG.out HB.out))
    | (go_at_call 56; (with_reducible refine (rest_q s r g at_ (Nat.le_of_lt HLT.out) HR.out _ (blk_below HG.out (by repeat (first | (with_reducible first | exact HB.out | apply below_alloc | apply pw_below_drewN | apply below_drew1 | apply below_drew) | exact HB.out)))).mono ?_); rintro e wc ⟨rfl, hd_⟩; have hb_ := drawn_below hd_; clear hd_; have tHB_ := Aside0.mk (below_step (by repeat (first | (with_reducible first | exact HB.out | apply below_alloc | apply pw_below_drewN | apply below_drew1 | apply below_drew) | exact HB.out)) hb_); have bk2_ := Aside0.mk (blk_below (g := gb2) (o := .cells #[.int .u8 0, .string (⟨#[]⟩ : ByteArray), .int .u64 0, .int .i64 0, .int .i64 0] 31 (0, 0)) (by (with_reducible repeat (first | refine blk_drewN ?_ _ | refine blk_drew ?_ | refine blk_alloc ?_ _)); exact BK2.out) hb_); clear BK2; have BK2 := bk2_; clear bk2_; have bk2_ := Aside0.mk (blk_below (g := gb3) (o := .cells #[.int .i64 0, .int .i64 0] 51 (0, 0)) (by (with_reducible repeat (first | refine blk_drewN ?_ _ | refine blk_drew ?_ | refine blk_alloc ?_ _)); exact BK3.out) hb_); clear BK3; have BK3 := bk2_; clear bk2_; clear HB; have HB := tHB_; clear tHB_; (try clear hcz2_0); (try clear hcz2_1); (try clear hcz2_2); (try clear hcz2_3); (try clear hcz2_4); (try clear hcz3_0); (try clear hcz3_1); (try clear hb_); (try clear hcz_0); (try clear hcz_1); have hcz_0 := cellS49_0 (blk_below HG.out HB.out); have hcz_1 := cellS49_1 (blk_below HG.out HB.out))
    | (go_at_call 37; (with_reducible refine (lex_run.calls (r.size + 6) r (n : Int) _ HN.out).mono ?_); rintro e wc ⟨rfl, hb_⟩; have tHB_ := Aside0.mk (below_step (by repeat (first | (with_reducible first | exact HB.out | apply below_alloc | apply pw_below_drewN | apply below_drew1 | apply below_drew) | exact HB.out)) hb_); have bk2_ := Aside0.mk (blk_below (g := gb2) (o := .cells #[.int .u8 0, .string (⟨#[]⟩ : ByteArray), .int .u64 0, .int .i64 0, .int .i64 0] 31 (0, 0)) (by (with_reducible repeat (first | refine blk_drewN ?_ _ | refine blk_drew ?_ | refine blk_alloc ?_ _)); exact BK2.out) hb_); clear BK2; have BK2 := bk2_; clear bk2_; have bk2_ := Aside0.mk (blk_below (g := gb3) (o := .cells #[.int .i64 0, .int .i64 0] 51 (0, 0)) (by (with_reducible repeat (first | refine blk_drewN ?_ _ | refine blk_drew ?_ | refine blk_alloc ?_ _)); exact BK3.out) hb_); clear BK3; have BK3 := bk2_; clear bk2_; clear HB; have HB := tHB_; clear tHB_; (try clear hcz2_0); (try clear hcz2_1); (try clear hcz2_2); (try clear hcz2_3); (try clear hcz2_4); (try clear hcz3_0); (try clear hcz3_1); (try clear hb_); (try clear hcz_0); (try clear hcz_1); have hcz_0 := cellS49_0 (blk_below HG.out HB.out); have hcz_1 := cellS49_1 (blk_below HG.out HB.out)))
  have hne := Nat.ne_of_lt (by rw [HG3.out]; exact HLT2.out : gb2 < gb3)
  go_cut [6] (fun v6 w' => v6 = .int .i64 (dn : Int) ∧ Below w.heap.size w w' ∧ w'.heap[gb2]? = some (.cells #[.int .u8 0, .string (⟨#[]⟩ : ByteArray), .int .u64 0, .int .i64 0, .int .i64 0] 31 (0, 0)) ∧ w'.heap[gb3]? = some (.cells #[.int .i64 0, .int .i64 0] 51 (0, 0)))
  case first =>
    have HB' := HB; have BK2' := BK2; have BK3' := BK3
    clear HB BK2 BK3 hcz_0 hcz_1
    go_wp2
    go_loopg [6] (n + 1) (fun kq v6 w' => ∃ i : Nat, Aside0 (kq + i = n + 1) ∧ Aside0 (i ≤ n) ∧ v6 = .int .i64 (i : Int) ∧ Aside0 (i + (digits (D s (at_ + i))).length = dn) ∧ Aside0 (Below w.heap.size w w') ∧ Aside0 (w'.heap[gb2]? = some (.cells #[.int .u8 0, .string (⟨#[]⟩ : ByteArray), .int .u64 0, .int .i64 0, .int .i64 0] 31 (0, 0))) ∧ Aside0 (w'.heap[gb3]? = some (.cells #[.int .i64 0, .int .i64 0] 51 (0, 0))))
    case atStart => exact ⟨0, ⟨rfl⟩, ⟨Nat.zero_le _⟩, rfl, ⟨by rw [Nat.add_zero, Nat.zero_add]; exact HDN.out⟩, HB', BK2', BK3'⟩
    case round =>
      clear HB' BK2' BK3'
      obtain ⟨i, HQ, HI, rfl, HD, HB, BK2, BK3⟩ := hrel
      have hir : at_ + i ≤ s.size := by have := HI.out; have := HNR.out; have := HRS.out; have := HLT.out; omega
      by_cases h1 : i < n
      · have c1 : decide ((i : Int) < (n : Int)) = true := decide_eq_true (by omega)
        have c2 : decide (i < n) = true := decide_eq_true h1
        have h2 : i < r.size := by have := HNR.out; omega
        have p1 : (0 ≤ (i : Int)) = True := eq_true (by omega)
        have q1 : ((i : Int) < (r.size : Int)) = True := eq_true (by omega)
        have q2 : (i < r.size) = True := eq_true h2
        have b1 : (i : Int) ≤ 1000000 := by have := HSZ.out; omega
        have b0 : 0 ≤ (i : Int) := by omega
        obtain ⟨c, hc, hbt⟩ := D_cons (s := s) (i := at_ + i) (by have := HRS.out; have := HLT.out; omega)
        have hr0 : ∀ h : i < r.size, (((r[i]'h).toNat : Nat) : Int) = (c.toNat : Int) := fun h => by
          have e1 := bt_at_nat r i h
          rw [e1, bt_nat r i (by rw [← size_len]; exact h)]
          have e2 : r.data.toList[i]? = some c := by rw [HRD.out]; have := congrArg (·[0]?) hc; simpa [List.getElem?_drop] using this
          rw [List.getElem?_eq_getElem (by rw [← size_len]; exact h)] at e2
          rw [Option.some.inj e2]
        have HH1 := Aside0.mk h1
        have HC := Aside0.mk hc
        clear h1 h2 hc hbt hir
        cases hd : isD c with
        | true =>
          have HX := Aside0.mk ((digit_k (k := 3) (Nat.le_refl _) c).trans (by rw [hd]))
          have HDD := Aside0.mk hd
          clear hd
          go_wp2_with ((go_at_call 50; (with_reducible refine (lex_digit.calls 3 (c.toNat : Int) _ _ HX.out).mono ?_); rintro e wc ⟨rfl, hb_⟩; have tHB_ := Aside0.mk (below_step (by repeat (first | (with_reducible first | exact HB.out | apply below_alloc | apply pw_below_drewN | apply below_drew1 | apply below_drew) | exact HB.out)) hb_); have bk2_ := Aside0.mk (blk_below (g := gb2) (o := .cells #[.int .u8 0, .string (⟨#[]⟩ : ByteArray), .int .u64 0, .int .i64 0, .int .i64 0] 31 (0, 0)) (by (with_reducible repeat (first | refine blk_drewN ?_ _ | refine blk_drew ?_ | refine blk_alloc ?_ _)); exact BK2.out) hb_); clear BK2; have BK2 := bk2_; clear bk2_; have bk2_ := Aside0.mk (blk_below (g := gb3) (o := .cells #[.int .i64 0, .int .i64 0] 51 (0, 0)) (by (with_reducible repeat (first | refine blk_drewN ?_ _ | refine blk_drew ?_ | refine blk_alloc ?_ _)); exact BK3.out) hb_); clear BK3; have BK3 := bk2_; clear bk2_; clear HB; have HB := tHB_; clear tHB_; (try clear hcz2_0); (try clear hcz2_1); (try clear hcz2_2); (try clear hcz2_3); (try clear hcz2_4); (try clear hcz3_0); (try clear hcz3_1); (try clear hb_); (try clear hcz_0); (try clear hcz_1)))
          go_roundg (n - i)
          case measure => have := HQ.out; have := HH1.out; omega
          case rel => exact ⟨i + 1, ⟨by have := HH1.out; omega⟩, HH1, by simp, ⟨by have := HD.out; rw [HC.out] at this; unfold digits at this ⊢; rw [List.takeWhile_cons, HDD.out, if_pos rfl, List.length_cons] at this; rw [← Nat.add_assoc]; omega⟩, ⟨(by repeat (first | (with_reducible first | exact HB.out | apply below_alloc | apply pw_below_drewN | apply below_drew1 | apply below_drew) | exact HB.out))⟩, ⟨(by (with_reducible repeat (first | refine blk_drewN ?_ _ | refine blk_drew ?_ | refine blk_alloc ?_ _)); exact BK2.out)⟩, ⟨(by (with_reducible repeat (first | refine blk_drewN ?_ _ | refine blk_drew ?_ | refine blk_alloc ?_ _)); exact BK3.out)⟩⟩
        | false =>
          have HX := Aside0.mk ((digit_k (k := 3) (Nat.le_refl _) c).trans (by rw [hd]))
          have HDD := Aside0.mk hd
          clear hd
          go_wp2_with ((go_at_call 50; (with_reducible refine (lex_digit.calls 3 (c.toNat : Int) _ _ HX.out).mono ?_); rintro e wc ⟨rfl, hb_⟩; have tHB_ := Aside0.mk (below_step (by repeat (first | (with_reducible first | exact HB.out | apply below_alloc | apply pw_below_drewN | apply below_drew1 | apply below_drew) | exact HB.out)) hb_); have bk2_ := Aside0.mk (blk_below (g := gb2) (o := .cells #[.int .u8 0, .string (⟨#[]⟩ : ByteArray), .int .u64 0, .int .i64 0, .int .i64 0] 31 (0, 0)) (by (with_reducible repeat (first | refine blk_drewN ?_ _ | refine blk_drew ?_ | refine blk_alloc ?_ _)); exact BK2.out) hb_); clear BK2; have BK2 := bk2_; clear bk2_; have bk2_ := Aside0.mk (blk_below (g := gb3) (o := .cells #[.int .i64 0, .int .i64 0] 51 (0, 0)) (by (with_reducible repeat (first | refine blk_drewN ?_ _ | refine blk_drew ?_ | refine blk_alloc ?_ _)); exact BK3.out) hb_); clear BK3; have BK3 := bk2_; clear bk2_; clear HB; have HB := tHB_; clear tHB_; (try clear hcz2_0); (try clear hcz2_1); (try clear hcz2_2); (try clear hcz2_3); (try clear hcz2_4); (try clear hcz3_0); (try clear hcz3_1); (try clear hb_); (try clear hcz_0); (try clear hcz_1)))
          go_meet
          case rel => exact ⟨by have := HD.out; rw [HC.out] at this; unfold digits at this; rw [List.takeWhile_cons, HDD.out] at this; simp at this; rw [this], (by repeat (first | (with_reducible first | exact HB.out | apply below_alloc | apply pw_below_drewN | apply below_drew1 | apply below_drew) | exact HB.out)), (by (with_reducible repeat (first | refine blk_drewN ?_ _ | refine blk_drew ?_ | refine blk_alloc ?_ _)); exact BK2.out), (by (with_reducible repeat (first | refine blk_drewN ?_ _ | refine blk_drew ?_ | refine blk_alloc ?_ _)); exact BK3.out)⟩
      · have c1 : decide ((i : Int) < (n : Int)) = false := decide_eq_false (by omega)
        have c2 : decide (i < n) = false := decide_eq_false h1
        have HI9 : Aside0 (i = dn) := ⟨by have := HD.out; have := HDW.out; omega⟩
        clear h1 hir
        go_wp2_with ((go_at_call 50; (with_reducible refine (lex_digit.calls 3 (c.toNat : Int) _ _ HX.out).mono ?_); rintro e wc ⟨rfl, hb_⟩; have tHB_ := Aside0.mk (below_step (by repeat (first | (with_reducible first | exact HB.out | apply below_alloc | apply pw_below_drewN | apply below_drew1 | apply below_drew) | exact HB.out)) hb_); have bk2_ := Aside0.mk (blk_below (g := gb2) (o := .cells #[.int .u8 0, .string (⟨#[]⟩ : ByteArray), .int .u64 0, .int .i64 0, .int .i64 0] 31 (0, 0)) (by (with_reducible repeat (first | refine blk_drewN ?_ _ | refine blk_drew ?_ | refine blk_alloc ?_ _)); exact BK2.out) hb_); clear BK2; have BK2 := bk2_; clear bk2_; have bk2_ := Aside0.mk (blk_below (g := gb3) (o := .cells #[.int .i64 0, .int .i64 0] 51 (0, 0)) (by (with_reducible repeat (first | refine blk_drewN ?_ _ | refine blk_drew ?_ | refine blk_alloc ?_ _)); exact BK3.out) hb_); clear BK3; have BK3 := bk2_; clear bk2_; clear HB; have HB := tHB_; clear tHB_; (try clear hcz2_0); (try clear hcz2_1); (try clear hcz2_2); (try clear hcz2_3); (try clear hcz2_4); (try clear hcz3_0); (try clear hcz3_1); (try clear hb_); (try clear hcz_0); (try clear hcz_1)))
        go_meet
        case rel => exact ⟨by rw [HI9.out], (by repeat (first | (with_reducible first | exact HB.out | apply below_alloc | apply pw_below_drewN | apply below_drew1 | apply below_drew) | exact HB.out)), (by (with_reducible repeat (first | refine blk_drewN ?_ _ | refine blk_drew ?_ | refine blk_alloc ?_ _)); exact BK2.out), (by (with_reducible repeat (first | refine blk_drewN ?_ _ | refine blk_drew ?_ | refine blk_alloc ?_ _)); exact BK3.out)⟩
  case rest =>
    clear HB BK2 BK3 hcz_0 hcz_1
    obtain ⟨rfl, hb_, k2_, k3_⟩ := hcut
    have HB := Aside0.mk hb_; have BK2 := Aside0.mk k2_; have BK3 := Aside0.mk k3_; clear hb_ k2_ k3_
    have NE2_3 := hne
    obtain ⟨x, hx⟩ : ∃ x, r.extract dn n = x := ⟨_, rfl⟩
    have hxd : x.data.toList = suffix (D s at_) := by rw [← hx, Lib.extract_data, HRD.out]; unfold suffix; rw [HDN.out, ← sub_word, HNW.out, List.drop_take]
    have HXD := Aside0.mk hxd
    have HXE := Aside0.mk hx
    have p1 : (0 ≤ (dn : Int)) = True := eq_true (by omega)
    have p2 : ((dn : Int) ≤ (n : Int)) = True := eq_true (by have := HDW.out; omega)
    have p2' : (dn ≤ n) = True := eq_true HDW.out
    have p3 : ((n : Int) ≤ (r.size : Int)) = True := eq_true (by have := HNR.out; omega)
    have p3' : (n ≤ r.size) = True := eq_true HNR.out
    have bn : (n : Int) ≤ 1000000 := by have := HNR.out; have := HRS.out; have := HSZ.out; omega
    have ba : (at_ : Int) ≤ 1000000 := by have := HLT.out; have := HSZ.out; omega
    have hwn : IntKind.i64.wrap ((at_ : Int) + (n : Int)) = (at_ : Int) + (n : Int) := by rw [i64_w, w64 (by omega) (by omega)]
    clear hx hxd
    go_upto_region 6 with fail
    have hz := below_drew HB.out
    have k2 := blk_drew BK2.out
    have k3 := blk_drew BK3.out
    refine start_ (n := 17) (S := fun w' => Below w.heap.size w w') (ds := []) #[false, false, false, false, false, false, false, false, false, false, false, false, false, false, false, false, false] (by kernel_rfl) rfl rfl hz (fun hHeld => ?_)
    clear HB BK2 BK3
    (try clear hcz_0 hcz_1)
    (try clear hcz2_0 hfz2_0)
    (try clear hcz2_1 hfz2_1)
    (try clear hcz2_2 hfz2_2)
    (try clear hcz2_3 hfz2_3)
    (try clear hcz2_4 hfz2_4)
    (try clear hcz3_0 hfz3_0)
    (try clear hcz3_1 hfz3_1)
    (try clear hcz2_0)
    (try clear hcz2_1)
    (try clear hcz2_2)
    (try clear hcz2_3)
    (try clear hcz2_4)
    (try clear hcz3_0)
    (try clear hcz3_1)
    generalize hWD : World.drew _ = WD at k2 k3 hz hHeld ⊢
    clear hWD
    refine pure_ (i := 0) (N := some 26) (v := ?_) (a' := ?_) #[true, false, false, false, false, false, false, false, false, false, false, false, false, false, false, false, false] rfl rfl (by kernel_rfl) (fun _ _ _ h => h) (Or.inl ⟨by rfl, ?_⟩) ?_ ?_
    rotate_left
    · intro w'
      go_simp
      with_reducible rfl
    rotate_left
    · simp only [Act.put, List.setIfInBounds_toArray, List.set_cons_zero, List.set_cons_succ, i64_w, i32_w]
      rfl
    refine pure_ (i := 1) (N := some 27) (v := ?_) (a' := ?_) #[true, true, false, false, false, false, false, false, false, false, false, false, false, false, false, false, false] rfl rfl (by kernel_rfl) (fun _ _ _ h => h) (Or.inl ⟨by rfl, ?_⟩) ?_ ?_
    rotate_left
    · intro w'
      go_simp
      with_reducible rfl
    rotate_left
    · simp only [Act.put, List.setIfInBounds_toArray, List.set_cons_zero, List.set_cons_succ, i64_w, i32_w]
      rfl
    refine pure_ (i := 2) (N := some 28) (v := ?_) (a' := ?_) #[true, true, true, false, false, false, false, false, false, false, false, false, false, false, false, false, false] rfl rfl (by kernel_rfl) (fun _ _ _ h => h) (Or.inl ⟨by rfl, ?_⟩) ?_ ?_
    rotate_left
    · intro w'
      go_simp
      with_reducible rfl
    rotate_left
    · simp only [Act.put, List.setIfInBounds_toArray, List.set_cons_zero, List.set_cons_succ, i64_w, i32_w]
      rfl
    refine pure_ (i := 3) (N := some 29) (v := ?_) (a' := ?_) #[true, true, true, true, false, false, false, false, false, false, false, false, false, false, false, false, false] rfl rfl (by kernel_rfl) (fun _ _ _ h => h) (Or.inl ⟨by rfl, ?_⟩) ?_ ?_
    rotate_left
    · intro w'
      go_simp
      rw [HXE.out]
    rotate_left
    · simp only [Act.put, List.setIfInBounds_toArray, List.set_cons_zero, List.set_cons_succ, i64_w, i32_w]
      rfl
    refine pure_ (i := 4) (N := some 30) (v := ?_) (a' := ?_) #[true, true, true, true, true, false, false, false, false, false, false, false, false, false, false, false, false] rfl rfl (by kernel_rfl) (fun _ _ _ h => h) (Or.inl ⟨by rfl, ?_⟩) ?_ ?_
    rotate_left
    · intro w'
      go_simp
      with_reducible rfl
    rotate_left
    · simp only [Act.put, List.setIfInBounds_toArray, List.set_cons_zero, List.set_cons_succ, i64_w, i32_w]
      rfl
    refine pure_ (i := 5) (N := some 31) (v := ?_) (a' := ?_) #[true, true, true, true, true, true, false, false, false, false, false, false, false, false, false, false, false] rfl rfl (by kernel_rfl) (fun _ _ _ h => h) (Or.inl ⟨by rfl, ?_⟩) ?_ ?_
    rotate_left
    · intro w'
      go_simp
      with_reducible rfl
    rotate_left
    · simp only [Act.put, List.setIfInBounds_toArray, List.set_cons_zero, List.set_cons_succ, i64_w, i32_w]
      rfl
    refine pure_ (i := 6) (N := some 32) (v := ?_) (a' := ?_) #[true, true, true, true, true, true, true, false, false, false, false, false, false, false, false, false, false] rfl rfl (by kernel_rfl) (fun _ _ _ h => h) (Or.inl ⟨by rfl, ?_⟩) ?_ ?_
    rotate_left
    · intro w'
      go_simp
      with_reducible rfl
    rotate_left
    · simp only [Act.put, List.setIfInBounds_toArray, List.set_cons_zero, List.set_cons_succ, i64_w, i32_w]
      rfl
    refine pure_ (i := 8) (N := some 34) (v := ?_) (a' := ?_) #[true, true, true, true, true, true, true, false, true, false, false, false, false, false, false, false, false] rfl rfl (by kernel_rfl) (fun _ _ _ h => h) (Or.inl ⟨by rfl, ?_⟩) ?_ ?_
    rotate_left
    · intro w'
      go_simp
      with_reducible rfl
    rotate_left
    · simp only [Act.put, List.setIfInBounds_toArray, List.set_cons_zero, List.set_cons_succ, i64_w, i32_w]
      rfl
    refine pure_ (i := 9) (N := some 35) (v := ?_) (a' := ?_) #[true, true, true, true, true, true, true, false, true, true, false, false, false, false, false, false, false] rfl rfl (by kernel_rfl) (fun _ _ _ h => h) (Or.inl ⟨by rfl, ?_⟩) ?_ ?_
    rotate_left
    · intro w'
      go_simp
      with_reducible rfl
    rotate_left
    · simp only [Act.put, List.setIfInBounds_toArray, List.set_cons_zero, List.set_cons_succ, i64_w, i32_w]
      rfl
    refine pure_ (i := 10) (N := some 36) (v := ?_) (a' := ?_) #[true, true, true, true, true, true, true, false, true, true, true, false, false, false, false, false, false] rfl rfl (by kernel_rfl) (fun _ _ _ h => h) (Or.inl ⟨by rfl, ?_⟩) ?_ ?_
    rotate_left
    · intro w'
      go_simp
      with_reducible rfl
    rotate_left
    · simp only [Act.put, List.setIfInBounds_toArray, List.set_cons_zero, List.set_cons_succ, i64_w, i32_w]
      rfl
    refine pure_ (i := 12) (N := some 38) (v := ?_) (a' := ?_) #[true, true, true, true, true, true, true, false, true, true, true, false, true, false, false, false, false] rfl rfl (by kernel_rfl) (fun _ _ _ h => h) (Or.inl ⟨by rfl, ?_⟩) ?_ ?_
    rotate_left
    · intro w'
      go_simp
      with_reducible rfl
    rotate_left
    · simp only [Act.put, List.setIfInBounds_toArray, List.set_cons_zero, List.set_cons_succ, i64_w, i32_w]
      rfl
    refine take_ (i := 7) (N := some 33) (v := ?_) (a' := ?_) #[true, true, true, true, true, true, true, true, true, true, true, false, true, false, false, false, false] rfl rfl (by kernel_rfl) (fun _ _ _ h => h) (Or.inl ⟨by rfl, ?_⟩) hHeld ?_ ?_
    rotate_left
    · intro w' hS
      have hcz_1 := cellS49_1 (blk_below HG.out hS)
      go_simp
      with_reducible rfl
    rotate_left
    · simp only [Act.put, List.setIfInBounds_toArray, List.set_cons_zero, List.set_cons_succ, i64_w, i32_w]
      rfl
    refine take_ (i := 11) (N := some 37) (v := ?_) (a' := ?_) #[true, true, true, true, true, true, true, true, true, true, true, true, true, false, false, false, false] rfl rfl (by kernel_rfl) (fun _ _ _ h => h) (Or.inl ⟨by rfl, ?_⟩) hHeld ?_ ?_
    rotate_left
    · intro w' hS
      have hcz_1 := cellS49_1 (blk_below HG.out hS)
      go_simp
      with_reducible rfl
    rotate_left
    · simp only [Act.put, List.setIfInBounds_toArray, List.set_cons_zero, List.set_cons_succ, i64_w, i32_w]
      rfl
    refine pure_ (i := 13) (N := some 39) (v := ?_) (a' := ?_) #[true, true, true, true, true, true, true, true, true, true, true, true, true, true, false, false, false] rfl rfl (by kernel_rfl) (fun _ _ _ h => h) (Or.inl ⟨by rfl, ?_⟩) ?_ ?_
    rotate_left
    · intro w'
      go_simp
      with_reducible rfl
    rotate_left
    · simp only [Act.put, List.setIfInBounds_toArray, List.set_cons_zero, List.set_cons_succ, i64_w, i32_w]
      rfl
    refine pure_ (i := 14) (N := some 40) (v := ?_) (a' := ?_) #[true, true, true, true, true, true, true, true, true, true, true, true, true, true, true, false, false] rfl rfl (by kernel_rfl) (fun _ _ _ h => h) (Or.inl ⟨by rfl, ?_⟩) ?_ ?_
    rotate_left
    · intro w'
      go_simp
      with_reducible rfl
    rotate_left
    · simp only [Act.put, List.setIfInBounds_toArray, List.set_cons_zero, List.set_cons_succ, i64_w, i32_w]
      rfl
    refine one_ (i := 15) (N := some 7) #[true, true, true, true, true, true, true, true, true, true, true, true, true, true, true, true, false] rfl rfl (by kernel_rfl) (by decide) (fun K hK => ?_)
    refine value_ (w1 := ?_) (v := ?_) (by rfl) rfl ?_ ?_
    rotate_left 2
    · go_simp
      constructor
      · rfl
      · rfl
    have t7 := blk_new WD (.cells #[.int .u8 0, .string (⟨#[]⟩ : ByteArray), .int .u64 0, .int .i64 0, .int .i64 0] 31 (0, 0))
    have GE7 := Aside0.mk (below_size hz)
    have LT2_7 := blk_lt k2
    have LT3_7 := blk_lt k3
    have t2 := blk_alloc k2 (.cells #[.int .u8 0, .string (⟨#[]⟩ : ByteArray), .int .u64 0, .int .i64 0, .int .i64 0] 31 (0, 0))
    have t3 := blk_alloc k3 (.cells #[.int .u8 0, .string (⟨#[]⟩ : ByteArray), .int .u64 0, .int .i64 0, .int .i64 0] 31 (0, 0))
    have tz := below_alloc hz (.cells #[.int .u8 0, .string (⟨#[]⟩ : ByteArray), .int .u64 0, .int .i64 0, .int .i64 0] 31 (0, 0))
    clear k2 k3 hz
    obtain ⟨gb7, hg⟩ : ∃ g, WD.heap.size = g := ⟨_, rfl⟩
    rw [hg] at t7 GE7 LT2_7 LT3_7 ⊢
    obtain ⟨Z1, hZ⟩ : ∃ Z, WD.alloc (.cells #[.int .u8 0, .string (⟨#[]⟩ : ByteArray), .int .u64 0, .int .i64 0, .int .i64 0] 31 (0, 0)) = Z := ⟨_, rfl⟩
    rw [hZ] at t2 t3 t7 tz ⊢
    clear hZ
    have NE2_7 := Nat.ne_of_lt LT2_7
    have NE3_7 := Nat.ne_of_lt LT3_7
    have k2 := t2; clear t2
    have k3 := t3; clear t3
    have k7 := t7; clear t7
    have hz := tz; clear tz
    refine hK.out _ _ hz (fun hHeld => ?_)
    clear hK K
    refine norm_ (a' := ?_) ?_ ?_
    rotate_left
    · show Act.put _ (some 7) _ = _
      simp only [Act.put, List.setIfInBounds_toArray, List.set_cons_zero, List.set_cons_succ, i64_w, i32_w]
      rfl
    refine one_ (i := 16) (N := none) #[true, true, true, true, true, true, true, true, true, true, true, true, true, true, true, true, true] rfl rfl (by kernel_rfl) (by decide) (fun K hK => ?_)
    have hcw_0 := blk_cell k7 0
    have hcw_1 := blk_cell k7 1
    have hcw_2 := blk_cell k7 2
    have hcw_3 := blk_cell k7 3
    have hcw_4 := blk_cell k7 4
    have hfw_0 := blk_frozen k7 0
    have hfw_1 := blk_frozen k7 1
    have hfw_2 := blk_frozen k7 2
    have hfw_3 := blk_frozen k7 3
    have hfw_4 := blk_frozen k7 4
    simp only [List.getElem?_toArray, List.getElem?_cons_zero, List.getElem?_cons_succ] at hcw_0 hcw_1 hcw_2 hcw_3 hcw_4
    refine skip_ (w1 := ?_) (by rfl) rfl ?_ ?_
    rotate_left
    · go_simp
      rfl
    clear hcw_0 hfw_0 hcw_1 hfw_1 hcw_2 hfw_2 hcw_3 hfw_3 hcw_4 hfw_4
    have t7 := put5 (.int .u8 2) (.string x) (.int .u64 0) (.int .i64 (at_ : Int)) (.int .i64 ((at_ : Int) + (n : Int))) k7
    have t2 := far5 (NE2_7) (.int .u8 2) (.string x) (.int .u64 0) (.int .i64 (at_ : Int)) (.int .i64 ((at_ : Int) + (n : Int))) k2
    have t3 := far5 (NE3_7) (.int .u8 2) (.string x) (.int .u64 0) (.int .i64 (at_ : Int)) (.int .i64 ((at_ : Int) + (n : Int))) k3
    have tz := set5 (.int .u8 2) (.string x) (.int .u64 0) (.int .i64 (at_ : Int)) (.int .i64 ((at_ : Int) + (n : Int))) hz GE7.out
    clear k2 k3 k7 hz
    obtain ⟨Z2, hZ⟩ : ∃ Z, (((((Z1).setCell ⟨gb7, 0, none⟩ (.int .u8 2)).setCell ⟨gb7, 1, none⟩ (.string x)).setCell ⟨gb7, 2, none⟩ (.int .u64 0)).setCell ⟨gb7, 3, none⟩ (.int .i64 (at_ : Int))).setCell ⟨gb7, 4, none⟩ (.int .i64 ((at_ : Int) + (n : Int))) = Z := ⟨_, rfl⟩
    rw [hZ] at t2 t3 t7 tz ⊢
    clear hZ
    have k2 := t2; clear t2
    have k3 := t3; clear t3
    have k7 := t7; clear t7
    have hz := tz; clear tz
    refine hK.out _ _ hz (fun hHeld => ?_)
    clear hK K
    refine done_ (by kernel_rfl) ?_
    have HB := Aside0.mk hz
    have BK2 := Aside0.mk k2
    have BK3 := Aside0.mk k3
    have BK7 := Aside0.mk k7
    clear hz hHeld k2 k3 k7
    have hcz_0 := cellS49_0 (blk_below HG.out HB.out)
    have hcz_1 := cellS49_1 (blk_below HG.out HB.out)
    have hcz2_0 := (blk_cell BK2.out 0).trans (show (#[.int .u8 0, .string (⟨#[]⟩ : ByteArray), .int .u64 0, .int .i64 0, .int .i64 0] : Array Value)[0]? = some (.int .u8 0) from rfl)
    have hfz2_0 := blk_frozen BK2.out 0
    have hcz2_1 := (blk_cell BK2.out 1).trans (show (#[.int .u8 0, .string (⟨#[]⟩ : ByteArray), .int .u64 0, .int .i64 0, .int .i64 0] : Array Value)[1]? = some (.string (⟨#[]⟩ : ByteArray)) from rfl)
    have hfz2_1 := blk_frozen BK2.out 1
    have hcz2_2 := (blk_cell BK2.out 2).trans (show (#[.int .u8 0, .string (⟨#[]⟩ : ByteArray), .int .u64 0, .int .i64 0, .int .i64 0] : Array Value)[2]? = some (.int .u64 0) from rfl)
    have hfz2_2 := blk_frozen BK2.out 2
    have hcz2_3 := (blk_cell BK2.out 3).trans (show (#[.int .u8 0, .string (⟨#[]⟩ : ByteArray), .int .u64 0, .int .i64 0, .int .i64 0] : Array Value)[3]? = some (.int .i64 0) from rfl)
    have hfz2_3 := blk_frozen BK2.out 3
    have hcz2_4 := (blk_cell BK2.out 4).trans (show (#[.int .u8 0, .string (⟨#[]⟩ : ByteArray), .int .u64 0, .int .i64 0, .int .i64 0] : Array Value)[4]? = some (.int .i64 0) from rfl)
    have hfz2_4 := blk_frozen BK2.out 4
    have hcz3_0 := (blk_cell BK3.out 0).trans (show (#[.int .i64 0, .int .i64 0] : Array Value)[0]? = some (.int .i64 0) from rfl)
    have hfz3_0 := blk_frozen BK3.out 0
    have hcz3_1 := (blk_cell BK3.out 1).trans (show (#[.int .i64 0, .int .i64 0] : Array Value)[1]? = some (.int .i64 0) from rfl)
    have hfz3_1 := blk_frozen BK3.out 1
    have hcz7_0 := (blk_cell BK7.out 0).trans (show (#[.int .u8 2, .string x, .int .u64 0, .int .i64 (at_ : Int), .int .i64 ((at_ : Int) + (n : Int))] : Array Value)[0]? = some (.int .u8 2) from rfl)
    have hfz7_0 := blk_frozen BK7.out 0
    have hcz7_1 := (blk_cell BK7.out 1).trans (show (#[.int .u8 2, .string x, .int .u64 0, .int .i64 (at_ : Int), .int .i64 ((at_ : Int) + (n : Int))] : Array Value)[1]? = some (.string x) from rfl)
    have hfz7_1 := blk_frozen BK7.out 1
    have hcz7_2 := (blk_cell BK7.out 2).trans (show (#[.int .u8 2, .string x, .int .u64 0, .int .i64 (at_ : Int), .int .i64 ((at_ : Int) + (n : Int))] : Array Value)[2]? = some (.int .u64 0) from rfl)
    have hfz7_2 := blk_frozen BK7.out 2
    have hcz7_3 := (blk_cell BK7.out 3).trans (show (#[.int .u8 2, .string x, .int .u64 0, .int .i64 (at_ : Int), .int .i64 ((at_ : Int) + (n : Int))] : Array Value)[3]? = some (.int .i64 (at_ : Int)) from rfl)
    have hfz7_3 := blk_frozen BK7.out 3
    have hcz7_4 := (blk_cell BK7.out 4).trans (show (#[.int .u8 2, .string x, .int .u64 0, .int .i64 (at_ : Int), .int .i64 ((at_ : Int) + (n : Int))] : Array Value)[4]? = some (.int .i64 ((at_ : Int) + (n : Int))) from rfl)
    have hfz7_4 := blk_frozen BK7.out 4
    go_upto_block 2 with fail
    go_cut [8] (fun v8 w' => (∃ m : Nat, v8 = .int .u64 (m : Int) ∧ top (suffix (D s at_)) = some m) ∧ Below w.heap.size w w' ∧ w'.heap[gb2]? = some (.cells #[.int .u8 0, .string (⟨#[]⟩ : ByteArray), .int .u64 0, .int .i64 0, .int .i64 0] 31 (0, 0)) ∧ w'.heap[gb3]? = some (.cells #[.int .i64 0, .int .i64 0] 51 (0, 0)) ∧ w'.heap[gb7]? = some (.cells #[.int .u8 2, .string x, .int .u64 0, .int .i64 (at_ : Int), .int .i64 ((at_ : Int) + (n : Int))] 31 (0, 0)))
    case first =>
      by_cases e0 : x = ⟨#[]⟩
      · have ht : top (suffix (D s at_)) = some 18446744073709551615 := by rw [← HXD.out, e0]; rfl
        have HT := Aside0.mk ht
        clear ht
        subst e0
        go_wp2
        go_meet
        case rel => exact ⟨⟨18446744073709551615, rfl, HT.out⟩, (by repeat (first | (with_reducible first | exact HB.out | apply below_alloc | apply pw_below_drewN | apply below_drew1 | apply below_drew) | exact HB.out)), (by (with_reducible repeat (first | refine blk_drewN ?_ _ | refine blk_drew ?_ | refine blk_alloc ?_ _)); exact BK2.out), (by (with_reducible repeat (first | refine blk_drewN ?_ _ | refine blk_drew ?_ | refine blk_alloc ?_ _)); exact BK3.out), (by (with_reducible repeat (first | refine blk_drewN ?_ _ | refine blk_drew ?_ | refine blk_alloc ?_ _)); exact BK7.out)⟩
      by_cases e1 : x = ⟨#[105, 54, 52]⟩
      · have ht : top (suffix (D s at_)) = some 18446744073709551615 := by rw [← HXD.out, e1]; rfl
        have HT := Aside0.mk ht
        clear ht
        subst e1
        go_wp2
        go_meet
        case rel => exact ⟨⟨18446744073709551615, rfl, HT.out⟩, (by repeat (first | (with_reducible first | exact HB.out | apply below_alloc | apply pw_below_drewN | apply below_drew1 | apply below_drew) | exact HB.out)), (by (with_reducible repeat (first | refine blk_drewN ?_ _ | refine blk_drew ?_ | refine blk_alloc ?_ _)); exact BK2.out), (by (with_reducible repeat (first | refine blk_drewN ?_ _ | refine blk_drew ?_ | refine blk_alloc ?_ _)); exact BK3.out), (by (with_reducible repeat (first | refine blk_drewN ?_ _ | refine blk_drew ?_ | refine blk_alloc ?_ _)); exact BK7.out)⟩
      by_cases e2 : x = ⟨#[105, 51, 50]⟩
      · have ht : top (suffix (D s at_)) = some 4294967295 := by rw [← HXD.out, e2]; rfl
        have HT := Aside0.mk ht
        clear ht
        subst e2
        go_wp2
        go_meet
        case rel => exact ⟨⟨4294967295, rfl, HT.out⟩, (by repeat (first | (with_reducible first | exact HB.out | apply below_alloc | apply pw_below_drewN | apply below_drew1 | apply below_drew) | exact HB.out)), (by (with_reducible repeat (first | refine blk_drewN ?_ _ | refine blk_drew ?_ | refine blk_alloc ?_ _)); exact BK2.out), (by (with_reducible repeat (first | refine blk_drewN ?_ _ | refine blk_drew ?_ | refine blk_alloc ?_ _)); exact BK3.out), (by (with_reducible repeat (first | refine blk_drewN ?_ _ | refine blk_drew ?_ | refine blk_alloc ?_ _)); exact BK7.out)⟩
      by_cases e3 : x = ⟨#[105, 56]⟩
      · have ht : top (suffix (D s at_)) = some 255 := by rw [← HXD.out, e3]; rfl
        have HT := Aside0.mk ht
        clear ht
        subst e3
        go_wp2
        go_meet
        case rel => exact ⟨⟨255, rfl, HT.out⟩, (by repeat (first | (with_reducible first | exact HB.out | apply below_alloc | apply pw_below_drewN | apply below_drew1 | apply below_drew) | exact HB.out)), (by (with_reducible repeat (first | refine blk_drewN ?_ _ | refine blk_drew ?_ | refine blk_alloc ?_ _)); exact BK2.out), (by (with_reducible repeat (first | refine blk_drewN ?_ _ | refine blk_drew ?_ | refine blk_alloc ?_ _)); exact BK3.out), (by (with_reducible repeat (first | refine blk_drewN ?_ _ | refine blk_drew ?_ | refine blk_alloc ?_ _)); exact BK7.out)⟩
      have ht : top (suffix (D s at_)) = none := by
        have g0 : ∀ l : B, x ≠ ⟨l.toArray⟩ → suffix (D s at_) ≠ l := fun l h h2 => h (str_eq (HXD.out.trans h2))
        unfold top
        rw [if_neg (g0 [] e0), if_neg (g0 [105, 54, 52] e1), if_neg (g0 [105, 51, 50] e2), if_neg (g0 [105, 56] e3)]
      have HT := Aside0.mk ht
      clear ht
      have f0 : x.toList.isEmpty = false := by
        rw [Lib.toList_data]
        cases hl : x.data.toList with
        | nil => exact absurd (str_eq hl) e0
        | cons => rfl
      have f1 : (x.toList == [105, 54, 52]) = false := beq_eq_false_iff_ne.2 (fun h => e1 (str_eq (by rw [← Lib.toList_data]; exact h)))
      have f2 : (x.toList == [105, 51, 50]) = false := beq_eq_false_iff_ne.2 (fun h => e2 (str_eq (by rw [← Lib.toList_data]; exact h)))
      have f3 : (x.toList == [105, 56]) = false := beq_eq_false_iff_ne.2 (fun h => e3 (str_eq (by rw [← Lib.toList_data]; exact h)))
      go_upto_region 9 with fail
      have hz := below_drew HB.out
      have k2 := blk_drew BK2.out
      have k3 := blk_drew BK3.out
      have k7 := blk_drew BK7.out
      refine start_ (n := 8) (S := fun w' => Below w.heap.size w w' ∧ w'.heap[gb7]? = some (.cells #[.int .u8 2, .string x, .int .u64 0, .int .i64 (at_ : Int), .int .i64 ((at_ : Int) + (n : Int))] 31 (0, 0))) (ds := []) #[false, false, false, false, false, false, false, false] (by kernel_rfl) rfl rfl ⟨hz, k7⟩ (fun hHeld => ?_)
      clear HB BK2 BK3 BK7
      (try clear hcz_0 hcz_1)
      (try clear hcz2_0 hfz2_0)
      (try clear hcz2_1 hfz2_1)
      (try clear hcz2_2 hfz2_2)
      (try clear hcz2_3 hfz2_3)
      (try clear hcz2_4 hfz2_4)
      (try clear hcz3_0 hfz3_0)
      (try clear hcz3_1 hfz3_1)
      (try clear hcz7_0 hfz7_0)
      (try clear hcz7_1 hfz7_1)
      (try clear hcz7_2 hfz7_2)
      (try clear hcz7_3 hfz7_3)
      (try clear hcz7_4 hfz7_4)
      (try clear hcz2_0)
      (try clear hcz2_1)
      (try clear hcz2_2)
      (try clear hcz2_3)
      (try clear hcz2_4)
      (try clear hcz3_0)
      (try clear hcz3_1)
      (try clear hcz7_0)
      (try clear hcz7_1)
      (try clear hcz7_2)
      (try clear hcz7_3)
      (try clear hcz7_4)
      generalize hWD : World.drew _ = WD at k2 k3 k7 hz hHeld ⊢
      clear hWD
      refine pure_ (i := 1) (N := some 44) (v := ?_) (a' := ?_) #[false, true, false, false, false, false, false, false] rfl rfl (by kernel_rfl) (fun _ _ _ h => h) (Or.inl ⟨by rfl, ?_⟩) ?_ ?_
      rotate_left
      · intro w'
        go_simp
        with_reducible rfl
      rotate_left
      · simp only [Act.put, List.setIfInBounds_toArray, List.set_cons_zero, List.set_cons_succ, i64_w, i32_w]
        rfl
      refine pure_ (i := 2) (N := some 45) (v := ?_) (a' := ?_) #[false, true, true, false, false, false, false, false] rfl rfl (by kernel_rfl) (fun _ _ _ h => h) (Or.inl ⟨by rfl, ?_⟩) ?_ ?_
      rotate_left
      · intro w'
        go_simp
        with_reducible rfl
      rotate_left
      · simp only [Act.put, List.setIfInBounds_toArray, List.set_cons_zero, List.set_cons_succ, i64_w, i32_w]
        rfl
      refine pure_ (i := 3) (N := some 46) (v := ?_) (a' := ?_) #[false, true, true, true, false, false, false, false] rfl rfl (by kernel_rfl) (fun _ _ _ h => h) (Or.inl ⟨by rfl, ?_⟩) ?_ ?_
      rotate_left
      · intro w'
        go_simp
        with_reducible rfl
      rotate_left
      · simp only [Act.put, List.setIfInBounds_toArray, List.set_cons_zero, List.set_cons_succ, i64_w, i32_w]
        rfl
      refine take_ (i := 0) (N := some 43) (v := ?_) (a' := ?_) #[true, true, true, true, false, false, false, false] rfl rfl (by kernel_rfl) (fun _ _ _ h => h) (Or.inl ⟨by rfl, ?_⟩) hHeld ?_ ?_
      rotate_left
      · intro w' hS
        have hcz7_0 := blk_cell hS.2 0
        have hcz7_1 := blk_cell hS.2 1
        have hcz7_2 := blk_cell hS.2 2
        have hcz7_3 := blk_cell hS.2 3
        have hcz7_4 := blk_cell hS.2 4
        simp only [List.getElem?_toArray, List.getElem?_cons_zero, List.getElem?_cons_succ] at hcz7_0 hcz7_1 hcz7_2 hcz7_3 hcz7_4
        go_simp
        with_reducible rfl
      rotate_left
      · simp only [Act.put, List.setIfInBounds_toArray, List.set_cons_zero, List.set_cons_succ, i64_w, i32_w]
        rfl
      refine take_ (i := 4) (N := some 47) (v := ?_) (a' := ?_) #[true, true, true, true, true, false, false, false] rfl rfl (by kernel_rfl) (fun _ _ _ h => h) (Or.inl ⟨by rfl, ?_⟩) hHeld ?_ ?_
      rotate_left
      · intro w' hS
        have hcz_1 := cellS49_1 (blk_below HG.out hS.1)
        go_simp
        with_reducible rfl
      rotate_left
      · simp only [Act.put, List.setIfInBounds_toArray, List.set_cons_zero, List.set_cons_succ, i64_w, i32_w]
        rfl
      refine pure_ (i := 5) (N := some 48) (v := ?_) (a' := ?_) #[true, true, true, true, true, true, false, false] rfl rfl (by kernel_rfl) (fun _ _ _ h => h) (Or.inl ⟨by rfl, ?_⟩) ?_ ?_
      rotate_left
      · intro w'
        go_simp
        with_reducible rfl
      rotate_left
      · simp only [Act.put, List.setIfInBounds_toArray, List.set_cons_zero, List.set_cons_succ, i64_w, i32_w]
        rfl
      refine one_ (i := 6) (N := none) #[true, true, true, true, true, true, true, false] rfl rfl (by kernel_rfl) (by decide) (fun K hK => ?_)
      have hcw_0 := blk_cell k2 0
      have hcw_1 := blk_cell k2 1
      have hcw_2 := blk_cell k2 2
      have hcw_3 := blk_cell k2 3
      have hcw_4 := blk_cell k2 4
      have hfw_0 := blk_frozen k2 0
      have hfw_1 := blk_frozen k2 1
      have hfw_2 := blk_frozen k2 2
      have hfw_3 := blk_frozen k2 3
      have hfw_4 := blk_frozen k2 4
      simp only [List.getElem?_toArray, List.getElem?_cons_zero, List.getElem?_cons_succ] at hcw_0 hcw_1 hcw_2 hcw_3 hcw_4
      refine skip_ (w1 := ?_) (by rfl) rfl ?_ ?_
      rotate_left
      · go_simp
        rfl
      clear hcw_0 hfw_0 hcw_1 hfw_1 hcw_2 hfw_2 hcw_3 hfw_3 hcw_4 hfw_4
      have t2 := put5 (.int .u8 2) (.string x) (.int .u64 0) (.int .i64 (at_ : Int)) (.int .i64 ((at_ : Int) + (n : Int))) k2
      have t3 := far5 (NE2_3).symm (.int .u8 2) (.string x) (.int .u64 0) (.int .i64 (at_ : Int)) (.int .i64 ((at_ : Int) + (n : Int))) k3
      have t7 := far5 (NE2_7).symm (.int .u8 2) (.string x) (.int .u64 0) (.int .i64 (at_ : Int)) (.int .i64 ((at_ : Int) + (n : Int))) k7
      have tz := set5 (.int .u8 2) (.string x) (.int .u64 0) (.int .i64 (at_ : Int)) (.int .i64 ((at_ : Int) + (n : Int))) hz GE2.out
      clear k2 k3 k7 hz
      obtain ⟨Z1, hZ⟩ : ∃ Z, (((((WD).setCell ⟨gb2, 0, none⟩ (.int .u8 2)).setCell ⟨gb2, 1, none⟩ (.string x)).setCell ⟨gb2, 2, none⟩ (.int .u64 0)).setCell ⟨gb2, 3, none⟩ (.int .i64 (at_ : Int))).setCell ⟨gb2, 4, none⟩ (.int .i64 ((at_ : Int) + (n : Int))) = Z := ⟨_, rfl⟩
      rw [hZ] at t2 t3 t7 tz ⊢
      clear hZ
      have k2 := t2; clear t2
      have k3 := t3; clear t3
      have k7 := t7; clear t7
      have hz := tz; clear tz
      refine hK.out _ _ ⟨hz, k7⟩ (fun hHeld => ?_)
      clear hK K
      refine one_ (i := 7) (N := none) #[true, true, true, true, true, true, true, true] rfl rfl (by kernel_rfl) (by decide) (fun K hK => ?_)
      have hcw_0 := blk_cell k3 0
      have hcw_1 := blk_cell k3 1
      have hfw_0 := blk_frozen k3 0
      have hfw_1 := blk_frozen k3 1
      simp only [List.getElem?_toArray, List.getElem?_cons_zero, List.getElem?_cons_succ] at hcw_0 hcw_1
      refine skip_ (w1 := ?_) (by rfl) rfl ?_ ?_
      rotate_left
      · go_simp
        rfl
      clear hcw_0 hfw_0 hcw_1 hfw_1
      have t3 := put2 (.int .i64 (at_ : Int)) (.int .i64 33) k3
      have t2 := far2 (NE2_3) (.int .i64 (at_ : Int)) (.int .i64 33) k2
      have t7 := far2 (NE3_7).symm (.int .i64 (at_ : Int)) (.int .i64 33) k7
      have tz := set2 (.int .i64 (at_ : Int)) (.int .i64 33) hz GE3.out
      clear k2 k3 k7 hz
      obtain ⟨Z2, hZ⟩ : ∃ Z, ((Z1).setCell ⟨gb3, 0, none⟩ (.int .i64 (at_ : Int))).setCell ⟨gb3, 1, none⟩ (.int .i64 33) = Z := ⟨_, rfl⟩
      rw [hZ] at t2 t3 t7 tz ⊢
      clear hZ
      have k2 := t2; clear t2
      have k3 := t3; clear t3
      have k7 := t7; clear t7
      have hz := tz; clear tz
      refine hK.out _ _ ⟨hz, k7⟩ (fun hHeld => ?_)
      clear hK K
      refine done_ (by kernel_rfl) ?_
      have HB := Aside0.mk hz
      have BK2 := Aside0.mk k2
      have BK3 := Aside0.mk k3
      have BK7 := Aside0.mk k7
      clear hz hHeld k2 k3 k7
      go_wp2
      refine bodyPost_ret (results_cc rfl _ _ gb2 gb3 31 51 _ _ (0, 0) (0, 0) _ _ rfl BK2.out Try.underlying31 rfl (by kernel_rfl) rfl BK3.out Try.underlying51 rfl (by kernel_rfl)) rfl ?_
      exact ⟨(by rw [show num (D s at_) = .bad 0 33 from by unfold num; rw [HT.out]]; exact ⟨2, x, 0, at_, (at_ : Int) + (n : Int), by simp⟩), HB.out⟩
    case rest =>
      clear HB BK2 BK3 BK7
      (try clear hcz2_0 hfz2_0)
      (try clear hcz2_1 hfz2_1)
      (try clear hcz2_2 hfz2_2)
      (try clear hcz2_3 hfz2_3)
      (try clear hcz2_4 hfz2_4)
      (try clear hcz3_0 hfz3_0)
      (try clear hcz3_1 hfz3_1)
      (try clear hcz7_0 hfz7_0)
      (try clear hcz7_1 hfz7_1)
      (try clear hcz7_2 hfz7_2)
      (try clear hcz7_3 hfz7_3)
      (try clear hcz7_4 hfz7_4)
      obtain ⟨⟨m, rfl, hm⟩, hb_, k2_, k3_, k7_⟩ := hcut
      have HB := Aside0.mk hb_; have BK2 := Aside0.mk k2_; have BK3 := Aside0.mk k3_; have BK7 := Aside0.mk k7_; have HM := Aside0.mk hm; clear hb_ k2_ k3_ k7_ hm
      have HMX : Aside0 (m ≤ 18446744073709551615) := ⟨(top_range HM.out).2⟩
      have HM9 : Aside0 (255 ≤ m) := ⟨(top_range HM.out).1⟩
      go_wp2
      have HB' := HB; have BK2' := BK2; have BK3' := BK3; have BK7' := BK7
      clear HB BK2 BK3 BK7
      go_loopg [57] (dn + 1) (fun kq v57 w' => ∃ i v : Nat, Aside0 (kq + i = dn + 1) ∧ Aside0 (i ≤ dn) ∧ v57 = .int .i64 (i : Int) ∧ Aside0 (v ≤ m) ∧ Aside0 (numv m 0 (digits (D s at_)) = numv m v ((digits (D s at_)).drop i)) ∧ Aside0 (Below w.heap.size w w') ∧ Aside0 (w'.heap[gb2]? = some (.cells #[.int .u8 0, .string (⟨#[]⟩ : ByteArray), .int .u64 0, .int .i64 0, .int .i64 0] 31 (0, 0))) ∧ Aside0 (w'.heap[gb3]? = some (.cells #[.int .i64 0, .int .i64 0] 51 (0, 0))) ∧ Aside0 (w'.heap[gb7]? = some (.cells #[.int .u8 2, .string x, .int .u64 (v : Int), .int .i64 (at_ : Int), .int .i64 ((at_ : Int) + (n : Int))] 31 (0, 0))))
      case atStart => exact ⟨0, 0, ⟨rfl⟩, ⟨Nat.zero_le _⟩, rfl, ⟨Nat.zero_le _⟩, ⟨rfl⟩, HB', BK2', BK3', BK7'⟩
      case round =>
        clear HB' BK2' BK3' BK7'
        obtain ⟨i, v, HQ, HI, rfl, HV, HE, HB, BK2, BK3, BK7⟩ := hrel
        by_cases h1 : i < dn
        · have c1 : decide ((i : Int) < (dn : Int)) = true := decide_eq_true (by omega)
          have c2 : decide (i < dn) = true := decide_eq_true h1
          have h2 : i < r.size := by have := HDW.out; have := HNR.out; omega
          have t1 : (0 ≤ (i : Int)) = True := eq_true (by omega)
          have t2 : ((i : Int) < (r.size : Int)) = True := eq_true (by omega)
          have t3 : (i < r.size) = True := eq_true h2
          have b1 : (i : Int) ≤ 1000000 := by have := HSZ.out; have := HRS.out; omega
          have b0 : 0 ≤ (i : Int) := by omega
          obtain ⟨c, hc, hcd, hcr⟩ := digit_at (D s at_) (i := i) (by rw [HDN.out]; exact h1)
          have hr0 : ∀ h : i < r.size, (((r[i]'h).toNat : Nat) : Int) = (c.toNat : Int) := fun h => by
            have e1 := bt_at_nat r i h
            rw [e1, bt_nat r i (by rw [← size_len]; exact h)]
            have e2 : r.data.toList[i]? = some c := by rw [HRD.out]; exact hcr
            rw [List.getElem?_eq_getElem (by rw [← size_len]; exact h)] at e2
            rw [Option.some.inj e2]
          obtain ⟨d, hd⟩ : ∃ d, c.toNat - 48 = d := ⟨_, rfl⟩
          have hd9 : d ≤ 9 ∧ c.toNat = 48 + d := by have := digit_range hcd; omega
          obtain ⟨md, hmd⟩ : ∃ md, m - d = md := ⟨_, rfl⟩
          obtain ⟨q, hq⟩ : ∃ q, md / 10 = q := ⟨_, rfl⟩
          have hM := HMX.out; have hM9 := HM9.out
          have w1 : IntKind.u8.wrap ((c.toNat : Int) - 48) = (d : Int) := by rw [hd9.2, IntWalk.u8_in _ (by have := hd9.1; omega)]; omega
          have w2 : IntKind.u64.wrap (d : Int) = (d : Int) := IntWalk.u64_in _ (by have := hd9.1; omega)
          have w3 : IntKind.u64.wrap ((m : Int) - (d : Int)) = (md : Int) := by rw [IntWalk.u64_in _ (by have := hd9.1; omega)]; have := hd9.1; omega
          have w5 : IntKind.u64.wrap (q : Int) = (q : Int) := IntWalk.u64_in _ (by omega)
          have w4 : Int.tdiv (md : Int) 10 = (q : Int) := by rw [← hq]; rfl
          have HH1 := Aside0.mk h1
          have HC := Aside0.mk hc
          have HD9 := Aside0.mk hd9
          have HDQ := Aside0.mk hd
          have HMD := Aside0.mk hmd
          have HQQ := Aside0.mk hq
          clear h1 h2 hc hcd hcr hd hd9 hmd hq hM hM9
          by_cases hgt : q < v
          · have c3 : decide ((v : Int) > (q : Int)) = true := decide_eq_true (by omega)
            have c4 : decide (q < v) = true := decide_eq_true hgt
            have c5 : decide ((q : Int) < (v : Int)) = true := decide_eq_true (by omega)
            have HGT := Aside0.mk hgt
            clear hgt
            have hcz7_0 := (blk_cell BK7.out 0).trans (show (#[.int .u8 2, .string x, .int .u64 (v : Int), .int .i64 (at_ : Int), .int .i64 ((at_ : Int) + (n : Int))] : Array Value)[0]? = some (.int .u8 2) from rfl)
            have hfz7_0 := blk_frozen BK7.out 0
            have hcz7_1 := (blk_cell BK7.out 1).trans (show (#[.int .u8 2, .string x, .int .u64 (v : Int), .int .i64 (at_ : Int), .int .i64 ((at_ : Int) + (n : Int))] : Array Value)[1]? = some (.string x) from rfl)
            have hfz7_1 := blk_frozen BK7.out 1
            have hcz7_2 := (blk_cell BK7.out 2).trans (show (#[.int .u8 2, .string x, .int .u64 (v : Int), .int .i64 (at_ : Int), .int .i64 ((at_ : Int) + (n : Int))] : Array Value)[2]? = some (.int .u64 (v : Int)) from rfl)
            have hfz7_2 := blk_frozen BK7.out 2
            have hcz7_3 := (blk_cell BK7.out 3).trans (show (#[.int .u8 2, .string x, .int .u64 (v : Int), .int .i64 (at_ : Int), .int .i64 ((at_ : Int) + (n : Int))] : Array Value)[3]? = some (.int .i64 (at_ : Int)) from rfl)
            have hfz7_3 := blk_frozen BK7.out 3
            have hcz7_4 := (blk_cell BK7.out 4).trans (show (#[.int .u8 2, .string x, .int .u64 (v : Int), .int .i64 (at_ : Int), .int .i64 ((at_ : Int) + (n : Int))] : Array Value)[4]? = some (.int .i64 ((at_ : Int) + (n : Int))) from rfl)
            have hfz7_4 := blk_frozen BK7.out 4
            go_upto_region 21 with fail
            have hz := below_drew HB.out
            have k2 := blk_drew BK2.out
            have k3 := blk_drew BK3.out
            have k7 := blk_drew BK7.out
            refine start_ (n := 8) (S := fun w' => Below w.heap.size w w' ∧ w'.heap[gb7]? = some (.cells #[.int .u8 2, .string x, .int .u64 (v : Int), .int .i64 (at_ : Int), .int .i64 ((at_ : Int) + (n : Int))] 31 (0, 0))) (ds := []) #[false, false, false, false, false, false, false, false] (by kernel_rfl) rfl rfl ⟨hz, k7⟩ (fun hHeld => ?_)
            clear HB BK2 BK3 BK7
            (try clear hcz_0 hcz_1)
            (try clear hcz2_0 hfz2_0)
            (try clear hcz2_1 hfz2_1)
            (try clear hcz2_2 hfz2_2)
            (try clear hcz2_3 hfz2_3)
            (try clear hcz2_4 hfz2_4)
            (try clear hcz3_0 hfz3_0)
            (try clear hcz3_1 hfz3_1)
            (try clear hcz7_0 hfz7_0)
            (try clear hcz7_1 hfz7_1)
            (try clear hcz7_2 hfz7_2)
            (try clear hcz7_3 hfz7_3)
            (try clear hcz7_4 hfz7_4)
            (try clear hcz2_0)
            (try clear hcz2_1)
            (try clear hcz2_2)
            (try clear hcz2_3)
            (try clear hcz2_4)
            (try clear hcz3_0)
            (try clear hcz3_1)
            (try clear hcz7_0)
            (try clear hcz7_1)
            (try clear hcz7_2)
            (try clear hcz7_3)
            (try clear hcz7_4)
            generalize hWD : World.drew _ = WD at k2 k3 k7 hz hHeld ⊢
            clear hWD
            refine pure_ (i := 1) (N := some 73) (v := ?_) (a' := ?_) #[false, true, false, false, false, false, false, false] rfl rfl (by kernel_rfl) (fun _ _ _ h => h) (Or.inl ⟨by rfl, ?_⟩) ?_ ?_
            rotate_left
            · intro w'
              go_simp
              with_reducible rfl
            rotate_left
            · simp only [Act.put, List.setIfInBounds_toArray, List.set_cons_zero, List.set_cons_succ, i64_w, i32_w]
              rfl
            refine pure_ (i := 2) (N := some 74) (v := ?_) (a' := ?_) #[false, true, true, false, false, false, false, false] rfl rfl (by kernel_rfl) (fun _ _ _ h => h) (Or.inl ⟨by rfl, ?_⟩) ?_ ?_
            rotate_left
            · intro w'
              go_simp
              with_reducible rfl
            rotate_left
            · simp only [Act.put, List.setIfInBounds_toArray, List.set_cons_zero, List.set_cons_succ, i64_w, i32_w]
              rfl
            refine pure_ (i := 3) (N := some 75) (v := ?_) (a' := ?_) #[false, true, true, true, false, false, false, false] rfl rfl (by kernel_rfl) (fun _ _ _ h => h) (Or.inl ⟨by rfl, ?_⟩) ?_ ?_
            rotate_left
            · intro w'
              go_simp
              with_reducible rfl
            rotate_left
            · simp only [Act.put, List.setIfInBounds_toArray, List.set_cons_zero, List.set_cons_succ, i64_w, i32_w]
              rfl
            refine take_ (i := 0) (N := some 72) (v := ?_) (a' := ?_) #[true, true, true, true, false, false, false, false] rfl rfl (by kernel_rfl) (fun _ _ _ h => h) (Or.inl ⟨by rfl, ?_⟩) hHeld ?_ ?_
            rotate_left
            · intro w' hS
              have hcz7_0 := blk_cell hS.2 0
              have hcz7_1 := blk_cell hS.2 1
              have hcz7_2 := blk_cell hS.2 2
              have hcz7_3 := blk_cell hS.2 3
              have hcz7_4 := blk_cell hS.2 4
              simp only [List.getElem?_toArray, List.getElem?_cons_zero, List.getElem?_cons_succ] at hcz7_0 hcz7_1 hcz7_2 hcz7_3 hcz7_4
              go_simp
              with_reducible rfl
            rotate_left
            · simp only [Act.put, List.setIfInBounds_toArray, List.set_cons_zero, List.set_cons_succ, i64_w, i32_w]
              rfl
            refine take_ (i := 4) (N := some 76) (v := ?_) (a' := ?_) #[true, true, true, true, true, false, false, false] rfl rfl (by kernel_rfl) (fun _ _ _ h => h) (Or.inl ⟨by rfl, ?_⟩) hHeld ?_ ?_
            rotate_left
            · intro w' hS
              have hcz_1 := cellS49_1 (blk_below HG.out hS.1)
              go_simp
              with_reducible rfl
            rotate_left
            · simp only [Act.put, List.setIfInBounds_toArray, List.set_cons_zero, List.set_cons_succ, i64_w, i32_w]
              rfl
            refine pure_ (i := 5) (N := some 77) (v := ?_) (a' := ?_) #[true, true, true, true, true, true, false, false] rfl rfl (by kernel_rfl) (fun _ _ _ h => h) (Or.inl ⟨by rfl, ?_⟩) ?_ ?_
            rotate_left
            · intro w'
              go_simp
              with_reducible rfl
            rotate_left
            · simp only [Act.put, List.setIfInBounds_toArray, List.set_cons_zero, List.set_cons_succ, i64_w, i32_w]
              rfl
            refine one_ (i := 6) (N := none) #[true, true, true, true, true, true, true, false] rfl rfl (by kernel_rfl) (by decide) (fun K hK => ?_)
            have hcw_0 := blk_cell k2 0
            have hcw_1 := blk_cell k2 1
            have hcw_2 := blk_cell k2 2
            have hcw_3 := blk_cell k2 3
            have hcw_4 := blk_cell k2 4
            have hfw_0 := blk_frozen k2 0
            have hfw_1 := blk_frozen k2 1
            have hfw_2 := blk_frozen k2 2
            have hfw_3 := blk_frozen k2 3
            have hfw_4 := blk_frozen k2 4
            simp only [List.getElem?_toArray, List.getElem?_cons_zero, List.getElem?_cons_succ] at hcw_0 hcw_1 hcw_2 hcw_3 hcw_4
            refine skip_ (w1 := ?_) (by rfl) rfl ?_ ?_
            rotate_left
            · go_simp
              rfl
            clear hcw_0 hfw_0 hcw_1 hfw_1 hcw_2 hfw_2 hcw_3 hfw_3 hcw_4 hfw_4
            have t2 := put5 (.int .u8 2) (.string x) (.int .u64 (v : Int)) (.int .i64 (at_ : Int)) (.int .i64 ((at_ : Int) + (n : Int))) k2
            have t3 := far5 (NE2_3).symm (.int .u8 2) (.string x) (.int .u64 (v : Int)) (.int .i64 (at_ : Int)) (.int .i64 ((at_ : Int) + (n : Int))) k3
            have t7 := far5 (NE2_7).symm (.int .u8 2) (.string x) (.int .u64 (v : Int)) (.int .i64 (at_ : Int)) (.int .i64 ((at_ : Int) + (n : Int))) k7
            have tz := set5 (.int .u8 2) (.string x) (.int .u64 (v : Int)) (.int .i64 (at_ : Int)) (.int .i64 ((at_ : Int) + (n : Int))) hz GE2.out
            clear k2 k3 k7 hz
            obtain ⟨Z1, hZ⟩ : ∃ Z, (((((WD).setCell ⟨gb2, 0, none⟩ (.int .u8 2)).setCell ⟨gb2, 1, none⟩ (.string x)).setCell ⟨gb2, 2, none⟩ (.int .u64 (v : Int))).setCell ⟨gb2, 3, none⟩ (.int .i64 (at_ : Int))).setCell ⟨gb2, 4, none⟩ (.int .i64 ((at_ : Int) + (n : Int))) = Z := ⟨_, rfl⟩
            rw [hZ] at t2 t3 t7 tz ⊢
            clear hZ
            have k2 := t2; clear t2
            have k3 := t3; clear t3
            have k7 := t7; clear t7
            have hz := tz; clear tz
            refine hK.out _ _ ⟨hz, k7⟩ (fun hHeld => ?_)
            clear hK K
            refine one_ (i := 7) (N := none) #[true, true, true, true, true, true, true, true] rfl rfl (by kernel_rfl) (by decide) (fun K hK => ?_)
            have hcw_0 := blk_cell k3 0
            have hcw_1 := blk_cell k3 1
            have hfw_0 := blk_frozen k3 0
            have hfw_1 := blk_frozen k3 1
            simp only [List.getElem?_toArray, List.getElem?_cons_zero, List.getElem?_cons_succ] at hcw_0 hcw_1
            refine skip_ (w1 := ?_) (by rfl) rfl ?_ ?_
            rotate_left
            · go_simp
              rfl
            clear hcw_0 hfw_0 hcw_1 hfw_1
            have t3 := put2 (.int .i64 (at_ : Int)) (.int .i64 33) k3
            have t2 := far2 (NE2_3) (.int .i64 (at_ : Int)) (.int .i64 33) k2
            have t7 := far2 (NE3_7).symm (.int .i64 (at_ : Int)) (.int .i64 33) k7
            have tz := set2 (.int .i64 (at_ : Int)) (.int .i64 33) hz GE3.out
            clear k2 k3 k7 hz
            obtain ⟨Z2, hZ⟩ : ∃ Z, ((Z1).setCell ⟨gb3, 0, none⟩ (.int .i64 (at_ : Int))).setCell ⟨gb3, 1, none⟩ (.int .i64 33) = Z := ⟨_, rfl⟩
            rw [hZ] at t2 t3 t7 tz ⊢
            clear hZ
            have k2 := t2; clear t2
            have k3 := t3; clear t3
            have k7 := t7; clear t7
            have hz := tz; clear tz
            refine hK.out _ _ ⟨hz, k7⟩ (fun hHeld => ?_)
            clear hK K
            refine done_ (by kernel_rfl) ?_
            have HB := Aside0.mk hz
            have BK2 := Aside0.mk k2
            have BK3 := Aside0.mk k3
            have BK7 := Aside0.mk k7
            clear hz hHeld k2 k3 k7
            go_wp2
            refine bodyPost_ret (results_cc rfl _ _ gb2 gb3 31 51 _ _ (0, 0) (0, 0) _ _ rfl BK2.out Try.underlying31 rfl (by kernel_rfl) rfl BK3.out Try.underlying51 rfl (by kernel_rfl)) rfl ?_
            exact ⟨(by rw [show num (D s at_) = .bad 0 33 from by unfold num; rw [HM.out]; simp only; rw [HE.out, HC.out, numv, HDQ.out, HMD.out, HQQ.out, if_pos HGT.out]]; exact ⟨2, x, v, at_, (at_ : Int) + (n : Int), by simp⟩), HB.out⟩
          · have c3 : decide ((v : Int) > (q : Int)) = false := decide_eq_false (by omega)
            have c4 : decide (q < v) = false := decide_eq_false hgt
            have c5 : decide ((q : Int) < (v : Int)) = false := decide_eq_false (by omega)
            have w6 : IntKind.u64.wrap (10 * (v : Int)) = 10 * (v : Int) := IntWalk.u64_in _ (by have := HMX.out; have := HMD.out; have := HQQ.out; omega)
            have w7 : IntKind.u64.wrap (10 * (v : Int) + (d : Int)) = 10 * (v : Int) + (d : Int) := IntWalk.u64_in _ (by have := HMX.out; have := HM9.out; have := HMD.out; have := HQQ.out; have := HD9.out.1; omega)
            have w8 : IntKind.i64.wrap ((i : Int) + 1) = (i : Int) + 1 := by rw [i64_w, w64 (by omega) (by omega)]
            have HGT := Aside0.mk hgt
            clear hgt
            have hcz7_0 := (blk_cell BK7.out 0).trans (show (#[.int .u8 2, .string x, .int .u64 (v : Int), .int .i64 (at_ : Int), .int .i64 ((at_ : Int) + (n : Int))] : Array Value)[0]? = some (.int .u8 2) from rfl)
            have hfz7_0 := blk_frozen BK7.out 0
            have hcz7_1 := (blk_cell BK7.out 1).trans (show (#[.int .u8 2, .string x, .int .u64 (v : Int), .int .i64 (at_ : Int), .int .i64 ((at_ : Int) + (n : Int))] : Array Value)[1]? = some (.string x) from rfl)
            have hfz7_1 := blk_frozen BK7.out 1
            have hcz7_2 := (blk_cell BK7.out 2).trans (show (#[.int .u8 2, .string x, .int .u64 (v : Int), .int .i64 (at_ : Int), .int .i64 ((at_ : Int) + (n : Int))] : Array Value)[2]? = some (.int .u64 (v : Int)) from rfl)
            have hfz7_2 := blk_frozen BK7.out 2
            have hcz7_3 := (blk_cell BK7.out 3).trans (show (#[.int .u8 2, .string x, .int .u64 (v : Int), .int .i64 (at_ : Int), .int .i64 ((at_ : Int) + (n : Int))] : Array Value)[3]? = some (.int .i64 (at_ : Int)) from rfl)
            have hfz7_3 := blk_frozen BK7.out 3
            have hcz7_4 := (blk_cell BK7.out 4).trans (show (#[.int .u8 2, .string x, .int .u64 (v : Int), .int .i64 (at_ : Int), .int .i64 ((at_ : Int) + (n : Int))] : Array Value)[4]? = some (.int .i64 ((at_ : Int) + (n : Int))) from rfl)
            have hfz7_4 := blk_frozen BK7.out 4
            go_wp2
            go_roundg (dn - i)
            case measure => have := HQ.out; have := HH1.out; omega
            case rel => exact ⟨i + 1, 10 * v + d, ⟨by have := HH1.out; omega⟩, HH1, by simp, ⟨by have := HGT.out; have := HQQ.out; have := HMD.out; have := HM9.out; have := HD9.out; omega⟩, ⟨by rw [HE.out, HC.out, numv, HDQ.out, HMD.out, HQQ.out, if_neg HGT.out]⟩, ⟨below_set (by repeat (first | (with_reducible first | exact HB.out | apply below_alloc | apply pw_below_drewN | apply below_drew1 | apply below_drew) | exact HB.out)) GE7.out⟩, ⟨blk_far (by (with_reducible repeat (first | refine blk_drewN ?_ _ | refine blk_drew ?_ | refine blk_alloc ?_ _)); exact BK2.out) NE2_7 _⟩, ⟨blk_far (by (with_reducible repeat (first | refine blk_drewN ?_ _ | refine blk_drew ?_ | refine blk_alloc ?_ _)); exact BK3.out) NE3_7 _⟩, ⟨by have z := blk_put (cs' := #[.int .u8 2, .string x, .int .u64 ((10 * v + d : Nat) : Int), .int .i64 (at_ : Int), .int .i64 ((at_ : Int) + (n : Int))]) (by (with_reducible repeat (first | refine blk_drewN ?_ _ | refine blk_drew ?_ | refine blk_alloc ?_ _)); exact BK7.out) 2 (.int .u64 ((10 * v + d : Nat) : Int)) rfl; simpa using z⟩⟩
        · have c1 : decide ((i : Int) < (dn : Int)) = false := decide_eq_false (by omega)
          have c2 : decide (i < dn) = false := decide_eq_false h1
          have HI9 : Aside0 (i = dn) := ⟨by have := HI.out; omega⟩
          clear h1
          have hcz7_0 := (blk_cell BK7.out 0).trans (show (#[.int .u8 2, .string x, .int .u64 (v : Int), .int .i64 (at_ : Int), .int .i64 ((at_ : Int) + (n : Int))] : Array Value)[0]? = some (.int .u8 2) from rfl)
          have hfz7_0 := blk_frozen BK7.out 0
          have hcz7_1 := (blk_cell BK7.out 1).trans (show (#[.int .u8 2, .string x, .int .u64 (v : Int), .int .i64 (at_ : Int), .int .i64 ((at_ : Int) + (n : Int))] : Array Value)[1]? = some (.string x) from rfl)
          have hfz7_1 := blk_frozen BK7.out 1
          have hcz7_2 := (blk_cell BK7.out 2).trans (show (#[.int .u8 2, .string x, .int .u64 (v : Int), .int .i64 (at_ : Int), .int .i64 ((at_ : Int) + (n : Int))] : Array Value)[2]? = some (.int .u64 (v : Int)) from rfl)
          have hfz7_2 := blk_frozen BK7.out 2
          have hcz7_3 := (blk_cell BK7.out 3).trans (show (#[.int .u8 2, .string x, .int .u64 (v : Int), .int .i64 (at_ : Int), .int .i64 ((at_ : Int) + (n : Int))] : Array Value)[3]? = some (.int .i64 (at_ : Int)) from rfl)
          have hfz7_3 := blk_frozen BK7.out 3
          have hcz7_4 := (blk_cell BK7.out 4).trans (show (#[.int .u8 2, .string x, .int .u64 (v : Int), .int .i64 (at_ : Int), .int .i64 ((at_ : Int) + (n : Int))] : Array Value)[4]? = some (.int .i64 ((at_ : Int) + (n : Int))) from rfl)
          have hfz7_4 := blk_frozen BK7.out 4
          go_upto_region 24 with fail
          have hcz2_0 := (blk_cell BK2.out 0).trans (show (#[.int .u8 0, .string (⟨#[]⟩ : ByteArray), .int .u64 0, .int .i64 0, .int .i64 0] : Array Value)[0]? = some (.int .u8 0) from rfl)
          have hfz2_0 := blk_frozen BK2.out 0
          have hcz2_1 := (blk_cell BK2.out 1).trans (show (#[.int .u8 0, .string (⟨#[]⟩ : ByteArray), .int .u64 0, .int .i64 0, .int .i64 0] : Array Value)[1]? = some (.string (⟨#[]⟩ : ByteArray)) from rfl)
          have hfz2_1 := blk_frozen BK2.out 1
          have hcz2_2 := (blk_cell BK2.out 2).trans (show (#[.int .u8 0, .string (⟨#[]⟩ : ByteArray), .int .u64 0, .int .i64 0, .int .i64 0] : Array Value)[2]? = some (.int .u64 0) from rfl)
          have hfz2_2 := blk_frozen BK2.out 2
          have hcz2_3 := (blk_cell BK2.out 3).trans (show (#[.int .u8 0, .string (⟨#[]⟩ : ByteArray), .int .u64 0, .int .i64 0, .int .i64 0] : Array Value)[3]? = some (.int .i64 0) from rfl)
          have hfz2_3 := blk_frozen BK2.out 3
          have hcz2_4 := (blk_cell BK2.out 4).trans (show (#[.int .u8 0, .string (⟨#[]⟩ : ByteArray), .int .u64 0, .int .i64 0, .int .i64 0] : Array Value)[4]? = some (.int .i64 0) from rfl)
          have hfz2_4 := blk_frozen BK2.out 4
          have hcz3_0 := (blk_cell BK3.out 0).trans (show (#[.int .i64 0, .int .i64 0] : Array Value)[0]? = some (.int .i64 0) from rfl)
          have hfz3_0 := blk_frozen BK3.out 0
          have hcz3_1 := (blk_cell BK3.out 1).trans (show (#[.int .i64 0, .int .i64 0] : Array Value)[1]? = some (.int .i64 0) from rfl)
          have hfz3_1 := blk_frozen BK3.out 1
          go_wp2
          refine bodyPost_ret (results_cc rfl _ _ gb2 gb3 31 51 _ _ (0, 0) (0, 0) _ _ rfl (far2 NE2_3 _ _ (put5 _ _ _ _ _ BK2.out)) Try.underlying31 rfl (by kernel_rfl) rfl (put2 _ _ (far5 NE2_3.symm _ _ _ _ _ BK3.out)) Try.underlying51 rfl (by kernel_rfl)) rfl ?_
          exact ⟨(by rw [show num (D s at_) = .ok 2 (suffix (D s at_)) v n from by unfold num; rw [HM.out]; simp only; rw [HE.out, HI9.out, ← HDN.out, List.drop_length]; simp only [numv]; rw [HNW.out]]; show _ = _; rw [← str_eq HXD.out]; simp), set2 _ _ (set5 _ _ _ _ _ HB.out GE2.out) GE3.out⟩

end Go.Proofs.Ytmmilinbpimfaaa.WalkNumber
