/- Next. Under no conditions beyond the statements' own. -/
import Derived.Test.YtmmilinbpimfaaaPureLex
import Derived.Test.YtmmilinbpimfaaaSwitch
import Derived.Test.YtmmilinbpimfaaaWalkBlanks
import Derived.Test.YtmmilinbpimfaaaWalkSign
import Derived.Test.YtmmilinbpimfaaaWalkNumber
import Derived.Test.YtmmilinbpimfaaaWalkText
import Derived.Outline
import Derived.Deep.RegionWith
import Derived.Deep.QuietTactic
import Derived.BigQuiet
import Derived.Deep.LoopGhost
import Derived.StillTailTactics
set_option linter.unusedSimpArgs false
set_option linter.unusedVariables false
namespace Go.Proofs.Ytmmilinbpimfaaa.WalkNext
open Go.RowKit Go.Proofs.Ytmmilinbpimfaaa.PLexKnown Go.Proofs.YtmmilinbpimfaaaW.PrintWords Go.Proofs.YtmmilinbpimfaaaW.PrintLast Go.Proofs.YtmmilinbpimfaaaW.PrintMore Go.Proofs.Ytmmilinbpimfaaa.Switch Go.Proofs.Ytmmilinbpimfaaa.Spec Go.Proofs.Ytmmilinbpimfaaa.PureLex
open Go.Proofs.Ytmmilinbpimfaaa.WalkBlanks
open Go.Proofs.Ytmmilinbpimfaaa.WalkSign
open Go.Proofs.Ytmmilinbpimfaaa.WalkNumber
open Go.Proofs.Ytmmilinbpimfaaa.WalkText
theorem tok_form {at_ : Nat} {r : Res} {e : Ending} (h : Tok at_ r e) : ∃ (k : Int) (t : ByteArray) (n a b x y : Int), e = .returned (.tuple #[.agg #[.int .u8 k, .string t, .int .u64 n, .int .i64 a, .int .i64 b], .agg #[.int .i64 x, .int .i64 y]]) := by
  cases r with
  | ok => exact ⟨_, _, _, _, _, _, _, h⟩
  | bad =>
    obtain ⟨k, t, n, a, b, h⟩ := h
    exact ⟨k, t, n, a, b, _, _, h⟩
theorem word_take (l : B) : l.take (word l).length = word l := (List.prefix_iff_eq_take.1 (List.takeWhile_prefix _)).symm

set_option maxHeartbeats 8000000 in
set_option maxRecDepth 100000 in
theorem next_c (s : ByteArray) (hn : s.size ≤ 1000000) (g at_ : Nat) (hlt : at_ < s.size) (w : World) (hg : Scan w g s at_) :
    Calls Try.prog 47 #[.pointer (some ⟨g, 0, none⟩)] w fun e w' => Tok at_ (nxt (D s at_)) e ∧ Below w.heap.size w w' := by
  obtain ⟨c, hc, hbt⟩ := D_cons hlt
  obtain ⟨r, hr⟩ : ∃ r, s.extract at_ s.size = r := ⟨_, rfl⟩
  have hrd : r.data.toList = D s at_ := by rw [← hr, D_rest]
  have hrs : r.size = s.size - at_ := by rw [size_len, hrd, D_len]
  obtain ⟨n, hnw⟩ : ∃ n, (word (D s at_)).length = n := ⟨_, rfl⟩
  have hnr : n ≤ r.size := by rw [← hnw, hrs, ← D_len]; exact (List.takeWhile_prefix _).length_le
  have hrun : lex_run.f (r.size + 6) r = some (n : Int) := by rw [run_f r (by omega) (by omega), hrd, hnw]
  obtain ⟨x, hx⟩ : ∃ x, r.extract 0 n = x := ⟨_, rfl⟩
  have hxd : x.data.toList = word (D s at_) := by rw [← hx, Lib.extract_data, List.drop_zero, hrd, Nat.sub_zero, ← hnw, word_take]
  have hr0 : ∀ h : at_ < s.size, (((s[at_]'h).toNat : Nat) : Int) = (c.toNat : Int) := fun h => by rw [bt_at_nat s at_ h, hbt]
  have HN := Aside0.mk hrun
  have HR := Aside0.mk hr
  have HG := Aside0.mk hg
  have HB := Aside0.mk (Below.refl w.heap.size w)
  have HLT := Aside0.mk hlt
  have HNW := Aside0.mk hnw
  have HSZ := Aside0.mk hn
  have HC := Aside0.mk hc
  have HXE := Aside0.mk hx
  have HXD := Aside0.mk hxd
  have p1 : (0 ≤ (at_ : Int)) = True := eq_true (by omega)
  have p2 : ((at_ : Int) < (s.size : Int)) = True := eq_true (by omega)
  have p3 : (at_ < s.size) = True := eq_true hlt
  have p4 : (0 ≤ (n : Int)) = True := eq_true (by omega)
  have p5 : ((n : Int) ≤ (r.size : Int)) = True := eq_true (by omega)
  have p6 : (n ≤ r.size) = True := eq_true hnr
  have ba : (at_ : Int) ≤ 1000000 := by omega
  have bn : (n : Int) ≤ 1000000 := by omega
  have hwn : IntKind.i64.wrap ((at_ : Int) + (n : Int)) = (at_ : Int) + (n : Int) := by rw [i64_w, w64 (by omega) (by omega)]
  have hcz_0 := cellS49_0 hg
  have hcz_1 := cellS49_1 hg
  clear hg hlt hn hrun hnw hrd hrs hnr hr hc hbt hx hxd
  go_enter Try.func47, Try.ntmps47
  go_upto_region 1 with (first
    | ((with_reducible refine gate_dst (N := 2) rfl ?_); refine box_event ?hg (N := 2) ?hd (cs := #[.int .u8 0, .string (⟨#[]⟩ : ByteArray), .int .u64 0, .int .i64 0, .int .i64 0]) (t := 31) ?hr ?_; (case hd => rfl); (case hg => rfl); (case hr => first | (go_simp; done) | (go_simp; rfl)); intro gb2 hg_ wb2 hbox hb_; have GE2 := Aside0.mk ((by rw [hg_]; exact (below_size (by repeat (first | (with_reducible first | exact HB.out | apply below_alloc | apply pw_below_drewN | apply below_drew1 | apply below_drew) | exact HB.out)))) : w.heap.size ≤ gb2); have tHB_ := Aside0.mk (below_step (by repeat (first | (with_reducible first | exact HB.out | apply below_alloc | apply pw_below_drewN | apply below_drew1 | apply below_drew) | exact HB.out)) hb_); clear HB; have HB := tHB_; clear tHB_; have BK2 := Aside0.mk hbox; have HG2 := Aside0.mk hg_; have DB2 := Aside0.mk hb_; clear hbox hg_ hb_; (try clear hcz_0); (try clear hcz_1); have hcz_0 := cellS49_0 (blk_below HG.out HB.out); have hcz_1 := cellS49_1 (blk_below HG.out HB.out))
    | ((with_reducible refine gate_dst (N := 3) rfl ?_); have HLT2 := Aside0.mk (blk_lt BK2.out); refine box_event ?hg (N := 3) ?hd (cs := #[.int .i64 0, .int .i64 0]) (t := 51) ?hr ?_; (case hd => rfl); (case hg => rfl); (case hr => first | (go_simp; done) | (go_simp; rfl)); intro gb3 hg_ wb3 hbox hb_; have GE3 := Aside0.mk ((by rw [hg_]; exact (below_size (by repeat (first | (with_reducible first | exact HB.out | apply below_alloc | apply pw_below_drewN | apply below_drew1 | apply below_drew) | exact HB.out)))) : w.heap.size ≤ gb3); have tHB_ := Aside0.mk (below_step (by repeat (first | (with_reducible first | exact HB.out | apply below_alloc | apply pw_below_drewN | apply below_drew1 | apply below_drew) | exact HB.out)) hb_); have bk2_ := Aside0.mk (blk_below (g := gb2) (o := .cells #[.int .u8 0, .string (⟨#[]⟩ : ByteArray), .int .u64 0, .int .i64 0, .int .i64 0] 31 (0, 0)) (by (with_reducible repeat (first | refine blk_drewN ?_ _ | refine blk_drew ?_ | refine blk_alloc ?_ _)); exact BK2.out) hb_); clear BK2; have BK2 := bk2_; clear bk2_; clear HB; have HB := tHB_; clear tHB_; have BK3 := Aside0.mk hbox; have HG3 := Aside0.mk hg_; have DB3 := Aside0.mk hb_; clear hbox hg_ hb_; (try clear hcz_0); (try clear hcz_1); have hcz_0 := cellS49_0 (blk_below HG.out HB.out); have hcz_1 := cellS49_1 (blk_below HG.out HB.out)))
  have NE2_3 : gb2 ≠ gb3 := Nat.ne_of_lt (by rw [HG3.out]; exact HLT2.out)
  have hz := below_drew HB.out
  have k2 := blk_drew BK2.out
  have k3 := blk_drew BK3.out
  refine start_ (n := 10) (S := fun w' => Below w.heap.size w w') (ds := []) #[false, false, false, false, false, false, false, false, false, false] (by kernel_rfl) rfl rfl hz (fun hHeld => ?_)
  clear HB BK2 BK3
  (try clear hcz_0 hcz_1)
  (try clear hcz2_0 hfz2_0)
  (try clear hcz2_1 hfz2_1)
  (try clear hcz2_2 hfz2_2)
  (try clear hcz2_3 hfz2_3)
  (try clear hcz2_4 hfz2_4)
  (try clear hcz3_0 hfz3_0)
  (try clear hcz3_1 hfz3_1)
  (try clear hcz2_0)
  (try clear hcz2_1)
  (try clear hcz2_2)
  (try clear hcz2_3)
  (try clear hcz2_4)
  (try clear hcz3_0)
  (try clear hcz3_1)
  generalize hWD : World.drew _ = WD at k2 k3 hz hHeld ⊢
  clear hWD
  refine pure_ (i := 0) (N := some 6) (v := ?_) (a' := ?_) #[true, false, false, false, false, false, false, false, false, false] rfl rfl (by kernel_rfl) (fun _ _ _ h => h) (Or.inl ⟨by rfl, ?_⟩) ?_ ?_
  rotate_left
  · intro w'
    go_simp
    with_reducible rfl
  rotate_left
  · simp only [Act.put, List.setIfInBounds_toArray, List.set_cons_zero, List.set_cons_succ, i64_w, i32_w]
    rfl
  refine pure_ (i := 1) (N := some 7) (v := ?_) (a' := ?_) #[true, true, false, false, false, false, false, false, false, false] rfl rfl (by kernel_rfl) (fun _ _ _ h => h) (Or.inl ⟨by rfl, ?_⟩) ?_ ?_
  rotate_left
  · intro w'
    go_simp
    with_reducible rfl
  rotate_left
  · simp only [Act.put, List.setIfInBounds_toArray, List.set_cons_zero, List.set_cons_succ, i64_w, i32_w]
    rfl
  refine pure_ (i := 2) (N := some 8) (v := ?_) (a' := ?_) #[true, true, true, false, false, false, false, false, false, false] rfl rfl (by kernel_rfl) (fun _ _ _ h => h) (Or.inl ⟨by rfl, ?_⟩) ?_ ?_
  rotate_left
  · intro w'
    go_simp
    with_reducible rfl
  rotate_left
  · simp only [Act.put, List.setIfInBounds_toArray, List.set_cons_zero, List.set_cons_succ, i64_w, i32_w]
    rfl
  refine pure_ (i := 4) (N := some 10) (v := ?_) (a' := ?_) #[true, true, true, false, true, false, false, false, false, false] rfl rfl (by kernel_rfl) (fun _ _ _ h => h) (Or.inl ⟨by rfl, ?_⟩) ?_ ?_
  rotate_left
  · intro w'
    go_simp
    with_reducible rfl
  rotate_left
  · simp only [Act.put, List.setIfInBounds_toArray, List.set_cons_zero, List.set_cons_succ, i64_w, i32_w]
    rfl
  refine pure_ (i := 5) (N := some 11) (v := ?_) (a' := ?_) #[true, true, true, false, true, true, false, false, false, false] rfl rfl (by kernel_rfl) (fun _ _ _ h => h) (Or.inl ⟨by rfl, ?_⟩) ?_ ?_
  rotate_left
  · intro w'
    go_simp
    with_reducible rfl
  rotate_left
  · simp only [Act.put, List.setIfInBounds_toArray, List.set_cons_zero, List.set_cons_succ, i64_w, i32_w]
    rfl
  refine pure_ (i := 6) (N := some 12) (v := ?_) (a' := ?_) #[true, true, true, false, true, true, true, false, false, false] rfl rfl (by kernel_rfl) (fun _ _ _ h => h) (Or.inl ⟨by rfl, ?_⟩) ?_ ?_
  rotate_left
  · intro w'
    go_simp
    with_reducible rfl
  rotate_left
  · simp only [Act.put, List.setIfInBounds_toArray, List.set_cons_zero, List.set_cons_succ, i64_w, i32_w]
    rfl
  refine take_ (i := 3) (N := some 9) (v := ?_) (a' := ?_) #[true, true, true, true, true, true, true, false, false, false] rfl rfl (by kernel_rfl) (fun _ _ _ h => h) (Or.inl ⟨by rfl, ?_⟩) hHeld ?_ ?_
  rotate_left
  · intro w' hS
    have hcz_0 := cellS49_0 (blk_below HG.out hS)
    go_simp
    with_reducible rfl
  rotate_left
  · simp only [Act.put, List.setIfInBounds_toArray, List.set_cons_zero, List.set_cons_succ, i64_w, i32_w]
    rfl
  refine take_ (i := 7) (N := some 13) (v := ?_) (a' := ?_) #[true, true, true, true, true, true, true, true, false, false] rfl rfl (by kernel_rfl) (fun _ _ _ h => h) (Or.inl ⟨by rfl, ?_⟩) hHeld ?_ ?_
  rotate_left
  · intro w' hS
    have hcz_1 := cellS49_1 (blk_below HG.out hS)
    go_simp
    with_reducible rfl
  rotate_left
  · simp only [Act.put, List.setIfInBounds_toArray, List.set_cons_zero, List.set_cons_succ, i64_w, i32_w]
    rfl
  refine pure_ (i := 8) (N := some 14) (v := ?_) (a' := ?_) #[true, true, true, true, true, true, true, true, true, false] rfl rfl (by kernel_rfl) (fun _ _ _ h => h) (Or.inl ⟨by rfl, ?_⟩) ?_ ?_
  rotate_left
  · intro w'
    go_simp
    with_reducible rfl
  rotate_left
  · simp only [Act.put, List.setIfInBounds_toArray, List.set_cons_zero, List.set_cons_succ, i64_w, i32_w]
    rfl
  refine pure_ (i := 9) (N := some 4) (v := ?_) (a' := ?_) #[true, true, true, true, true, true, true, true, true, true] rfl rfl (by kernel_rfl) (fun _ _ _ h => h) (Or.inl ⟨by rfl, ?_⟩) ?_ ?_
  rotate_left
  · intro w'
    go_simp
    with_reducible rfl
  rotate_left
  · simp only [Act.put, List.setIfInBounds_toArray, List.set_cons_zero, List.set_cons_succ, i64_w, i32_w]
    rfl
  refine done_ (by kernel_rfl) ?_
  have HB := Aside0.mk hz
  have BK2 := Aside0.mk k2
  have BK3 := Aside0.mk k3
  clear hz hHeld k2 k3
  have hcz_0 := cellS49_0 (blk_below HG.out HB.out)
  have hcz_1 := cellS49_1 (blk_below HG.out HB.out)
  cases hl : isL c with
  | true =>
    have HL := Aside0.mk ((letter_k (k := 5) (Nat.le_refl _) c).trans (by rw [hl]))
    have HLL := Aside0.mk hl
    clear hl
    go_upto_region 4 with (first
      | (go_at_call 36; (with_reducible refine (lex_letter.calls 5 (c.toNat : Int) true _ HL.out).mono ?_); rintro e wc ⟨rfl, hb_⟩; have tHB_ := Aside0.mk (below_step (by repeat (first | (with_reducible first | exact HB.out | apply below_alloc | apply pw_below_drewN | apply below_drew1 | apply below_drew) | exact HB.out)) hb_); have bk2_ := Aside0.mk (blk_below (g := gb2) (o := .cells #[.int .u8 0, .string (⟨#[]⟩ : ByteArray), .int .u64 0, .int .i64 0, .int .i64 0] 31 (0, 0)) (by (with_reducible repeat (first | refine blk_drewN ?_ _ | refine blk_drew ?_ | refine blk_alloc ?_ _)); exact BK2.out) hb_); clear BK2; have BK2 := bk2_; clear bk2_; have bk2_ := Aside0.mk (blk_below (g := gb3) (o := .cells #[.int .i64 0, .int .i64 0] 51 (0, 0)) (by (with_reducible repeat (first | refine blk_drewN ?_ _ | refine blk_drew ?_ | refine blk_alloc ?_ _)); exact BK3.out) hb_); clear BK3; have BK3 := bk2_; clear bk2_; clear HB; have HB := tHB_; clear tHB_; (try clear hcz2_0); (try clear hcz2_1); (try clear hcz2_2); (try clear hcz2_3); (try clear hcz2_4); (try clear hcz3_0); (try clear hcz3_1); (try clear hb_); (try clear hcz_0); (try clear hcz_1); have hcz_0 := cellS49_0 (blk_below HG.out HB.out); have hcz_1 := cellS49_1 (blk_below HG.out HB.out))
      | (go_at_call 56; (with_reducible refine (rest_q s r g at_ (Nat.le_of_lt HLT.out) HR.out _ (blk_below HG.out (by repeat (first | (with_reducible first | exact HB.out | apply below_alloc | apply pw_below_drewN | apply below_drew1 | apply below_drew) | exact HB.out)))).mono ?_); rintro e wc ⟨rfl, hd_⟩; have hb_ := drawn_below hd_; clear hd_; have tHB_ := Aside0.mk (below_step (by repeat (first | (with_reducible first | exact HB.out | apply below_alloc | apply pw_below_drewN | apply below_drew1 | apply below_drew) | exact HB.out)) hb_); have bk2_ := Aside0.mk (blk_below (g := gb2) (o := .cells #[.int .u8 0, .string (⟨#[]⟩ : ByteArray), .int .u64 0, .int .i64 0, .int .i64 0] 31 (0, 0)) (by (with_reducible repeat (first | refine blk_drewN ?_ _ | refine blk_drew ?_ | refine blk_alloc ?_ _)); exact BK2.out) hb_); clear BK2; have BK2 := bk2_; clear bk2_; have bk2_ := Aside0.mk (blk_below (g := gb3) (o := .cells #[.int .i64 0, .int .i64 0] 51 (0, 0)) (by (with_reducible repeat (first | refine blk_drewN ?_ _ | refine blk_drew ?_ | refine blk_alloc ?_ _)); exact BK3.out) hb_); clear BK3; have BK3 := bk2_; clear bk2_; clear HB; have HB := tHB_; clear tHB_; (try clear hcz2_0); (try clear hcz2_1); (try clear hcz2_2); (try clear hcz2_3); (try clear hcz2_4); (try clear hcz3_0); (try clear hcz3_1); (try clear hb_); (try clear hcz_0); (try clear hcz_1); have hcz_0 := cellS49_0 (blk_below HG.out HB.out); have hcz_1 := cellS49_1 (blk_below HG.out HB.out))
      | (go_at_call 37; (with_reducible refine (lex_run.calls (r.size + 6) r (n : Int) _ HN.out).mono ?_); rintro e wc ⟨rfl, hb_⟩; have tHB_ := Aside0.mk (below_step (by repeat (first | (with_reducible first | exact HB.out | apply below_alloc | apply pw_below_drewN | apply below_drew1 | apply below_drew) | exact HB.out)) hb_); have bk2_ := Aside0.mk (blk_below (g := gb2) (o := .cells #[.int .u8 0, .string (⟨#[]⟩ : ByteArray), .int .u64 0, .int .i64 0, .int .i64 0] 31 (0, 0)) (by (with_reducible repeat (first | refine blk_drewN ?_ _ | refine blk_drew ?_ | refine blk_alloc ?_ _)); exact BK2.out) hb_); clear BK2; have BK2 := bk2_; clear bk2_; have bk2_ := Aside0.mk (blk_below (g := gb3) (o := .cells #[.int .i64 0, .int .i64 0] 51 (0, 0)) (by (with_reducible repeat (first | refine blk_drewN ?_ _ | refine blk_drew ?_ | refine blk_alloc ?_ _)); exact BK3.out) hb_); clear BK3; have BK3 := bk2_; clear bk2_; clear HB; have HB := tHB_; clear tHB_; (try clear hcz2_0); (try clear hcz2_1); (try clear hcz2_2); (try clear hcz2_3); (try clear hcz2_4); (try clear hcz3_0); (try clear hcz3_1); (try clear hb_); (try clear hcz_0); (try clear hcz_1); have hcz_0 := cellS49_0 (blk_below HG.out HB.out); have hcz_1 := cellS49_1 (blk_below HG.out HB.out)))
    have hz := below_drew HB.out
    have k2 := blk_drew BK2.out
    have k3 := blk_drew BK3.out
    refine start_ (n := 18) (S := fun w' => Below w.heap.size w w') (ds := []) #[false, false, false, false, false, false, false, false, false, false, false, false, false, false, false, false, false, false] (by kernel_rfl) rfl rfl hz (fun hHeld => ?_)
    clear HB BK2 BK3
    (try clear hcz_0 hcz_1)
    (try clear hcz2_0 hfz2_0)
    (try clear hcz2_1 hfz2_1)
    (try clear hcz2_2 hfz2_2)
    (try clear hcz2_3 hfz2_3)
    (try clear hcz2_4 hfz2_4)
    (try clear hcz3_0 hfz3_0)
    (try clear hcz3_1 hfz3_1)
    (try clear hcz2_0)
    (try clear hcz2_1)
    (try clear hcz2_2)
    (try clear hcz2_3)
    (try clear hcz2_4)
    (try clear hcz3_0)
    (try clear hcz3_1)
    generalize hWD : World.drew _ = WD at k2 k3 hz hHeld ⊢
    clear hWD
    refine pure_ (i := 0) (N := some 21) (v := ?_) (a' := ?_) #[true, false, false, false, false, false, false, false, false, false, false, false, false, false, false, false, false, false] rfl rfl (by kernel_rfl) (fun _ _ _ h => h) (Or.inl ⟨by rfl, ?_⟩) ?_ ?_
    rotate_left
    · intro w'
      go_simp
      with_reducible rfl
    rotate_left
    · simp only [Act.put, List.setIfInBounds_toArray, List.set_cons_zero, List.set_cons_succ, i64_w, i32_w]
      rfl
    refine pure_ (i := 2) (N := some 23) (v := ?_) (a' := ?_) #[true, false, true, false, false, false, false, false, false, false, false, false, false, false, false, false, false, false] rfl rfl (by kernel_rfl) (fun _ _ _ h => h) (Or.inl ⟨by rfl, ?_⟩) ?_ ?_
    rotate_left
    · intro w'
      go_simp
      with_reducible rfl
    rotate_left
    · simp only [Act.put, List.setIfInBounds_toArray, List.set_cons_zero, List.set_cons_succ, i64_w, i32_w]
      rfl
    refine pure_ (i := 4) (N := some 25) (v := ?_) (a' := ?_) #[true, false, true, false, true, false, false, false, false, false, false, false, false, false, false, false, false, false] rfl rfl (by kernel_rfl) (fun _ _ _ h => h) (Or.inl ⟨by rfl, ?_⟩) ?_ ?_
    rotate_left
    · intro w'
      go_simp
      with_reducible rfl
    rotate_left
    · simp only [Act.put, List.setIfInBounds_toArray, List.set_cons_zero, List.set_cons_succ, i64_w, i32_w]
      rfl
    refine pure_ (i := 5) (N := some 26) (v := ?_) (a' := ?_) #[true, false, true, false, true, true, false, false, false, false, false, false, false, false, false, false, false, false] rfl rfl (by kernel_rfl) (fun _ _ _ h => h) (Or.inl ⟨by rfl, ?_⟩) ?_ ?_
    rotate_left
    · intro w'
      go_simp
      with_reducible rfl
    rotate_left
    · simp only [Act.put, List.setIfInBounds_toArray, List.set_cons_zero, List.set_cons_succ, i64_w, i32_w]
      rfl
    refine pure_ (i := 6) (N := some 27) (v := ?_) (a' := ?_) #[true, false, true, false, true, true, true, false, false, false, false, false, false, false, false, false, false, false] rfl rfl (by kernel_rfl) (fun _ _ _ h => h) (Or.inl ⟨by rfl, ?_⟩) ?_ ?_
    rotate_left
    · intro w'
      go_simp
      with_reducible rfl
    rotate_left
    · simp only [Act.put, List.setIfInBounds_toArray, List.set_cons_zero, List.set_cons_succ, i64_w, i32_w]
      rfl
    refine pure_ (i := 8) (N := some 29) (v := ?_) (a' := ?_) #[true, false, true, false, true, true, true, false, true, false, false, false, false, false, false, false, false, false] rfl rfl (by kernel_rfl) (fun _ _ _ h => h) (Or.inl ⟨by rfl, ?_⟩) ?_ ?_
    rotate_left
    · intro w'
      go_simp
      with_reducible rfl
    rotate_left
    · simp only [Act.put, List.setIfInBounds_toArray, List.set_cons_zero, List.set_cons_succ, i64_w, i32_w]
      rfl
    refine pure_ (i := 9) (N := some 30) (v := ?_) (a' := ?_) #[true, false, true, false, true, true, true, false, true, true, false, false, false, false, false, false, false, false] rfl rfl (by kernel_rfl) (fun _ _ _ h => h) (Or.inl ⟨by rfl, ?_⟩) ?_ ?_
    rotate_left
    · intro w'
      go_simp
      with_reducible rfl
    rotate_left
    · simp only [Act.put, List.setIfInBounds_toArray, List.set_cons_zero, List.set_cons_succ, i64_w, i32_w]
      rfl
    refine pure_ (i := 10) (N := some 31) (v := ?_) (a' := ?_) #[true, false, true, false, true, true, true, false, true, true, true, false, false, false, false, false, false, false] rfl rfl (by kernel_rfl) (fun _ _ _ h => h) (Or.inl ⟨by rfl, ?_⟩) ?_ ?_
    rotate_left
    · intro w'
      go_simp
      with_reducible rfl
    rotate_left
    · simp only [Act.put, List.setIfInBounds_toArray, List.set_cons_zero, List.set_cons_succ, i64_w, i32_w]
      rfl
    refine pure_ (i := 12) (N := some 33) (v := ?_) (a' := ?_) #[true, false, true, false, true, true, true, false, true, true, true, false, true, false, false, false, false, false] rfl rfl (by kernel_rfl) (fun _ _ _ h => h) (Or.inl ⟨by rfl, ?_⟩) ?_ ?_
    rotate_left
    · intro w'
      go_simp
      with_reducible rfl
    rotate_left
    · simp only [Act.put, List.setIfInBounds_toArray, List.set_cons_zero, List.set_cons_succ, i64_w, i32_w]
      rfl
    refine pure_ (i := 15) (N := some 36) (v := ?_) (a' := ?_) #[true, false, true, false, true, true, true, false, true, true, true, false, true, false, false, true, false, false] rfl rfl (by kernel_rfl) (fun _ _ _ h => h) (Or.inl ⟨by rfl, ?_⟩) ?_ ?_
    rotate_left
    · intro w'
      go_simp
      with_reducible rfl
    rotate_left
    · simp only [Act.put, List.setIfInBounds_toArray, List.set_cons_zero, List.set_cons_succ, i64_w, i32_w]
      rfl
    refine take_ (i := 7) (N := some 28) (v := ?_) (a' := ?_) #[true, false, true, false, true, true, true, true, true, true, true, false, true, false, false, true, false, false] rfl rfl (by kernel_rfl) (fun _ _ _ h => h) (Or.inl ⟨by rfl, ?_⟩) hHeld ?_ ?_
    rotate_left
    · intro w' hS
      have hcz_1 := cellS49_1 (blk_below HG.out hS)
      go_simp
      with_reducible rfl
    rotate_left
    · simp only [Act.put, List.setIfInBounds_toArray, List.set_cons_zero, List.set_cons_succ, i64_w, i32_w]
      rfl
    refine take_ (i := 11) (N := some 32) (v := ?_) (a' := ?_) #[true, false, true, false, true, true, true, true, true, true, true, true, true, false, false, true, false, false] rfl rfl (by kernel_rfl) (fun _ _ _ h => h) (Or.inl ⟨by rfl, ?_⟩) hHeld ?_ ?_
    rotate_left
    · intro w' hS
      have hcz_1 := cellS49_1 (blk_below HG.out hS)
      go_simp
      with_reducible rfl
    rotate_left
    · simp only [Act.put, List.setIfInBounds_toArray, List.set_cons_zero, List.set_cons_succ, i64_w, i32_w]
      rfl
    refine pure_ (i := 13) (N := some 34) (v := ?_) (a' := ?_) #[true, false, true, false, true, true, true, true, true, true, true, true, true, true, false, true, false, false] rfl rfl (by kernel_rfl) (fun _ _ _ h => h) (Or.inl ⟨by rfl, ?_⟩) ?_ ?_
    rotate_left
    · intro w'
      go_simp
      with_reducible rfl
    rotate_left
    · simp only [Act.put, List.setIfInBounds_toArray, List.set_cons_zero, List.set_cons_succ, i64_w, i32_w]
      rfl
    refine one_ (i := 1) (N := some 22) #[true, true, true, false, true, true, true, true, true, true, true, true, true, true, false, true, false, false] rfl rfl (by kernel_rfl) (by decide) (fun K hK => ?_)
    refine goes_ Try.func56 (by kernel_rfl) rfl #[.pointer (some ⟨g, 0, none⟩)] (by rfl) rfl rfl (by (try simp only [List.map_toArray, List.map_cons, List.map_nil]); first | done | rfl) ?_
    with_reducible refine (rest_q s r g at_ (Nat.le_of_lt HLT.out) HR.out _ (blk_below HG.out hz)).mono ?_
    rintro e Z1 ⟨rfl, hd_⟩; have hb_ := drawn_below hd_; clear hd_
    refine ⟨_, rfl, ?_⟩
    have t2 := blk_below k2 hb_
    have t3 := blk_below k3 hb_
    have tz := below_step hz hb_
    clear k2 k3 hz hb_
    have k2 := t2; clear t2
    have k3 := t3; clear t3
    have hz := tz; clear tz
    refine hK.out _ _ hz (fun hHeld => ?_)
    clear hK K
    refine norm_ (a' := ?_) ?_ ?_
    rotate_left
    · show Act.put _ (some 22) _ = _
      simp only [Act.put, List.setIfInBounds_toArray, List.set_cons_zero, List.set_cons_succ, i64_w, i32_w]
      rfl
    refine pure_ (i := 3) (N := some 24) (v := ?_) (a' := ?_) #[true, true, true, true, true, true, true, true, true, true, true, true, true, true, false, true, false, false] rfl rfl (by kernel_rfl) (fun _ _ _ h => h) (Or.inl ⟨by rfl, ?_⟩) ?_ ?_
    rotate_left
    · intro w'
      go_simp
      rw [HXE.out]
    rotate_left
    · simp only [Act.put, List.setIfInBounds_toArray, List.set_cons_zero, List.set_cons_succ, i64_w, i32_w]
      rfl
    refine pure_ (i := 14) (N := some 35) (v := ?_) (a' := ?_) #[true, true, true, true, true, true, true, true, true, true, true, true, true, true, true, true, false, false] rfl rfl (by kernel_rfl) (fun _ _ _ h => h) (Or.inl ⟨by rfl, ?_⟩) ?_ ?_
    rotate_left
    · intro w'
      go_simp
      with_reducible rfl
    rotate_left
    · simp only [Act.put, List.setIfInBounds_toArray, List.set_cons_zero, List.set_cons_succ, i64_w, i32_w]
      rfl
    refine one_ (i := 16) (N := none) #[true, true, true, true, true, true, true, true, true, true, true, true, true, true, true, true, true, false] rfl rfl (by kernel_rfl) (by decide) (fun K hK => ?_)
    have hcw_0 := blk_cell k2 0
    have hcw_1 := blk_cell k2 1
    have hcw_2 := blk_cell k2 2
    have hcw_3 := blk_cell k2 3
    have hcw_4 := blk_cell k2 4
    have hfw_0 := blk_frozen k2 0
    have hfw_1 := blk_frozen k2 1
    have hfw_2 := blk_frozen k2 2
    have hfw_3 := blk_frozen k2 3
    have hfw_4 := blk_frozen k2 4
    simp only [List.getElem?_toArray, List.getElem?_cons_zero, List.getElem?_cons_succ] at hcw_0 hcw_1 hcw_2 hcw_3 hcw_4
    refine skip_ (w1 := ?_) (by rfl) rfl ?_ ?_
    rotate_left
    · go_simp
      rfl
    clear hcw_0 hfw_0 hcw_1 hfw_1 hcw_2 hfw_2 hcw_3 hfw_3 hcw_4 hfw_4
    have t2 := put5 (.int .u8 1) (.string x) (.int .u64 0) (.int .i64 (at_ : Int)) (.int .i64 ((at_ : Int) + (n : Int))) k2
    have t3 := far5 (NE2_3).symm (.int .u8 1) (.string x) (.int .u64 0) (.int .i64 (at_ : Int)) (.int .i64 ((at_ : Int) + (n : Int))) k3
    have tz := set5 (.int .u8 1) (.string x) (.int .u64 0) (.int .i64 (at_ : Int)) (.int .i64 ((at_ : Int) + (n : Int))) hz GE2.out
    clear k2 k3 hz
    obtain ⟨Z2, hZ⟩ : ∃ Z, (((((Z1).setCell ⟨gb2, 0, none⟩ (.int .u8 1)).setCell ⟨gb2, 1, none⟩ (.string x)).setCell ⟨gb2, 2, none⟩ (.int .u64 0)).setCell ⟨gb2, 3, none⟩ (.int .i64 (at_ : Int))).setCell ⟨gb2, 4, none⟩ (.int .i64 ((at_ : Int) + (n : Int))) = Z := ⟨_, rfl⟩
    rw [hZ] at t2 t3 tz ⊢
    clear hZ
    have k2 := t2; clear t2
    have k3 := t3; clear t3
    have hz := tz; clear tz
    refine hK.out _ _ hz (fun hHeld => ?_)
    clear hK K
    refine one_ (i := 17) (N := none) #[true, true, true, true, true, true, true, true, true, true, true, true, true, true, true, true, true, true] rfl rfl (by kernel_rfl) (by decide) (fun K hK => ?_)
    have hcw_0 := blk_cell k3 0
    have hcw_1 := blk_cell k3 1
    have hfw_0 := blk_frozen k3 0
    have hfw_1 := blk_frozen k3 1
    simp only [List.getElem?_toArray, List.getElem?_cons_zero, List.getElem?_cons_succ] at hcw_0 hcw_1
    refine skip_ (w1 := ?_) (by rfl) rfl ?_ ?_
    rotate_left
    · go_simp
      rfl
    clear hcw_0 hfw_0 hcw_1 hfw_1
    have t3 := put2 (.int .i64 0) (.int .i64 0) k3
    have t2 := far2 (NE2_3) (.int .i64 0) (.int .i64 0) k2
    have tz := set2 (.int .i64 0) (.int .i64 0) hz GE3.out
    clear k2 k3 hz
    obtain ⟨Z3, hZ⟩ : ∃ Z, ((Z2).setCell ⟨gb3, 0, none⟩ (.int .i64 0)).setCell ⟨gb3, 1, none⟩ (.int .i64 0) = Z := ⟨_, rfl⟩
    rw [hZ] at t2 t3 tz ⊢
    clear hZ
    have k2 := t2; clear t2
    have k3 := t3; clear t3
    have hz := tz; clear tz
    refine hK.out _ _ hz (fun hHeld => ?_)
    clear hK K
    refine done_ (by kernel_rfl) ?_
    have HB := Aside0.mk hz
    have BK2 := Aside0.mk k2
    have BK3 := Aside0.mk k3
    clear hz hHeld k2 k3
    go_wp2
    refine bodyPost_ret (results_cc rfl _ _ gb2 gb3 31 51 _ _ (0, 0) (0, 0) _ _ rfl BK2.out Try.underlying31 rfl (by kernel_rfl) rfl BK3.out Try.underlying51 rfl (by kernel_rfl)) rfl ?_
    exact ⟨(by rw [HC.out, nxt, if_pos HLL.out, ← HC.out]; show _ = _; rw [← str_eq HXD.out, HNW.out]; simp), HB.out⟩
  | false =>
    have HL := Aside0.mk ((letter_k (k := 5) (Nat.le_refl _) c).trans (by rw [hl]))
    have HLL := Aside0.mk hl
    clear hl
    cases hd : isD c with
    | true =>
      have HD := Aside0.mk ((digit_k (k := 3) (Nat.le_refl _) c).trans (by rw [hd]))
      have HDD := Aside0.mk hd
      clear hd
      go_wp2_with (first
        | (go_at_call 36; (with_reducible refine (lex_letter.calls 5 (c.toNat : Int) false _ HL.out).mono ?_); rintro e wc ⟨rfl, hb_⟩; have tHB_ := Aside0.mk (below_step (by repeat (first | (with_reducible first | exact HB.out | apply below_alloc | apply pw_below_drewN | apply below_drew1 | apply below_drew) | exact HB.out)) hb_); have bk2_ := Aside0.mk (blk_below (g := gb2) (o := .cells #[.int .u8 0, .string (⟨#[]⟩ : ByteArray), .int .u64 0, .int .i64 0, .int .i64 0] 31 (0, 0)) (by (with_reducible repeat (first | refine blk_drewN ?_ _ | refine blk_drew ?_ | refine blk_alloc ?_ _)); exact BK2.out) hb_); clear BK2; have BK2 := bk2_; clear bk2_; have bk2_ := Aside0.mk (blk_below (g := gb3) (o := .cells #[.int .i64 0, .int .i64 0] 51 (0, 0)) (by (with_reducible repeat (first | refine blk_drewN ?_ _ | refine blk_drew ?_ | refine blk_alloc ?_ _)); exact BK3.out) hb_); clear BK3; have BK3 := bk2_; clear bk2_; clear HB; have HB := tHB_; clear tHB_; (try clear hcz2_0); (try clear hcz2_1); (try clear hcz2_2); (try clear hcz2_3); (try clear hcz2_4); (try clear hcz3_0); (try clear hcz3_1); (try clear hb_); (try clear hcz_0); (try clear hcz_1); have hcz_0 := cellS49_0 (blk_below HG.out HB.out); have hcz_1 := cellS49_1 (blk_below HG.out HB.out))
        | (go_at_call 50; (with_reducible refine (lex_digit.calls 3 (c.toNat : Int) true _ HD.out).mono ?_); rintro e wc ⟨rfl, hb_⟩; have tHB_ := Aside0.mk (below_step (by repeat (first | (with_reducible first | exact HB.out | apply below_alloc | apply pw_below_drewN | apply below_drew1 | apply below_drew) | exact HB.out)) hb_); have bk2_ := Aside0.mk (blk_below (g := gb2) (o := .cells #[.int .u8 0, .string (⟨#[]⟩ : ByteArray), .int .u64 0, .int .i64 0, .int .i64 0] 31 (0, 0)) (by (with_reducible repeat (first | refine blk_drewN ?_ _ | refine blk_drew ?_ | refine blk_alloc ?_ _)); exact BK2.out) hb_); clear BK2; have BK2 := bk2_; clear bk2_; have bk2_ := Aside0.mk (blk_below (g := gb3) (o := .cells #[.int .i64 0, .int .i64 0] 51 (0, 0)) (by (with_reducible repeat (first | refine blk_drewN ?_ _ | refine blk_drew ?_ | refine blk_alloc ?_ _)); exact BK3.out) hb_); clear BK3; have BK3 := bk2_; clear bk2_; clear HB; have HB := tHB_; clear tHB_; (try clear hcz2_0); (try clear hcz2_1); (try clear hcz2_2); (try clear hcz2_3); (try clear hcz2_4); (try clear hcz3_0); (try clear hcz3_1); (try clear hb_); (try clear hcz_0); (try clear hcz_1); have hcz_0 := cellS49_0 (blk_below HG.out HB.out); have hcz_1 := cellS49_1 (blk_below HG.out HB.out))
        | (go_at_call 57; (with_reducible refine (number_c s HSZ.out g at_ HLT.out _ (blk_below HG.out (by repeat (first | (with_reducible first | exact HB.out | apply below_alloc | apply pw_below_drewN | apply below_drew1 | apply below_drew) | exact HB.out)))).mono ?_); rintro e wc ⟨ht_, hb_⟩; obtain ⟨k, t, n_, a_, b_, x_, y_, rfl⟩ := tok_form ht_; have HTK := Aside0.mk ht_; clear ht_; have tHB_ := Aside0.mk (below_step (by repeat (first | (with_reducible first | exact HB.out | apply below_alloc | apply pw_below_drewN | apply below_drew1 | apply below_drew) | exact HB.out)) hb_); have bk2_ := Aside0.mk (blk_below (g := gb2) (o := .cells #[.int .u8 0, .string (⟨#[]⟩ : ByteArray), .int .u64 0, .int .i64 0, .int .i64 0] 31 (0, 0)) (by (with_reducible repeat (first | refine blk_drewN ?_ _ | refine blk_drew ?_ | refine blk_alloc ?_ _)); exact BK2.out) hb_); clear BK2; have BK2 := bk2_; clear bk2_; have bk2_ := Aside0.mk (blk_below (g := gb3) (o := .cells #[.int .i64 0, .int .i64 0] 51 (0, 0)) (by (with_reducible repeat (first | refine blk_drewN ?_ _ | refine blk_drew ?_ | refine blk_alloc ?_ _)); exact BK3.out) hb_); clear BK3; have BK3 := bk2_; clear bk2_; clear HB; have HB := tHB_; clear tHB_; (try clear hcz2_0); (try clear hcz2_1); (try clear hcz2_2); (try clear hcz2_3); (try clear hcz2_4); (try clear hcz3_0); (try clear hcz3_1); have hcz2_0 := (blk_cell BK2.out 0).trans (show (#[.int .u8 0, .string (⟨#[]⟩ : ByteArray), .int .u64 0, .int .i64 0, .int .i64 0] : Array Value)[0]? = some (.int .u8 0) from rfl); have hcz2_1 := (blk_cell BK2.out 1).trans (show (#[.int .u8 0, .string (⟨#[]⟩ : ByteArray), .int .u64 0, .int .i64 0, .int .i64 0] : Array Value)[1]? = some (.string (⟨#[]⟩ : ByteArray)) from rfl); have hcz2_2 := (blk_cell BK2.out 2).trans (show (#[.int .u8 0, .string (⟨#[]⟩ : ByteArray), .int .u64 0, .int .i64 0, .int .i64 0] : Array Value)[2]? = some (.int .u64 0) from rfl); have hcz2_3 := (blk_cell BK2.out 3).trans (show (#[.int .u8 0, .string (⟨#[]⟩ : ByteArray), .int .u64 0, .int .i64 0, .int .i64 0] : Array Value)[3]? = some (.int .i64 0) from rfl); have hcz2_4 := (blk_cell BK2.out 4).trans (show (#[.int .u8 0, .string (⟨#[]⟩ : ByteArray), .int .u64 0, .int .i64 0, .int .i64 0] : Array Value)[4]? = some (.int .i64 0) from rfl); have hcz3_0 := (blk_cell BK3.out 0).trans (show (#[.int .i64 0, .int .i64 0] : Array Value)[0]? = some (.int .i64 0) from rfl); have hcz3_1 := (blk_cell BK3.out 1).trans (show (#[.int .i64 0, .int .i64 0] : Array Value)[1]? = some (.int .i64 0) from rfl); (try clear hb_); (try clear hcz_0); (try clear hcz_1); have hcz_0 := cellS49_0 (blk_below HG.out HB.out); have hcz_1 := cellS49_1 (blk_below HG.out HB.out); have hfz2_0 := blk_frozen BK2.out 0; have hfz2_1 := blk_frozen BK2.out 1; have hfz2_2 := blk_frozen BK2.out 2; have hfz2_3 := blk_frozen BK2.out 3; have hfz2_4 := blk_frozen BK2.out 4; have hfz3_0 := blk_frozen BK3.out 0; have hfz3_1 := blk_frozen BK3.out 1))
      refine bodyPost_ret (results_cc rfl _ _ gb2 gb3 31 51 _ _ (0, 0) (0, 0) _ _ rfl (far2 NE2_3 _ _ (put5 _ _ _ _ _ BK2.out)) Try.underlying31 rfl (by kernel_rfl) rfl (put2 _ _ (far5 NE2_3.symm _ _ _ _ _ BK3.out)) Try.underlying51 rfl (by kernel_rfl)) rfl ?_
      exact ⟨(by have z := HTK.out; rw [show nxt (D s at_) = num (D s at_) from by rw [HC.out, nxt, if_neg (by rw [HLL.out]; simp), if_pos HDD.out]]; exact z), set2 _ _ (set5 _ _ _ _ _ HB.out GE2.out) GE3.out⟩
    | false =>
      have HD := Aside0.mk ((digit_k (k := 3) (Nat.le_refl _) c).trans (by rw [hd]))
      have HDD := Aside0.mk hd
      clear hd
      by_cases h34 : c = 34
      · have n34 : decide ((c.toNat : Int) = 34) = true := decide_eq_true (by rw [h34]; rfl)
        have n34' : ((c.toNat : Int) == 34) = true := n34
        have H34 := Aside0.mk h34
        clear h34
        go_wp2_with (first
          | (go_at_call 36; (with_reducible refine (lex_letter.calls 5 (c.toNat : Int) false _ HL.out).mono ?_); rintro e wc ⟨rfl, hb_⟩; have tHB_ := Aside0.mk (below_step (by repeat (first | (with_reducible first | exact HB.out | apply below_alloc | apply pw_below_drewN | apply below_drew1 | apply below_drew) | exact HB.out)) hb_); have bk2_ := Aside0.mk (blk_below (g := gb2) (o := .cells #[.int .u8 0, .string (⟨#[]⟩ : ByteArray), .int .u64 0, .int .i64 0, .int .i64 0] 31 (0, 0)) (by (with_reducible repeat (first | refine blk_drewN ?_ _ | refine blk_drew ?_ | refine blk_alloc ?_ _)); exact BK2.out) hb_); clear BK2; have BK2 := bk2_; clear bk2_; have bk2_ := Aside0.mk (blk_below (g := gb3) (o := .cells #[.int .i64 0, .int .i64 0] 51 (0, 0)) (by (with_reducible repeat (first | refine blk_drewN ?_ _ | refine blk_drew ?_ | refine blk_alloc ?_ _)); exact BK3.out) hb_); clear BK3; have BK3 := bk2_; clear bk2_; clear HB; have HB := tHB_; clear tHB_; (try clear hcz2_0); (try clear hcz2_1); (try clear hcz2_2); (try clear hcz2_3); (try clear hcz2_4); (try clear hcz3_0); (try clear hcz3_1); (try clear hb_); (try clear hcz_0); (try clear hcz_1); have hcz_0 := cellS49_0 (blk_below HG.out HB.out); have hcz_1 := cellS49_1 (blk_below HG.out HB.out))
          | (go_at_call 50; (with_reducible refine (lex_digit.calls 3 (c.toNat : Int) false _ HD.out).mono ?_); rintro e wc ⟨rfl, hb_⟩; have tHB_ := Aside0.mk (below_step (by repeat (first | (with_reducible first | exact HB.out | apply below_alloc | apply pw_below_drewN | apply below_drew1 | apply below_drew) | exact HB.out)) hb_); have bk2_ := Aside0.mk (blk_below (g := gb2) (o := .cells #[.int .u8 0, .string (⟨#[]⟩ : ByteArray), .int .u64 0, .int .i64 0, .int .i64 0] 31 (0, 0)) (by (with_reducible repeat (first | refine blk_drewN ?_ _ | refine blk_drew ?_ | refine blk_alloc ?_ _)); exact BK2.out) hb_); clear BK2; have BK2 := bk2_; clear bk2_; have bk2_ := Aside0.mk (blk_below (g := gb3) (o := .cells #[.int .i64 0, .int .i64 0] 51 (0, 0)) (by (with_reducible repeat (first | refine blk_drewN ?_ _ | refine blk_drew ?_ | refine blk_alloc ?_ _)); exact BK3.out) hb_); clear BK3; have BK3 := bk2_; clear bk2_; clear HB; have HB := tHB_; clear tHB_; (try clear hcz2_0); (try clear hcz2_1); (try clear hcz2_2); (try clear hcz2_3); (try clear hcz2_4); (try clear hcz3_0); (try clear hcz3_1); (try clear hb_); (try clear hcz_0); (try clear hcz_1); have hcz_0 := cellS49_0 (blk_below HG.out HB.out); have hcz_1 := cellS49_1 (blk_below HG.out HB.out))
          | (go_at_call 58; (with_reducible refine (text_c s HSZ.out g at_ HLT.out _ (blk_below HG.out (by repeat (first | (with_reducible first | exact HB.out | apply below_alloc | apply pw_below_drewN | apply below_drew1 | apply below_drew) | exact HB.out)))).mono ?_); rintro e wc ⟨ht_, hb_⟩; obtain ⟨k, t, n_, a_, b_, x_, y_, rfl⟩ := tok_form ht_; have HTK := Aside0.mk ht_; clear ht_; have tHB_ := Aside0.mk (below_step (by repeat (first | (with_reducible first | exact HB.out | apply below_alloc | apply pw_below_drewN | apply below_drew1 | apply below_drew) | exact HB.out)) hb_); have bk2_ := Aside0.mk (blk_below (g := gb2) (o := .cells #[.int .u8 0, .string (⟨#[]⟩ : ByteArray), .int .u64 0, .int .i64 0, .int .i64 0] 31 (0, 0)) (by (with_reducible repeat (first | refine blk_drewN ?_ _ | refine blk_drew ?_ | refine blk_alloc ?_ _)); exact BK2.out) hb_); clear BK2; have BK2 := bk2_; clear bk2_; have bk2_ := Aside0.mk (blk_below (g := gb3) (o := .cells #[.int .i64 0, .int .i64 0] 51 (0, 0)) (by (with_reducible repeat (first | refine blk_drewN ?_ _ | refine blk_drew ?_ | refine blk_alloc ?_ _)); exact BK3.out) hb_); clear BK3; have BK3 := bk2_; clear bk2_; clear HB; have HB := tHB_; clear tHB_; (try clear hcz2_0); (try clear hcz2_1); (try clear hcz2_2); (try clear hcz2_3); (try clear hcz2_4); (try clear hcz3_0); (try clear hcz3_1); have hcz2_0 := (blk_cell BK2.out 0).trans (show (#[.int .u8 0, .string (⟨#[]⟩ : ByteArray), .int .u64 0, .int .i64 0, .int .i64 0] : Array Value)[0]? = some (.int .u8 0) from rfl); have hcz2_1 := (blk_cell BK2.out 1).trans (show (#[.int .u8 0, .string (⟨#[]⟩ : ByteArray), .int .u64 0, .int .i64 0, .int .i64 0] : Array Value)[1]? = some (.string (⟨#[]⟩ : ByteArray)) from rfl); have hcz2_2 := (blk_cell BK2.out 2).trans (show (#[.int .u8 0, .string (⟨#[]⟩ : ByteArray), .int .u64 0, .int .i64 0, .int .i64 0] : Array Value)[2]? = some (.int .u64 0) from rfl); have hcz2_3 := (blk_cell BK2.out 3).trans (show (#[.int .u8 0, .string (⟨#[]⟩ : ByteArray), .int .u64 0, .int .i64 0, .int .i64 0] : Array Value)[3]? = some (.int .i64 0) from rfl); have hcz2_4 := (blk_cell BK2.out 4).trans (show (#[.int .u8 0, .string (⟨#[]⟩ : ByteArray), .int .u64 0, .int .i64 0, .int .i64 0] : Array Value)[4]? = some (.int .i64 0) from rfl); have hcz3_0 := (blk_cell BK3.out 0).trans (show (#[.int .i64 0, .int .i64 0] : Array Value)[0]? = some (.int .i64 0) from rfl); have hcz3_1 := (blk_cell BK3.out 1).trans (show (#[.int .i64 0, .int .i64 0] : Array Value)[1]? = some (.int .i64 0) from rfl); (try clear hb_); (try clear hcz_0); (try clear hcz_1); have hcz_0 := cellS49_0 (blk_below HG.out HB.out); have hcz_1 := cellS49_1 (blk_below HG.out HB.out); have hfz2_0 := blk_frozen BK2.out 0; have hfz2_1 := blk_frozen BK2.out 1; have hfz2_2 := blk_frozen BK2.out 2; have hfz2_3 := blk_frozen BK2.out 3; have hfz2_4 := blk_frozen BK2.out 4; have hfz3_0 := blk_frozen BK3.out 0; have hfz3_1 := blk_frozen BK3.out 1))
        refine bodyPost_ret (results_cc rfl _ _ gb2 gb3 31 51 _ _ (0, 0) (0, 0) _ _ rfl (far2 NE2_3 _ _ (put5 _ _ _ _ _ BK2.out)) Try.underlying31 rfl (by kernel_rfl) rfl (put2 _ _ (far5 NE2_3.symm _ _ _ _ _ BK3.out)) Try.underlying51 rfl (by kernel_rfl)) rfl ?_
        exact ⟨(by have z := HTK.out; rw [show nxt (D s at_) = tx (D s (at_ + 1)) 1 [] from by rw [HC.out, nxt, if_neg (by rw [HLL.out]; simp), if_neg (by rw [HDD.out]; simp), if_pos H34.out]]; exact z), set2 _ _ (set5 _ _ _ _ _ HB.out GE2.out) GE3.out⟩
      · have n34 : decide ((c.toNat : Int) = 34) = false := decide_eq_false (fun h => h34 (UInt8.toNat_inj.1 (by have : ((34 : UInt8)).toNat = 34 := rfl; omega)))
        have n34' : ((c.toNat : Int) == 34) = false := n34
        have H34 := Aside0.mk h34
        clear h34
        go_wp2_with (first
          | (go_at_call 36; (with_reducible refine (lex_letter.calls 5 (c.toNat : Int) false _ HL.out).mono ?_); rintro e wc ⟨rfl, hb_⟩; have tHB_ := Aside0.mk (below_step (by repeat (first | (with_reducible first | exact HB.out | apply below_alloc | apply pw_below_drewN | apply below_drew1 | apply below_drew) | exact HB.out)) hb_); have bk2_ := Aside0.mk (blk_below (g := gb2) (o := .cells #[.int .u8 0, .string (⟨#[]⟩ : ByteArray), .int .u64 0, .int .i64 0, .int .i64 0] 31 (0, 0)) (by (with_reducible repeat (first | refine blk_drewN ?_ _ | refine blk_drew ?_ | refine blk_alloc ?_ _)); exact BK2.out) hb_); clear BK2; have BK2 := bk2_; clear bk2_; have bk2_ := Aside0.mk (blk_below (g := gb3) (o := .cells #[.int .i64 0, .int .i64 0] 51 (0, 0)) (by (with_reducible repeat (first | refine blk_drewN ?_ _ | refine blk_drew ?_ | refine blk_alloc ?_ _)); exact BK3.out) hb_); clear BK3; have BK3 := bk2_; clear bk2_; clear HB; have HB := tHB_; clear tHB_; (try clear hcz2_0); (try clear hcz2_1); (try clear hcz2_2); (try clear hcz2_3); (try clear hcz2_4); (try clear hcz3_0); (try clear hcz3_1); (try clear hb_); (try clear hcz_0); (try clear hcz_1); have hcz_0 := cellS49_0 (blk_below HG.out HB.out); have hcz_1 := cellS49_1 (blk_below HG.out HB.out))
          | (go_at_call 50; (with_reducible refine (lex_digit.calls 3 (c.toNat : Int) false _ HD.out).mono ?_); rintro e wc ⟨rfl, hb_⟩; have tHB_ := Aside0.mk (below_step (by repeat (first | (with_reducible first | exact HB.out | apply below_alloc | apply pw_below_drewN | apply below_drew1 | apply below_drew) | exact HB.out)) hb_); have bk2_ := Aside0.mk (blk_below (g := gb2) (o := .cells #[.int .u8 0, .string (⟨#[]⟩ : ByteArray), .int .u64 0, .int .i64 0, .int .i64 0] 31 (0, 0)) (by (with_reducible repeat (first | refine blk_drewN ?_ _ | refine blk_drew ?_ | refine blk_alloc ?_ _)); exact BK2.out) hb_); clear BK2; have BK2 := bk2_; clear bk2_; have bk2_ := Aside0.mk (blk_below (g := gb3) (o := .cells #[.int .i64 0, .int .i64 0] 51 (0, 0)) (by (with_reducible repeat (first | refine blk_drewN ?_ _ | refine blk_drew ?_ | refine blk_alloc ?_ _)); exact BK3.out) hb_); clear BK3; have BK3 := bk2_; clear bk2_; clear HB; have HB := tHB_; clear tHB_; (try clear hcz2_0); (try clear hcz2_1); (try clear hcz2_2); (try clear hcz2_3); (try clear hcz2_4); (try clear hcz3_0); (try clear hcz3_1); (try clear hb_); (try clear hcz_0); (try clear hcz_1); have hcz_0 := cellS49_0 (blk_below HG.out HB.out); have hcz_1 := cellS49_1 (blk_below HG.out HB.out))
          | (go_at_call 59; (with_reducible refine (sign_c s HSZ.out g at_ HLT.out _ (blk_below HG.out (by repeat (first | (with_reducible first | exact HB.out | apply below_alloc | apply pw_below_drewN | apply below_drew1 | apply below_drew) | exact HB.out)))).mono ?_); rintro e wc ⟨ht_, hb_⟩; obtain ⟨k, t, n_, a_, b_, x_, y_, rfl⟩ := tok_form ht_; have HTK := Aside0.mk ht_; clear ht_; have tHB_ := Aside0.mk (below_step (by repeat (first | (with_reducible first | exact HB.out | apply below_alloc | apply pw_below_drewN | apply below_drew1 | apply below_drew) | exact HB.out)) hb_); have bk2_ := Aside0.mk (blk_below (g := gb2) (o := .cells #[.int .u8 0, .string (⟨#[]⟩ : ByteArray), .int .u64 0, .int .i64 0, .int .i64 0] 31 (0, 0)) (by (with_reducible repeat (first | refine blk_drewN ?_ _ | refine blk_drew ?_ | refine blk_alloc ?_ _)); exact BK2.out) hb_); clear BK2; have BK2 := bk2_; clear bk2_; have bk2_ := Aside0.mk (blk_below (g := gb3) (o := .cells #[.int .i64 0, .int .i64 0] 51 (0, 0)) (by (with_reducible repeat (first | refine blk_drewN ?_ _ | refine blk_drew ?_ | refine blk_alloc ?_ _)); exact BK3.out) hb_); clear BK3; have BK3 := bk2_; clear bk2_; clear HB; have HB := tHB_; clear tHB_; (try clear hcz2_0); (try clear hcz2_1); (try clear hcz2_2); (try clear hcz2_3); (try clear hcz2_4); (try clear hcz3_0); (try clear hcz3_1); have hcz2_0 := (blk_cell BK2.out 0).trans (show (#[.int .u8 0, .string (⟨#[]⟩ : ByteArray), .int .u64 0, .int .i64 0, .int .i64 0] : Array Value)[0]? = some (.int .u8 0) from rfl); have hcz2_1 := (blk_cell BK2.out 1).trans (show (#[.int .u8 0, .string (⟨#[]⟩ : ByteArray), .int .u64 0, .int .i64 0, .int .i64 0] : Array Value)[1]? = some (.string (⟨#[]⟩ : ByteArray)) from rfl); have hcz2_2 := (blk_cell BK2.out 2).trans (show (#[.int .u8 0, .string (⟨#[]⟩ : ByteArray), .int .u64 0, .int .i64 0, .int .i64 0] : Array Value)[2]? = some (.int .u64 0) from rfl); have hcz2_3 := (blk_cell BK2.out 3).trans (show (#[.int .u8 0, .string (⟨#[]⟩ : ByteArray), .int .u64 0, .int .i64 0, .int .i64 0] : Array Value)[3]? = some (.int .i64 0) from rfl); have hcz2_4 := (blk_cell BK2.out 4).trans (show (#[.int .u8 0, .string (⟨#[]⟩ : ByteArray), .int .u64 0, .int .i64 0, .int .i64 0] : Array Value)[4]? = some (.int .i64 0) from rfl); have hcz3_0 := (blk_cell BK3.out 0).trans (show (#[.int .i64 0, .int .i64 0] : Array Value)[0]? = some (.int .i64 0) from rfl); have hcz3_1 := (blk_cell BK3.out 1).trans (show (#[.int .i64 0, .int .i64 0] : Array Value)[1]? = some (.int .i64 0) from rfl); (try clear hb_); (try clear hcz_0); (try clear hcz_1); have hcz_0 := cellS49_0 (blk_below HG.out HB.out); have hcz_1 := cellS49_1 (blk_below HG.out HB.out); have hfz2_0 := blk_frozen BK2.out 0; have hfz2_1 := blk_frozen BK2.out 1; have hfz2_2 := blk_frozen BK2.out 2; have hfz2_3 := blk_frozen BK2.out 3; have hfz2_4 := blk_frozen BK2.out 4; have hfz3_0 := blk_frozen BK3.out 0; have hfz3_1 := blk_frozen BK3.out 1))
        refine bodyPost_ret (results_cc rfl _ _ gb2 gb3 31 51 _ _ (0, 0) (0, 0) _ _ rfl (far2 NE2_3 _ _ (put5 _ _ _ _ _ BK2.out)) Try.underlying31 rfl (by kernel_rfl) rfl (put2 _ _ (far5 NE2_3.symm _ _ _ _ _ BK3.out)) Try.underlying51 rfl (by kernel_rfl)) rfl ?_
        exact ⟨(by have z := HTK.out; rw [show nxt (D s at_) = sgn (D s at_) from by rw [HC.out, nxt, if_neg (by rw [HLL.out]; simp), if_neg (by rw [HDD.out]; simp), if_neg H34.out]]; exact z), set2 _ _ (set5 _ _ _ _ _ HB.out GE2.out) GE3.out⟩

end Go.Proofs.Ytmmilinbpimfaaa.WalkNext
