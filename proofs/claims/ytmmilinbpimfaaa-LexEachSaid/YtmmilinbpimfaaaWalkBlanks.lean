/- Blanks passed. Under no conditions beyond the statements' own. -/
import Derived.Test.YtmmilinbpimfaaaPureLex
import Derived.Test.YtmmilinbpimfaaaSwitch
import Derived.Outline
import Derived.Deep.RegionWith
import Derived.Deep.QuietTactic
import Derived.BigQuiet
import Derived.Deep.LoopGhost
set_option linter.unusedSimpArgs false
set_option linter.unusedVariables false
namespace Go.Proofs.Ytmmilinbpimfaaa.WalkBlanks
open Go.RowKit Go.Proofs.Ytmmilinbpimfaaa.PLexKnown Go.Proofs.YtmmilinbpimfaaaW.PrintWords Go.Proofs.YtmmilinbpimfaaaW.PrintLast Go.Proofs.YtmmilinbpimfaaaW.PrintMore Go.Proofs.Ytmmilinbpimfaaa.Switch Go.Proofs.Ytmmilinbpimfaaa.Spec Go.Proofs.Ytmmilinbpimfaaa.PureLex
theorem drawn_below {w W : World} (h : Drawn0 w W) : Below w.heap.size w W := by
  obtain ⟨n, rfl⟩ := h
  exact pw_below_drewN (Below.refl _ _) n
theorem keep_below {w W W1 : World} {g : Nat} (h : KeepBut w W g none) (hb : Below W.heap.size W W1) : KeepBut w W1 g none := h.trans (KeepBut.of_below hb g none) (.inl rfl)
abbrev D (s : ByteArray) (i : Nat) : B := s.data.toList.drop i
theorem D_len (s : ByteArray) (i : Nat) : (D s i).length = s.size - i := by rw [List.length_drop, ← size_len]
theorem D_cons {s : ByteArray} {i : Nat} (h : i < s.size) : ∃ c, D s i = c :: D s (i + 1) ∧ bt s (i : Int) = (c.toNat : Int) := by
  have h' : i < s.data.toList.length := by rw [← size_len]; exact h
  exact ⟨_, List.drop_eq_getElem_cons h', bt_nat s i h'⟩
theorem D_nil {s : ByteArray} {i : Nat} (h : s.size ≤ i) : D s i = [] := List.drop_eq_nil_of_le (by rw [← size_len]; exact h)
theorem D_drop (s : ByteArray) (i j : Nat) : (D s i).drop j = D s (i + j) := by rw [List.drop_drop]
theorem D_rest (s : ByteArray) (i : Nat) : (s.extract i s.size).data.toList = D s i := drop_data s i
theorem rest_f (s : ByteArray) (i : Nat) (h : i ≤ s.size) : lex_scanner_rest.f s (i : Int) = some (s.extract i s.size, s, (i : Int)) := by
  unfold lex_scanner_rest.f
  rw [if_pos (by omega), if_pos (by omega)]
  rfl
theorem rd_blk {W : World} {g : Nat} {xs : List Int} {cs : Array Value} (hcs : cs = (nums .u8 xs).toArray) (hx : xs.length ≤ 1000) (h : W.heap[g]? = some (.cells cs 5 (0, 0))) : Kd.C (Kd.int .u8) W (some ⟨g, 0, none⟩) xs.length xs := by
  subst hcs
  refine Kd.C_of_reads (d := (0 : Int)) (h1 := fun _ => rfl) ⟨rfl, by omega, fun _ => ⟨_, rfl, fun j hj => ?_⟩⟩
  rw [add_plain, blk_cell h]
  simp [nums, List.getD_eq_getElem?_getD, hj]
theorem bt_at_nat (s : ByteArray) (i : Nat) (h : i < s.size) : (((s[i]'h).toNat : Nat) : Int) = bt s (i : Int) := by simp [bt, h]
theorem in_l (k : Nat) (x : Int) (A : Option Addr) (cap : Nat) (l : List Int) (n : Nat) (hn : l.length = n) (r : Bool) (w : World) (hr : Kd.C (Kd.int .u8) w A l.length l) (hc : n ≤ cap) (h : lex_in.f k x l = some r) :
    Calls Try.prog 33 #[.int .u8 x, .slice A n cap] w fun e w' => e = .returned (.bool r) ∧ Drawn0 w w' := by
  subst hn
  exact lex_in.calls k x A cap l r w hr hc h
theorem isB_in (c : UInt8) : lex_in.f 9 (c.toNat : Int) [9, 10, 13, 13, 32, 32] = some (isB c) := by
  rw [in6 4]
  congr 1
  unfold isB
  rw [Bool.eq_iff_iff]
  simp [← UInt8.toNat_inj]
  omega
set_option maxHeartbeats 8000000 in
set_option maxRecDepth 100000 in
theorem blanks_c (s : ByteArray) (hn : s.size ≤ 1000000) (g at0 : Nat) (h0 : at0 ≤ s.size) (w0 w : World) (hI : IsS49 w0 w g s (at0 : Int)) (hB : Below w0.heap.size w0 w) :
    Calls Try.prog 46 #[.pointer (some ⟨g, 0, none⟩)] w fun e w' => e = .returned (.tuple #[]) ∧ IsS49 w0 w' g s ((s.size - (sk (D s at0)).length : Nat) : Int) ∧ Below w0.heap.size w0 w' ∧ KeepBut w w' g none := by
  have HI0 := Aside0.mk hI
  have HB0 := Aside0.mk hB
  have HN := Aside0.mk hn
  have HH := Aside0.mk h0
  have HK0 := Aside0.mk (KeepBut.refl w g none)
  clear hI hB hn h0
  go_enter Try.func46, Try.ntmps46
  go_wp2
  go_loopg [2] (s.size + 1 - at0) (fun kq v2 w' => ∃ at_ : Nat, Aside0 (kq + at_ = s.size + 1) ∧ Aside0 (at_ ≤ s.size) ∧ Aside0 (sk (D s at_) = sk (D s at0)) ∧ Aside0 (IsS49 w0 w' g s (at_ : Int)) ∧ Aside0 (Below w0.heap.size w0 w') ∧ Aside0 (KeepBut w w' g none))
  case atStart => exact ⟨at0, ⟨by have := HH.out; omega⟩, HH, ⟨rfl⟩, HI0, HB0, HK0⟩
  case round =>
    clear HI0 HB0 HK0 HH
    obtain ⟨at_, HQ, HA, HS, HI, HB, HK⟩ := hrel
    have hcz_0 := cellS49_0 HI.out.1
    have hcz_1 := cellS49_1 HI.out.1
    have hfz_1 := blk_frozen HI.out.1 1
    by_cases hlt : at_ < s.size
    · have c1 : decide ((at_ : Int) < (s.size : Int)) = true := decide_eq_true (by omega)
      have c1n : decide (at_ < s.size) = true := decide_eq_true hlt
      obtain ⟨c, hc, hbt⟩ := D_cons hlt
      have HR := Aside0.mk (rest_f s at_ (Nat.le_of_lt hlt))
      have HLT := Aside0.mk hlt
      cases hm : cmt (D s at_) with
      | true =>
        have HP := Aside0.mk ((prefix_f (s.extract at_ s.size)).trans (by rw [D_rest, hm]))
        have HX := Aside0.mk (index_line (D s at_))
        have HM := Aside0.mk hm
        have HC := Aside0.mk hc
        obtain ⟨x, hx⟩ : ∃ x, Lib.indexByte (D s at_) 10 = x := ⟨_, rfl⟩
        have hxs : strings_IndexByte.f (s.extract at_ s.size) 10 = some x := by unfold strings_IndexByte.f; rw [D_rest]; exact congrArg some hx
        have HXF := Aside0.mk hxs
        have HXE := Aside0.mk hx
        have hxl : x ≤ (s.size : Int) := by
          have h1 := HX.out.2
          rw [hx] at h1
          have h2 := D_len s at_
          by_cases h : 0 ≤ x
          · have := (h1 h).1; omega
          · omega
        have HXL := Aside0.mk hxl
        clear hm hc hbt hlt hx hxs hxl
        have key : ∃ m : Nat, (if x < 0 then ((s.extract at_ s.size).size : Int) else x) = (m : Int) ∧ 1 ≤ m ∧ at_ + m ≤ s.size ∧ line (D s at_) = D s (at_ + m) := by
          have h1 := HX.out
          rw [HXE.out] at h1
          have h2 := D_len s at_
          have h3 := line_lt _ HM.out
          have h4 := HLT.out
          by_cases h : x < 0
          · refine ⟨s.size - at_, ?_, by omega, by omega, ?_⟩
            · rw [if_pos h, size_len, D_rest, h2]
            · rw [h1.1 h, D_nil (by omega)]
          · obtain ⟨m, rfl⟩ := Int.eq_ofNat_of_zero_le (show 0 ≤ x by omega)
            have h5 := h1.2 (by omega)
            rw [Int.toNat_natCast] at h5
            refine ⟨m, by rw [if_neg h], ?_, by omega, by rw [h5.2, D_drop]⟩
            rcases Nat.eq_zero_or_pos m with rfl | h6
            · rw [h5.2, List.drop_zero] at h3
              omega
            · exact h6
        obtain ⟨m, hmx, hm1, hm2, hmd⟩ := key
        have HM1 := Aside0.mk hm1
        have HM2 := Aside0.mk hm2
        have HMD := Aside0.mk hmd
        have b1 : (at_ : Int) ≤ 1000000 := by have := HN.out; have := HLT.out; omega
        have b2 : (m : Int) ≤ 1000000 := by have := HN.out; omega
        clear hm1 hm2 hmd HX HXE HXL
        by_cases hx0 : x < 0
        · have c2 : decide (x < 0) = true := decide_eq_true hx0
          have hsz : (s.extract at_ s.size).size = m := by rw [if_pos hx0] at hmx; omega
          clear hmx hx0
          go_wp2
          go_quiet (fail)
          go_wp2_with (first
            | (go_at_call 56; (with_reducible refine (lex_scanner_rest.calls g s (at_ : Int) _ _ _ w0 _ (by repeat (first | (with_reducible first | exact HI.out | apply IsS49.alloc | apply IsS49.drewN | apply IsS49.drew) | exact HI.out)) (by repeat (first | (with_reducible first | exact HB.out | apply below_alloc | apply pw_below_drewN | apply below_drew1 | apply below_drew) | exact HB.out)) HR.out).mono ?_); rintro e wc ⟨rfl, hi_, hb_, hk_⟩; have HK2 := Aside0.mk (KeepBut.trans (by repeat (first | (with_reducible first | exact HK.out | apply keep_drewN | apply keep_drew | apply keep_alloc) | exact HK.out)) hk_ (.inl rfl)); clear HK HB HI; have HK := HK2; have HB := Aside0.mk hb_; have HI := Aside0.mk hi_; clear HK2 hk_ hb_ hi_; (try clear hcz_0 hcz_1 hfz_1); have hcz_0 := cellS49_0 HI.out.1; have hcz_1 := cellS49_1 HI.out.1; have hfz_1 := blk_frozen HI.out.1 1)
            | (go_at_call 55; (with_reducible refine (strings_HasPrefix.calls (s.extract at_ s.size) (⟨#[47, 47]⟩ : ByteArray) true _ HP.out).mono ?_); rintro e wc ⟨rfl, hd_⟩; have hb9 := drawn_below hd_; have HK2 := Aside0.mk (keep_below (by repeat (first | (with_reducible first | exact HK.out | apply keep_drewN | apply keep_drew | apply keep_alloc) | exact HK.out)) hb9); have HB2 := Aside0.mk (below_step (by repeat (first | (with_reducible first | exact HB.out | apply below_alloc | apply pw_below_drewN | apply below_drew1 | apply below_drew) | exact HB.out)) hb9); have HI2 := Aside0.mk (IsS49.below (by repeat (first | (with_reducible first | exact HI.out | apply IsS49.alloc | apply IsS49.drewN | apply IsS49.drew) | exact HI.out)) hb9); clear HK HB HI hd_ hb9; have HK := HK2; have HB := HB2; have HI := HI2; clear HK2 HB2 HI2; (try clear hcz_0 hcz_1 hfz_1); have hcz_0 := cellS49_0 HI.out.1; have hcz_1 := cellS49_1 HI.out.1; have hfz_1 := blk_frozen HI.out.1 1)
            | (go_at_call 32; (with_reducible refine (strings_IndexByte.calls (s.extract at_ s.size) 10 _ _ HXF.out).mono ?_); rintro e wc ⟨rfl, hd_⟩; have hb9 := drawn_below hd_; have HK2 := Aside0.mk (keep_below (by repeat (first | (with_reducible first | exact HK.out | apply keep_drewN | apply keep_drew | apply keep_alloc) | exact HK.out)) hb9); have HB2 := Aside0.mk (below_step (by repeat (first | (with_reducible first | exact HB.out | apply below_alloc | apply pw_below_drewN | apply below_drew1 | apply below_drew) | exact HB.out)) hb9); have HI2 := Aside0.mk (IsS49.below (by repeat (first | (with_reducible first | exact HI.out | apply IsS49.alloc | apply IsS49.drewN | apply IsS49.drew) | exact HI.out)) hb9); clear HK HB HI hd_ hb9; have HK := HK2; have HB := HB2; have HI := HI2; clear HK2 HB2 HI2; (try clear hcz_0 hcz_1 hfz_1); have hcz_0 := cellS49_0 HI.out.1; have hcz_1 := cellS49_1 HI.out.1; have hfz_1 := blk_frozen HI.out.1 1))
          go_roundg (s.size + 1 - (at_ + m))
          case measure => have := HQ.out; have := HM1.out; have := HM2.out; omega
          case rel => exact ⟨at_ + m, ⟨by have := HM2.out; omega⟩, HM2, ⟨by rw [← HS.out, HC.out, sk_cmt (HC.out ▸ HM.out), ← HC.out, HMD.out]⟩, ⟨by have z := IsS49.set_1 (by repeat (first | (with_reducible first | exact HI.out | apply IsS49.alloc | apply IsS49.drewN | apply IsS49.drew) | exact HI.out)) ((at_ + m : Nat) : Int); simpa using z⟩, ⟨below_set (by repeat (first | (with_reducible first | exact HB.out | apply below_alloc | apply pw_below_drewN | apply below_drew1 | apply below_drew) | exact HB.out)) (IsS49.ge HI.out)⟩, ⟨KeepBut.set_ (by repeat (first | (with_reducible first | exact HK.out | apply keep_drewN | apply keep_drew | apply keep_alloc) | exact HK.out)) 1 _⟩⟩
        · have c2 : decide (x < 0) = false := decide_eq_false hx0
          obtain rfl : x = (m : Int) := by rw [if_neg hx0] at hmx; exact hmx
          clear hmx hx0
          go_wp2
          go_quiet (fail)
          go_wp2_with (first
            | (go_at_call 56; (with_reducible refine (lex_scanner_rest.calls g s (at_ : Int) _ _ _ w0 _ (by repeat (first | (with_reducible first | exact HI.out | apply IsS49.alloc | apply IsS49.drewN | apply IsS49.drew) | exact HI.out)) (by repeat (first | (with_reducible first | exact HB.out | apply below_alloc | apply pw_below_drewN | apply below_drew1 | apply below_drew) | exact HB.out)) HR.out).mono ?_); rintro e wc ⟨rfl, hi_, hb_, hk_⟩; have HK2 := Aside0.mk (KeepBut.trans (by repeat (first | (with_reducible first | exact HK.out | apply keep_drewN | apply keep_drew | apply keep_alloc) | exact HK.out)) hk_ (.inl rfl)); clear HK HB HI; have HK := HK2; have HB := Aside0.mk hb_; have HI := Aside0.mk hi_; clear HK2 hk_ hb_ hi_; (try clear hcz_0 hcz_1 hfz_1); have hcz_0 := cellS49_0 HI.out.1; have hcz_1 := cellS49_1 HI.out.1; have hfz_1 := blk_frozen HI.out.1 1)
            | (go_at_call 55; (with_reducible refine (strings_HasPrefix.calls (s.extract at_ s.size) (⟨#[47, 47]⟩ : ByteArray) true _ HP.out).mono ?_); rintro e wc ⟨rfl, hd_⟩; have hb9 := drawn_below hd_; have HK2 := Aside0.mk (keep_below (by repeat (first | (with_reducible first | exact HK.out | apply keep_drewN | apply keep_drew | apply keep_alloc) | exact HK.out)) hb9); have HB2 := Aside0.mk (below_step (by repeat (first | (with_reducible first | exact HB.out | apply below_alloc | apply pw_below_drewN | apply below_drew1 | apply below_drew) | exact HB.out)) hb9); have HI2 := Aside0.mk (IsS49.below (by repeat (first | (with_reducible first | exact HI.out | apply IsS49.alloc | apply IsS49.drewN | apply IsS49.drew) | exact HI.out)) hb9); clear HK HB HI hd_ hb9; have HK := HK2; have HB := HB2; have HI := HI2; clear HK2 HB2 HI2; (try clear hcz_0 hcz_1 hfz_1); have hcz_0 := cellS49_0 HI.out.1; have hcz_1 := cellS49_1 HI.out.1; have hfz_1 := blk_frozen HI.out.1 1)
            | (go_at_call 32; (with_reducible refine (strings_IndexByte.calls (s.extract at_ s.size) 10 _ _ HXF.out).mono ?_); rintro e wc ⟨rfl, hd_⟩; have hb9 := drawn_below hd_; have HK2 := Aside0.mk (keep_below (by repeat (first | (with_reducible first | exact HK.out | apply keep_drewN | apply keep_drew | apply keep_alloc) | exact HK.out)) hb9); have HB2 := Aside0.mk (below_step (by repeat (first | (with_reducible first | exact HB.out | apply below_alloc | apply pw_below_drewN | apply below_drew1 | apply below_drew) | exact HB.out)) hb9); have HI2 := Aside0.mk (IsS49.below (by repeat (first | (with_reducible first | exact HI.out | apply IsS49.alloc | apply IsS49.drewN | apply IsS49.drew) | exact HI.out)) hb9); clear HK HB HI hd_ hb9; have HK := HK2; have HB := HB2; have HI := HI2; clear HK2 HB2 HI2; (try clear hcz_0 hcz_1 hfz_1); have hcz_0 := cellS49_0 HI.out.1; have hcz_1 := cellS49_1 HI.out.1; have hfz_1 := blk_frozen HI.out.1 1))
          go_roundg (s.size + 1 - (at_ + m))
          case measure => have := HQ.out; have := HM1.out; have := HM2.out; omega
          case rel => exact ⟨at_ + m, ⟨by have := HM2.out; omega⟩, HM2, ⟨by rw [← HS.out, HC.out, sk_cmt (HC.out ▸ HM.out), ← HC.out, HMD.out]⟩, ⟨by have z := IsS49.set_1 (by repeat (first | (with_reducible first | exact HI.out | apply IsS49.alloc | apply IsS49.drewN | apply IsS49.drew) | exact HI.out)) ((at_ + m : Nat) : Int); simpa using z⟩, ⟨below_set (by repeat (first | (with_reducible first | exact HB.out | apply below_alloc | apply pw_below_drewN | apply below_drew1 | apply below_drew) | exact HB.out)) (IsS49.ge HI.out)⟩, ⟨KeepBut.set_ (by repeat (first | (with_reducible first | exact HK.out | apply keep_drewN | apply keep_drew | apply keep_alloc) | exact HK.out)) 1 _⟩⟩
      | false =>
        have HP := Aside0.mk ((prefix_f (s.extract at_ s.size)).trans (by rw [D_rest, hm]))
        have HM := Aside0.mk (show cmt (c :: D s (at_ + 1)) = false by rw [← hc]; exact hm)
        have HC := Aside0.mk hc
        have b1 : (at_ : Int) ≤ 1000000 := by have := HN.out; have := HLT.out; omega
        have b0 : 0 ≤ (at_ : Int) := by omega
        have p1 : (0 ≤ (at_ : Int)) = True := eq_true (by omega)
        have q1 : ((at_ : Int) < (s.size : Int)) = True := eq_true (by omega)
        have hx9 := bt_at_nat s at_
        have q2 : (at_ < s.size) = True := eq_true hlt
        have HBT := Aside0.mk hbt
        have hib := isB_in c
        rw [← hbt] at hib
        have HV' := Aside0.mk hib
        clear hm hc hbt hlt hib
        cases hbl : isB c with
        | true =>
          have HV : Aside0 (lex_in.f 9 (bt s (at_ : Int)) [9, 10, 13, 13, 32, 32] = some true) := ⟨by rw [HV'.out, hbl]⟩
          have HBL := Aside0.mk hbl
          clear hbl HV'
          go_wp2
          go_quiet (fail)
          go_wp2_with (first
            | (go_at_call 56; (with_reducible refine (lex_scanner_rest.calls g s (at_ : Int) _ _ _ w0 _ (by repeat (first | (with_reducible first | exact HI.out | apply IsS49.alloc | apply IsS49.drewN | apply IsS49.drew) | exact HI.out)) (by repeat (first | (with_reducible first | exact HB.out | apply below_alloc | apply pw_below_drewN | apply below_drew1 | apply below_drew) | exact HB.out)) HR.out).mono ?_); rintro e wc ⟨rfl, hi_, hb_, hk_⟩; have HK2 := Aside0.mk (KeepBut.trans (by repeat (first | (with_reducible first | exact HK.out | apply keep_drewN | apply keep_drew | apply keep_alloc) | exact HK.out)) hk_ (.inl rfl)); clear HK HB HI; have HK := HK2; have HB := Aside0.mk hb_; have HI := Aside0.mk hi_; clear HK2 hk_ hb_ hi_; (try clear hcz_0 hcz_1 hfz_1); have hcz_0 := cellS49_0 HI.out.1; have hcz_1 := cellS49_1 HI.out.1; have hfz_1 := blk_frozen HI.out.1 1)
            | (go_at_call 55; (with_reducible refine (strings_HasPrefix.calls (s.extract at_ s.size) (⟨#[47, 47]⟩ : ByteArray) false _ HP.out).mono ?_); rintro e wc ⟨rfl, hd_⟩; have hb9 := drawn_below hd_; have HK2 := Aside0.mk (keep_below (by repeat (first | (with_reducible first | exact HK.out | apply keep_drewN | apply keep_drew | apply keep_alloc) | exact HK.out)) hb9); have HB2 := Aside0.mk (below_step (by repeat (first | (with_reducible first | exact HB.out | apply below_alloc | apply pw_below_drewN | apply below_drew1 | apply below_drew) | exact HB.out)) hb9); have HI2 := Aside0.mk (IsS49.below (by repeat (first | (with_reducible first | exact HI.out | apply IsS49.alloc | apply IsS49.drewN | apply IsS49.drew) | exact HI.out)) hb9); clear HK HB HI hd_ hb9; have HK := HK2; have HB := HB2; have HI := HI2; clear HK2 HB2 HI2; (try clear hcz_0 hcz_1 hfz_1); have hcz_0 := cellS49_0 HI.out.1; have hcz_1 := cellS49_1 HI.out.1; have hfz_1 := blk_frozen HI.out.1 1))
          refine startB_ (n := 12) #[false, false, false, false, false, false, false, false, false, false, false, false] (by kernel_rfl) rfl rfl (fun W0 D0 => ?_)
          have hi0 := (IsS49.below HI.out D0).1
          have HB2 := Aside0.mk (below_step HB.out D0)
          have HK2 := Aside0.mk (keep_below HK.out D0)
          have HI2 := Aside0.mk (IsS49.below HI.out D0)
          clear HI HB HK hcz_0 hcz_1 hfz_1 D0
          have HI := HI2; have HB := HB2; have HK := HK2; clear HI2 HB2 HK2
          refine pure_ (i := 0) (N := some 34) (v := ?_) (a' := ?_) #[true, false, false, false, false, false, false, false, false, false, false, false] rfl rfl (by kernel_rfl) (fun _ _ _ h => h) (Or.inl ⟨by rfl, ?_⟩) ?_ ?_
          rotate_left
          · intro w'
            go_simp
            with_reducible rfl
          rotate_left
          · simp only [Act.put, List.setIfInBounds_toArray, List.set_cons_zero, List.set_cons_succ, i64_w, i32_w]
            rfl
          refine pure_ (i := 1) (N := some 35) (v := ?_) (a' := ?_) #[true, true, false, false, false, false, false, false, false, false, false, false] rfl rfl (by kernel_rfl) (fun _ _ _ h => h) (Or.inl ⟨by rfl, ?_⟩) ?_ ?_
          rotate_left
          · intro w'
            go_simp
            with_reducible rfl
          rotate_left
          · simp only [Act.put, List.setIfInBounds_toArray, List.set_cons_zero, List.set_cons_succ, i64_w, i32_w]
            rfl
          refine pure_ (i := 2) (N := some 36) (v := ?_) (a' := ?_) #[true, true, true, false, false, false, false, false, false, false, false, false] rfl rfl (by kernel_rfl) (fun _ _ _ h => h) (Or.inl ⟨by rfl, ?_⟩) ?_ ?_
          rotate_left
          · intro w'
            go_simp
            with_reducible rfl
          rotate_left
          · simp only [Act.put, List.setIfInBounds_toArray, List.set_cons_zero, List.set_cons_succ, i64_w, i32_w]
            rfl
          refine take_ (i := 3) (N := some 37) (v := ?_) (a' := ?_) #[true, true, true, true, false, false, false, false, false, false, false, false] rfl rfl (by kernel_rfl) (fun _ _ _ h => h) (Or.inl ⟨by rfl, ?_⟩) (Below.refl _ _) ?_ ?_
          rotate_left
          · intro w' hS
            have hcz_0 := cellS49_0 (blk_below hi0 hS)
            go_simp
            with_reducible rfl
          rotate_left
          · simp only [Act.put, List.setIfInBounds_toArray, List.set_cons_zero, List.set_cons_succ, i64_w, i32_w]
            rfl
          refine pure_ (i := 4) (N := some 38) (v := ?_) (a' := ?_) #[true, true, true, true, true, false, false, false, false, false, false, false] rfl rfl (by kernel_rfl) (fun _ _ _ h => h) (Or.inl ⟨by rfl, ?_⟩) ?_ ?_
          rotate_left
          · intro w'
            go_simp
            with_reducible rfl
          rotate_left
          · simp only [Act.put, List.setIfInBounds_toArray, List.set_cons_zero, List.set_cons_succ, i64_w, i32_w]
            rfl
          refine pure_ (i := 5) (N := some 39) (v := ?_) (a' := ?_) #[true, true, true, true, true, true, false, false, false, false, false, false] rfl rfl (by kernel_rfl) (fun _ _ _ h => h) (Or.inl ⟨by rfl, ?_⟩) ?_ ?_
          rotate_left
          · intro w'
            go_simp
            with_reducible rfl
          rotate_left
          · simp only [Act.put, List.setIfInBounds_toArray, List.set_cons_zero, List.set_cons_succ, i64_w, i32_w]
            rfl
          refine pure_ (i := 6) (N := some 40) (v := ?_) (a' := ?_) #[true, true, true, true, true, true, true, false, false, false, false, false] rfl rfl (by kernel_rfl) (fun _ _ _ h => h) (Or.inl ⟨by rfl, ?_⟩) ?_ ?_
          rotate_left
          · intro w'
            go_simp
            with_reducible rfl
          rotate_left
          · simp only [Act.put, List.setIfInBounds_toArray, List.set_cons_zero, List.set_cons_succ, i64_w, i32_w]
            rfl
          refine take_ (i := 7) (N := some 41) (v := ?_) (a' := ?_) #[true, true, true, true, true, true, true, true, false, false, false, false] rfl rfl (by kernel_rfl) (fun _ _ _ h => h) (Or.inl ⟨by rfl, ?_⟩) (Below.refl _ _) ?_ ?_
          rotate_left
          · intro w' hS
            have hcz_1 := cellS49_1 (blk_below hi0 hS)
            go_simp
            with_reducible rfl
          rotate_left
          · simp only [Act.put, List.setIfInBounds_toArray, List.set_cons_zero, List.set_cons_succ, i64_w, i32_w]
            rfl
          refine pure_ (i := 8) (N := some 42) (v := ?_) (a' := ?_) #[true, true, true, true, true, true, true, true, true, false, false, false] rfl rfl (by kernel_rfl) (fun _ _ _ h => h) (Or.inl ⟨by rfl, ?_⟩) ?_ ?_
          rotate_left
          · intro w'
            go_simp
            with_reducible rfl
          rotate_left
          · simp only [Act.put, List.setIfInBounds_toArray, List.set_cons_zero, List.set_cons_succ, i64_w, i32_w]
            rfl
          refine one_ (i := 9) (N := some 43) #[true, true, true, true, true, true, true, true, true, true, false, false] rfl rfl (by kernel_rfl) (by decide) (fun K hK => ?_)
          refine value_ (w1 := ?_) (v := ?_) (by rfl) rfl ?_ ?_
          rotate_left 2
          · go_simp
            constructor
            · rfl
            · rfl
          have D1 := below_alloc (Below.refl _ W0) (.cells #[.int .u8 9, .int .u8 10, .int .u8 13, .int .u8 13, .int .u8 32, .int .u8 32] 5 (0, 0))
          have b1 := blk_new W0 (.cells #[.int .u8 9, .int .u8 10, .int .u8 13, .int .u8 13, .int .u8 32, .int .u8 32] 5 (0, 0))
          refine hK.out _ _ D1 (fun _ => behind_ D1 ?_)
          clear hK K
          refine norm_ (a' := ?_) ?_ ?_
          rotate_left
          · show Act.put _ (some 43) _ = _
            simp only [Act.put, List.setIfInBounds_toArray, List.set_cons_zero, List.set_cons_succ, i64_w, i32_w]
            rfl
          refine one_ (i := 10) (N := some 44) #[true, true, true, true, true, true, true, true, true, true, true, false] rfl rfl (by kernel_rfl) (by decide) (fun K hK => ?_)
          refine goes_ Try.func33 (by kernel_rfl) rfl #[.int .u8 (bt s (at_ : Int)), .slice (some ⟨W0.heap.size, 0, none⟩) 6 6] (by rfl) rfl rfl (by (try simp only [List.map_toArray, List.map_cons, List.map_nil]); first | done | rfl) ?_
          with_reducible refine (in_l 9 (bt s (at_ : Int)) (some ⟨W0.heap.size, 0, none⟩) 6 [9, 10, 13, 13, 32, 32] 6 rfl true _ (rd_blk rfl (by decide) b1) (by decide) HV.out).mono ?_
          rintro e W2 ⟨rfl, hd_⟩
          have D2 : Below (W0.alloc (.cells #[.int .u8 9, .int .u8 10, .int .u8 13, .int .u8 13, .int .u8 32, .int .u8 32] 5 (0, 0))).heap.size (W0.alloc (.cells #[.int .u8 9, .int .u8 10, .int .u8 13, .int .u8 13, .int .u8 32, .int .u8 32] 5 (0, 0))) W2 := by obtain ⟨nd, rfl⟩ := hd_; exact pw_below_drewN (Below.refl _ _) nd
          refine ⟨_, rfl, ?_⟩
          refine hK.out _ _ D2 (fun _ => behind_ D2 ?_)
          clear hK K hd_
          refine norm_ (a' := ?_) ?_ ?_
          rotate_left
          · show Act.put _ (some 44) _ = _
            simp only [Act.put, List.setIfInBounds_toArray, List.set_cons_zero, List.set_cons_succ, i64_w, i32_w]
            rfl
          refine pure_ (i := 11) (N := some 33) (v := ?_) (a' := ?_) #[true, true, true, true, true, true, true, true, true, true, true, true] rfl rfl (by kernel_rfl) (fun _ _ _ h => h) (Or.inl ⟨by rfl, ?_⟩) ?_ ?_
          rotate_left
          · intro w'
            go_simp
            with_reducible rfl
          rotate_left
          · simp only [Act.put, List.setIfInBounds_toArray, List.set_cons_zero, List.set_cons_succ, i64_w, i32_w]
            rfl
          refine done_ (by kernel_rfl) ?_
          have E := below_step D1 D2
          have HB2 := Aside0.mk (below_step HB.out E)
          have HK2 := Aside0.mk (keep_below HK.out E)
          have HI2 := Aside0.mk (IsS49.below HI.out E)
          clear HI HB HK hi0 D1 D2 E b1
          have HI := HI2; have HB := HB2; have HK := HK2; clear HI2 HB2 HK2
          have hcz_0 := cellS49_0 HI.out.1
          have hcz_1 := cellS49_1 HI.out.1
          have hfz_1 := blk_frozen HI.out.1 1
          go_wp2
          go_roundg (s.size + 1 - (at_ + 1))
          case measure => have := HQ.out; have := HLT.out; omega
          case rel => exact ⟨at_ + 1, ⟨by have := HLT.out; omega⟩, ⟨HLT.out⟩, ⟨by rw [← HS.out, HC.out, sk_blank HM.out HBL.out]⟩, ⟨by have z := IsS49.set_1 (by repeat (first | (with_reducible first | exact HI.out | apply IsS49.alloc | apply IsS49.drewN | apply IsS49.drew) | exact HI.out)) ((at_ + 1 : Nat) : Int); simpa using z⟩, ⟨below_set (by repeat (first | (with_reducible first | exact HB.out | apply below_alloc | apply pw_below_drewN | apply below_drew1 | apply below_drew) | exact HB.out)) (IsS49.ge HI.out)⟩, ⟨KeepBut.set_ (by repeat (first | (with_reducible first | exact HK.out | apply keep_drewN | apply keep_drew | apply keep_alloc) | exact HK.out)) 1 _⟩⟩
        | false =>
          have HV : Aside0 (lex_in.f 9 (bt s (at_ : Int)) [9, 10, 13, 13, 32, 32] = some false) := ⟨by rw [HV'.out, hbl]⟩
          have HBL := Aside0.mk hbl
          clear hbl HV'
          go_wp2
          go_quiet (fail)
          go_wp2_with (first
            | (go_at_call 56; (with_reducible refine (lex_scanner_rest.calls g s (at_ : Int) _ _ _ w0 _ (by repeat (first | (with_reducible first | exact HI.out | apply IsS49.alloc | apply IsS49.drewN | apply IsS49.drew) | exact HI.out)) (by repeat (first | (with_reducible first | exact HB.out | apply below_alloc | apply pw_below_drewN | apply below_drew1 | apply below_drew) | exact HB.out)) HR.out).mono ?_); rintro e wc ⟨rfl, hi_, hb_, hk_⟩; have HK2 := Aside0.mk (KeepBut.trans (by repeat (first | (with_reducible first | exact HK.out | apply keep_drewN | apply keep_drew | apply keep_alloc) | exact HK.out)) hk_ (.inl rfl)); clear HK HB HI; have HK := HK2; have HB := Aside0.mk hb_; have HI := Aside0.mk hi_; clear HK2 hk_ hb_ hi_; (try clear hcz_0 hcz_1 hfz_1); have hcz_0 := cellS49_0 HI.out.1; have hcz_1 := cellS49_1 HI.out.1; have hfz_1 := blk_frozen HI.out.1 1)
            | (go_at_call 55; (with_reducible refine (strings_HasPrefix.calls (s.extract at_ s.size) (⟨#[47, 47]⟩ : ByteArray) false _ HP.out).mono ?_); rintro e wc ⟨rfl, hd_⟩; have hb9 := drawn_below hd_; have HK2 := Aside0.mk (keep_below (by repeat (first | (with_reducible first | exact HK.out | apply keep_drewN | apply keep_drew | apply keep_alloc) | exact HK.out)) hb9); have HB2 := Aside0.mk (below_step (by repeat (first | (with_reducible first | exact HB.out | apply below_alloc | apply pw_below_drewN | apply below_drew1 | apply below_drew) | exact HB.out)) hb9); have HI2 := Aside0.mk (IsS49.below (by repeat (first | (with_reducible first | exact HI.out | apply IsS49.alloc | apply IsS49.drewN | apply IsS49.drew) | exact HI.out)) hb9); clear HK HB HI hd_ hb9; have HK := HK2; have HB := HB2; have HI := HI2; clear HK2 HB2 HI2; (try clear hcz_0 hcz_1 hfz_1); have hcz_0 := cellS49_0 HI.out.1; have hcz_1 := cellS49_1 HI.out.1; have hfz_1 := blk_frozen HI.out.1 1))
          refine startB_ (n := 12) #[false, false, false, false, false, false, false, false, false, false, false, false] (by kernel_rfl) rfl rfl (fun W0 D0 => ?_)
          have hi0 := (IsS49.below HI.out D0).1
          have HB2 := Aside0.mk (below_step HB.out D0)
          have HK2 := Aside0.mk (keep_below HK.out D0)
          have HI2 := Aside0.mk (IsS49.below HI.out D0)
          clear HI HB HK hcz_0 hcz_1 hfz_1 D0
          have HI := HI2; have HB := HB2; have HK := HK2; clear HI2 HB2 HK2
          refine pure_ (i := 0) (N := some 34) (v := ?_) (a' := ?_) #[true, false, false, false, false, false, false, false, false, false, false, false] rfl rfl (by kernel_rfl) (fun _ _ _ h => h) (Or.inl ⟨by rfl, ?_⟩) ?_ ?_
          rotate_left
          · intro w'
            go_simp
            with_reducible rfl
          rotate_left
          · simp only [Act.put, List.setIfInBounds_toArray, List.set_cons_zero, List.set_cons_succ, i64_w, i32_w]
            rfl
          refine pure_ (i := 1) (N := some 35) (v := ?_) (a' := ?_) #[true, true, false, false, false, false, false, false, false, false, false, false] rfl rfl (by kernel_rfl) (fun _ _ _ h => h) (Or.inl ⟨by rfl, ?_⟩) ?_ ?_
          rotate_left
          · intro w'
            go_simp
            with_reducible rfl
          rotate_left
          · simp only [Act.put, List.setIfInBounds_toArray, List.set_cons_zero, List.set_cons_succ, i64_w, i32_w]
            rfl
          refine pure_ (i := 2) (N := some 36) (v := ?_) (a' := ?_) #[true, true, true, false, false, false, false, false, false, false, false, false] rfl rfl (by kernel_rfl) (fun _ _ _ h => h) (Or.inl ⟨by rfl, ?_⟩) ?_ ?_
          rotate_left
          · intro w'
            go_simp
            with_reducible rfl
          rotate_left
          · simp only [Act.put, List.setIfInBounds_toArray, List.set_cons_zero, List.set_cons_succ, i64_w, i32_w]
            rfl
          refine take_ (i := 3) (N := some 37) (v := ?_) (a' := ?_) #[true, true, true, true, false, false, false, false, false, false, false, false] rfl rfl (by kernel_rfl) (fun _ _ _ h => h) (Or.inl ⟨by rfl, ?_⟩) (Below.refl _ _) ?_ ?_
          rotate_left
          · intro w' hS
            have hcz_0 := cellS49_0 (blk_below hi0 hS)
            go_simp
            with_reducible rfl
          rotate_left
          · simp only [Act.put, List.setIfInBounds_toArray, List.set_cons_zero, List.set_cons_succ, i64_w, i32_w]
            rfl
          refine pure_ (i := 4) (N := some 38) (v := ?_) (a' := ?_) #[true, true, true, true, true, false, false, false, false, false, false, false] rfl rfl (by kernel_rfl) (fun _ _ _ h => h) (Or.inl ⟨by rfl, ?_⟩) ?_ ?_
          rotate_left
          · intro w'
            go_simp
            with_reducible rfl
          rotate_left
          · simp only [Act.put, List.setIfInBounds_toArray, List.set_cons_zero, List.set_cons_succ, i64_w, i32_w]
            rfl
          refine pure_ (i := 5) (N := some 39) (v := ?_) (a' := ?_) #[true, true, true, true, true, true, false, false, false, false, false, false] rfl rfl (by kernel_rfl) (fun _ _ _ h => h) (Or.inl ⟨by rfl, ?_⟩) ?_ ?_
          rotate_left
          · intro w'
            go_simp
            with_reducible rfl
          rotate_left
          · simp only [Act.put, List.setIfInBounds_toArray, List.set_cons_zero, List.set_cons_succ, i64_w, i32_w]
            rfl
          refine pure_ (i := 6) (N := some 40) (v := ?_) (a' := ?_) #[true, true, true, true, true, true, true, false, false, false, false, false] rfl rfl (by kernel_rfl) (fun _ _ _ h => h) (Or.inl ⟨by rfl, ?_⟩) ?_ ?_
          rotate_left
          · intro w'
            go_simp
            with_reducible rfl
          rotate_left
          · simp only [Act.put, List.setIfInBounds_toArray, List.set_cons_zero, List.set_cons_succ, i64_w, i32_w]
            rfl
          refine take_ (i := 7) (N := some 41) (v := ?_) (a' := ?_) #[true, true, true, true, true, true, true, true, false, false, false, false] rfl rfl (by kernel_rfl) (fun _ _ _ h => h) (Or.inl ⟨by rfl, ?_⟩) (Below.refl _ _) ?_ ?_
          rotate_left
          · intro w' hS
            have hcz_1 := cellS49_1 (blk_below hi0 hS)
            go_simp
            with_reducible rfl
          rotate_left
          · simp only [Act.put, List.setIfInBounds_toArray, List.set_cons_zero, List.set_cons_succ, i64_w, i32_w]
            rfl
          refine pure_ (i := 8) (N := some 42) (v := ?_) (a' := ?_) #[true, true, true, true, true, true, true, true, true, false, false, false] rfl rfl (by kernel_rfl) (fun _ _ _ h => h) (Or.inl ⟨by rfl, ?_⟩) ?_ ?_
          rotate_left
          · intro w'
            go_simp
            with_reducible rfl
          rotate_left
          · simp only [Act.put, List.setIfInBounds_toArray, List.set_cons_zero, List.set_cons_succ, i64_w, i32_w]
            rfl
          refine one_ (i := 9) (N := some 43) #[true, true, true, true, true, true, true, true, true, true, false, false] rfl rfl (by kernel_rfl) (by decide) (fun K hK => ?_)
          refine value_ (w1 := ?_) (v := ?_) (by rfl) rfl ?_ ?_
          rotate_left 2
          · go_simp
            constructor
            · rfl
            · rfl
          have D1 := below_alloc (Below.refl _ W0) (.cells #[.int .u8 9, .int .u8 10, .int .u8 13, .int .u8 13, .int .u8 32, .int .u8 32] 5 (0, 0))
          have b1 := blk_new W0 (.cells #[.int .u8 9, .int .u8 10, .int .u8 13, .int .u8 13, .int .u8 32, .int .u8 32] 5 (0, 0))
          refine hK.out _ _ D1 (fun _ => behind_ D1 ?_)
          clear hK K
          refine norm_ (a' := ?_) ?_ ?_
          rotate_left
          · show Act.put _ (some 43) _ = _
            simp only [Act.put, List.setIfInBounds_toArray, List.set_cons_zero, List.set_cons_succ, i64_w, i32_w]
            rfl
          refine one_ (i := 10) (N := some 44) #[true, true, true, true, true, true, true, true, true, true, true, false] rfl rfl (by kernel_rfl) (by decide) (fun K hK => ?_)
          refine goes_ Try.func33 (by kernel_rfl) rfl #[.int .u8 (bt s (at_ : Int)), .slice (some ⟨W0.heap.size, 0, none⟩) 6 6] (by rfl) rfl rfl (by (try simp only [List.map_toArray, List.map_cons, List.map_nil]); first | done | rfl) ?_
          with_reducible refine (in_l 9 (bt s (at_ : Int)) (some ⟨W0.heap.size, 0, none⟩) 6 [9, 10, 13, 13, 32, 32] 6 rfl false _ (rd_blk rfl (by decide) b1) (by decide) HV.out).mono ?_
          rintro e W2 ⟨rfl, hd_⟩
          have D2 : Below (W0.alloc (.cells #[.int .u8 9, .int .u8 10, .int .u8 13, .int .u8 13, .int .u8 32, .int .u8 32] 5 (0, 0))).heap.size (W0.alloc (.cells #[.int .u8 9, .int .u8 10, .int .u8 13, .int .u8 13, .int .u8 32, .int .u8 32] 5 (0, 0))) W2 := by obtain ⟨nd, rfl⟩ := hd_; exact pw_below_drewN (Below.refl _ _) nd
          refine ⟨_, rfl, ?_⟩
          refine hK.out _ _ D2 (fun _ => behind_ D2 ?_)
          clear hK K hd_
          refine norm_ (a' := ?_) ?_ ?_
          rotate_left
          · show Act.put _ (some 44) _ = _
            simp only [Act.put, List.setIfInBounds_toArray, List.set_cons_zero, List.set_cons_succ, i64_w, i32_w]
            rfl
          refine pure_ (i := 11) (N := some 33) (v := ?_) (a' := ?_) #[true, true, true, true, true, true, true, true, true, true, true, true] rfl rfl (by kernel_rfl) (fun _ _ _ h => h) (Or.inl ⟨by rfl, ?_⟩) ?_ ?_
          rotate_left
          · intro w'
            go_simp
            with_reducible rfl
          rotate_left
          · simp only [Act.put, List.setIfInBounds_toArray, List.set_cons_zero, List.set_cons_succ, i64_w, i32_w]
            rfl
          refine done_ (by kernel_rfl) ?_
          have E := below_step D1 D2
          have HB2 := Aside0.mk (below_step HB.out E)
          have HK2 := Aside0.mk (keep_below HK.out E)
          have HI2 := Aside0.mk (IsS49.below HI.out E)
          clear HI HB HK hi0 D1 D2 E b1
          have HI := HI2; have HB := HB2; have HK := HK2; clear HI2 HB2 HK2
          have hcz_0 := cellS49_0 HI.out.1
          have hcz_1 := cellS49_1 HI.out.1
          have hfz_1 := blk_frozen HI.out.1 1
          go_wp2
          refine bodyPost_ret (results_none rfl _ _ _) rfl ?_
          refine ⟨rfl, ?_, HB.out, HK.out⟩
          have e1 : s.size - (sk (D s at0)).length = at_ := by rw [← HS.out, HC.out, sk_stop HM.out HBL.out, ← HC.out, D_len]; have := HLT.out; omega
          rw [e1]
          exact HI.out
    · have c1 : decide ((at_ : Int) < (s.size : Int)) = false := decide_eq_false (by omega)
      have c1n : decide (at_ < s.size) = false := decide_eq_false hlt
      have HE := Aside0.mk (show at_ = s.size by have := HA.out; omega)
      clear hlt
      go_wp2
      go_quiet (fail)
      go_wp2
      go_end0
      refine ⟨rfl, ?_, (by repeat (first | (with_reducible first | exact HB.out | apply below_alloc | apply pw_below_drewN | apply below_drew1 | apply below_drew) | exact HB.out)), (by repeat (first | (with_reducible first | exact HK.out | apply keep_drewN | apply keep_drew | apply keep_alloc) | exact HK.out))⟩
      have e1 : s.size - (sk (D s at0)).length = at_ := by rw [← HS.out, D_nil (Nat.le_of_eq HE.out.symm), sk_nil, HE.out]; rfl
      rw [e1]
      exact (by repeat (first | (with_reducible first | exact HI.out | apply IsS49.alloc | apply IsS49.drewN | apply IsS49.drew) | exact HI.out))

end Go.Proofs.Ytmmilinbpimfaaa.WalkBlanks
