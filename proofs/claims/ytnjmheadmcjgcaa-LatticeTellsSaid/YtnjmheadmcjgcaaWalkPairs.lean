/- pairs: the lists' members one by one, by a closure's contract. Under no conditions beyond the statement's own. -/
import Derived.Test.YtnjmheadmcjgcaaPLatticeTellsx3
import Derived.Test.YtnjmheadmcjgcaaSwitch
import Derived.Outline
import Derived.Deep.RegionWith
set_option linter.unusedSimpArgs false
set_option linter.unusedVariables false
namespace Go.Proofs.Ytnjmheadmcjgcaa.WalkPairs
open Go.RowKit Go.Proofs.Ytnjmheadmcjgcaa.PLatticeTells Go.Proofs.YtnjmheadmcjgcaaW.PrintWords Go.Proofs.YtnjmheadmcjgcaaW.PrintLast Go.Proofs.YtnjmheadmcjgcaaW.PrintMore Go.Proofs.Ytnjmheadmcjgcaa.Switch
theorem info4 : (Try.prog.info? 4).map (fun i => (i.zero, i.size, i.bytes)) = some (some (.bool false), 1, 1) := by kernel_rfl
abbrev Rd (W : World) (A : Option Addr) (xs : List Int) : Prop := Kd.C (Kd.int .i64) W A xs.length xs
theorem cell_at {w : World} {ad : Addr} {xs : List Int} (h : Rd w (some ad) xs) (i : Int) (h0 : 0 ≤ i) (h1 : i < xs.length) : w.cell? (ad.add i.toNat) = some (.int .i64 (rd xs i)) := by
  obtain ⟨a, e, hx⟩ := Kd.at_int h i h0 h1
  cases e
  exact hx
theorem zip_len {α : Type} {g : Int → Int → α} {xs ys : List Int} (h : ys.length = xs.length) : (List.zipWith g xs ys).length = xs.length := by simp [h]
theorem zip_step {α : Type} {g : Int → Int → α} {xs ys : List Int} {z : α} (h : ys.length = xs.length) (i : Nat) (hi : i < xs.length) : ((List.zipWith g xs ys).take i ++ List.replicate (xs.length - i) z).set i (g (rd xs i) (rd ys i)) = (List.zipWith g xs ys).take (i + 1) ++ List.replicate (xs.length - (i + 1)) z := by
  have hl := zip_len (g := g) h
  have e1 : rd xs (i : Int) = xs[i] := by simp [rd, List.getD_eq_getElem?_getD, hi]
  have e2 : rd ys (i : Int) = ys[i]'(by omega) := by simp [rd, List.getD_eq_getElem?_getD, show i < ys.length by omega]
  rw [e1, e2, List.set_append_right _ _ (by simp [hl]; omega)]
  have hm : (List.take i (List.zipWith g xs ys)).length = i := by simp [hl]; omega
  rw [hm, Nat.sub_self, show xs.length - i = (xs.length - (i + 1)) + 1 by omega, List.replicate_succ, List.set_cons_zero, List.take_succ_eq_append_getElem (by omega), List.append_assoc]
  simp

set_option maxHeartbeats 4000000 in
set_option maxRecDepth 100000 in
theorem pairs_int (g : Int → Int → Int) (hG : ∀ a b W, Calls Try.prog 27 #[.int .i64 a, .int .i64 b] W fun e w' => e = .returned (.int .i64 (g a b)) ∧ Drawn0 W w') (xs ys : List Int) (hl : xs.length ≤ 10000) (hlen : ys.length = xs.length) (A0 A1 : Option Addr) (c0 c1 : Nat) (w : World) (h0 : Rd w A0 xs) (h1 : Rd w A1 ys) :
    Calls Try.prog 34 #[.slice A0 xs.length c0, .slice A1 ys.length c1, .func (.func 27) #[] #[]] w fun e w' => ∃ v, e = .returned (.tuple #[v, .bool true]) ∧ Kd.R (Kd.int .i64) 3 w' w.heap.size (fun _ => True) v (List.zipWith g xs ys) ∧ Below w.heap.size w w' := by
  have GC := Aside0.mk hG
  have HR0 := Aside0.mk h0
  have HR1 := Aside0.mk h1
  have HL := Aside0.mk hl
  have HLEN := Aside0.mk hlen
  have HB := Aside0.mk (Below.refl w.heap.size w)
  have hne : ((xs.length : Int) != (ys.length : Int)) = false := by rw [hlen]; exact bne_self_eq_false _
  have hnn : decide (0 ≤ (xs.length : Int)) = true := decide_eq_true (by omega)
  clear hG h0 h1 hl hlen
  go_enter Try.func34, Try.ntmps34
  go_wp2_with (first
    | ((with_reducible refine gate_dst (N := 17) rfl ?_); refine Kd.R_make (Kd.int .i64) _ 3 rfl (N := 17) rfl 22 _ _ rfl (xs.length : Int) rfl rfl Try.underlying22 (.int .i64 0) 8 info3 rfl (by decide) (by omega) 0 (ok := fun _ => True) (okp := fun _ => True) rfl (fun _ hk => hk) trivial (by omega) (by have := HL.out; omega) (Below.refl _ _) (Nat.le_refl _) ?_; intro v1 w8 ho9 hb hg_ hnew_; clear hg_ hnew_; (try simp only [Int.toNat_natCast] at ho9); have HO := Aside0.mk (Kd.R_lower ho9 (below_size (by repeat (first | (with_reducible first | exact HB.out | apply below_alloc | apply pw_below_drewN | apply below_drew1 | apply below_drew) | exact HB.out)))); have HB2 := Aside0.mk (below_step (by repeat (first | (with_reducible first | exact HB.out | apply below_alloc | apply pw_below_drewN | apply below_drew1 | apply below_drew) | exact HB.out)) hb); clear HB; have HB := HB2; clear HB2 hb ho9))
  go_loopw [20] (fun x wr => ∃ i : Nat, i ≤ xs.length ∧ x = .int .i64 i ∧ Aside0 (Kd.R (Kd.int .i64) 3 wr w.heap.size (fun _ => True) v1 ((List.zipWith g xs ys).take i ++ List.replicate (xs.length - i) 0)) ∧ Aside0 (Below w.heap.size w wr)) (fun x _ => xs.length - (intOf x).toNat)
  case atStart => exact ⟨0, by omega, rfl, ⟨by (with_reducible repeat (first | apply Kd.R_alloc | apply Kd.R_drewN | apply Kd.R_drew)); simpa using HO.out⟩, ⟨(by repeat (first | (with_reducible first | exact HB.out | apply below_alloc | apply pw_below_drewN | apply below_drew1 | apply below_drew) | exact HB.out))⟩⟩
  case round =>
    clear HO HB
    obtain ⟨i, hi, rfl, HO, HB⟩ := hrel
    have hl := HL.out
    have hlen := HLEN.out
    by_cases hlt : i < xs.length
    · have cl := decide_eq_true (show (i : Int) < (xs.length : Int) by omega)
      have p1 : (0 ≤ (i : Int)) = True := eq_true (by omega)
      have q1 : ((i : Int) < (xs.length : Int)) = True := eq_true (by omega)
      have q2 : ((i : Int) < (ys.length : Int)) = True := eq_true (by omega)
      have hst := zip_step (g := g) (z := 0) hlen i hlt
      have hzl : ((List.zipWith g xs ys).take i ++ List.replicate (xs.length - i) 0).length = xs.length := by (simp [hlen] <;> omega)
      obtain ⟨zs, hzs⟩ : ∃ zs, zs = (List.zipWith g xs ys).take i ++ List.replicate (xs.length - i) 0 := ⟨_, rfl⟩
      rw [← hzs] at hst hzl HO
      have q3 : ((i : Int) < (zs.length : Int)) = True := eq_true (by omega)
      obtain ⟨ad0, rfl, _⟩ := Kd.at_int HR0.out (i : Int) (by omega) (by omega)
      obtain ⟨ad1, rfl, _⟩ := Kd.at_int HR1.out (i : Int) (by omega) (by omega)
      have HR2 := HO.out
      obtain ⟨go, co, eo, gb, gl, cl2, HG⟩ := Kd.R_form HR2 (by omega)
      subst eo
      have GB := gb
      obtain ⟨hcx, hcf⟩ := Kd.R_celln 0 HR2 (i : Int) (by omega) (by omega)
      rw [Int.toNat_natCast] at hcx hcf
      go_wp2
      -- region 7
      refine start_ (n := 14) (S := fun w' => Below w.heap.size w w') (ds := []) #[false, false, false, false, false, false, false, false, false, false, false, false, false, false] (by kernel_rfl) rfl rfl (by repeat (first | (with_reducible first | exact HB.out | apply below_alloc | apply pw_below_drewN | apply below_drew1 | apply below_drew) | exact HB.out)) (fun hHeld => ?_)
      refine pure_ (i := 0) (N := some 23) (v := ?_) (a' := ?_) #[true, false, false, false, false, false, false, false, false, false, false, false, false, false] rfl rfl (by kernel_rfl) (fun _ _ _ h => h) (Or.inl ⟨by rfl, ?_⟩) ?_ ?_
      rotate_left
      · intro w'
        go_simp
        with_reducible rfl
      rotate_left
      · simp only [Act.put, List.setIfInBounds_toArray, List.set_cons_zero, List.set_cons_succ, i64_w, i32_w]
        rfl
      refine pure_ (i := 1) (N := some 24) (v := ?_) (a' := ?_) #[true, true, false, false, false, false, false, false, false, false, false, false, false, false] rfl rfl (by kernel_rfl) (fun _ _ _ h => h) (Or.inl ⟨by rfl, ?_⟩) ?_ ?_
      rotate_left
      · intro w'
        go_simp
        with_reducible rfl
      rotate_left
      · simp only [Act.put, List.setIfInBounds_toArray, List.set_cons_zero, List.set_cons_succ, i64_w, i32_w]
        rfl
      refine pure_ (i := 2) (N := some 25) (v := ?_) (a' := ?_) #[true, true, true, false, false, false, false, false, false, false, false, false, false, false] rfl rfl (by kernel_rfl) (fun _ _ _ h => h) (Or.inl ⟨by rfl, ?_⟩) ?_ ?_
      rotate_left
      · intro w'
        go_simp
        with_reducible rfl
      rotate_left
      · simp only [Act.put, List.setIfInBounds_toArray, List.set_cons_zero, List.set_cons_succ, i64_w, i32_w]
        rfl
      refine pure_ (i := 3) (N := some 26) (v := ?_) (a' := ?_) #[true, true, true, true, false, false, false, false, false, false, false, false, false, false] rfl rfl (by kernel_rfl) (fun _ _ _ h => h) (Or.inl ⟨by rfl, ?_⟩) ?_ ?_
      rotate_left
      · intro w'
        go_simp
        with_reducible rfl
      rotate_left
      · simp only [Act.put, List.setIfInBounds_toArray, List.set_cons_zero, List.set_cons_succ, i64_w, i32_w]
        rfl
      refine pure_ (i := 4) (N := some 27) (v := ?_) (a' := ?_) #[true, true, true, true, true, false, false, false, false, false, false, false, false, false] rfl rfl (by kernel_rfl) (fun _ _ _ h => h) (Or.inl ⟨by rfl, ?_⟩) ?_ ?_
      rotate_left
      · intro w'
        go_simp
        with_reducible rfl
      rotate_left
      · simp only [Act.put, List.setIfInBounds_toArray, List.set_cons_zero, List.set_cons_succ, i64_w, i32_w]
        rfl
      refine pure_ (i := 5) (N := some 28) (v := ?_) (a' := ?_) #[true, true, true, true, true, true, false, false, false, false, false, false, false, false] rfl rfl (by kernel_rfl) (fun _ _ _ h => h) (Or.inl ⟨by rfl, ?_⟩) ?_ ?_
      rotate_left
      · intro w'
        go_simp
        with_reducible rfl
      rotate_left
      · simp only [Act.put, List.setIfInBounds_toArray, List.set_cons_zero, List.set_cons_succ, i64_w, i32_w]
        rfl
      refine pure_ (i := 7) (N := some 30) (v := ?_) (a' := ?_) #[true, true, true, true, true, true, false, true, false, false, false, false, false, false] rfl rfl (by kernel_rfl) (fun _ _ _ h => h) (Or.inl ⟨by rfl, ?_⟩) ?_ ?_
      rotate_left
      · intro w'
        go_simp
        with_reducible rfl
      rotate_left
      · simp only [Act.put, List.setIfInBounds_toArray, List.set_cons_zero, List.set_cons_succ, i64_w, i32_w]
        rfl
      refine pure_ (i := 8) (N := some 31) (v := ?_) (a' := ?_) #[true, true, true, true, true, true, false, true, true, false, false, false, false, false] rfl rfl (by kernel_rfl) (fun _ _ _ h => h) (Or.inl ⟨by rfl, ?_⟩) ?_ ?_
      rotate_left
      · intro w'
        go_simp
        with_reducible rfl
      rotate_left
      · simp only [Act.put, List.setIfInBounds_toArray, List.set_cons_zero, List.set_cons_succ, i64_w, i32_w]
        rfl
      refine pure_ (i := 9) (N := some 32) (v := ?_) (a' := ?_) #[true, true, true, true, true, true, false, true, true, true, false, false, false, false] rfl rfl (by kernel_rfl) (fun _ _ _ h => h) (Or.inl ⟨by rfl, ?_⟩) ?_ ?_
      rotate_left
      · intro w'
        go_simp
        with_reducible rfl
      rotate_left
      · simp only [Act.put, List.setIfInBounds_toArray, List.set_cons_zero, List.set_cons_succ, i64_w, i32_w]
        rfl
      refine take_ (i := 6) (N := some 29) (v := ?_) (a' := ?_) #[true, true, true, true, true, true, true, true, true, true, false, false, false, false] rfl rfl (by kernel_rfl) (fun _ _ _ h => h) (Or.inl ⟨by rfl, ?_⟩) hHeld ?_ ?_
      rotate_left
      · intro w' hS
        have hx_ := cell_at (Kd.C_below HR0.out hS) (i : Int) (by omega) (by omega)
        (try simp only [Go.IntWalk.toNatUp] at hx_)
        go_simp
        with_reducible rfl
      rotate_left
      · simp only [Act.put, List.setIfInBounds_toArray, List.set_cons_zero, List.set_cons_succ, i64_w, i32_w]
        rfl
      refine take_ (i := 10) (N := some 33) (v := ?_) (a' := ?_) #[true, true, true, true, true, true, true, true, true, true, true, false, false, false] rfl rfl (by kernel_rfl) (fun _ _ _ h => h) (Or.inl ⟨by rfl, ?_⟩) hHeld ?_ ?_
      rotate_left
      · intro w' hS
        have hx_ := cell_at (Kd.C_below HR1.out hS) (i : Int) (by omega) (by omega)
        (try simp only [Go.IntWalk.toNatUp] at hx_)
        go_simp
        with_reducible rfl
      rotate_left
      · simp only [Act.put, List.setIfInBounds_toArray, List.set_cons_zero, List.set_cons_succ, i64_w, i32_w]
        rfl
      refine one_ (i := 11) (N := some 34) #[true, true, true, true, true, true, true, true, true, true, true, true, false, false] rfl rfl (by kernel_rfl) (by decide) (fun K hK => ?_)
      refine call_ 27 #[.int .i64 (rd xs i), .int .i64 (rd ys i)] (by rfl) rfl (by first | (go_simp; done) | (go_simp; rfl)) ?_
      with_reducible refine (GC.out _ _ _).mono ?_
      rintro e w1 ⟨rfl, ⟨nd, rfl⟩⟩
      refine ⟨_, rfl, ?_⟩
      refine hK.out _ _ (pw_below_drewN hHeld nd) (fun hHeld => ?_)
      clear hK K
      refine norm_ (a' := ?_) ?_ ?_
      rotate_left
      · show Act.put _ (some 34) _ = _
        simp only [Act.put, List.setIfInBounds_toArray, List.set_cons_zero, List.set_cons_succ, i64_w, i32_w]
        rfl
      refine pure_ (i := 12) (N := some 35) (v := ?_) (a' := ?_) #[true, true, true, true, true, true, true, true, true, true, true, true, true, false] rfl rfl (by kernel_rfl) (fun _ _ _ h => h) (Or.inl ⟨by rfl, ?_⟩) ?_ ?_
      rotate_left
      · intro w'
        go_simp
        with_reducible rfl
      rotate_left
      · simp only [Act.put, List.setIfInBounds_toArray, List.set_cons_zero, List.set_cons_succ, i64_w, i32_w]
        rfl
      refine one_ (i := 13) (N := none) #[true, true, true, true, true, true, true, true, true, true, true, true, true, true] rfl rfl (by kernel_rfl) (by decide) (fun K hK => ?_)
      have HP := (Kd.R_putg (Kd.R_drewN HR2 (1 + nd)) (i : Int) (g (rd xs i) (rd ys i))).1
      rw [Int.toNat_natCast, hst] at HP
      refine skip_ (w1 := ?_) (by rfl) rfl ?_ ?_
      rotate_left
      · go_simp
        rfl
      refine hK.out _ _ (by first | exact below_set hHeld GB | exact below_set (pw_below_drewN HB.out _) GB) (fun hHeld => ?_)
      clear hK K
      refine done_ (by kernel_rfl) ?_
      go_wp2
      go_roundw
      case rel => exact ⟨i + 1, by omega, by go_num, ⟨HP⟩, ⟨hHeld⟩⟩
      case measure => simp [intOf]; omega
    · obtain rfl : i = xs.length := by omega
      have cl := decide_eq_false (show ¬ ((xs.length : Nat) : Int) < (xs.length : Int) by omega)
      have hz := HO.out
      rw [Nat.sub_self, List.replicate_zero, List.append_nil, List.take_of_length_le (by simp [hlen])] at hz
      go_wp2
      go_ret2
      exact ⟨_, by first | rfl | (simp; done), by (with_reducible repeat (first | apply Kd.R_alloc | apply Kd.R_drewN | apply Kd.R_drew)); exact hz, (by repeat (first | (with_reducible first | exact HB.out | apply below_alloc | apply pw_below_drewN | apply below_drew1 | apply below_drew) | exact HB.out))⟩

set_option maxHeartbeats 4000000 in
set_option maxRecDepth 100000 in
theorem pairs_int_ne (xs ys : List Int) (hlen : ys.length ≠ xs.length) (A0 A1 : Option Addr) (c0 c1 : Nat) (f : Value) (w : World) :
    Calls Try.prog 34 #[.slice A0 xs.length c0, .slice A1 ys.length c1, f] w fun e w' => e = .returned (.tuple #[.slice none 0 0, .bool false]) ∧ Drawn0 w w' := by
  have hne : ((xs.length : Int) != (ys.length : Int)) = true := bne_iff_ne.2 (by omega)
  go_enter Try.func34, Try.ntmps34
  go_wp2
  go_ret2
  exact ⟨by first | rfl | (simp; done), by repeat (first | exact Drawn0.refl _ | apply Drawn0.step)⟩

set_option maxHeartbeats 4000000 in
set_option maxRecDepth 100000 in
theorem pairs_bool (g : Int → Int → Bool) (hG : ∀ a b W, Calls Try.prog 29 #[.int .i64 a, .int .i64 b] W fun e w' => e = .returned (.bool (g a b)) ∧ Drawn0 W w') (xs ys : List Int) (hl : xs.length ≤ 10000) (hlen : ys.length = xs.length) (A0 A1 : Option Addr) (c0 c1 : Nat) (w : World) (h0 : Rd w A0 xs) (h1 : Rd w A1 ys) :
    Calls Try.prog 35 #[.slice A0 xs.length c0, .slice A1 ys.length c1, .func (.func 29) #[] #[]] w fun e w' => ∃ v, e = .returned (.tuple #[v, .bool true]) ∧ Kd.R Kd.bool 4 w' w.heap.size (fun _ => True) v (List.zipWith g xs ys) ∧ Below w.heap.size w w' := by
  have GC := Aside0.mk hG
  have HR0 := Aside0.mk h0
  have HR1 := Aside0.mk h1
  have HL := Aside0.mk hl
  have HLEN := Aside0.mk hlen
  have HB := Aside0.mk (Below.refl w.heap.size w)
  have hne : ((xs.length : Int) != (ys.length : Int)) = false := by rw [hlen]; exact bne_self_eq_false _
  have hnn : decide (0 ≤ (xs.length : Int)) = true := decide_eq_true (by omega)
  clear hG h0 h1 hl hlen
  go_enter Try.func35, Try.ntmps35
  go_wp2_with (first
    | ((with_reducible refine gate_dst (N := 17) rfl ?_); refine Kd.R_make Kd.bool _ 4 rfl (N := 17) rfl 41 _ _ rfl (xs.length : Int) rfl rfl Try.underlying41 (.bool false) 1 info4 rfl (by decide) (by omega) false (ok := fun _ => True) (okp := fun _ => True) rfl (fun _ hk => hk) trivial (by omega) (by have := HL.out; omega) (Below.refl _ _) (Nat.le_refl _) ?_; intro v1 w8 ho9 hb hg_ hnew_; clear hg_ hnew_; (try simp only [Int.toNat_natCast] at ho9); have HO := Aside0.mk (Kd.R_lower ho9 (below_size (by repeat (first | (with_reducible first | exact HB.out | apply below_alloc | apply pw_below_drewN | apply below_drew1 | apply below_drew) | exact HB.out)))); have HB2 := Aside0.mk (below_step (by repeat (first | (with_reducible first | exact HB.out | apply below_alloc | apply pw_below_drewN | apply below_drew1 | apply below_drew) | exact HB.out)) hb); clear HB; have HB := HB2; clear HB2 hb ho9))
  go_loopw [20] (fun x wr => ∃ i : Nat, i ≤ xs.length ∧ x = .int .i64 i ∧ Aside0 (Kd.R Kd.bool 4 wr w.heap.size (fun _ => True) v1 ((List.zipWith g xs ys).take i ++ List.replicate (xs.length - i) false)) ∧ Aside0 (Below w.heap.size w wr)) (fun x _ => xs.length - (intOf x).toNat)
  case atStart => exact ⟨0, by omega, rfl, ⟨by (with_reducible repeat (first | apply Kd.R_alloc | apply Kd.R_drewN | apply Kd.R_drew)); simpa using HO.out⟩, ⟨(by repeat (first | (with_reducible first | exact HB.out | apply below_alloc | apply pw_below_drewN | apply below_drew1 | apply below_drew) | exact HB.out))⟩⟩
  case round =>
    clear HO HB
    obtain ⟨i, hi, rfl, HO, HB⟩ := hrel
    have hl := HL.out
    have hlen := HLEN.out
    by_cases hlt : i < xs.length
    · have cl := decide_eq_true (show (i : Int) < (xs.length : Int) by omega)
      have p1 : (0 ≤ (i : Int)) = True := eq_true (by omega)
      have q1 : ((i : Int) < (xs.length : Int)) = True := eq_true (by omega)
      have q2 : ((i : Int) < (ys.length : Int)) = True := eq_true (by omega)
      have hst := zip_step (g := g) (z := false) hlen i hlt
      have hzl : ((List.zipWith g xs ys).take i ++ List.replicate (xs.length - i) false).length = xs.length := by (simp [hlen] <;> omega)
      obtain ⟨zs, hzs⟩ : ∃ zs, zs = (List.zipWith g xs ys).take i ++ List.replicate (xs.length - i) false := ⟨_, rfl⟩
      rw [← hzs] at hst hzl HO
      have q3 : ((i : Int) < (zs.length : Int)) = True := eq_true (by omega)
      obtain ⟨ad0, rfl, _⟩ := Kd.at_int HR0.out (i : Int) (by omega) (by omega)
      obtain ⟨ad1, rfl, _⟩ := Kd.at_int HR1.out (i : Int) (by omega) (by omega)
      have HR2 := HO.out
      obtain ⟨go, co, eo, gb, gl, cl2, HG⟩ := Kd.R_form HR2 (by omega)
      subst eo
      have GB := gb
      obtain ⟨hcx, hcf⟩ := Kd.R_celln false HR2 (i : Int) (by omega) (by omega)
      rw [Int.toNat_natCast] at hcx hcf
      go_wp2
      -- region 7
      refine start_ (n := 14) (S := fun w' => Below w.heap.size w w') (ds := []) #[false, false, false, false, false, false, false, false, false, false, false, false, false, false] (by kernel_rfl) rfl rfl (by repeat (first | (with_reducible first | exact HB.out | apply below_alloc | apply pw_below_drewN | apply below_drew1 | apply below_drew) | exact HB.out)) (fun hHeld => ?_)
      refine pure_ (i := 0) (N := some 23) (v := ?_) (a' := ?_) #[true, false, false, false, false, false, false, false, false, false, false, false, false, false] rfl rfl (by kernel_rfl) (fun _ _ _ h => h) (Or.inl ⟨by rfl, ?_⟩) ?_ ?_
      rotate_left
      · intro w'
        go_simp
        with_reducible rfl
      rotate_left
      · simp only [Act.put, List.setIfInBounds_toArray, List.set_cons_zero, List.set_cons_succ, i64_w, i32_w]
        rfl
      refine pure_ (i := 1) (N := some 24) (v := ?_) (a' := ?_) #[true, true, false, false, false, false, false, false, false, false, false, false, false, false] rfl rfl (by kernel_rfl) (fun _ _ _ h => h) (Or.inl ⟨by rfl, ?_⟩) ?_ ?_
      rotate_left
      · intro w'
        go_simp
        with_reducible rfl
      rotate_left
      · simp only [Act.put, List.setIfInBounds_toArray, List.set_cons_zero, List.set_cons_succ, i64_w, i32_w]
        rfl
      refine pure_ (i := 2) (N := some 25) (v := ?_) (a' := ?_) #[true, true, true, false, false, false, false, false, false, false, false, false, false, false] rfl rfl (by kernel_rfl) (fun _ _ _ h => h) (Or.inl ⟨by rfl, ?_⟩) ?_ ?_
      rotate_left
      · intro w'
        go_simp
        with_reducible rfl
      rotate_left
      · simp only [Act.put, List.setIfInBounds_toArray, List.set_cons_zero, List.set_cons_succ, i64_w, i32_w]
        rfl
      refine pure_ (i := 3) (N := some 26) (v := ?_) (a' := ?_) #[true, true, true, true, false, false, false, false, false, false, false, false, false, false] rfl rfl (by kernel_rfl) (fun _ _ _ h => h) (Or.inl ⟨by rfl, ?_⟩) ?_ ?_
      rotate_left
      · intro w'
        go_simp
        with_reducible rfl
      rotate_left
      · simp only [Act.put, List.setIfInBounds_toArray, List.set_cons_zero, List.set_cons_succ, i64_w, i32_w]
        rfl
      refine pure_ (i := 4) (N := some 27) (v := ?_) (a' := ?_) #[true, true, true, true, true, false, false, false, false, false, false, false, false, false] rfl rfl (by kernel_rfl) (fun _ _ _ h => h) (Or.inl ⟨by rfl, ?_⟩) ?_ ?_
      rotate_left
      · intro w'
        go_simp
        with_reducible rfl
      rotate_left
      · simp only [Act.put, List.setIfInBounds_toArray, List.set_cons_zero, List.set_cons_succ, i64_w, i32_w]
        rfl
      refine pure_ (i := 5) (N := some 28) (v := ?_) (a' := ?_) #[true, true, true, true, true, true, false, false, false, false, false, false, false, false] rfl rfl (by kernel_rfl) (fun _ _ _ h => h) (Or.inl ⟨by rfl, ?_⟩) ?_ ?_
      rotate_left
      · intro w'
        go_simp
        with_reducible rfl
      rotate_left
      · simp only [Act.put, List.setIfInBounds_toArray, List.set_cons_zero, List.set_cons_succ, i64_w, i32_w]
        rfl
      refine pure_ (i := 7) (N := some 30) (v := ?_) (a' := ?_) #[true, true, true, true, true, true, false, true, false, false, false, false, false, false] rfl rfl (by kernel_rfl) (fun _ _ _ h => h) (Or.inl ⟨by rfl, ?_⟩) ?_ ?_
      rotate_left
      · intro w'
        go_simp
        with_reducible rfl
      rotate_left
      · simp only [Act.put, List.setIfInBounds_toArray, List.set_cons_zero, List.set_cons_succ, i64_w, i32_w]
        rfl
      refine pure_ (i := 8) (N := some 31) (v := ?_) (a' := ?_) #[true, true, true, true, true, true, false, true, true, false, false, false, false, false] rfl rfl (by kernel_rfl) (fun _ _ _ h => h) (Or.inl ⟨by rfl, ?_⟩) ?_ ?_
      rotate_left
      · intro w'
        go_simp
        with_reducible rfl
      rotate_left
      · simp only [Act.put, List.setIfInBounds_toArray, List.set_cons_zero, List.set_cons_succ, i64_w, i32_w]
        rfl
      refine pure_ (i := 9) (N := some 32) (v := ?_) (a' := ?_) #[true, true, true, true, true, true, false, true, true, true, false, false, false, false] rfl rfl (by kernel_rfl) (fun _ _ _ h => h) (Or.inl ⟨by rfl, ?_⟩) ?_ ?_
      rotate_left
      · intro w'
        go_simp
        with_reducible rfl
      rotate_left
      · simp only [Act.put, List.setIfInBounds_toArray, List.set_cons_zero, List.set_cons_succ, i64_w, i32_w]
        rfl
      refine take_ (i := 6) (N := some 29) (v := ?_) (a' := ?_) #[true, true, true, true, true, true, true, true, true, true, false, false, false, false] rfl rfl (by kernel_rfl) (fun _ _ _ h => h) (Or.inl ⟨by rfl, ?_⟩) hHeld ?_ ?_
      rotate_left
      · intro w' hS
        have hx_ := cell_at (Kd.C_below HR0.out hS) (i : Int) (by omega) (by omega)
        (try simp only [Go.IntWalk.toNatUp] at hx_)
        go_simp
        with_reducible rfl
      rotate_left
      · simp only [Act.put, List.setIfInBounds_toArray, List.set_cons_zero, List.set_cons_succ, i64_w, i32_w]
        rfl
      refine take_ (i := 10) (N := some 33) (v := ?_) (a' := ?_) #[true, true, true, true, true, true, true, true, true, true, true, false, false, false] rfl rfl (by kernel_rfl) (fun _ _ _ h => h) (Or.inl ⟨by rfl, ?_⟩) hHeld ?_ ?_
      rotate_left
      · intro w' hS
        have hx_ := cell_at (Kd.C_below HR1.out hS) (i : Int) (by omega) (by omega)
        (try simp only [Go.IntWalk.toNatUp] at hx_)
        go_simp
        with_reducible rfl
      rotate_left
      · simp only [Act.put, List.setIfInBounds_toArray, List.set_cons_zero, List.set_cons_succ, i64_w, i32_w]
        rfl
      refine one_ (i := 11) (N := some 34) #[true, true, true, true, true, true, true, true, true, true, true, true, false, false] rfl rfl (by kernel_rfl) (by decide) (fun K hK => ?_)
      refine call_ 29 #[.int .i64 (rd xs i), .int .i64 (rd ys i)] (by rfl) rfl (by first | (go_simp; done) | (go_simp; rfl)) ?_
      with_reducible refine (GC.out _ _ _).mono ?_
      rintro e w1 ⟨rfl, ⟨nd, rfl⟩⟩
      refine ⟨_, rfl, ?_⟩
      refine hK.out _ _ (pw_below_drewN hHeld nd) (fun hHeld => ?_)
      clear hK K
      refine norm_ (a' := ?_) ?_ ?_
      rotate_left
      · show Act.put _ (some 34) _ = _
        simp only [Act.put, List.setIfInBounds_toArray, List.set_cons_zero, List.set_cons_succ, i64_w, i32_w]
        rfl
      refine pure_ (i := 12) (N := some 35) (v := ?_) (a' := ?_) #[true, true, true, true, true, true, true, true, true, true, true, true, true, false] rfl rfl (by kernel_rfl) (fun _ _ _ h => h) (Or.inl ⟨by rfl, ?_⟩) ?_ ?_
      rotate_left
      · intro w'
        go_simp
        with_reducible rfl
      rotate_left
      · simp only [Act.put, List.setIfInBounds_toArray, List.set_cons_zero, List.set_cons_succ, i64_w, i32_w]
        rfl
      refine one_ (i := 13) (N := none) #[true, true, true, true, true, true, true, true, true, true, true, true, true, true] rfl rfl (by kernel_rfl) (by decide) (fun K hK => ?_)
      have HP := (Kd.R_putg (Kd.R_drewN HR2 (1 + nd)) (i : Int) (g (rd xs i) (rd ys i))).1
      rw [Int.toNat_natCast, hst] at HP
      refine skip_ (w1 := ?_) (by rfl) rfl ?_ ?_
      rotate_left
      · go_simp
        rfl
      refine hK.out _ _ (by first | exact below_set hHeld GB | exact below_set (pw_below_drewN HB.out _) GB) (fun hHeld => ?_)
      clear hK K
      refine done_ (by kernel_rfl) ?_
      go_wp2
      go_roundw
      case rel => exact ⟨i + 1, by omega, by go_num, ⟨HP⟩, ⟨hHeld⟩⟩
      case measure => simp [intOf]; omega
    · obtain rfl : i = xs.length := by omega
      have cl := decide_eq_false (show ¬ ((xs.length : Nat) : Int) < (xs.length : Int) by omega)
      have hz := HO.out
      rw [Nat.sub_self, List.replicate_zero, List.append_nil, List.take_of_length_le (by simp [hlen])] at hz
      go_wp2
      go_ret2
      exact ⟨_, by first | rfl | (simp; done), by (with_reducible repeat (first | apply Kd.R_alloc | apply Kd.R_drewN | apply Kd.R_drew)); exact hz, (by repeat (first | (with_reducible first | exact HB.out | apply below_alloc | apply pw_below_drewN | apply below_drew1 | apply below_drew) | exact HB.out))⟩

set_option maxHeartbeats 4000000 in
set_option maxRecDepth 100000 in
theorem pairs_bool_ne (xs ys : List Int) (hlen : ys.length ≠ xs.length) (A0 A1 : Option Addr) (c0 c1 : Nat) (f : Value) (w : World) :
    Calls Try.prog 35 #[.slice A0 xs.length c0, .slice A1 ys.length c1, f] w fun e w' => e = .returned (.tuple #[.slice none 0 0, .bool false]) ∧ Drawn0 w w' := by
  have hne : ((xs.length : Int) != (ys.length : Int)) = true := bne_iff_ne.2 (by omega)
  go_enter Try.func35, Try.ntmps35
  go_wp2
  go_ret2
  exact ⟨by first | rfl | (simp; done), by repeat (first | exact Drawn0.refl _ | apply Drawn0.step)⟩

end Go.Proofs.Ytnjmheadmcjgcaa.WalkPairs
