/- Frames lent with marks behind, and asked back. Under no conditions beyond the statement's own. -/
import Derived.Test.YtnjmheadmcjgcaaPLatticeTellsx3
import Derived.Test.YtnjmheadmcjgcaaSwitch
import Derived.Outline
import Derived.Deep.RegionWith
import Derived.Test.YtnjmheadmcjgcaaWalkPairs
import Derived.Test.YtnjmheadmcjgcaaWalkSlots
import Derived.Test.YtnjmheadmcjgcaaWalkMerge
import Derived.Test.YtnjmheadmcjgcaaWalkBase
set_option linter.unusedSimpArgs false
set_option linter.unusedVariables false
namespace Go.Proofs.Ytnjmheadmcjgcaa.WalkLent
open Go.RowKit Go.Proofs.Ytnjmheadmcjgcaa.PLatticeTells Go.Proofs.YtnjmheadmcjgcaaW.PrintWords Go.Proofs.YtnjmheadmcjgcaaW.PrintLast Go.Proofs.YtnjmheadmcjgcaaW.PrintMore Go.Proofs.Ytnjmheadmcjgcaa.Switch
open Go.Proofs.Ytnjmheadmcjgcaa.WalkPairs
open Go.Proofs.Ytnjmheadmcjgcaa.WalkSlots
open Go.Proofs.Ytnjmheadmcjgcaa.WalkMerge
open Go.Proofs.Ytnjmheadmcjgcaa.WalkBase
/-- The numbers and the first i marks behind them. -/
def mk (l : List Int) (i : Nat) : List Int := l ++ (List.range i).map (fun (j : Nat) => -771 - (j : Int))
theorem mk_zero (l : List Int) : mk l 0 = l := by simp [mk]
theorem mk_len (l : List Int) (i : Nat) : (mk l i).length = l.length + i := by simp [mk]
theorem w64 {x : Int} (h0 : -9223372036854775808 ≤ x) (h1 : x ≤ 9223372036854775807) : wrap64 x = x := by unfold wrap64; omega
theorem mk_succ (l : List Int) (i : Nat) (h : i ≤ 3) : mk l (i + 1) = mk l i ++ [wrap64 ((-771) - (i : Int))] := by
  rw [w64 (by omega) (by omega)]
  simp [mk, List.range_succ]
theorem mk_take (l : List Int) (i : Nat) : (mk l i).take l.length = l := by simp [mk]
theorem mk_at (l : List Int) (i : Nat) (h : i < 3) : rd (mk l 3) ((l.length + i : Nat) : Int) = -771 - (i : Int) := by
  rw [WalkBase.rd_nat _ _ (by rw [mk_len]; omega)]
  simp [mk]
theorem rd_take {w : World} {A : Option Addr} {xs ys : List Int} (h : Rd w A (xs ++ ys)) : Rd w A xs := by
  have h1 := (Kd.reads_of_C (enc := Value.int .i64) (d := (0 : Int)) (h1 := fun _ => rfl) h).take_ xs.length (by simp)
  rw [List.take_left] at h1
  exact Kd.C_of_reads (h1 := fun _ => rfl) h1
theorem mk_rd {w : World} {A : Option Addr} {l : List Int} {i : Nat} (h : Rd w A (mk l i)) : Rd w A l := rd_take h
theorem reslice (A : Option Addr) (n c m : Nat) (j : Int) (hj : j = (m : Int)) (hm : m ≤ c) (W : World) : (Instr.slice 22 (.slice A n c) none (some (.int .i64 j)) none).run Try.prog W = .ok (.slice A m c) W := by
  subst hj
  obtain ⟨i0, hi, _, hsz, _⟩ := info_parts info3
  have hel : Try.prog.elem 22 = 3 := by simp [Program.elem, Try.underlying22]
  have hu : Try.prog.underlying 22 = some (.slice (Try.prog.elem 22)) := by rw [hel]; exact Try.underlying22
  have ha : (A.map fun x => x.add 0) = A := by cases A <;> simp [Addr.add]
  rw [run_slice_h W 22 A n c hu .i64 m (by omega) (by omega), hel]
  simp [sizeOf, typeInfo, hi, hsz, sliced, Result.andThen, ha]
set_option maxHeartbeats 8000000 in
set_option maxRecDepth 100000 in
theorem lent_i (l : List Int) (hl : l.length ≤ 10000) (A0 : Option Addr) (c0 : Nat) (w : World) (hr0 : Rd w A0 l) :
    Calls Try.prog 23 #[.slice A0 l.length c0] w fun e w' => ∃ A c, e = .returned (.slice A l.length c) ∧ l.length + 3 ≤ c ∧ Kd.R (Kd.int .i64) 3 w' w.heap.size (fun _ => True) (.slice A (l.length + 3) c) (mk l 3) ∧ Below w.heap.size w w' := by
  have HR0 := Aside0.mk hr0
  have HB := Aside0.mk (Below.refl w.heap.size w)
  have HL := Aside0.mk hl
  obtain ⟨y0, hy0⟩ : ∃ y, y = mk l 0 := ⟨_, rfl⟩
  have hy00 : ([] : List Int) ++ l = y0 := by rw [hy0, mk_zero]; rfl
  have Y0 := Aside0.mk hy0
  have Y00 := Aside0.mk hy00
  clear hr0 hl hy0 hy00
  go_enter Try.func23, Try.ntmps23
  go_wp2_with (first | ((with_reducible refine gate_builtin (b := .append) (xs := #[.tmp 5, .tmp 6]) rfl ?_); at_builtin; refine Kd.R_append_rows (Kd.int .i64) (w0 := w) w.heap.size rfl (.tmp 5) (.tmp 6) 22 3 (.int .i64 0) 8 rfl Try.underlying22 info3 rfl (by decide) (by omega) (.slice none 0 0) ([] : List Int) l _ _ _ (fun _ => True) (fun _ => False) rfl rfl ?aO ?aR (fun _ _ h => h) (fun _ h => h.elim) ?aF ?aB ?aS ?aL ?_; (case aR => repeat (first | exact HR0.out | (with_reducible refine Kd.C_alloc ?_ _) | (with_reducible refine Kd.C_drewN ?_ _) | (with_reducible refine Kd.C_drew ?_))); (case aB => exact (by repeat (first | (with_reducible first | exact HB.out | apply below_alloc | apply pw_below_drewN | apply below_drew1) | exact HB.out))); (case aF => exact (fun _ _ => trivial)); (case aO => exact ((Kd.R_nil _ _ _ _ (fun _ => True)))); (case aS => exact (below_size (by repeat (first | (with_reducible first | exact HB.out | apply below_alloc | apply pw_below_drewN | apply below_drew1) | exact HB.out)))); (case aL => have := HL.out; simp; omega); intro v121 w3 ho hb hg hat; rw [Y00.out] at ho; have n0_ := Aside0.mk (hb); have n1_ := Aside0.mk (ho); clear HB; have HB := n0_; have HO := n1_; clear n0_ n1_; clear ho hb hg hat))
  have HO3 : Aside0 (Kd.R (Kd.int .i64) 3 w3 w.heap.size (fun _ => True) v121 (mk l 0)) := ⟨by rw [← Y0.out]; exact HO.out⟩
  clear HO Y0 Y00
  go_loopg [3, 4] 4 (fun kq v3 v4 w' => ∃ i : Nat, v4 = .int .i64 (i : Int) ∧ Aside0 (kq + i = 4) ∧ Aside0 (i ≤ 3) ∧ Aside0 (Kd.R (Kd.int .i64) 3 w' w.heap.size (fun _ => True) v3 (mk l i)) ∧ Aside0 (Below w.heap.size w w'))
  case atStart => exact ⟨0, (by first | rfl | (simp; done)), ⟨rfl⟩, ⟨by omega⟩, ⟨by (with_reducible repeat (first | apply Kd.R_alloc | apply Kd.R_drewN | apply Kd.R_drew)); exact HO3.out⟩, ⟨(by repeat (first | (with_reducible first | exact HB.out | apply below_alloc | apply pw_below_drewN | apply below_drew1) | exact HB.out))⟩⟩
  case round =>
    clear HO3
    obtain ⟨i, rfl, HK, HI, HO, HB⟩ := hrel
    cases gk with
    | zero => exact absurd HK.out (by have := HI.out; omega)
    | succ k1 =>
      by_cases h3 : i < 3
      · have c4 : decide ((i : Int) < 3) = true := decide_eq_true (by omega)
        have LI := Aside0.mk h3
        clear h3
        obtain ⟨y, hy⟩ : ∃ y, y = mk l i ++ [wrap64 ((-771) - (i : Int))] := ⟨_, rfl⟩
        have Ny := Aside0.mk hy
        obtain ⟨x, hx⟩ : ∃ x, x = mk l i := ⟨_, rfl⟩
        rw [← hx] at hy
        have HO' : Aside0 (Kd.R (Kd.int .i64) 3 wr w.heap.size (fun _ => True) u3 x) := ⟨by rw [hx]; exact HO.out⟩
        have HX := Aside0.mk (show x.length ≤ 10003 by rw [hx, mk_len]; have := HL.out; have := LI.out; omega)
        have I3 : (i : Int) ≤ 3 := by have := LI.out; omega
        obtain ⟨z, hz⟩ : ∃ z, wrap64 ((-771) - (i : Int)) = z := ⟨_, rfl⟩
        have hz2 : IntKind.i64.wrap ((-771) - (i : Int)) = z := by rw [i64_w]; exact hz
        have hz3 : ((-771 : Int) - (i : Int)) = z := by rw [← hz, w64 (by omega) (by omega)]
        have NX := Aside0.mk hx
        have Hy := Aside0.mk (by rw [hy, hz] : y = x ++ [z])
        clear hx hy HO
        go_wp2_with (first | ((with_reducible refine gate_builtin (b := .append) (xs := #[.tmp 12, .tmp 15]) rfl ?_); at_builtin; refine Kd.R_append (Kd.int .i64) (w0 := w) w.heap.size rfl (.tmp 12) (.tmp 15) 22 3 (.int .i64 0) 8 rfl Try.underlying22 info3 rfl (by decide) (by omega) u3 x z [.int .i64 z] (fun _ => True) (fun _ => False) rfl rfl ?aP (fun _ hk => hk.elim) ?aF ?aO ?aB ?aS ?aL ?_; (case aP => exact rfl); (case aB => exact (by repeat (first | (with_reducible first | exact HB.out | apply below_alloc | apply pw_below_drewN | apply below_drew1) | exact HB.out))); (case aF => exact (fun _ _ => trivial)); (case aO => exact (by (with_reducible repeat (first | apply Kd.R_alloc | apply Kd.R_drewN | apply Kd.R_drew)); exact HO'.out)); (case aS => exact (below_size (by repeat (first | (with_reducible first | exact HB.out | apply below_alloc | apply pw_below_drewN | apply below_drew1) | exact HB.out)))); (case aL => have := HX.out; omega); intro v124 w6 ho hb hg hat; rw [← Hy.out] at ho; have n0_ := Aside0.mk (hb); have n1_ := Aside0.mk (ho); clear HB; clear HO'; have HB := n0_; have HO125 := n1_; clear n0_ n1_; clear ho hb hg hat))
        go_roundg k1
        case measure => have := HK.out; omega
        case rel => exact ⟨i + 1, (by first | rfl | (simp; done) | go_num), ⟨by have := HK.out; omega⟩, ⟨by have := LI.out; omega⟩, ⟨by (with_reducible repeat (first | apply Kd.R_alloc | apply Kd.R_drewN | apply Kd.R_drew)); rw [mk_succ l i (by have := LI.out; omega), ← Ny.out]; exact HO125.out⟩, ⟨(by repeat (first | (with_reducible first | exact HB.out | apply below_alloc | apply pw_below_drewN | apply below_drew1) | exact HB.out))⟩⟩
      · obtain rfl : i = 3 := by have := HI.out; omega
        have c4 : decide (((3 : Nat) : Int) < 3) = false := rfl
        obtain ⟨A, c, eo⟩ := Kd.R_slice HO.out
        have hlen := mk_len l 3
        have hR : Kd.R (Kd.int .i64) 3 wr w.heap.size (fun _ => True) (.slice A (l.length + 3) c) (mk l 3) := by rw [← hlen, ← eo]; exact HO.out
        have hcap := (Kd.R_reads' hR).2.1
        rw [hlen] at eo
        subst eo
        have hcut := reslice A (l.length + 3) c l.length (l.length : Int) rfl (by omega)
        have HR3 := Aside0.mk hR
        have HC := Aside0.mk hcap
        clear hR hcap hlen HO h3
        go_wp2
        go_ret
        exact ⟨A, c, by first | rfl | (simp; done), HC.out, by (with_reducible repeat (first | apply Kd.R_alloc | apply Kd.R_drewN | apply Kd.R_drew)); exact HR3.out, (by repeat (first | (with_reducible first | exact HB.out | apply below_alloc | apply pw_below_drewN | apply below_drew1) | exact HB.out))⟩

set_option maxHeartbeats 8000000 in
set_option maxRecDepth 100000 in
theorem kept_i (l : List Int) (hl : l.length ≤ 10000) (A B : Option Addr) (c d : Nat) (w : World) (hr : Rd w A (mk l 3)) (hc : l.length + 3 ≤ c) (hb : Rd w B l) (hd : l.length ≤ d) :
    Calls Try.prog 33 #[.slice A l.length c, .slice B l.length d] w fun e w' => e = .returned (.bool true) ∧ Below w.heap.size w w' := by
  have HR := Aside0.mk hr
  have HQ := Aside0.mk (mk_rd hr)
  have HL := Aside0.mk hl
  have HBR := Aside0.mk hb
  have HC := Aside0.mk (show l.length ≤ c by omega)
  have HD := Aside0.mk hd
  obtain ⟨m, hm⟩ : ∃ m, m = l.length + 3 := ⟨_, rfl⟩
  obtain ⟨j, hj⟩ : ∃ j : Int, IntKind.i64.wrap ((l.length : Int) + 3) = j := ⟨_, rfl⟩
  have hjm : j = (m : Int) := by rw [← hj, i64_w, w64 (by omega) (by omega)]; omega
  have hj2 : wrap64 ((l.length : Int) + 3) = j := by rw [← hj, i64_w]
  have hcut := reslice A l.length c m j hjm (by omega)
  have CEL := Aside0.mk (fun (W : World) (n : Nat) (hW : W = w.drewN n) (i : Nat) (hi : i < 3) => (by
    subst hW
    obtain ⟨ad, ha, hx⟩ := Kd.at_int (Kd.C_drewN hr n) ((l.length + i : Nat) : Int) (by omega) (by rw [mk_len]; omega)
    rw [mk_at l i hi] at hx
    subst ha
    exact ⟨ad, rfl, by simpa [Go.IntWalk.toNatUp] using hx⟩ : ∃ ad, A = some ad ∧ (w.drewN n).cell? (ad.add (l.length + i)) = some (.int .i64 (-771 - (i : Int)))))
  obtain ⟨ad, had⟩ : ∃ ad, A = some ad := by obtain ⟨ad, h, _⟩ := CEL.out w 0 rfl 0 (by omega); exact ⟨ad, h⟩
  have CELL := Aside0.mk (fun (n : Nat) (i : Nat) (hi : i < 3) => (by
    obtain ⟨a', h', hx⟩ := CEL.out _ n rfl i hi
    rw [had] at h'
    cases h'
    exact hx : (w.drewN n).cell? (ad.add (l.length + i)) = some (.int .i64 (-771 - (i : Int)))))
  have HM := Aside0.mk hm
  clear CEL
  subst had
  have HJ := Aside0.mk hjm
  clear hr hl hb hd hc hm hjm
  go_enter Try.func33, Try.ntmps33
  go_wp2_with (first
    | (go_at_call 22; (with_reducible refine (WalkBase.ints_b l l (by have := HL.out; omega) _ _ _ _ _ HQ.out HBR.out HC.out HD.out).mono ?_); rw [decide_eq_true rfl]; rintro e w' ⟨rfl, ⟨nd, rfl⟩⟩))
  go_loopg [6] 4 (fun kq v6 w' => ∃ i : Nat, v6 = .int .i64 (i : Int) ∧ Aside0 (kq + i = 4) ∧ Aside0 (i ≤ 3) ∧ ∃ n, w' = w.drewN n)
  case atStart => exact ⟨0, (by first | rfl | (simp; done)), ⟨rfl⟩, ⟨by omega⟩, nd, rfl⟩
  case round =>
    obtain ⟨i, rfl, HK, HI, n, rfl⟩ := hrel
    cases gk with
    | zero => exact absurd HK.out (by have := HI.out; omega)
    | succ k1 =>
      by_cases h3 : i < 3
      · have c4 : decide ((i : Int) < 3) = true := decide_eq_true (by omega)
        have hx := CELL.out n i h3
        have I3 : (i : Int) ≤ 3 := by omega
        obtain ⟨p, hp⟩ : ∃ p : Int, IntKind.i64.wrap ((l.length : Int) + (i : Int)) = p := ⟨_, rfl⟩
        have hp1 : p = ((l.length + i : Nat) : Int) := by have := HL.out; rw [← hp, i64_w, w64 (by omega) (by omega)]; omega
        have hp2 : wrap64 ((l.length : Int) + (i : Int)) = p := by rw [← hp, i64_w]
        have hp3 : p.toNat = l.length + i := by omega
        have hp0 : 0 ≤ p := by omega
        have hpm : p < (m : Int) := by have := HM.out; omega
        obtain ⟨z, hz⟩ : ∃ z : Int, z = -771 - (i : Int) := ⟨_, rfl⟩
        rw [← hz] at hx
        have hz2 : IntKind.i64.wrap ((-771) - (i : Int)) = z := by rw [i64_w, w64 (by omega) (by omega)]; omega
        have hz3 : wrap64 ((-771) - (i : Int)) = z := by rw [← hz2, i64_w]
        have hz4 : (-771 : Int) - (i : Int) = z := hz.symm
        have hz5 : wrap64 z = z := by rw [hz, w64 (by omega) (by omega)]
        have hz6 : IntKind.i64.wrap z = z := by rw [i64_w, hz5]
        rw [← hp3] at hx
        have HP := Aside0.mk hp1
        have HZ := Aside0.mk hz
        have LI := Aside0.mk h3
        have q0 := eq_true hp0
        have q1 := eq_true hpm
        clear hp1 hp3 hz h3 hp0 hpm
        go_wp2
        go_roundg k1
        case measure => have := HK.out; omega
        case rel => exact ⟨i + 1, (by first | rfl | (simp; done) | go_num), ⟨by have := HK.out; omega⟩, ⟨by have := LI.out; omega⟩, n, rfl⟩
      · obtain rfl : i = 3 := by have := HI.out; omega
        have c4 : decide (((3 : Nat) : Int) < 3) = false := rfl
        go_wp2
        go_ret
        exact ⟨by first | rfl | (simp; done), pw_below_drewN (Below.refl _ _) n⟩

set_option maxHeartbeats 8000000 in
set_option maxRecDepth 100000 in
theorem lent_f (xs xs2 : List Int) (hl : xs.length ≤ 10000) (hl2 : xs2.length ≤ 10000) (A0 A1 : Option Addr) (c0 c1 : Nat) (w : World) (h0 : Rd w A0 xs) (h1 : Rd w A1 xs2) :
    Calls Try.prog 9 #[.agg #[.slice A0 xs.length c0, .slice A1 xs2.length c1]] w fun e w' => ∃ P0 P1 p0 p1, e = .returned (.agg #[.slice P0 xs.length p0, .slice P1 xs2.length p1]) ∧ xs.length + 3 ≤ p0 ∧ xs2.length + 3 ≤ p1 ∧ Kd.R (Kd.int .i64) 3 w' w.heap.size (fun _ => True) (.slice P0 (xs.length + 3) p0) (mk xs 3) ∧ Kd.R (Kd.int .i64) 3 w' w.heap.size (fun _ => True) (.slice P1 (xs2.length + 3) p1) (mk xs2 3) ∧ Below w.heap.size w w' := by
  have hu24 := Try.underlying24
  have HR0 := Aside0.mk h0
  have HR1 := Aside0.mk h1
  have HL0 := Aside0.mk hl
  have HL1 := Aside0.mk hl2
  have HB := Aside0.mk (Below.refl w.heap.size w)
  clear h0 h1 hl hl2
  go_enter Try.func9, Try.ntmps9
  go_upto_region 1 with (first
    | ((with_reducible refine gate_dst (N := 1) rfl ?_); refine box_event ?hg (N := 1) ?hd (cs := #[.slice A0 xs.length c0, .slice A1 xs2.length c1]) (t := 24) ?hr ?_; (case hd => rfl); (case hg => rfl); (case hr => first | (go_simp; done) | (go_simp; rfl)); intro gb1 hg_ wb1 hbox hb_; have GE1 := Aside0.mk ((by rw [hg_]; exact (below_size (by repeat (first | (with_reducible first | exact HB.out | apply below_alloc | apply pw_below_drewN | apply below_drew1 | apply below_drew) | exact HB.out)))) : w.heap.size ≤ gb1); have tHB_ := Aside0.mk (below_step (by repeat (first | (with_reducible first | exact HB.out | apply below_alloc | apply pw_below_drewN | apply below_drew1 | apply below_drew) | exact HB.out)) hb_); clear HB; have HB := tHB_; clear tHB_; have BK1 := Aside0.mk hbox; have HG1 := Aside0.mk hg_; have DB1 := Aside0.mk hb_; clear hbox hg_ hb_)
    | ((with_reducible refine gate_dst (N := 2) rfl ?_); have HLT1 := Aside0.mk (blk_lt BK1.out); refine box_event ?hg (N := 2) ?hd (cs := #[.slice none 0 0, .slice none 0 0]) (t := 24) ?hr ?_; (case hd => rfl); (case hg => rfl); (case hr => first | (go_simp; done) | (go_simp; rfl)); intro gb2 hg_ wb2 hbox hb_; have GE2 := Aside0.mk ((by rw [hg_]; exact (below_size (by repeat (first | (with_reducible first | exact HB.out | apply below_alloc | apply pw_below_drewN | apply below_drew1 | apply below_drew) | exact HB.out)))) : w.heap.size ≤ gb2); have tHB_ := Aside0.mk (below_step (by repeat (first | (with_reducible first | exact HB.out | apply below_alloc | apply pw_below_drewN | apply below_drew1 | apply below_drew) | exact HB.out)) hb_); have bk2_ := Aside0.mk (blk_below (g := gb1) (o := .cells #[.slice A0 xs.length c0, .slice A1 xs2.length c1] 24 (0, 0)) (by (with_reducible repeat (first | refine blk_drewN ?_ _ | refine blk_drew ?_ | refine blk_alloc ?_ _)); exact BK1.out) hb_); clear BK1; have BK1 := bk2_; clear bk2_; clear HB; have HB := tHB_; clear tHB_; have BK2 := Aside0.mk hbox; have HG2 := Aside0.mk hg_; have DB2 := Aside0.mk hb_; clear hbox hg_ hb_))
  refine start_ (n := 8) (S := fun w' => Below w.heap.size w w' ∧ w'.heap[gb1]? = some (.cells #[.slice A0 xs.length c0, .slice A1 xs2.length c1] 24 (0, 0))) (ds := []) #[false, false, false, false, false, false, false, false] (by kernel_rfl) rfl rfl ⟨below_drew HB.out, blk_drew BK1.out⟩ (fun hHeld => ?_)
  refine pure_ (i := 0) (N := some 3) (v := ?_) (a' := ?_) #[true, false, false, false, false, false, false, false] rfl rfl (by kernel_rfl) (fun _ _ _ h => h) (Or.inl ⟨by rfl, ?_⟩) ?_ ?_
  rotate_left
  · intro w'
    go_simp
    with_reducible rfl
  rotate_left
  · simp only [Act.put, List.setIfInBounds_toArray, List.set_cons_zero, List.set_cons_succ, i64_w, i32_w]
    rfl
  refine pure_ (i := 3) (N := some 6) (v := ?_) (a' := ?_) #[true, false, false, true, false, false, false, false] rfl rfl (by kernel_rfl) (fun _ _ _ h => h) (Or.inl ⟨by rfl, ?_⟩) ?_ ?_
  rotate_left
  · intro w'
    go_simp
    with_reducible rfl
  rotate_left
  · simp only [Act.put, List.setIfInBounds_toArray, List.set_cons_zero, List.set_cons_succ, i64_w, i32_w]
    rfl
  refine take_ (i := 1) (N := some 4) (v := ?_) (a' := ?_) #[true, true, false, true, false, false, false, false] rfl rfl (by kernel_rfl) (fun _ _ _ h => h) (Or.inl ⟨by rfl, ?_⟩) hHeld ?_ ?_
  rotate_left
  · intro w' hS
    have hy0 := (blk_cell hS.2 0).trans (show (#[.slice A0 xs.length c0, .slice A1 xs2.length c1] : Array Value)[0]? = some (.slice A0 xs.length c0) from rfl)
    go_simp
    with_reducible rfl
  rotate_left
  · simp only [Act.put, List.setIfInBounds_toArray, List.set_cons_zero, List.set_cons_succ, i64_w, i32_w]
    rfl
  refine take_ (i := 4) (N := some 7) (v := ?_) (a' := ?_) #[true, true, false, true, true, false, false, false] rfl rfl (by kernel_rfl) (fun _ _ _ h => h) (Or.inl ⟨by rfl, ?_⟩) hHeld ?_ ?_
  rotate_left
  · intro w' hS
    have hy1 := (blk_cell hS.2 1).trans (show (#[.slice A0 xs.length c0, .slice A1 xs2.length c1] : Array Value)[1]? = some (.slice A1 xs2.length c1) from rfl)
    go_simp
    with_reducible rfl
  rotate_left
  · simp only [Act.put, List.setIfInBounds_toArray, List.set_cons_zero, List.set_cons_succ, i64_w, i32_w]
    rfl
  refine one_ (i := 2) (N := some 5) #[true, true, true, true, true, false, false, false] rfl rfl (by kernel_rfl) (by decide) (fun K hK => ?_)
  refine goes_ Try.func23 (by kernel_rfl) rfl #[.slice A0 xs.length c0] (by rfl) rfl rfl (by (try simp only [List.map_toArray, List.map_cons, List.map_nil]); first | done | rfl) ?_
  with_reducible refine (lent_i xs HL0.out _ _ _ (Kd.C_below HR0.out hHeld.1)).mono ?_
  rintro e W1 ⟨P0, p0, rfl, k0, r0, D1⟩
  refine ⟨_, rfl, ?_⟩
  have S1 := hHeld.1
  refine hK.out _ _ ⟨below_step hHeld.1 D1, blk_below hHeld.2 D1⟩ (fun hHeld => ?_)
  clear hK K
  refine norm_ (a' := ?_) ?_ ?_
  rotate_left
  · show Act.put _ (some 5) _ = _
    simp only [Act.put, List.setIfInBounds_toArray, List.set_cons_zero, List.set_cons_succ, i64_w, i32_w]
    rfl
  refine one_ (i := 5) (N := some 8) #[true, true, true, true, true, true, false, false] rfl rfl (by kernel_rfl) (by decide) (fun K hK => ?_)
  refine goes_ Try.func23 (by kernel_rfl) rfl #[.slice A1 xs2.length c1] (by rfl) rfl rfl (by (try simp only [List.map_toArray, List.map_cons, List.map_nil]); first | done | rfl) ?_
  with_reducible refine (lent_i xs2 HL1.out _ _ _ (Kd.C_below HR1.out hHeld.1)).mono ?_
  rintro e W2 ⟨P1, p1, rfl, k1, r1, D2⟩
  refine ⟨_, rfl, ?_⟩
  have S2 := hHeld.1
  refine hK.out _ _ ⟨below_step hHeld.1 D2, blk_below hHeld.2 D2⟩ (fun hHeld => ?_)
  clear hK K
  refine norm_ (a' := ?_) ?_ ?_
  rotate_left
  · show Act.put _ (some 8) _ = _
    simp only [Act.put, List.setIfInBounds_toArray, List.set_cons_zero, List.set_cons_succ, i64_w, i32_w]
    rfl
  refine pure_ (i := 6) (N := some 9) (v := ?_) (a' := ?_) #[true, true, true, true, true, true, true, false] rfl rfl (by kernel_rfl) (fun _ _ _ h => h) (Or.inl ⟨by rfl, ?_⟩) ?_ ?_
  rotate_left
  · intro w'
    go_simp
    with_reducible rfl
  rotate_left
  · simp only [Act.put, List.setIfInBounds_toArray, List.set_cons_zero, List.set_cons_succ, i64_w, i32_w]
    rfl
  refine one_ (i := 7) (N := none) #[true, true, true, true, true, true, true, true] rfl rfl (by kernel_rfl) (by decide) (fun K hK => ?_)
  have BZ := blk_below (blk_below (blk_drew BK2.out) D1) D2
  have hcz2_0 := (blk_cell BZ 0).trans (show (#[.slice none 0 0, .slice none 0 0] : Array Value)[0]? = some (.slice none 0 0) from rfl)
  have hcz2_1 := (blk_cell BZ 1).trans (show (#[.slice none 0 0, .slice none 0 0] : Array Value)[1]? = some (.slice none 0 0) from rfl)
  have hfz2_0 := blk_frozen BZ 0
  have hfz2_1 := blk_frozen BZ 1
  refine skip_ (w1 := ?_) (by rfl) rfl ?_ ?_
  rotate_left
  · go_simp
    rfl
  have hne : gb1 ≠ gb2 := by rw [HG2.out]; exact Nat.ne_of_lt HLT1.out
  refine hK.out _ _ ⟨below_set (below_set hHeld.1 GE2.out) GE2.out, blk_far (blk_far hHeld.2 hne _) hne _⟩ (fun hHeld => ?_)
  clear hK K
  refine done_ (by kernel_rfl) ?_
  have BZ2 := blk_put (cs' := #[.slice P0 xs.length p0, .slice P1 xs2.length p1]) (blk_put (cs' := #[.slice P0 xs.length p0, .slice none 0 0]) BZ 0 (.slice P0 xs.length p0) rfl) 1 (.slice P1 xs2.length p1) rfl
  have q0 := Kd.R_far (p := ⟨gb2, 1, none⟩) (Kd.R_far (p := ⟨gb2, 0, none⟩) (Kd.R_types (Kd.R_lower (Kd.R_below r0 D2) (below_size S1)) BZ (by decide)) (fun _ hk => hk.2) (.slice P0 xs.length p0)) (fun _ hk => hk.2) (.slice P1 xs2.length p1)
  have q1 := Kd.R_far (p := ⟨gb2, 1, none⟩) (Kd.R_far (p := ⟨gb2, 0, none⟩) (Kd.R_types (Kd.R_lower r1 (below_size S2)) BZ (by decide)) (fun _ hk => hk.2) (.slice P0 xs.length p0)) (fun _ hk => hk.2) (.slice P1 xs2.length p1)
  have HH := Aside0.mk hHeld
  have Q0 := Aside0.mk (Kd.R_mono (ok' := fun _ => True) q0 (fun _ _ => trivial))
  have Q1 := Aside0.mk (Kd.R_mono (ok' := fun _ => True) q1 (fun _ _ => trivial))
  have BZ3 := Aside0.mk BZ2
  clear hHeld q0 q1 BZ BZ2 S1 S2 D1 D2 r0 r1 hcz2_0 hcz2_1 hfz2_0 hfz2_1
  generalize (W2.setCell ⟨gb2, 0, none⟩ (.slice P0 xs.length p0)).setCell ⟨gb2, 1, none⟩ (.slice P1 xs2.length p1) = V at *
  go_wp2
  refine bodyPost_ret (results_cell_row rfl _ _ gb2 24 #[.slice P0 xs.length p0, .slice P1 xs2.length p1] (0, 0) _ rfl BZ3.out Try.underlying24 rfl (by kernel_rfl)) rfl ?_
  exact ⟨P0, P1, p0, p1, rfl, k0, k1, Q0.out, Q1.out, HH.out.1⟩

set_option maxHeartbeats 8000000 in
set_option maxRecDepth 100000 in
theorem kept_f (xs xs2 : List Int) (hl : xs.length ≤ 10000) (hl2 : xs2.length ≤ 10000) (A0 A1 B0 B1 : Option Addr) (c0 c1 d0 d1 : Nat) (w : World) (h0 : Rd w A0 (mk xs 3)) (h1 : Rd w A1 (mk xs2 3)) (hc0 : xs.length + 3 ≤ c0) (hc1 : xs2.length + 3 ≤ c1) (q0 : Rd w B0 xs) (q1 : Rd w B1 xs2) (hd0 : xs.length ≤ d0) (hd1 : xs2.length ≤ d1) :
    Calls Try.prog 20 #[.agg #[.slice A0 xs.length c0, .slice A1 xs2.length c1], .agg #[.slice B0 xs.length d0, .slice B1 xs2.length d1]] w fun e w' => e = .returned (.bool true) ∧ Below w.heap.size w w' := by
  have hu24 := Try.underlying24
  have HR0 := Aside0.mk h0
  have HR1 := Aside0.mk h1
  have HQ0 := Aside0.mk q0
  have HQ1 := Aside0.mk q1
  have HL0 := Aside0.mk hl
  have HL1 := Aside0.mk hl2
  have HC0 := Aside0.mk hc0
  have HC1 := Aside0.mk hc1
  have HD0 := Aside0.mk hd0
  have HD1 := Aside0.mk hd1
  have HB := Aside0.mk (Below.refl w.heap.size w)
  have tok0 : True := trivial
  have tok1 : True := trivial
  clear h0 h1 hl hl2 hc0 hc1 q0 q1 hd0 hd1
  go_enter Try.func20, Try.ntmps20
  go_wp2_with (first
    | ((with_reducible refine gate_dst (N := 2) rfl ?_); refine box_event ?hg (N := 2) ?hd (cs := #[.slice A0 xs.length c0, .slice A1 xs2.length c1]) (t := 24) ?hr ?_; (case hd => rfl); (case hg => rfl); (case hr => first | (go_simp; done) | (go_simp; rfl)); intro gb1 hg_ wb1 hbox hb_; have GE1 := Aside0.mk ((by rw [hg_]; exact (below_size (by repeat (first | (with_reducible first | exact HB.out | apply below_alloc | apply pw_below_drewN | apply below_drew1 | apply below_drew) | exact HB.out)))) : w.heap.size ≤ gb1); have tHB_ := Aside0.mk (below_step (by repeat (first | (with_reducible first | exact HB.out | apply below_alloc | apply pw_below_drewN | apply below_drew1 | apply below_drew) | exact HB.out)) hb_); clear HB; have HB := tHB_; clear tHB_; have BK1 := Aside0.mk hbox; have HG1 := Aside0.mk hg_; have DB1 := Aside0.mk hb_; clear hbox hg_ hb_)
    | ((with_reducible refine gate_dst (N := 3) rfl ?_); refine box_event ?hg (N := 3) ?hd (cs := #[.slice B0 xs.length d0, .slice B1 xs2.length d1]) (t := 24) ?hr ?_; (case hd => rfl); (case hg => rfl); (case hr => first | (go_simp; done) | (go_simp; rfl)); intro gb2 hg_ wb2 hbox hb_; have GE2 := Aside0.mk ((by rw [hg_]; exact (below_size (by repeat (first | (with_reducible first | exact HB.out | apply below_alloc | apply pw_below_drewN | apply below_drew1 | apply below_drew) | exact HB.out)))) : w.heap.size ≤ gb2); have tHB_ := Aside0.mk (below_step (by repeat (first | (with_reducible first | exact HB.out | apply below_alloc | apply pw_below_drewN | apply below_drew1 | apply below_drew) | exact HB.out)) hb_); have bk2_ := Aside0.mk (blk_below (g := gb1) (o := .cells #[.slice A0 xs.length c0, .slice A1 xs2.length c1] 24 (0, 0)) (by (with_reducible repeat (first | refine blk_drewN ?_ _ | refine blk_drew ?_ | refine blk_alloc ?_ _)); exact BK1.out) hb_); clear BK1; have BK1 := bk2_; clear bk2_; clear HB; have HB := tHB_; clear tHB_; have BK2 := Aside0.mk hbox; have HG2 := Aside0.mk hg_; have DB2 := Aside0.mk hb_; clear hbox hg_ hb_; have hcz1_0 := (blk_cell BK1.out 0).trans (show (#[.slice A0 xs.length c0, .slice A1 xs2.length c1] : Array Value)[0]? = some (.slice A0 xs.length c0) from rfl); have hcz1_1 := (blk_cell BK1.out 1).trans (show (#[.slice A0 xs.length c0, .slice A1 xs2.length c1] : Array Value)[1]? = some (.slice A1 xs2.length c1) from rfl); have hcz2_0 := (blk_cell BK2.out 0).trans (show (#[.slice B0 xs.length d0, .slice B1 xs2.length d1] : Array Value)[0]? = some (.slice B0 xs.length d0) from rfl); have hcz2_1 := (blk_cell BK2.out 1).trans (show (#[.slice B0 xs.length d0, .slice B1 xs2.length d1] : Array Value)[1]? = some (.slice B1 xs2.length d1) from rfl))
    | (go_at_call 33; have _t := tok0; (with_reducible refine (kept_i xs HL0.out _ _ _ _ _ (by repeat (first | exact (Kd.C_below HR0.out HB.out) | (with_reducible refine Kd.C_alloc ?_ _) | (with_reducible refine Kd.C_drewN ?_ _) | (with_reducible refine Kd.C_drew ?_))) HC0.out (by repeat (first | exact (Kd.C_below HQ0.out HB.out) | (with_reducible refine Kd.C_alloc ?_ _) | (with_reducible refine Kd.C_drewN ?_ _) | (with_reducible refine Kd.C_drew ?_))) HD0.out).mono ?_); rintro e wc ⟨rfl, hb_⟩; have tHB_ := Aside0.mk (below_step (by repeat (first | (with_reducible first | exact HB.out | apply below_alloc | apply pw_below_drewN | apply below_drew1 | apply below_drew) | exact HB.out)) hb_); have bk2_ := Aside0.mk (blk_below (g := gb1) (o := .cells #[.slice A0 xs.length c0, .slice A1 xs2.length c1] 24 (0, 0)) (by (with_reducible repeat (first | refine blk_drewN ?_ _ | refine blk_drew ?_ | refine blk_alloc ?_ _)); exact BK1.out) hb_); clear BK1; have BK1 := bk2_; clear bk2_; have bk2_ := Aside0.mk (blk_below (g := gb2) (o := .cells #[.slice B0 xs.length d0, .slice B1 xs2.length d1] 24 (0, 0)) (by (with_reducible repeat (first | refine blk_drewN ?_ _ | refine blk_drew ?_ | refine blk_alloc ?_ _)); exact BK2.out) hb_); clear BK2; have BK2 := bk2_; clear bk2_; clear HB; have HB := tHB_; clear tHB_; (try clear hcz1_0); (try clear hcz1_1); (try clear hcz2_0); (try clear hcz2_1); have hcz1_0 := (blk_cell BK1.out 0).trans (show (#[.slice A0 xs.length c0, .slice A1 xs2.length c1] : Array Value)[0]? = some (.slice A0 xs.length c0) from rfl); have hcz1_1 := (blk_cell BK1.out 1).trans (show (#[.slice A0 xs.length c0, .slice A1 xs2.length c1] : Array Value)[1]? = some (.slice A1 xs2.length c1) from rfl); have hcz2_0 := (blk_cell BK2.out 0).trans (show (#[.slice B0 xs.length d0, .slice B1 xs2.length d1] : Array Value)[0]? = some (.slice B0 xs.length d0) from rfl); have hcz2_1 := (blk_cell BK2.out 1).trans (show (#[.slice B0 xs.length d0, .slice B1 xs2.length d1] : Array Value)[1]? = some (.slice B1 xs2.length d1) from rfl); (try clear hb_); clear tok0)
    | (go_at_call 33; have _t := tok1; (with_reducible refine (kept_i xs2 HL1.out _ _ _ _ _ (by repeat (first | exact (Kd.C_below HR1.out HB.out) | (with_reducible refine Kd.C_alloc ?_ _) | (with_reducible refine Kd.C_drewN ?_ _) | (with_reducible refine Kd.C_drew ?_))) HC1.out (by repeat (first | exact (Kd.C_below HQ1.out HB.out) | (with_reducible refine Kd.C_alloc ?_ _) | (with_reducible refine Kd.C_drewN ?_ _) | (with_reducible refine Kd.C_drew ?_))) HD1.out).mono ?_); rintro e wc ⟨rfl, hb_⟩; have tHB_ := Aside0.mk (below_step (by repeat (first | (with_reducible first | exact HB.out | apply below_alloc | apply pw_below_drewN | apply below_drew1 | apply below_drew) | exact HB.out)) hb_); have bk2_ := Aside0.mk (blk_below (g := gb1) (o := .cells #[.slice A0 xs.length c0, .slice A1 xs2.length c1] 24 (0, 0)) (by (with_reducible repeat (first | refine blk_drewN ?_ _ | refine blk_drew ?_ | refine blk_alloc ?_ _)); exact BK1.out) hb_); clear BK1; have BK1 := bk2_; clear bk2_; have bk2_ := Aside0.mk (blk_below (g := gb2) (o := .cells #[.slice B0 xs.length d0, .slice B1 xs2.length d1] 24 (0, 0)) (by (with_reducible repeat (first | refine blk_drewN ?_ _ | refine blk_drew ?_ | refine blk_alloc ?_ _)); exact BK2.out) hb_); clear BK2; have BK2 := bk2_; clear bk2_; clear HB; have HB := tHB_; clear tHB_; (try clear hcz1_0); (try clear hcz1_1); (try clear hcz2_0); (try clear hcz2_1); have hcz1_0 := (blk_cell BK1.out 0).trans (show (#[.slice A0 xs.length c0, .slice A1 xs2.length c1] : Array Value)[0]? = some (.slice A0 xs.length c0) from rfl); have hcz1_1 := (blk_cell BK1.out 1).trans (show (#[.slice A0 xs.length c0, .slice A1 xs2.length c1] : Array Value)[1]? = some (.slice A1 xs2.length c1) from rfl); have hcz2_0 := (blk_cell BK2.out 0).trans (show (#[.slice B0 xs.length d0, .slice B1 xs2.length d1] : Array Value)[0]? = some (.slice B0 xs.length d0) from rfl); have hcz2_1 := (blk_cell BK2.out 1).trans (show (#[.slice B0 xs.length d0, .slice B1 xs2.length d1] : Array Value)[1]? = some (.slice B1 xs2.length d1) from rfl); (try clear hb_); clear tok1))
  go_ret
  exact ⟨by first | rfl | (simp; done), HB.out⟩

end Go.Proofs.Ytnjmheadmcjgcaa.WalkLent
