/- Height. Under no conditions beyond the statement's own. -/
import Derived.Test.YtnjmheadmcjgcaaPLatticeTellsx3
import Derived.Test.YtnjmheadmcjgcaaSwitch
import Derived.Outline
import Derived.Deep.RegionWith
import Derived.Test.YtnjmheadmcjgcaaWalkPairs
set_option linter.unusedSimpArgs false
set_option linter.unusedVariables false
namespace Go.Proofs.Ytnjmheadmcjgcaa.WalkHeight
open Go.RowKit Go.Proofs.Ytnjmheadmcjgcaa.PLatticeTells Go.Proofs.YtnjmheadmcjgcaaW.PrintWords Go.Proofs.YtnjmheadmcjgcaaW.PrintLast Go.Proofs.YtnjmheadmcjgcaaW.PrintMore Go.Proofs.Ytnjmheadmcjgcaa.Switch
open Go.Proofs.Ytnjmheadmcjgcaa.WalkPairs
open WalkPairs
theorem u46 : Try.prog.underlying 46 = some (.array 2 22) := by kernel_rfl
theorem idx_0 (s0 s1 : Value) (W : World) : (Instr.index 46 (.agg #[s0, s1]) (.int .i64 0)).run Try.prog W = .ok s0 W := by
  obtain ⟨i0, hi, _, hsz, _⟩ := info_parts (show (Try.prog.info? 22).map (fun i => (i.zero, i.size, i.bytes)) = some (some (.slice none 0 0), 1, 24) by kernel_rfl)
  simp [Instr.index, run_underlying u46, asIntOf, sizeOf, typeInfo, hi, hsz, part, Result.andThen]
theorem idx_1 (s0 s1 : Value) (W : World) : (Instr.index 46 (.agg #[s0, s1]) (.int .i64 1)).run Try.prog W = .ok s1 W := by
  obtain ⟨i0, hi, _, hsz, _⟩ := info_parts (show (Try.prog.info? 22).map (fun i => (i.zero, i.size, i.bytes)) = some (some (.slice none 0 0), 1, 24) by kernel_rfl)
  simp [Instr.index, run_underlying u46, asIntOf, sizeOf, typeInfo, hi, hsz, part, Result.andThen]
def hgt (l : List Int) : Nat := l.countP (fun x => x != 0)
theorem hgt_le (l : List Int) : hgt l ≤ l.length := List.countP_le_length
theorem hgt_step (l : List Int) (i : Nat) (h : i < l.length) : hgt (l.take (i + 1)) = hgt (l.take i) + if rd l i != 0 then 1 else 0 := by
  have e1 : rd l (i : Int) = l[i] := by simp [rd, List.getD_eq_getElem?_getD, h]
  rw [e1, List.take_succ_eq_append_getElem h, hgt, hgt, List.countP_append]
  simp [List.countP_cons]
theorem hgt_take_le (l : List Int) (i : Nat) : hgt (l.take i) ≤ l.length := Nat.le_trans (hgt_le _) (by simp; omega)
theorem w64 {x : Int} (h0 : -9223372036854775808 ≤ x) (h1 : x ≤ 9223372036854775807) : wrap64 x = x := by unfold wrap64; omega
set_option maxHeartbeats 4000000 in
set_option maxRecDepth 100000 in
theorem height_c (xs xs2 : List Int) (hl : xs.length ≤ 10000) (hl2 : xs2.length ≤ 10000) (A0 A1 : Option Addr) (c0 c1 : Nat) (w : World) (h0 : Rd w A0 xs) (h1 : Rd w A1 xs2) :
    Calls Try.prog 17 #[.agg #[.slice A0 xs.length c0, .slice A1 xs2.length c1]] w fun e w' => e = .returned (.int .i64 ((hgt xs + hgt xs2 : Nat) : Int)) ∧ Below w.heap.size w w' := by
  have hu24 := Try.underlying24
  have hi0 := idx_0 (.slice A0 xs.length c0) (.slice A1 xs2.length c1)
  have hi1 := idx_1 (.slice A0 xs.length c0) (.slice A1 xs2.length c1)
  have HR0 := Aside0.mk h0
  have HR1 := Aside0.mk h1
  have HB := Aside0.mk (Below.refl w.heap.size w)
  have HL := Aside0.mk hl
  have HL2 := Aside0.mk hl2
  clear h0 h1 hl hl2
  go_enter Try.func17, Try.ntmps17
  go_wp2_with ((with_reducible refine gate_dst (N := 1) rfl ?_); refine box_event ?hg (N := 1) ?hd (cs := #[.slice A0 xs.length c0, .slice A1 xs2.length c1]) (t := 24) ?hr ?_; (case hd => rfl); (case hg => rfl); (case hr => first | (go_simp; done) | (go_simp; rfl)); intro gb1 hg_ wb1 hbox hb_; have GE1 := Aside0.mk ((by rw [hg_]; exact (below_size (by repeat (first | (with_reducible first | exact HB.out | apply below_alloc | apply pw_below_drewN | apply below_drew1 | apply below_drew) | exact HB.out)))) : w.heap.size ≤ gb1); have hb2_ := Aside0.mk (below_step (by repeat (first | (with_reducible first | exact HB.out | apply below_alloc | apply pw_below_drewN | apply below_drew1 | apply below_drew) | exact HB.out)) hb_); clear HB; have HB := hb2_; clear hb2_; have BK1 := Aside0.mk hbox; clear hbox hg_; have hcz1_0 := (blk_cell BK1.out 0).trans (show (#[.slice A0 xs.length c0, .slice A1 xs2.length c1] : Array Value)[0]? = some (.slice A0 xs.length c0) from rfl); have hfz1_0 := blk_frozen BK1.out 0; have hcz1_1 := (blk_cell BK1.out 1).trans (show (#[.slice A0 xs.length c0, .slice A1 xs2.length c1] : Array Value)[1]? = some (.slice A1 xs2.length c1) from rfl); have hfz1_1 := blk_frozen BK1.out 1; clear hb_)
  go_loopw [13, 3] (fun x y wr => ∃ j : Nat, j ≤ 2 ∧ x = .int .i64 j ∧ y = .int .i64 ((if j = 0 then 0 else if j = 1 then hgt xs else hgt xs + hgt xs2 : Nat) : Int) ∧ Aside0 (Below w.heap.size w wr)) (fun x _ _ => 2 - (intOf x).toNat)
  case atStart => exact ⟨0, by omega, rfl, rfl, ⟨(by repeat (first | (with_reducible first | exact HB.out | apply below_alloc | apply pw_below_drewN | apply below_drew1 | apply below_drew) | exact HB.out))⟩⟩
  case round =>
    clear HB
    obtain ⟨j, hj, rfl, rfl, HB⟩ := hrel
    have hl := HL.out
    have hl2 := HL2.out
    obtain rfl | rfl | rfl : j = 0 ∨ j = 1 ∨ j = 2 := by omega

    · go_wp2
      go_loopw [18, 3] (fun x y wr2 => ∃ i : Nat, i ≤ xs.length ∧ x = .int .i64 i ∧ y = .int .i64 ((0 + hgt (xs.take i) : Nat) : Int) ∧ Aside0 (Below w.heap.size w wr2)) (fun x _ _ => xs.length - (intOf x).toNat)
      case atStart => exact ⟨0, by omega, rfl, by first | rfl | (simp [hgt]; done), ⟨(by repeat (first | (with_reducible first | exact HB.out | apply below_alloc | apply pw_below_drewN | apply below_drew1 | apply below_drew) | exact HB.out))⟩⟩
      case round =>
        clear HB
        obtain ⟨i, hi, rfl, rfl, HB⟩ := hrel
        have hl := HL.out
        have hl2 := HL2.out
        by_cases hlt : i < xs.length
        · have cl := decide_eq_true (show (i : Int) < (xs.length : Int) by omega)
          have p1 : (0 ≤ (i : Int)) = True := eq_true (by omega)
          have q1 : ((i : Int) < (xs.length : Int)) = True := eq_true (by omega)
          have hst := hgt_step xs i hlt
          have hle := hgt_take_le xs i
          have hle2 := hgt_le xs
          obtain ⟨ad0, rfl, hx⟩ := Kd.at_int (Kd.C_below HR0.out HB.out) (i : Int) (by omega) (by omega)
          (try simp only [Go.IntWalk.toNatUp] at hx)
          by_cases hz : rd xs (i : Int) = 0
          · have hb : (rd xs (i : Int) != 0) = false := by rw [hz]; rfl
            rw [hb] at hst
            go_wp2
            go_roundw
            case rel => exact ⟨i + 1, by omega, by go_num, by rw [hst]; simp, ⟨(by repeat (first | (with_reducible first | exact HB.out | apply below_alloc | apply pw_below_drewN | apply below_drew1 | apply below_drew) | exact HB.out))⟩⟩
            case measure => simp [intOf]; omega
          · have hb : (rd xs (i : Int) != 0) = true := bne_iff_ne.2 hz
            rw [hb, if_pos rfl] at hst
            go_wp2
            go_roundw
            case rel => exact ⟨i + 1, by omega, by go_num, by rw [hst]; go_num, ⟨(by repeat (first | (with_reducible first | exact HB.out | apply below_alloc | apply pw_below_drewN | apply below_drew1 | apply below_drew) | exact HB.out))⟩⟩
            case measure => simp [intOf]; omega
        · obtain rfl : i = xs.length := by omega
          have cl := decide_eq_false (show ¬ ((xs.length : Nat) : Int) < (xs.length : Int) by omega)
          rw [List.take_length]
          go_wp2
          go_roundw
          case rel => exact ⟨1, by omega, by go_num, by first | rfl | (simp; done), ⟨(by repeat (first | (with_reducible first | exact HB.out | apply below_alloc | apply pw_below_drewN | apply below_drew1 | apply below_drew) | exact HB.out))⟩⟩
          case measure => simp [intOf] <;> omega

    · go_wp2
      go_loopw [18, 3] (fun x y wr2 => ∃ i : Nat, i ≤ xs2.length ∧ x = .int .i64 i ∧ y = .int .i64 ((hgt xs + hgt (xs2.take i) : Nat) : Int) ∧ Aside0 (Below w.heap.size w wr2)) (fun x _ _ => xs2.length - (intOf x).toNat)
      case atStart => exact ⟨0, by omega, rfl, by first | rfl | (simp [hgt]; done), ⟨(by repeat (first | (with_reducible first | exact HB.out | apply below_alloc | apply pw_below_drewN | apply below_drew1 | apply below_drew) | exact HB.out))⟩⟩
      case round =>
        clear HB
        obtain ⟨i, hi, rfl, rfl, HB⟩ := hrel
        have hl := HL.out
        have hl2 := HL2.out
        by_cases hlt : i < xs2.length
        · have cl := decide_eq_true (show (i : Int) < (xs2.length : Int) by omega)
          have p1 : (0 ≤ (i : Int)) = True := eq_true (by omega)
          have q1 : ((i : Int) < (xs2.length : Int)) = True := eq_true (by omega)
          have hst := hgt_step xs2 i hlt
          have hle := hgt_take_le xs2 i
          have hle2 := hgt_le xs
          obtain ⟨ad0, rfl, hx⟩ := Kd.at_int (Kd.C_below HR1.out HB.out) (i : Int) (by omega) (by omega)
          (try simp only [Go.IntWalk.toNatUp] at hx)
          by_cases hz : rd xs2 (i : Int) = 0
          · have hb : (rd xs2 (i : Int) != 0) = false := by rw [hz]; rfl
            rw [hb] at hst
            go_wp2
            go_roundw
            case rel => exact ⟨i + 1, by omega, by go_num, by rw [hst]; simp, ⟨(by repeat (first | (with_reducible first | exact HB.out | apply below_alloc | apply pw_below_drewN | apply below_drew1 | apply below_drew) | exact HB.out))⟩⟩
            case measure => simp [intOf]; omega
          · have hb : (rd xs2 (i : Int) != 0) = true := bne_iff_ne.2 hz
            rw [hb, if_pos rfl] at hst
            go_wp2
            go_roundw
            case rel => exact ⟨i + 1, by omega, by go_num, by rw [hst]; go_num, ⟨(by repeat (first | (with_reducible first | exact HB.out | apply below_alloc | apply pw_below_drewN | apply below_drew1 | apply below_drew) | exact HB.out))⟩⟩
            case measure => simp [intOf]; omega
        · obtain rfl : i = xs2.length := by omega
          have cl := decide_eq_false (show ¬ ((xs2.length : Nat) : Int) < (xs2.length : Int) by omega)
          rw [List.take_length]
          go_wp2
          go_roundw
          case rel => exact ⟨2, by omega, by go_num, by first | rfl | (simp; done), ⟨(by repeat (first | (with_reducible first | exact HB.out | apply below_alloc | apply pw_below_drewN | apply below_drew1 | apply below_drew) | exact HB.out))⟩⟩
          case measure => simp [intOf] <;> omega

    · go_wp2
      go_ret
      exact ⟨by first | rfl | (simp; done), (by repeat (first | (with_reducible first | exact HB.out | apply below_alloc | apply pw_below_drewN | apply below_drew1 | apply below_drew) | exact HB.out))⟩

end Go.Proofs.Ytnjmheadmcjgcaa.WalkHeight
