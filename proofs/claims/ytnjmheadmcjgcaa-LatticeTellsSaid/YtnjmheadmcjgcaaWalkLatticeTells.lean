/- The law Tells, walked. Under no conditions beyond the statement's own. -/
import Derived.Test.YtnjmheadmcjgcaaPLatticeTellsx3
import Derived.Test.YtnjmheadmcjgcaaSwitch
import Derived.Outline
import Derived.Deep.RegionWith
import Derived.Deep.DeepCutAuto
import Derived.Test.YtnjmheadmcjgcaaWalkPairs
import Derived.Test.YtnjmheadmcjgcaaWalkSlots
import Derived.Test.YtnjmheadmcjgcaaWalkMerge
import Derived.Test.YtnjmheadmcjgcaaWalkHeight
import Derived.Test.YtnjmheadmcjgcaaWalkBase
import Derived.Test.YtnjmheadmcjgcaaWalkWorks
import Derived.Test.YtnjmheadmcjgcaaWalkOf
import Derived.Test.YtnjmheadmcjgcaaWalkLent
import Derived.Test.YtnjmheadmcjgcaaWalkRefs
import Derived.Test.YtnjmheadmcjgcaaPlainLaws
set_option linter.unusedSimpArgs false
set_option linter.unusedVariables false
namespace Go.Proofs.Ytnjmheadmcjgcaa.WalkLatticeTells
open Go.RowKit Go.Proofs.Ytnjmheadmcjgcaa.PLatticeTells Go.Proofs.YtnjmheadmcjgcaaW.PrintWords Go.Proofs.YtnjmheadmcjgcaaW.PrintLast Go.Proofs.YtnjmheadmcjgcaaW.PrintMore Go.Proofs.Ytnjmheadmcjgcaa.Switch
open Go.Proofs.Ytnjmheadmcjgcaa.WalkPairs
open Go.Proofs.Ytnjmheadmcjgcaa.WalkSlots
open Go.Proofs.Ytnjmheadmcjgcaa.WalkMerge
open Go.Proofs.Ytnjmheadmcjgcaa.WalkHeight (hgt height_c)
open Go.Proofs.Ytnjmheadmcjgcaa.WalkBase
open Go.Proofs.Ytnjmheadmcjgcaa.WalkWorks
open Go.Proofs.Ytnjmheadmcjgcaa.WalkOf
open Go.Proofs.Ytnjmheadmcjgcaa.WalkLent
open Go.Proofs.Ytnjmheadmcjgcaa.WalkRefs
theorem below_t (xs xs2 ys ys2 : List Int) (hl : xs.length ≤ 10000) (hl2 : xs2.length ≤ 10000) (A0 A1 B0 B1 : Option Addr) (c0 c1 d0 d1 : Nat) (w : World) (r : Bool) (hr : bel xs xs2 ys ys2 = r) (h0 : Rd w A0 xs) (h1 : Rd w A1 xs2) (h2 : Rd w B0 ys) (h3 : Rd w B1 ys2) :
    Calls Try.prog 13 #[.agg #[.slice A0 xs.length c0, .slice A1 xs2.length c1], .agg #[.slice B0 ys.length d0, .slice B1 ys2.length d1]] w fun e w' => e = .returned (.bool r) ∧ Below w.heap.size w w' := hr ▸ below_b xs xs2 ys ys2 hl hl2 A0 A1 B0 B1 c0 c1 d0 d1 w h0 h1 h2 h3
theorem same_t (xs xs2 ys ys2 : List Int) (hl : xs.length ≤ 10000) (hl2 : xs2.length ≤ 10000) (A0 A1 B0 B1 : Option Addr) (c0 c1 d0 d1 : Nat) (w : World) (r : Bool) (hr : sam xs xs2 ys ys2 = r) (h0 : Rd w A0 xs) (h1 : Rd w A1 xs2) (h2 : Rd w B0 ys) (h3 : Rd w B1 ys2) (k0 : xs.length ≤ c0) (k1 : xs2.length ≤ c1) (k2 : ys.length ≤ d0) (k3 : ys2.length ≤ d1) :
    Calls Try.prog 15 #[.agg #[.slice A0 xs.length c0, .slice A1 xs2.length c1], .agg #[.slice B0 ys.length d0, .slice B1 ys2.length d1]] w fun e w' => e = .returned (.bool r) ∧ Below w.heap.size w w' := hr ▸ same_b xs xs2 ys ys2 (by omega) (by omega) A0 A1 B0 B1 c0 c1 d0 d1 w h0 h1 h2 h3 k0 k1 k2 k3
theorem large_t (xs xs2 : List Int) (A0 A1 : Option Addr) (c0 c1 : Nat) (w : World) (r : Bool) (hr : decide (xs.length > 5000 ∨ xs2.length > 5000) = r) (h0 : Rd w A0 xs) (h1 : Rd w A1 xs2) (k0 : xs.length ≤ c0) (k1 : xs2.length ≤ c1) :
    Calls Try.prog 7 #[.agg #[.slice A0 xs.length c0, .slice A1 xs2.length c1]] w fun e w' => e = .returned (.bool r) ∧ Below w.heap.size w w' := hr ▸ large_b xs xs2 A0 A1 c0 c1 w h0 h1 k0 k1
theorem height_t (xs xs2 : List Int) (hl : xs.length ≤ 10000) (hl2 : xs2.length ≤ 10000) (A0 A1 : Option Addr) (c0 c1 : Nat) (w : World) (r : Int) (hr : ((hgt xs + hgt xs2 : Nat) : Int) = r) (h0 : Rd w A0 xs) (h1 : Rd w A1 xs2) :
    Calls Try.prog 17 #[.agg #[.slice A0 xs.length c0, .slice A1 xs2.length c1]] w fun e w' => e = .returned (.int .i64 r) ∧ Below w.heap.size w w' := hr ▸ height_c xs xs2 hl hl2 A0 A1 c0 c1 w h0 h1
set_option maxHeartbeats 16000000 in
set_option maxRecDepth 100000 in
theorem tells_large_a (xs xs2 ys ys2 : List Int) (qa : decide (xs.length > 5000 ∨ xs2.length > 5000) = true) (A0 A1 B0 B1 : Option Addr) (c0 c1 d0 d1 : Nat) (w : World) (ha0 : Rd w A0 xs) (ha1 : Rd w A1 xs2) (hb0 : Rd w B0 ys) (hb1 : Rd w B1 ys2) (ka0 : xs.length ≤ c0) (ka1 : xs2.length ≤ c1) (kb0 : ys.length ≤ d0) (kb1 : ys2.length ≤ d1) :
    Calls Try.prog 3 #[.agg #[.slice A0 xs.length c0, .slice A1 xs2.length c1], .agg #[.slice B0 ys.length d0, .slice B1 ys2.length d1]] w fun e w' => e = .returned (.bool true) ∧ Below w.heap.size w w' := by
  have hu24 := Try.underlying24
  have Ha0 := Aside0.mk ha0
  have Ka0 := Aside0.mk ka0
  clear ha0 ka0
  have Ha1 := Aside0.mk ha1
  have Ka1 := Aside0.mk ka1
  clear ha1 ka1
  have Hb0 := Aside0.mk hb0
  have Kb0 := Aside0.mk kb0
  clear hb0 kb0
  have Hb1 := Aside0.mk hb1
  have Kb1 := Aside0.mk kb1
  clear hb1 kb1
  have HB := Aside0.mk (Below.refl w.heap.size w)
  have Ga := Aside0.mk qa
  clear qa
  go_enter Try.func3, Try.ntmps3
  go_wp2_with (first
    | ((with_reducible refine gate_dst (N := 2) rfl ?_); refine box_event ?hg (N := 2) ?hd (cs := #[.slice A0 xs.length c0, .slice A1 xs2.length c1]) (t := 24) ?hr ?_; (case hd => rfl); (case hg => rfl); (case hr => first | (go_simp; done) | (go_simp; rfl)); intro gb1 hg_ wb1 hbox hb_; have GE1 := Aside0.mk ((by rw [hg_]; exact (below_size (by repeat (first | (with_reducible first | exact HB.out | apply below_alloc | apply pw_below_drewN | apply below_drew1 | apply below_drew) | exact HB.out)))) : w.heap.size ≤ gb1); have tHB_ := Aside0.mk (below_step (by repeat (first | (with_reducible first | exact HB.out | apply below_alloc | apply pw_below_drewN | apply below_drew1 | apply below_drew) | exact HB.out)) hb_); clear HB; have HB := tHB_; clear tHB_; have BK1 := Aside0.mk hbox; have HG1 := Aside0.mk hg_; have DB1 := Aside0.mk hb_; clear hbox hg_ hb_)
    | ((with_reducible refine gate_dst (N := 3) rfl ?_); refine box_event ?hg (N := 3) ?hd (cs := #[.slice B0 ys.length d0, .slice B1 ys2.length d1]) (t := 24) ?hr ?_; (case hd => rfl); (case hg => rfl); (case hr => first | (go_simp; done) | (go_simp; rfl)); intro gb2 hg_ wb2 hbox hb_; have GE2 := Aside0.mk ((by rw [hg_]; exact (below_size (by repeat (first | (with_reducible first | exact HB.out | apply below_alloc | apply pw_below_drewN | apply below_drew1 | apply below_drew) | exact HB.out)))) : w.heap.size ≤ gb2); have tHB_ := Aside0.mk (below_step (by repeat (first | (with_reducible first | exact HB.out | apply below_alloc | apply pw_below_drewN | apply below_drew1 | apply below_drew) | exact HB.out)) hb_); have bk2_ := Aside0.mk (blk_below (g := gb1) (o := .cells #[.slice A0 xs.length c0, .slice A1 xs2.length c1] 24 (0, 0)) (by (with_reducible repeat (first | refine blk_drewN ?_ _ | refine blk_drew ?_ | refine blk_alloc ?_ _)); exact BK1.out) hb_); clear BK1; have BK1 := bk2_; clear bk2_; clear HB; have HB := tHB_; clear tHB_; have BK2 := Aside0.mk hbox; have HG2 := Aside0.mk hg_; have DB2 := Aside0.mk hb_; clear hbox hg_ hb_; have hcz1_0 := (blk_cell BK1.out 0).trans (show (#[.slice A0 xs.length c0, .slice A1 xs2.length c1] : Array Value)[0]? = some (.slice A0 xs.length c0) from rfl); have hcz1_1 := (blk_cell BK1.out 1).trans (show (#[.slice A0 xs.length c0, .slice A1 xs2.length c1] : Array Value)[1]? = some (.slice A1 xs2.length c1) from rfl); have hcz2_0 := (blk_cell BK2.out 0).trans (show (#[.slice B0 ys.length d0, .slice B1 ys2.length d1] : Array Value)[0]? = some (.slice B0 ys.length d0) from rfl); have hcz2_1 := (blk_cell BK2.out 1).trans (show (#[.slice B0 ys.length d0, .slice B1 ys2.length d1] : Array Value)[1]? = some (.slice B1 ys2.length d1) from rfl))
    | (go_at_call 7; (with_reducible refine (large_t xs xs2 _ _ _ _ _ _ Ga.out (by repeat (first | exact (Kd.C_below Ha0.out HB.out) | (with_reducible refine Kd.C_alloc ?_ _) | (with_reducible refine Kd.C_drewN ?_ _) | (with_reducible refine Kd.C_drew ?_))) (by repeat (first | exact (Kd.C_below Ha1.out HB.out) | (with_reducible refine Kd.C_alloc ?_ _) | (with_reducible refine Kd.C_drewN ?_ _) | (with_reducible refine Kd.C_drew ?_))) Ka0.out Ka1.out).mono ?_); rintro e wc ⟨rfl, hb_⟩; have tHB_ := Aside0.mk (below_step (by repeat (first | (with_reducible first | exact HB.out | apply below_alloc | apply pw_below_drewN | apply below_drew1 | apply below_drew) | exact HB.out)) hb_); have bk2_ := Aside0.mk (blk_below (g := gb1) (o := .cells #[.slice A0 xs.length c0, .slice A1 xs2.length c1] 24 (0, 0)) (by (with_reducible repeat (first | refine blk_drewN ?_ _ | refine blk_drew ?_ | refine blk_alloc ?_ _)); exact BK1.out) hb_); clear BK1; have BK1 := bk2_; clear bk2_; have bk2_ := Aside0.mk (blk_below (g := gb2) (o := .cells #[.slice B0 ys.length d0, .slice B1 ys2.length d1] 24 (0, 0)) (by (with_reducible repeat (first | refine blk_drewN ?_ _ | refine blk_drew ?_ | refine blk_alloc ?_ _)); exact BK2.out) hb_); clear BK2; have BK2 := bk2_; clear bk2_; clear HB; have HB := tHB_; clear tHB_; (try clear hcz1_0); (try clear hcz1_1); (try clear hcz2_0); (try clear hcz2_1); have hcz1_0 := (blk_cell BK1.out 0).trans (show (#[.slice A0 xs.length c0, .slice A1 xs2.length c1] : Array Value)[0]? = some (.slice A0 xs.length c0) from rfl); have hcz1_1 := (blk_cell BK1.out 1).trans (show (#[.slice A0 xs.length c0, .slice A1 xs2.length c1] : Array Value)[1]? = some (.slice A1 xs2.length c1) from rfl); have hcz2_0 := (blk_cell BK2.out 0).trans (show (#[.slice B0 ys.length d0, .slice B1 ys2.length d1] : Array Value)[0]? = some (.slice B0 ys.length d0) from rfl); have hcz2_1 := (blk_cell BK2.out 1).trans (show (#[.slice B0 ys.length d0, .slice B1 ys2.length d1] : Array Value)[1]? = some (.slice B1 ys2.length d1) from rfl); (try clear hb_))
    | (go_at_call 8; (with_reducible refine (works_b _).mono ?_); rintro e wc ⟨rfl, hb_⟩; have tHB_ := Aside0.mk (below_step (by repeat (first | (with_reducible first | exact HB.out | apply below_alloc | apply pw_below_drewN | apply below_drew1 | apply below_drew) | exact HB.out)) hb_); have bk2_ := Aside0.mk (blk_below (g := gb1) (o := .cells #[.slice A0 xs.length c0, .slice A1 xs2.length c1] 24 (0, 0)) (by (with_reducible repeat (first | refine blk_drewN ?_ _ | refine blk_drew ?_ | refine blk_alloc ?_ _)); exact BK1.out) hb_); clear BK1; have BK1 := bk2_; clear bk2_; have bk2_ := Aside0.mk (blk_below (g := gb2) (o := .cells #[.slice B0 ys.length d0, .slice B1 ys2.length d1] 24 (0, 0)) (by (with_reducible repeat (first | refine blk_drewN ?_ _ | refine blk_drew ?_ | refine blk_alloc ?_ _)); exact BK2.out) hb_); clear BK2; have BK2 := bk2_; clear bk2_; clear HB; have HB := tHB_; clear tHB_; (try clear hcz1_0); (try clear hcz1_1); (try clear hcz2_0); (try clear hcz2_1); (try clear hb_)))
  go_ret
  exact ⟨by first | rfl | (simp; done), HB.out⟩

set_option maxHeartbeats 16000000 in
set_option maxRecDepth 100000 in
theorem tells_large_b (xs xs2 ys ys2 : List Int) (qa : decide (xs.length > 5000 ∨ xs2.length > 5000) = false) (qb : decide (ys.length > 5000 ∨ ys2.length > 5000) = true) (A0 A1 B0 B1 : Option Addr) (c0 c1 d0 d1 : Nat) (w : World) (ha0 : Rd w A0 xs) (ha1 : Rd w A1 xs2) (hb0 : Rd w B0 ys) (hb1 : Rd w B1 ys2) (ka0 : xs.length ≤ c0) (ka1 : xs2.length ≤ c1) (kb0 : ys.length ≤ d0) (kb1 : ys2.length ≤ d1) :
    Calls Try.prog 3 #[.agg #[.slice A0 xs.length c0, .slice A1 xs2.length c1], .agg #[.slice B0 ys.length d0, .slice B1 ys2.length d1]] w fun e w' => e = .returned (.bool true) ∧ Below w.heap.size w w' := by
  have hu24 := Try.underlying24
  have Ha0 := Aside0.mk ha0
  have Ka0 := Aside0.mk ka0
  clear ha0 ka0
  have Ha1 := Aside0.mk ha1
  have Ka1 := Aside0.mk ka1
  clear ha1 ka1
  have Hb0 := Aside0.mk hb0
  have Kb0 := Aside0.mk kb0
  clear hb0 kb0
  have Hb1 := Aside0.mk hb1
  have Kb1 := Aside0.mk kb1
  clear hb1 kb1
  have HB := Aside0.mk (Below.refl w.heap.size w)
  have Ga := Aside0.mk qa
  clear qa
  have Gb := Aside0.mk qb
  clear qb
  go_enter Try.func3, Try.ntmps3
  go_wp2_with (first
    | ((with_reducible refine gate_dst (N := 2) rfl ?_); refine box_event ?hg (N := 2) ?hd (cs := #[.slice A0 xs.length c0, .slice A1 xs2.length c1]) (t := 24) ?hr ?_; (case hd => rfl); (case hg => rfl); (case hr => first | (go_simp; done) | (go_simp; rfl)); intro gb1 hg_ wb1 hbox hb_; have GE1 := Aside0.mk ((by rw [hg_]; exact (below_size (by repeat (first | (with_reducible first | exact HB.out | apply below_alloc | apply pw_below_drewN | apply below_drew1 | apply below_drew) | exact HB.out)))) : w.heap.size ≤ gb1); have tHB_ := Aside0.mk (below_step (by repeat (first | (with_reducible first | exact HB.out | apply below_alloc | apply pw_below_drewN | apply below_drew1 | apply below_drew) | exact HB.out)) hb_); clear HB; have HB := tHB_; clear tHB_; have BK1 := Aside0.mk hbox; have HG1 := Aside0.mk hg_; have DB1 := Aside0.mk hb_; clear hbox hg_ hb_)
    | ((with_reducible refine gate_dst (N := 3) rfl ?_); refine box_event ?hg (N := 3) ?hd (cs := #[.slice B0 ys.length d0, .slice B1 ys2.length d1]) (t := 24) ?hr ?_; (case hd => rfl); (case hg => rfl); (case hr => first | (go_simp; done) | (go_simp; rfl)); intro gb2 hg_ wb2 hbox hb_; have GE2 := Aside0.mk ((by rw [hg_]; exact (below_size (by repeat (first | (with_reducible first | exact HB.out | apply below_alloc | apply pw_below_drewN | apply below_drew1 | apply below_drew) | exact HB.out)))) : w.heap.size ≤ gb2); have tHB_ := Aside0.mk (below_step (by repeat (first | (with_reducible first | exact HB.out | apply below_alloc | apply pw_below_drewN | apply below_drew1 | apply below_drew) | exact HB.out)) hb_); have bk2_ := Aside0.mk (blk_below (g := gb1) (o := .cells #[.slice A0 xs.length c0, .slice A1 xs2.length c1] 24 (0, 0)) (by (with_reducible repeat (first | refine blk_drewN ?_ _ | refine blk_drew ?_ | refine blk_alloc ?_ _)); exact BK1.out) hb_); clear BK1; have BK1 := bk2_; clear bk2_; clear HB; have HB := tHB_; clear tHB_; have BK2 := Aside0.mk hbox; have HG2 := Aside0.mk hg_; have DB2 := Aside0.mk hb_; clear hbox hg_ hb_; have hcz1_0 := (blk_cell BK1.out 0).trans (show (#[.slice A0 xs.length c0, .slice A1 xs2.length c1] : Array Value)[0]? = some (.slice A0 xs.length c0) from rfl); have hcz1_1 := (blk_cell BK1.out 1).trans (show (#[.slice A0 xs.length c0, .slice A1 xs2.length c1] : Array Value)[1]? = some (.slice A1 xs2.length c1) from rfl); have hcz2_0 := (blk_cell BK2.out 0).trans (show (#[.slice B0 ys.length d0, .slice B1 ys2.length d1] : Array Value)[0]? = some (.slice B0 ys.length d0) from rfl); have hcz2_1 := (blk_cell BK2.out 1).trans (show (#[.slice B0 ys.length d0, .slice B1 ys2.length d1] : Array Value)[1]? = some (.slice B1 ys2.length d1) from rfl))
    | (go_at_call 7; (with_reducible refine (large_t xs xs2 _ _ _ _ _ _ Ga.out (by repeat (first | exact (Kd.C_below Ha0.out HB.out) | (with_reducible refine Kd.C_alloc ?_ _) | (with_reducible refine Kd.C_drewN ?_ _) | (with_reducible refine Kd.C_drew ?_))) (by repeat (first | exact (Kd.C_below Ha1.out HB.out) | (with_reducible refine Kd.C_alloc ?_ _) | (with_reducible refine Kd.C_drewN ?_ _) | (with_reducible refine Kd.C_drew ?_))) Ka0.out Ka1.out).mono ?_); rintro e wc ⟨rfl, hb_⟩; have tHB_ := Aside0.mk (below_step (by repeat (first | (with_reducible first | exact HB.out | apply below_alloc | apply pw_below_drewN | apply below_drew1 | apply below_drew) | exact HB.out)) hb_); have bk2_ := Aside0.mk (blk_below (g := gb1) (o := .cells #[.slice A0 xs.length c0, .slice A1 xs2.length c1] 24 (0, 0)) (by (with_reducible repeat (first | refine blk_drewN ?_ _ | refine blk_drew ?_ | refine blk_alloc ?_ _)); exact BK1.out) hb_); clear BK1; have BK1 := bk2_; clear bk2_; have bk2_ := Aside0.mk (blk_below (g := gb2) (o := .cells #[.slice B0 ys.length d0, .slice B1 ys2.length d1] 24 (0, 0)) (by (with_reducible repeat (first | refine blk_drewN ?_ _ | refine blk_drew ?_ | refine blk_alloc ?_ _)); exact BK2.out) hb_); clear BK2; have BK2 := bk2_; clear bk2_; clear HB; have HB := tHB_; clear tHB_; (try clear hcz1_0); (try clear hcz1_1); (try clear hcz2_0); (try clear hcz2_1); have hcz1_0 := (blk_cell BK1.out 0).trans (show (#[.slice A0 xs.length c0, .slice A1 xs2.length c1] : Array Value)[0]? = some (.slice A0 xs.length c0) from rfl); have hcz1_1 := (blk_cell BK1.out 1).trans (show (#[.slice A0 xs.length c0, .slice A1 xs2.length c1] : Array Value)[1]? = some (.slice A1 xs2.length c1) from rfl); have hcz2_0 := (blk_cell BK2.out 0).trans (show (#[.slice B0 ys.length d0, .slice B1 ys2.length d1] : Array Value)[0]? = some (.slice B0 ys.length d0) from rfl); have hcz2_1 := (blk_cell BK2.out 1).trans (show (#[.slice B0 ys.length d0, .slice B1 ys2.length d1] : Array Value)[1]? = some (.slice B1 ys2.length d1) from rfl); (try clear hb_))
    | (go_at_call 7; (with_reducible refine (large_t ys ys2 _ _ _ _ _ _ Gb.out (by repeat (first | exact (Kd.C_below Hb0.out HB.out) | (with_reducible refine Kd.C_alloc ?_ _) | (with_reducible refine Kd.C_drewN ?_ _) | (with_reducible refine Kd.C_drew ?_))) (by repeat (first | exact (Kd.C_below Hb1.out HB.out) | (with_reducible refine Kd.C_alloc ?_ _) | (with_reducible refine Kd.C_drewN ?_ _) | (with_reducible refine Kd.C_drew ?_))) Kb0.out Kb1.out).mono ?_); rintro e wc ⟨rfl, hb_⟩; have tHB_ := Aside0.mk (below_step (by repeat (first | (with_reducible first | exact HB.out | apply below_alloc | apply pw_below_drewN | apply below_drew1 | apply below_drew) | exact HB.out)) hb_); have bk2_ := Aside0.mk (blk_below (g := gb1) (o := .cells #[.slice A0 xs.length c0, .slice A1 xs2.length c1] 24 (0, 0)) (by (with_reducible repeat (first | refine blk_drewN ?_ _ | refine blk_drew ?_ | refine blk_alloc ?_ _)); exact BK1.out) hb_); clear BK1; have BK1 := bk2_; clear bk2_; have bk2_ := Aside0.mk (blk_below (g := gb2) (o := .cells #[.slice B0 ys.length d0, .slice B1 ys2.length d1] 24 (0, 0)) (by (with_reducible repeat (first | refine blk_drewN ?_ _ | refine blk_drew ?_ | refine blk_alloc ?_ _)); exact BK2.out) hb_); clear BK2; have BK2 := bk2_; clear bk2_; clear HB; have HB := tHB_; clear tHB_; (try clear hcz1_0); (try clear hcz1_1); (try clear hcz2_0); (try clear hcz2_1); have hcz1_0 := (blk_cell BK1.out 0).trans (show (#[.slice A0 xs.length c0, .slice A1 xs2.length c1] : Array Value)[0]? = some (.slice A0 xs.length c0) from rfl); have hcz1_1 := (blk_cell BK1.out 1).trans (show (#[.slice A0 xs.length c0, .slice A1 xs2.length c1] : Array Value)[1]? = some (.slice A1 xs2.length c1) from rfl); have hcz2_0 := (blk_cell BK2.out 0).trans (show (#[.slice B0 ys.length d0, .slice B1 ys2.length d1] : Array Value)[0]? = some (.slice B0 ys.length d0) from rfl); have hcz2_1 := (blk_cell BK2.out 1).trans (show (#[.slice B0 ys.length d0, .slice B1 ys2.length d1] : Array Value)[1]? = some (.slice B1 ys2.length d1) from rfl); (try clear hb_))
    | (go_at_call 8; (with_reducible refine (works_b _).mono ?_); rintro e wc ⟨rfl, hb_⟩; have tHB_ := Aside0.mk (below_step (by repeat (first | (with_reducible first | exact HB.out | apply below_alloc | apply pw_below_drewN | apply below_drew1 | apply below_drew) | exact HB.out)) hb_); have bk2_ := Aside0.mk (blk_below (g := gb1) (o := .cells #[.slice A0 xs.length c0, .slice A1 xs2.length c1] 24 (0, 0)) (by (with_reducible repeat (first | refine blk_drewN ?_ _ | refine blk_drew ?_ | refine blk_alloc ?_ _)); exact BK1.out) hb_); clear BK1; have BK1 := bk2_; clear bk2_; have bk2_ := Aside0.mk (blk_below (g := gb2) (o := .cells #[.slice B0 ys.length d0, .slice B1 ys2.length d1] 24 (0, 0)) (by (with_reducible repeat (first | refine blk_drewN ?_ _ | refine blk_drew ?_ | refine blk_alloc ?_ _)); exact BK2.out) hb_); clear BK2; have BK2 := bk2_; clear bk2_; clear HB; have HB := tHB_; clear tHB_; (try clear hcz1_0); (try clear hcz1_1); (try clear hcz2_0); (try clear hcz2_1); (try clear hb_)))
  go_ret
  exact ⟨by first | rfl | (simp; done), HB.out⟩

set_option maxHeartbeats 16000000 in
set_option maxRecDepth 100000 in
theorem tells_in (xs xs2 ys ys2 : List Int) (m m2 : List Int) (k r1 r2 : Bool) (r3 : Int) (qa : decide (xs.length > 5000 ∨ xs2.length > 5000) = false) (qb : decide (ys.length > 5000 ∨ ys2.length > 5000) = false) (la0 : xs.length ≤ 10000) (la1 : xs2.length ≤ 10000) (lb0 : ys.length ≤ 10000) (lb1 : ys2.length ≤ 10000) (lm0 : m.length ≤ 10000) (lm1 : m2.length ≤ 10000) (mab : mrg xs xs2 ys ys2 = (m, m2, k)) (qab : bel xs xs2 ys ys2 = r1) (sab : sam xs xs2 ys ys2 = r2) (ta : ((hgt xs + hgt xs2 : Nat) : Int) = r3) (A0 A1 B0 B1 : Option Addr) (c0 c1 d0 d1 : Nat) (w : World) (ha0 : Rd w A0 xs) (ha1 : Rd w A1 xs2) (hb0 : Rd w B0 ys) (hb1 : Rd w B1 ys2) (ka0 : xs.length ≤ c0) (ka1 : xs2.length ≤ c1) (kb0 : ys.length ≤ d0) (kb1 : ys2.length ≤ d1) :
    Calls Try.prog 3 #[.agg #[.slice A0 xs.length c0, .slice A1 xs2.length c1], .agg #[.slice B0 ys.length d0, .slice B1 ys2.length d1]] w fun e w' => e = .returned (.bool true) ∧ Below w.heap.size w w' := by
  have hu24 := Try.underlying24
  have Ha0 := Aside0.mk ha0
  have Ka0 := Aside0.mk ka0
  clear ha0 ka0
  have Ha1 := Aside0.mk ha1
  have Ka1 := Aside0.mk ka1
  clear ha1 ka1
  have Hb0 := Aside0.mk hb0
  have Kb0 := Aside0.mk kb0
  clear hb0 kb0
  have Hb1 := Aside0.mk hb1
  have Kb1 := Aside0.mk kb1
  clear hb1 kb1
  have HB := Aside0.mk (Below.refl w.heap.size w)
  have Ga := Aside0.mk qa
  clear qa
  have Gb := Aside0.mk qb
  clear qb
  have La0 := Aside0.mk la0
  clear la0
  have La1 := Aside0.mk la1
  clear la1
  have Lb0 := Aside0.mk lb0
  clear lb0
  have Lb1 := Aside0.mk lb1
  clear lb1
  have Lm0 := Aside0.mk lm0
  clear lm0
  have Lm1 := Aside0.mk lm1
  clear lm1
  have Mab := Aside0.mk mab
  clear mab
  have Qab := Aside0.mk qab
  clear qab
  have Sab := Aside0.mk sab
  clear sab
  have Ta := Aside0.mk ta
  clear ta
  go_enter Try.func3, Try.ntmps3
  go_upto_region 3 with (first
    | ((with_reducible refine gate_dst (N := 2) rfl ?_); refine box_event ?hg (N := 2) ?hd (cs := #[.slice A0 xs.length c0, .slice A1 xs2.length c1]) (t := 24) ?hr ?_; (case hd => rfl); (case hg => rfl); (case hr => first | (go_simp; done) | (go_simp; rfl)); intro gb1 hg_ wb1 hbox hb_; have GE1 := Aside0.mk ((by rw [hg_]; exact (below_size (by repeat (first | (with_reducible first | exact HB.out | apply below_alloc | apply pw_below_drewN | apply below_drew1 | apply below_drew) | exact HB.out)))) : w.heap.size ≤ gb1); have tHB_ := Aside0.mk (below_step (by repeat (first | (with_reducible first | exact HB.out | apply below_alloc | apply pw_below_drewN | apply below_drew1 | apply below_drew) | exact HB.out)) hb_); clear HB; have HB := tHB_; clear tHB_; have BK1 := Aside0.mk hbox; have HG1 := Aside0.mk hg_; have DB1 := Aside0.mk hb_; clear hbox hg_ hb_)
    | ((with_reducible refine gate_dst (N := 3) rfl ?_); refine box_event ?hg (N := 3) ?hd (cs := #[.slice B0 ys.length d0, .slice B1 ys2.length d1]) (t := 24) ?hr ?_; (case hd => rfl); (case hg => rfl); (case hr => first | (go_simp; done) | (go_simp; rfl)); intro gb2 hg_ wb2 hbox hb_; have GE2 := Aside0.mk ((by rw [hg_]; exact (below_size (by repeat (first | (with_reducible first | exact HB.out | apply below_alloc | apply pw_below_drewN | apply below_drew1 | apply below_drew) | exact HB.out)))) : w.heap.size ≤ gb2); have tHB_ := Aside0.mk (below_step (by repeat (first | (with_reducible first | exact HB.out | apply below_alloc | apply pw_below_drewN | apply below_drew1 | apply below_drew) | exact HB.out)) hb_); have bk2_ := Aside0.mk (blk_below (g := gb1) (o := .cells #[.slice A0 xs.length c0, .slice A1 xs2.length c1] 24 (0, 0)) (by (with_reducible repeat (first | refine blk_drewN ?_ _ | refine blk_drew ?_ | refine blk_alloc ?_ _)); exact BK1.out) hb_); clear BK1; have BK1 := bk2_; clear bk2_; clear HB; have HB := tHB_; clear tHB_; have BK2 := Aside0.mk hbox; have HG2 := Aside0.mk hg_; have DB2 := Aside0.mk hb_; clear hbox hg_ hb_; have hcz1_0 := (blk_cell BK1.out 0).trans (show (#[.slice A0 xs.length c0, .slice A1 xs2.length c1] : Array Value)[0]? = some (.slice A0 xs.length c0) from rfl); have hcz1_1 := (blk_cell BK1.out 1).trans (show (#[.slice A0 xs.length c0, .slice A1 xs2.length c1] : Array Value)[1]? = some (.slice A1 xs2.length c1) from rfl); have hcz2_0 := (blk_cell BK2.out 0).trans (show (#[.slice B0 ys.length d0, .slice B1 ys2.length d1] : Array Value)[0]? = some (.slice B0 ys.length d0) from rfl); have hcz2_1 := (blk_cell BK2.out 1).trans (show (#[.slice B0 ys.length d0, .slice B1 ys2.length d1] : Array Value)[1]? = some (.slice B1 ys2.length d1) from rfl))
    | (go_at_call 7; (with_reducible refine (large_t xs xs2 _ _ _ _ _ _ Ga.out (by repeat (first | exact (Kd.C_below Ha0.out HB.out) | (with_reducible refine Kd.C_alloc ?_ _) | (with_reducible refine Kd.C_drewN ?_ _) | (with_reducible refine Kd.C_drew ?_))) (by repeat (first | exact (Kd.C_below Ha1.out HB.out) | (with_reducible refine Kd.C_alloc ?_ _) | (with_reducible refine Kd.C_drewN ?_ _) | (with_reducible refine Kd.C_drew ?_))) Ka0.out Ka1.out).mono ?_); rintro e wc ⟨rfl, hb_⟩; have tHB_ := Aside0.mk (below_step (by repeat (first | (with_reducible first | exact HB.out | apply below_alloc | apply pw_below_drewN | apply below_drew1 | apply below_drew) | exact HB.out)) hb_); have bk2_ := Aside0.mk (blk_below (g := gb1) (o := .cells #[.slice A0 xs.length c0, .slice A1 xs2.length c1] 24 (0, 0)) (by (with_reducible repeat (first | refine blk_drewN ?_ _ | refine blk_drew ?_ | refine blk_alloc ?_ _)); exact BK1.out) hb_); clear BK1; have BK1 := bk2_; clear bk2_; have bk2_ := Aside0.mk (blk_below (g := gb2) (o := .cells #[.slice B0 ys.length d0, .slice B1 ys2.length d1] 24 (0, 0)) (by (with_reducible repeat (first | refine blk_drewN ?_ _ | refine blk_drew ?_ | refine blk_alloc ?_ _)); exact BK2.out) hb_); clear BK2; have BK2 := bk2_; clear bk2_; clear HB; have HB := tHB_; clear tHB_; (try clear hcz1_0); (try clear hcz1_1); (try clear hcz2_0); (try clear hcz2_1); have hcz1_0 := (blk_cell BK1.out 0).trans (show (#[.slice A0 xs.length c0, .slice A1 xs2.length c1] : Array Value)[0]? = some (.slice A0 xs.length c0) from rfl); have hcz1_1 := (blk_cell BK1.out 1).trans (show (#[.slice A0 xs.length c0, .slice A1 xs2.length c1] : Array Value)[1]? = some (.slice A1 xs2.length c1) from rfl); have hcz2_0 := (blk_cell BK2.out 0).trans (show (#[.slice B0 ys.length d0, .slice B1 ys2.length d1] : Array Value)[0]? = some (.slice B0 ys.length d0) from rfl); have hcz2_1 := (blk_cell BK2.out 1).trans (show (#[.slice B0 ys.length d0, .slice B1 ys2.length d1] : Array Value)[1]? = some (.slice B1 ys2.length d1) from rfl); (try clear hb_))
    | (go_at_call 7; (with_reducible refine (large_t ys ys2 _ _ _ _ _ _ Gb.out (by repeat (first | exact (Kd.C_below Hb0.out HB.out) | (with_reducible refine Kd.C_alloc ?_ _) | (with_reducible refine Kd.C_drewN ?_ _) | (with_reducible refine Kd.C_drew ?_))) (by repeat (first | exact (Kd.C_below Hb1.out HB.out) | (with_reducible refine Kd.C_alloc ?_ _) | (with_reducible refine Kd.C_drewN ?_ _) | (with_reducible refine Kd.C_drew ?_))) Kb0.out Kb1.out).mono ?_); rintro e wc ⟨rfl, hb_⟩; have tHB_ := Aside0.mk (below_step (by repeat (first | (with_reducible first | exact HB.out | apply below_alloc | apply pw_below_drewN | apply below_drew1 | apply below_drew) | exact HB.out)) hb_); have bk2_ := Aside0.mk (blk_below (g := gb1) (o := .cells #[.slice A0 xs.length c0, .slice A1 xs2.length c1] 24 (0, 0)) (by (with_reducible repeat (first | refine blk_drewN ?_ _ | refine blk_drew ?_ | refine blk_alloc ?_ _)); exact BK1.out) hb_); clear BK1; have BK1 := bk2_; clear bk2_; have bk2_ := Aside0.mk (blk_below (g := gb2) (o := .cells #[.slice B0 ys.length d0, .slice B1 ys2.length d1] 24 (0, 0)) (by (with_reducible repeat (first | refine blk_drewN ?_ _ | refine blk_drew ?_ | refine blk_alloc ?_ _)); exact BK2.out) hb_); clear BK2; have BK2 := bk2_; clear bk2_; clear HB; have HB := tHB_; clear tHB_; (try clear hcz1_0); (try clear hcz1_1); (try clear hcz2_0); (try clear hcz2_1); have hcz1_0 := (blk_cell BK1.out 0).trans (show (#[.slice A0 xs.length c0, .slice A1 xs2.length c1] : Array Value)[0]? = some (.slice A0 xs.length c0) from rfl); have hcz1_1 := (blk_cell BK1.out 1).trans (show (#[.slice A0 xs.length c0, .slice A1 xs2.length c1] : Array Value)[1]? = some (.slice A1 xs2.length c1) from rfl); have hcz2_0 := (blk_cell BK2.out 0).trans (show (#[.slice B0 ys.length d0, .slice B1 ys2.length d1] : Array Value)[0]? = some (.slice B0 ys.length d0) from rfl); have hcz2_1 := (blk_cell BK2.out 1).trans (show (#[.slice B0 ys.length d0, .slice B1 ys2.length d1] : Array Value)[1]? = some (.slice B1 ys2.length d1) from rfl); (try clear hb_)))
  (try clear hcz1_0)
  (try clear hcz1_1)
  (try clear hcz2_0)
  (try clear hcz2_1)
  clear GE1 GE2 HG1 HG2 DB1 DB2
  refine startB_ (n := 8) #[false, false, false, false, false, false, false, false] (by kernel_rfl) rfl rfl (fun W0 D0 => ?_)
  have T1 := Aside0.mk (blk_below BK1.out D0)
  have T2 := Aside0.mk (blk_below BK2.out D0)
  have T3 := Aside0.mk (below_step HB.out D0)
  clear BK1 BK2 HB
  have BK1 := T1; have BK2 := T2; have HB := T3; clear T1 T2 T3 D0
  have HS := Aside0.mk (below_size HB.out)
  have E := Aside0.mk (Below.refl W0.heap.size W0)
  have N1 := blk_lt BK1.out
  have N2 := blk_lt BK2.out
  refine take_ (i := 0) (N := some 20) (v := ?_) (a' := ?_) #[true, false, false, false, false, false, false, false] rfl rfl (by kernel_rfl) (fun _ _ _ h => h) (Or.inl ⟨by rfl, ?_⟩) (Below.refl _ _) ?_ ?_
  rotate_left
  · intro w' hS
    have hy0 := (blk_cell (blk_below BK1.out hS) 0).trans (show (#[.slice A0 xs.length c0, .slice A1 xs2.length c1] : Array Value)[0]? = some (.slice A0 xs.length c0) from rfl)
    have hy1 := (blk_cell (blk_below BK1.out hS) 1).trans (show (#[.slice A0 xs.length c0, .slice A1 xs2.length c1] : Array Value)[1]? = some (.slice A1 xs2.length c1) from rfl)
    go_simp
    with_reducible rfl
  rotate_left
  · simp only [Act.put, List.setIfInBounds_toArray, List.set_cons_zero, List.set_cons_succ, i64_w, i32_w]
    rfl
  refine take_ (i := 2) (N := some 22) (v := ?_) (a' := ?_) #[true, false, true, false, false, false, false, false] rfl rfl (by kernel_rfl) (fun _ _ _ h => h) (Or.inl ⟨by rfl, ?_⟩) (Below.refl _ _) ?_ ?_
  rotate_left
  · intro w' hS
    have hy0 := (blk_cell (blk_below BK2.out hS) 0).trans (show (#[.slice B0 ys.length d0, .slice B1 ys2.length d1] : Array Value)[0]? = some (.slice B0 ys.length d0) from rfl)
    have hy1 := (blk_cell (blk_below BK2.out hS) 1).trans (show (#[.slice B0 ys.length d0, .slice B1 ys2.length d1] : Array Value)[1]? = some (.slice B1 ys2.length d1) from rfl)
    go_simp
    with_reducible rfl
  rotate_left
  · simp only [Act.put, List.setIfInBounds_toArray, List.set_cons_zero, List.set_cons_succ, i64_w, i32_w]
    rfl
  refine join_ (σ := Nat × Nat × (Option Addr × Option Addr × Nat × Nat) × (Option Addr × Option Addr × Nat × Nat)) 2 #[true, true, true, true, true, true, false, false] (fun s => [(21, .agg #[.slice s.2.2.1.1 xs.length s.2.2.1.2.2.1, .slice s.2.2.1.2.1 xs2.length s.2.2.1.2.2.2]), (23, .agg #[.slice s.2.2.2.1 ys.length s.2.2.2.2.2.1, .slice s.2.2.2.2.1 ys2.length s.2.2.2.2.2.2]), (5, .pointer (some ⟨s.1, 0, none⟩)), (6, .pointer (some ⟨s.2.1, 0, none⟩))]) (fun s w' => Below w.heap.size w w' ∧ Below W0.heap.size W0 w' ∧ w'.heap[gb1]? = some (.cells #[.slice A0 xs.length c0, .slice A1 xs2.length c1] 24 (0, 0)) ∧ w'.heap[gb2]? = some (.cells #[.slice B0 ys.length d0, .slice B1 ys2.length d1] 24 (0, 0)) ∧ w'.heap[s.1]? = some (.cells #[.slice none 0 0, .slice none 0 0] 24 (0, 0)) ∧ w'.heap[s.2.1]? = some (.cells #[.slice none 0 0, .slice none 0 0] 24 (0, 0)) ∧ s.1 ≠ s.2.1 ∧ W0.heap.size ≤ s.1 ∧ W0.heap.size ≤ s.2.1 ∧ xs.length + 3 ≤ s.2.2.1.2.2.1 ∧ xs2.length + 3 ≤ s.2.2.1.2.2.2 ∧ ys.length + 3 ≤ s.2.2.2.2.2.1 ∧ ys2.length + 3 ≤ s.2.2.2.2.2.2 ∧ Kd.R (Kd.int .i64) 3 w' w.heap.size (fun _ => True) (.slice s.2.2.1.1 (xs.length + 3) s.2.2.1.2.2.1) (mk xs 3) ∧ Kd.R (Kd.int .i64) 3 w' w.heap.size (fun _ => True) (.slice s.2.2.1.2.1 (xs2.length + 3) s.2.2.1.2.2.2) (mk xs2 3) ∧ Kd.R (Kd.int .i64) 3 w' w.heap.size (fun _ => True) (.slice s.2.2.2.1 (ys.length + 3) s.2.2.2.2.2.1) (mk ys 3) ∧ Kd.R (Kd.int .i64) 3 w' w.heap.size (fun _ => True) (.slice s.2.2.2.2.1 (ys2.length + 3) s.2.2.2.2.2.2) (mk ys2 3)) ?_ ?_
  rotate_left
  · intro hCont
    refine three_ (i := 1) (j := 4) (k := 5) (Ni := some 21) (Nj := some 5) (Nk := some 6) #[true, true, true, false, false, false, false, false] #[true, false, true, false, true, false, false, false] #[true, false, true, false, false, true, false, false] rfl rfl rfl rfl rfl rfl (by kernel_rfl) (by decide) (by decide) (by decide) (fun K hK => ?_) (fun K hK => ?_) (fun K hK => ?_)
    · skip
      refine goes_ Try.func9 (by kernel_rfl) rfl #[.agg #[.slice A0 xs.length c0, .slice A1 xs2.length c1]] (by rfl) rfl rfl (by (try simp only [List.map_toArray, List.map_cons, List.map_nil]); first | done | rfl) ?_
      with_reducible refine (lent_f xs xs2 La0.out La1.out _ _ _ _ _ (Kd.C_below Ha0.out HB.out) (Kd.C_below Ha1.out HB.out)).mono ?_
      rintro e V1 ⟨X0, X1, x0, x1, rfl, kx0, kx1, r0, r1, D1⟩
      refine ⟨_, rfl, ?_⟩
      have RX0 := Aside0.mk (Kd.R_lower r0 (below_size HB.out)); have RX1 := Aside0.mk (Kd.R_lower r1 (below_size HB.out)); clear r0 r1
      have HB_ := Aside0.mk (below_step HB.out D1); clear HB; have HB := HB_; clear HB_
      have E_ := Aside0.mk (below_step E.out D1); clear E; have E := E_; clear E_
      have t_ := Aside0.mk (blk_below BK1.out D1); clear BK1; have BK1 := t_; clear t_
      have t_ := Aside0.mk (blk_below BK2.out D1); clear BK2; have BK2 := t_; clear t_
      refine hK.out _ _ E.out (fun hHeld => ?_)
      clear hK K
      refine norm_ (a' := ?_) ?_ ?_
      rotate_left
      · show Act.put _ (some 21) _ = _
        simp only [Act.put, List.setIfInBounds_toArray, List.set_cons_zero, List.set_cons_succ, i64_w, i32_w]
        rfl
      refine three_ (i := 3) (j := 4) (k := 5) (Ni := some 23) (Nj := some 5) (Nk := some 6) #[true, true, true, true, false, false, false, false] #[true, true, true, false, true, false, false, false] #[true, true, true, false, false, true, false, false] rfl rfl rfl rfl rfl rfl (by kernel_rfl) (by decide) (by decide) (by decide) (fun K hK => ?_) (fun K hK => ?_) (fun K hK => ?_)
      · skip
        refine goes_ Try.func9 (by kernel_rfl) rfl #[.agg #[.slice B0 ys.length d0, .slice B1 ys2.length d1]] (by rfl) rfl rfl (by (try simp only [List.map_toArray, List.map_cons, List.map_nil]); first | done | rfl) ?_
        with_reducible refine (lent_f ys ys2 Lb0.out Lb1.out _ _ _ _ _ (Kd.C_below Hb0.out HB.out) (Kd.C_below Hb1.out HB.out)).mono ?_
        rintro e V2 ⟨Y0, Y1, y0, y1, rfl, ky0, ky1, r0, r1, D2⟩
        refine ⟨_, rfl, ?_⟩
        have RY0 := Aside0.mk (Kd.R_lower r0 (below_size HB.out)); have RY1 := Aside0.mk (Kd.R_lower r1 (below_size HB.out)); clear r0 r1
        have HB_ := Aside0.mk (below_step HB.out D2); clear HB; have HB := HB_; clear HB_
        have E_ := Aside0.mk (below_step E.out D2); clear E; have E := E_; clear E_
        have t_ := Aside0.mk (blk_below BK1.out D2); clear BK1; have BK1 := t_; clear t_
        have t_ := Aside0.mk (blk_below BK2.out D2); clear BK2; have BK2 := t_; clear t_
        have t_ := Aside0.mk (Kd.R_below RX0.out D2); clear RX0; have RX0 := t_; clear t_
        have t_ := Aside0.mk (Kd.R_below RX1.out D2); clear RX1; have RX1 := t_; clear t_
        refine hK.out _ _ E.out (fun hHeld => ?_)
        clear hK K
        refine norm_ (a' := ?_) ?_ ?_
        rotate_left
        · show Act.put _ (some 23) _ = _
          simp only [Act.put, List.setIfInBounds_toArray, List.set_cons_zero, List.set_cons_succ, i64_w, i32_w]
          rfl
        refine two_ (i := 4) (j := 5) (Ni := some 5) (Nj := some 6) #[true, true, true, true, true, false, false, false] #[true, true, true, true, false, true, false, false] rfl rfl rfl rfl (by kernel_rfl) (by decide) (by decide) (fun K hK => ?_) (fun K hK => ?_)
        · skip
          refine value_ (w1 := ?_) (v := ?_) (by rfl) rfl ?_ ?_
          rotate_left 2
          · go_simp
            constructor
            · rfl
            · rfl
          obtain ⟨g5, hg⟩ : ∃ g, g = V2.heap.size := ⟨_, rfl⟩
          have D3 := below_alloc (Below.refl _ V2) (.cells #[.slice none 0 0, .slice none 0 0] 24 (0, 0))
          have b_ := blk_new V2 (.cells #[.slice none 0 0, .slice none 0 0] 24 (0, 0))
          have G5 : W0.heap.size ≤ g5 := by rw [hg]; exact below_size E.out
          rw [← hg] at b_
          rw [← hg]
          clear hg
          have HB_ := Aside0.mk (below_step HB.out D3); clear HB; have HB := HB_; clear HB_
          have E_ := Aside0.mk (below_step E.out D3); clear E; have E := E_; clear E_
          have t_ := Aside0.mk (blk_below BK1.out D3); clear BK1; have BK1 := t_; clear t_
          have t_ := Aside0.mk (blk_below BK2.out D3); clear BK2; have BK2 := t_; clear t_
          have t_ := Aside0.mk (Kd.R_below RX0.out D3); clear RX0; have RX0 := t_; clear t_
          have t_ := Aside0.mk (Kd.R_below RX1.out D3); clear RX1; have RX1 := t_; clear t_
          have t_ := Aside0.mk (Kd.R_below RY0.out D3); clear RY0; have RY0 := t_; clear t_
          have t_ := Aside0.mk (Kd.R_below RY1.out D3); clear RY1; have RY1 := t_; clear t_
          generalize V2.alloc (.cells #[.slice none 0 0, .slice none 0 0] 24 (0, 0)) = V3 at *
          have B5 := Aside0.mk b_; clear b_
          refine hK.out _ _ E.out (fun hHeld => ?_)
          clear hK K
          refine norm_ (a' := ?_) ?_ ?_
          rotate_left
          · show Act.put _ (some 5) _ = _
            simp only [Act.put, List.setIfInBounds_toArray, List.set_cons_zero, List.set_cons_succ, i64_w, i32_w]
            rfl
          refine one_ (i := 5) (N := some 6) #[true, true, true, true, true, true, false, false] rfl rfl (by kernel_rfl) (by decide) (fun K hK => ?_)
          refine value_ (w1 := ?_) (v := ?_) (by rfl) rfl ?_ ?_
          rotate_left 2
          · go_simp
            constructor
            · rfl
            · rfl
          obtain ⟨g6, hg⟩ : ∃ g, g = V3.heap.size := ⟨_, rfl⟩
          have D4 := below_alloc (Below.refl _ V3) (.cells #[.slice none 0 0, .slice none 0 0] 24 (0, 0))
          have b_ := blk_new V3 (.cells #[.slice none 0 0, .slice none 0 0] 24 (0, 0))
          have G6 : W0.heap.size ≤ g6 := by rw [hg]; exact below_size E.out
          have NE : g5 ≠ g6 := by rw [hg]; exact Nat.ne_of_lt (blk_lt B5.out)
          rw [← hg] at b_
          rw [← hg]
          clear hg
          have HB_ := Aside0.mk (below_step HB.out D4); clear HB; have HB := HB_; clear HB_
          have E_ := Aside0.mk (below_step E.out D4); clear E; have E := E_; clear E_
          have t_ := Aside0.mk (blk_below BK1.out D4); clear BK1; have BK1 := t_; clear t_
          have t_ := Aside0.mk (blk_below BK2.out D4); clear BK2; have BK2 := t_; clear t_
          have t_ := Aside0.mk (blk_below B5.out D4); clear B5; have B5 := t_; clear t_
          have t_ := Aside0.mk (Kd.R_below RX0.out D4); clear RX0; have RX0 := t_; clear t_
          have t_ := Aside0.mk (Kd.R_below RX1.out D4); clear RX1; have RX1 := t_; clear t_
          have t_ := Aside0.mk (Kd.R_below RY0.out D4); clear RY0; have RY0 := t_; clear t_
          have t_ := Aside0.mk (Kd.R_below RY1.out D4); clear RY1; have RY1 := t_; clear t_
          generalize V3.alloc (.cells #[.slice none 0 0, .slice none 0 0] 24 (0, 0)) = V4 at *
          have B6 := Aside0.mk b_; clear b_
          refine hK.out _ _ E.out (fun hHeld => ?_)
          clear hK K
          refine norm_ (a' := ?_) ?_ ?_
          rotate_left
          · show Act.put _ (some 6) _ = _
            simp only [Act.put, List.setIfInBounds_toArray, List.set_cons_zero, List.set_cons_succ, i64_w, i32_w]
            rfl
          exact norm_ (by first | (simp only [putAll, Act.put, List.setIfInBounds_toArray, List.set_cons_zero, List.set_cons_succ]; done) | (simp only [putAll, Act.put, List.setIfInBounds_toArray, List.set_cons_zero, List.set_cons_succ]; rfl)) (hCont ⟨g5, g6, ⟨X0, X1, x0, x1⟩, Y0, Y1, y0, y1⟩ _ ⟨HB.out, E.out, BK1.out, BK2.out, B5.out, B6.out, NE, G5, G6, kx0, kx1, ky0, ky1, RX0.out, RX1.out, RY0.out, RY1.out⟩)
        · skip
          refine value_ (w1 := ?_) (v := ?_) (by rfl) rfl ?_ ?_
          rotate_left 2
          · go_simp
            constructor
            · rfl
            · rfl
          obtain ⟨g6, hg⟩ : ∃ g, g = V2.heap.size := ⟨_, rfl⟩
          have D3 := below_alloc (Below.refl _ V2) (.cells #[.slice none 0 0, .slice none 0 0] 24 (0, 0))
          have b_ := blk_new V2 (.cells #[.slice none 0 0, .slice none 0 0] 24 (0, 0))
          have G6 : W0.heap.size ≤ g6 := by rw [hg]; exact below_size E.out
          rw [← hg] at b_
          rw [← hg]
          clear hg
          have HB_ := Aside0.mk (below_step HB.out D3); clear HB; have HB := HB_; clear HB_
          have E_ := Aside0.mk (below_step E.out D3); clear E; have E := E_; clear E_
          have t_ := Aside0.mk (blk_below BK1.out D3); clear BK1; have BK1 := t_; clear t_
          have t_ := Aside0.mk (blk_below BK2.out D3); clear BK2; have BK2 := t_; clear t_
          have t_ := Aside0.mk (Kd.R_below RX0.out D3); clear RX0; have RX0 := t_; clear t_
          have t_ := Aside0.mk (Kd.R_below RX1.out D3); clear RX1; have RX1 := t_; clear t_
          have t_ := Aside0.mk (Kd.R_below RY0.out D3); clear RY0; have RY0 := t_; clear t_
          have t_ := Aside0.mk (Kd.R_below RY1.out D3); clear RY1; have RY1 := t_; clear t_
          generalize V2.alloc (.cells #[.slice none 0 0, .slice none 0 0] 24 (0, 0)) = V3 at *
          have B6 := Aside0.mk b_; clear b_
          refine hK.out _ _ E.out (fun hHeld => ?_)
          clear hK K
          refine norm_ (a' := ?_) ?_ ?_
          rotate_left
          · show Act.put _ (some 6) _ = _
            simp only [Act.put, List.setIfInBounds_toArray, List.set_cons_zero, List.set_cons_succ, i64_w, i32_w]
            rfl
          refine one_ (i := 4) (N := some 5) #[true, true, true, true, true, true, false, false] rfl rfl (by kernel_rfl) (by decide) (fun K hK => ?_)
          refine value_ (w1 := ?_) (v := ?_) (by rfl) rfl ?_ ?_
          rotate_left 2
          · go_simp
            constructor
            · rfl
            · rfl
          obtain ⟨g5, hg⟩ : ∃ g, g = V3.heap.size := ⟨_, rfl⟩
          have D4 := below_alloc (Below.refl _ V3) (.cells #[.slice none 0 0, .slice none 0 0] 24 (0, 0))
          have b_ := blk_new V3 (.cells #[.slice none 0 0, .slice none 0 0] 24 (0, 0))
          have G5 : W0.heap.size ≤ g5 := by rw [hg]; exact below_size E.out
          have NE : g5 ≠ g6 := by rw [hg]; exact (Nat.ne_of_lt (blk_lt B6.out)).symm
          rw [← hg] at b_
          rw [← hg]
          clear hg
          have HB_ := Aside0.mk (below_step HB.out D4); clear HB; have HB := HB_; clear HB_
          have E_ := Aside0.mk (below_step E.out D4); clear E; have E := E_; clear E_
          have t_ := Aside0.mk (blk_below BK1.out D4); clear BK1; have BK1 := t_; clear t_
          have t_ := Aside0.mk (blk_below BK2.out D4); clear BK2; have BK2 := t_; clear t_
          have t_ := Aside0.mk (blk_below B6.out D4); clear B6; have B6 := t_; clear t_
          have t_ := Aside0.mk (Kd.R_below RX0.out D4); clear RX0; have RX0 := t_; clear t_
          have t_ := Aside0.mk (Kd.R_below RX1.out D4); clear RX1; have RX1 := t_; clear t_
          have t_ := Aside0.mk (Kd.R_below RY0.out D4); clear RY0; have RY0 := t_; clear t_
          have t_ := Aside0.mk (Kd.R_below RY1.out D4); clear RY1; have RY1 := t_; clear t_
          generalize V3.alloc (.cells #[.slice none 0 0, .slice none 0 0] 24 (0, 0)) = V4 at *
          have B5 := Aside0.mk b_; clear b_
          refine hK.out _ _ E.out (fun hHeld => ?_)
          clear hK K
          refine norm_ (a' := ?_) ?_ ?_
          rotate_left
          · show Act.put _ (some 5) _ = _
            simp only [Act.put, List.setIfInBounds_toArray, List.set_cons_zero, List.set_cons_succ, i64_w, i32_w]
            rfl
          exact norm_ (by first | (simp only [putAll, Act.put, List.setIfInBounds_toArray, List.set_cons_zero, List.set_cons_succ]; done) | (simp only [putAll, Act.put, List.setIfInBounds_toArray, List.set_cons_zero, List.set_cons_succ]; rfl)) (hCont ⟨g5, g6, ⟨X0, X1, x0, x1⟩, Y0, Y1, y0, y1⟩ _ ⟨HB.out, E.out, BK1.out, BK2.out, B5.out, B6.out, NE, G5, G6, kx0, kx1, ky0, ky1, RX0.out, RX1.out, RY0.out, RY1.out⟩)
      · skip
        refine value_ (w1 := ?_) (v := ?_) (by rfl) rfl ?_ ?_
        rotate_left 2
        · go_simp
          constructor
          · rfl
          · rfl
        obtain ⟨g5, hg⟩ : ∃ g, g = V1.heap.size := ⟨_, rfl⟩
        have D2 := below_alloc (Below.refl _ V1) (.cells #[.slice none 0 0, .slice none 0 0] 24 (0, 0))
        have b_ := blk_new V1 (.cells #[.slice none 0 0, .slice none 0 0] 24 (0, 0))
        have G5 : W0.heap.size ≤ g5 := by rw [hg]; exact below_size E.out
        rw [← hg] at b_
        rw [← hg]
        clear hg
        have HB_ := Aside0.mk (below_step HB.out D2); clear HB; have HB := HB_; clear HB_
        have E_ := Aside0.mk (below_step E.out D2); clear E; have E := E_; clear E_
        have t_ := Aside0.mk (blk_below BK1.out D2); clear BK1; have BK1 := t_; clear t_
        have t_ := Aside0.mk (blk_below BK2.out D2); clear BK2; have BK2 := t_; clear t_
        have t_ := Aside0.mk (Kd.R_below RX0.out D2); clear RX0; have RX0 := t_; clear t_
        have t_ := Aside0.mk (Kd.R_below RX1.out D2); clear RX1; have RX1 := t_; clear t_
        generalize V1.alloc (.cells #[.slice none 0 0, .slice none 0 0] 24 (0, 0)) = V2 at *
        have B5 := Aside0.mk b_; clear b_
        refine hK.out _ _ E.out (fun hHeld => ?_)
        clear hK K
        refine norm_ (a' := ?_) ?_ ?_
        rotate_left
        · show Act.put _ (some 5) _ = _
          simp only [Act.put, List.setIfInBounds_toArray, List.set_cons_zero, List.set_cons_succ, i64_w, i32_w]
          rfl
        refine two_ (i := 3) (j := 5) (Ni := some 23) (Nj := some 6) #[true, true, true, true, true, false, false, false] #[true, true, true, false, true, true, false, false] rfl rfl rfl rfl (by kernel_rfl) (by decide) (by decide) (fun K hK => ?_) (fun K hK => ?_)
        · skip
          refine goes_ Try.func9 (by kernel_rfl) rfl #[.agg #[.slice B0 ys.length d0, .slice B1 ys2.length d1]] (by rfl) rfl rfl (by (try simp only [List.map_toArray, List.map_cons, List.map_nil]); first | done | rfl) ?_
          with_reducible refine (lent_f ys ys2 Lb0.out Lb1.out _ _ _ _ _ (Kd.C_below Hb0.out HB.out) (Kd.C_below Hb1.out HB.out)).mono ?_
          rintro e V3 ⟨Y0, Y1, y0, y1, rfl, ky0, ky1, r0, r1, D3⟩
          refine ⟨_, rfl, ?_⟩
          have RY0 := Aside0.mk (Kd.R_lower r0 (below_size HB.out)); have RY1 := Aside0.mk (Kd.R_lower r1 (below_size HB.out)); clear r0 r1
          have HB_ := Aside0.mk (below_step HB.out D3); clear HB; have HB := HB_; clear HB_
          have E_ := Aside0.mk (below_step E.out D3); clear E; have E := E_; clear E_
          have t_ := Aside0.mk (blk_below BK1.out D3); clear BK1; have BK1 := t_; clear t_
          have t_ := Aside0.mk (blk_below BK2.out D3); clear BK2; have BK2 := t_; clear t_
          have t_ := Aside0.mk (blk_below B5.out D3); clear B5; have B5 := t_; clear t_
          have t_ := Aside0.mk (Kd.R_below RX0.out D3); clear RX0; have RX0 := t_; clear t_
          have t_ := Aside0.mk (Kd.R_below RX1.out D3); clear RX1; have RX1 := t_; clear t_
          refine hK.out _ _ E.out (fun hHeld => ?_)
          clear hK K
          refine norm_ (a' := ?_) ?_ ?_
          rotate_left
          · show Act.put _ (some 23) _ = _
            simp only [Act.put, List.setIfInBounds_toArray, List.set_cons_zero, List.set_cons_succ, i64_w, i32_w]
            rfl
          refine one_ (i := 5) (N := some 6) #[true, true, true, true, true, true, false, false] rfl rfl (by kernel_rfl) (by decide) (fun K hK => ?_)
          refine value_ (w1 := ?_) (v := ?_) (by rfl) rfl ?_ ?_
          rotate_left 2
          · go_simp
            constructor
            · rfl
            · rfl
          obtain ⟨g6, hg⟩ : ∃ g, g = V3.heap.size := ⟨_, rfl⟩
          have D4 := below_alloc (Below.refl _ V3) (.cells #[.slice none 0 0, .slice none 0 0] 24 (0, 0))
          have b_ := blk_new V3 (.cells #[.slice none 0 0, .slice none 0 0] 24 (0, 0))
          have G6 : W0.heap.size ≤ g6 := by rw [hg]; exact below_size E.out
          have NE : g5 ≠ g6 := by rw [hg]; exact Nat.ne_of_lt (blk_lt B5.out)
          rw [← hg] at b_
          rw [← hg]
          clear hg
          have HB_ := Aside0.mk (below_step HB.out D4); clear HB; have HB := HB_; clear HB_
          have E_ := Aside0.mk (below_step E.out D4); clear E; have E := E_; clear E_
          have t_ := Aside0.mk (blk_below BK1.out D4); clear BK1; have BK1 := t_; clear t_
          have t_ := Aside0.mk (blk_below BK2.out D4); clear BK2; have BK2 := t_; clear t_
          have t_ := Aside0.mk (blk_below B5.out D4); clear B5; have B5 := t_; clear t_
          have t_ := Aside0.mk (Kd.R_below RX0.out D4); clear RX0; have RX0 := t_; clear t_
          have t_ := Aside0.mk (Kd.R_below RX1.out D4); clear RX1; have RX1 := t_; clear t_
          have t_ := Aside0.mk (Kd.R_below RY0.out D4); clear RY0; have RY0 := t_; clear t_
          have t_ := Aside0.mk (Kd.R_below RY1.out D4); clear RY1; have RY1 := t_; clear t_
          generalize V3.alloc (.cells #[.slice none 0 0, .slice none 0 0] 24 (0, 0)) = V4 at *
          have B6 := Aside0.mk b_; clear b_
          refine hK.out _ _ E.out (fun hHeld => ?_)
          clear hK K
          refine norm_ (a' := ?_) ?_ ?_
          rotate_left
          · show Act.put _ (some 6) _ = _
            simp only [Act.put, List.setIfInBounds_toArray, List.set_cons_zero, List.set_cons_succ, i64_w, i32_w]
            rfl
          exact norm_ (by first | (simp only [putAll, Act.put, List.setIfInBounds_toArray, List.set_cons_zero, List.set_cons_succ]; done) | (simp only [putAll, Act.put, List.setIfInBounds_toArray, List.set_cons_zero, List.set_cons_succ]; rfl)) (hCont ⟨g5, g6, ⟨X0, X1, x0, x1⟩, Y0, Y1, y0, y1⟩ _ ⟨HB.out, E.out, BK1.out, BK2.out, B5.out, B6.out, NE, G5, G6, kx0, kx1, ky0, ky1, RX0.out, RX1.out, RY0.out, RY1.out⟩)
        · skip
          refine value_ (w1 := ?_) (v := ?_) (by rfl) rfl ?_ ?_
          rotate_left 2
          · go_simp
            constructor
            · rfl
            · rfl
          obtain ⟨g6, hg⟩ : ∃ g, g = V2.heap.size := ⟨_, rfl⟩
          have D3 := below_alloc (Below.refl _ V2) (.cells #[.slice none 0 0, .slice none 0 0] 24 (0, 0))
          have b_ := blk_new V2 (.cells #[.slice none 0 0, .slice none 0 0] 24 (0, 0))
          have G6 : W0.heap.size ≤ g6 := by rw [hg]; exact below_size E.out
          have NE : g5 ≠ g6 := by rw [hg]; exact Nat.ne_of_lt (blk_lt B5.out)
          rw [← hg] at b_
          rw [← hg]
          clear hg
          have HB_ := Aside0.mk (below_step HB.out D3); clear HB; have HB := HB_; clear HB_
          have E_ := Aside0.mk (below_step E.out D3); clear E; have E := E_; clear E_
          have t_ := Aside0.mk (blk_below BK1.out D3); clear BK1; have BK1 := t_; clear t_
          have t_ := Aside0.mk (blk_below BK2.out D3); clear BK2; have BK2 := t_; clear t_
          have t_ := Aside0.mk (blk_below B5.out D3); clear B5; have B5 := t_; clear t_
          have t_ := Aside0.mk (Kd.R_below RX0.out D3); clear RX0; have RX0 := t_; clear t_
          have t_ := Aside0.mk (Kd.R_below RX1.out D3); clear RX1; have RX1 := t_; clear t_
          generalize V2.alloc (.cells #[.slice none 0 0, .slice none 0 0] 24 (0, 0)) = V3 at *
          have B6 := Aside0.mk b_; clear b_
          refine hK.out _ _ E.out (fun hHeld => ?_)
          clear hK K
          refine norm_ (a' := ?_) ?_ ?_
          rotate_left
          · show Act.put _ (some 6) _ = _
            simp only [Act.put, List.setIfInBounds_toArray, List.set_cons_zero, List.set_cons_succ, i64_w, i32_w]
            rfl
          refine one_ (i := 3) (N := some 23) #[true, true, true, true, true, true, false, false] rfl rfl (by kernel_rfl) (by decide) (fun K hK => ?_)
          refine goes_ Try.func9 (by kernel_rfl) rfl #[.agg #[.slice B0 ys.length d0, .slice B1 ys2.length d1]] (by rfl) rfl rfl (by (try simp only [List.map_toArray, List.map_cons, List.map_nil]); first | done | rfl) ?_
          with_reducible refine (lent_f ys ys2 Lb0.out Lb1.out _ _ _ _ _ (Kd.C_below Hb0.out HB.out) (Kd.C_below Hb1.out HB.out)).mono ?_
          rintro e V4 ⟨Y0, Y1, y0, y1, rfl, ky0, ky1, r0, r1, D4⟩
          refine ⟨_, rfl, ?_⟩
          have RY0 := Aside0.mk (Kd.R_lower r0 (below_size HB.out)); have RY1 := Aside0.mk (Kd.R_lower r1 (below_size HB.out)); clear r0 r1
          have HB_ := Aside0.mk (below_step HB.out D4); clear HB; have HB := HB_; clear HB_
          have E_ := Aside0.mk (below_step E.out D4); clear E; have E := E_; clear E_
          have t_ := Aside0.mk (blk_below BK1.out D4); clear BK1; have BK1 := t_; clear t_
          have t_ := Aside0.mk (blk_below BK2.out D4); clear BK2; have BK2 := t_; clear t_
          have t_ := Aside0.mk (blk_below B5.out D4); clear B5; have B5 := t_; clear t_
          have t_ := Aside0.mk (blk_below B6.out D4); clear B6; have B6 := t_; clear t_
          have t_ := Aside0.mk (Kd.R_below RX0.out D4); clear RX0; have RX0 := t_; clear t_
          have t_ := Aside0.mk (Kd.R_below RX1.out D4); clear RX1; have RX1 := t_; clear t_
          refine hK.out _ _ E.out (fun hHeld => ?_)
          clear hK K
          refine norm_ (a' := ?_) ?_ ?_
          rotate_left
          · show Act.put _ (some 23) _ = _
            simp only [Act.put, List.setIfInBounds_toArray, List.set_cons_zero, List.set_cons_succ, i64_w, i32_w]
            rfl
          exact norm_ (by first | (simp only [putAll, Act.put, List.setIfInBounds_toArray, List.set_cons_zero, List.set_cons_succ]; done) | (simp only [putAll, Act.put, List.setIfInBounds_toArray, List.set_cons_zero, List.set_cons_succ]; rfl)) (hCont ⟨g5, g6, ⟨X0, X1, x0, x1⟩, Y0, Y1, y0, y1⟩ _ ⟨HB.out, E.out, BK1.out, BK2.out, B5.out, B6.out, NE, G5, G6, kx0, kx1, ky0, ky1, RX0.out, RX1.out, RY0.out, RY1.out⟩)
      · skip
        refine value_ (w1 := ?_) (v := ?_) (by rfl) rfl ?_ ?_
        rotate_left 2
        · go_simp
          constructor
          · rfl
          · rfl
        obtain ⟨g6, hg⟩ : ∃ g, g = V1.heap.size := ⟨_, rfl⟩
        have D2 := below_alloc (Below.refl _ V1) (.cells #[.slice none 0 0, .slice none 0 0] 24 (0, 0))
        have b_ := blk_new V1 (.cells #[.slice none 0 0, .slice none 0 0] 24 (0, 0))
        have G6 : W0.heap.size ≤ g6 := by rw [hg]; exact below_size E.out
        rw [← hg] at b_
        rw [← hg]
        clear hg
        have HB_ := Aside0.mk (below_step HB.out D2); clear HB; have HB := HB_; clear HB_
        have E_ := Aside0.mk (below_step E.out D2); clear E; have E := E_; clear E_
        have t_ := Aside0.mk (blk_below BK1.out D2); clear BK1; have BK1 := t_; clear t_
        have t_ := Aside0.mk (blk_below BK2.out D2); clear BK2; have BK2 := t_; clear t_
        have t_ := Aside0.mk (Kd.R_below RX0.out D2); clear RX0; have RX0 := t_; clear t_
        have t_ := Aside0.mk (Kd.R_below RX1.out D2); clear RX1; have RX1 := t_; clear t_
        generalize V1.alloc (.cells #[.slice none 0 0, .slice none 0 0] 24 (0, 0)) = V2 at *
        have B6 := Aside0.mk b_; clear b_
        refine hK.out _ _ E.out (fun hHeld => ?_)
        clear hK K
        refine norm_ (a' := ?_) ?_ ?_
        rotate_left
        · show Act.put _ (some 6) _ = _
          simp only [Act.put, List.setIfInBounds_toArray, List.set_cons_zero, List.set_cons_succ, i64_w, i32_w]
          rfl
        refine two_ (i := 3) (j := 4) (Ni := some 23) (Nj := some 5) #[true, true, true, true, false, true, false, false] #[true, true, true, false, true, true, false, false] rfl rfl rfl rfl (by kernel_rfl) (by decide) (by decide) (fun K hK => ?_) (fun K hK => ?_)
        · skip
          refine goes_ Try.func9 (by kernel_rfl) rfl #[.agg #[.slice B0 ys.length d0, .slice B1 ys2.length d1]] (by rfl) rfl rfl (by (try simp only [List.map_toArray, List.map_cons, List.map_nil]); first | done | rfl) ?_
          with_reducible refine (lent_f ys ys2 Lb0.out Lb1.out _ _ _ _ _ (Kd.C_below Hb0.out HB.out) (Kd.C_below Hb1.out HB.out)).mono ?_
          rintro e V3 ⟨Y0, Y1, y0, y1, rfl, ky0, ky1, r0, r1, D3⟩
          refine ⟨_, rfl, ?_⟩
          have RY0 := Aside0.mk (Kd.R_lower r0 (below_size HB.out)); have RY1 := Aside0.mk (Kd.R_lower r1 (below_size HB.out)); clear r0 r1
          have HB_ := Aside0.mk (below_step HB.out D3); clear HB; have HB := HB_; clear HB_
          have E_ := Aside0.mk (below_step E.out D3); clear E; have E := E_; clear E_
          have t_ := Aside0.mk (blk_below BK1.out D3); clear BK1; have BK1 := t_; clear t_
          have t_ := Aside0.mk (blk_below BK2.out D3); clear BK2; have BK2 := t_; clear t_
          have t_ := Aside0.mk (blk_below B6.out D3); clear B6; have B6 := t_; clear t_
          have t_ := Aside0.mk (Kd.R_below RX0.out D3); clear RX0; have RX0 := t_; clear t_
          have t_ := Aside0.mk (Kd.R_below RX1.out D3); clear RX1; have RX1 := t_; clear t_
          refine hK.out _ _ E.out (fun hHeld => ?_)
          clear hK K
          refine norm_ (a' := ?_) ?_ ?_
          rotate_left
          · show Act.put _ (some 23) _ = _
            simp only [Act.put, List.setIfInBounds_toArray, List.set_cons_zero, List.set_cons_succ, i64_w, i32_w]
            rfl
          refine one_ (i := 4) (N := some 5) #[true, true, true, true, true, true, false, false] rfl rfl (by kernel_rfl) (by decide) (fun K hK => ?_)
          refine value_ (w1 := ?_) (v := ?_) (by rfl) rfl ?_ ?_
          rotate_left 2
          · go_simp
            constructor
            · rfl
            · rfl
          obtain ⟨g5, hg⟩ : ∃ g, g = V3.heap.size := ⟨_, rfl⟩
          have D4 := below_alloc (Below.refl _ V3) (.cells #[.slice none 0 0, .slice none 0 0] 24 (0, 0))
          have b_ := blk_new V3 (.cells #[.slice none 0 0, .slice none 0 0] 24 (0, 0))
          have G5 : W0.heap.size ≤ g5 := by rw [hg]; exact below_size E.out
          have NE : g5 ≠ g6 := by rw [hg]; exact (Nat.ne_of_lt (blk_lt B6.out)).symm
          rw [← hg] at b_
          rw [← hg]
          clear hg
          have HB_ := Aside0.mk (below_step HB.out D4); clear HB; have HB := HB_; clear HB_
          have E_ := Aside0.mk (below_step E.out D4); clear E; have E := E_; clear E_
          have t_ := Aside0.mk (blk_below BK1.out D4); clear BK1; have BK1 := t_; clear t_
          have t_ := Aside0.mk (blk_below BK2.out D4); clear BK2; have BK2 := t_; clear t_
          have t_ := Aside0.mk (blk_below B6.out D4); clear B6; have B6 := t_; clear t_
          have t_ := Aside0.mk (Kd.R_below RX0.out D4); clear RX0; have RX0 := t_; clear t_
          have t_ := Aside0.mk (Kd.R_below RX1.out D4); clear RX1; have RX1 := t_; clear t_
          have t_ := Aside0.mk (Kd.R_below RY0.out D4); clear RY0; have RY0 := t_; clear t_
          have t_ := Aside0.mk (Kd.R_below RY1.out D4); clear RY1; have RY1 := t_; clear t_
          generalize V3.alloc (.cells #[.slice none 0 0, .slice none 0 0] 24 (0, 0)) = V4 at *
          have B5 := Aside0.mk b_; clear b_
          refine hK.out _ _ E.out (fun hHeld => ?_)
          clear hK K
          refine norm_ (a' := ?_) ?_ ?_
          rotate_left
          · show Act.put _ (some 5) _ = _
            simp only [Act.put, List.setIfInBounds_toArray, List.set_cons_zero, List.set_cons_succ, i64_w, i32_w]
            rfl
          exact norm_ (by first | (simp only [putAll, Act.put, List.setIfInBounds_toArray, List.set_cons_zero, List.set_cons_succ]; done) | (simp only [putAll, Act.put, List.setIfInBounds_toArray, List.set_cons_zero, List.set_cons_succ]; rfl)) (hCont ⟨g5, g6, ⟨X0, X1, x0, x1⟩, Y0, Y1, y0, y1⟩ _ ⟨HB.out, E.out, BK1.out, BK2.out, B5.out, B6.out, NE, G5, G6, kx0, kx1, ky0, ky1, RX0.out, RX1.out, RY0.out, RY1.out⟩)
        · skip
          refine value_ (w1 := ?_) (v := ?_) (by rfl) rfl ?_ ?_
          rotate_left 2
          · go_simp
            constructor
            · rfl
            · rfl
          obtain ⟨g5, hg⟩ : ∃ g, g = V2.heap.size := ⟨_, rfl⟩
          have D3 := below_alloc (Below.refl _ V2) (.cells #[.slice none 0 0, .slice none 0 0] 24 (0, 0))
          have b_ := blk_new V2 (.cells #[.slice none 0 0, .slice none 0 0] 24 (0, 0))
          have G5 : W0.heap.size ≤ g5 := by rw [hg]; exact below_size E.out
          have NE : g5 ≠ g6 := by rw [hg]; exact (Nat.ne_of_lt (blk_lt B6.out)).symm
          rw [← hg] at b_
          rw [← hg]
          clear hg
          have HB_ := Aside0.mk (below_step HB.out D3); clear HB; have HB := HB_; clear HB_
          have E_ := Aside0.mk (below_step E.out D3); clear E; have E := E_; clear E_
          have t_ := Aside0.mk (blk_below BK1.out D3); clear BK1; have BK1 := t_; clear t_
          have t_ := Aside0.mk (blk_below BK2.out D3); clear BK2; have BK2 := t_; clear t_
          have t_ := Aside0.mk (blk_below B6.out D3); clear B6; have B6 := t_; clear t_
          have t_ := Aside0.mk (Kd.R_below RX0.out D3); clear RX0; have RX0 := t_; clear t_
          have t_ := Aside0.mk (Kd.R_below RX1.out D3); clear RX1; have RX1 := t_; clear t_
          generalize V2.alloc (.cells #[.slice none 0 0, .slice none 0 0] 24 (0, 0)) = V3 at *
          have B5 := Aside0.mk b_; clear b_
          refine hK.out _ _ E.out (fun hHeld => ?_)
          clear hK K
          refine norm_ (a' := ?_) ?_ ?_
          rotate_left
          · show Act.put _ (some 5) _ = _
            simp only [Act.put, List.setIfInBounds_toArray, List.set_cons_zero, List.set_cons_succ, i64_w, i32_w]
            rfl
          refine one_ (i := 3) (N := some 23) #[true, true, true, true, true, true, false, false] rfl rfl (by kernel_rfl) (by decide) (fun K hK => ?_)
          refine goes_ Try.func9 (by kernel_rfl) rfl #[.agg #[.slice B0 ys.length d0, .slice B1 ys2.length d1]] (by rfl) rfl rfl (by (try simp only [List.map_toArray, List.map_cons, List.map_nil]); first | done | rfl) ?_
          with_reducible refine (lent_f ys ys2 Lb0.out Lb1.out _ _ _ _ _ (Kd.C_below Hb0.out HB.out) (Kd.C_below Hb1.out HB.out)).mono ?_
          rintro e V4 ⟨Y0, Y1, y0, y1, rfl, ky0, ky1, r0, r1, D4⟩
          refine ⟨_, rfl, ?_⟩
          have RY0 := Aside0.mk (Kd.R_lower r0 (below_size HB.out)); have RY1 := Aside0.mk (Kd.R_lower r1 (below_size HB.out)); clear r0 r1
          have HB_ := Aside0.mk (below_step HB.out D4); clear HB; have HB := HB_; clear HB_
          have E_ := Aside0.mk (below_step E.out D4); clear E; have E := E_; clear E_
          have t_ := Aside0.mk (blk_below BK1.out D4); clear BK1; have BK1 := t_; clear t_
          have t_ := Aside0.mk (blk_below BK2.out D4); clear BK2; have BK2 := t_; clear t_
          have t_ := Aside0.mk (blk_below B5.out D4); clear B5; have B5 := t_; clear t_
          have t_ := Aside0.mk (blk_below B6.out D4); clear B6; have B6 := t_; clear t_
          have t_ := Aside0.mk (Kd.R_below RX0.out D4); clear RX0; have RX0 := t_; clear t_
          have t_ := Aside0.mk (Kd.R_below RX1.out D4); clear RX1; have RX1 := t_; clear t_
          refine hK.out _ _ E.out (fun hHeld => ?_)
          clear hK K
          refine norm_ (a' := ?_) ?_ ?_
          rotate_left
          · show Act.put _ (some 23) _ = _
            simp only [Act.put, List.setIfInBounds_toArray, List.set_cons_zero, List.set_cons_succ, i64_w, i32_w]
            rfl
          exact norm_ (by first | (simp only [putAll, Act.put, List.setIfInBounds_toArray, List.set_cons_zero, List.set_cons_succ]; done) | (simp only [putAll, Act.put, List.setIfInBounds_toArray, List.set_cons_zero, List.set_cons_succ]; rfl)) (hCont ⟨g5, g6, ⟨X0, X1, x0, x1⟩, Y0, Y1, y0, y1⟩ _ ⟨HB.out, E.out, BK1.out, BK2.out, B5.out, B6.out, NE, G5, G6, kx0, kx1, ky0, ky1, RX0.out, RX1.out, RY0.out, RY1.out⟩)
    · skip
      refine value_ (w1 := ?_) (v := ?_) (by rfl) rfl ?_ ?_
      rotate_left 2
      · go_simp
        constructor
        · rfl
        · rfl
      obtain ⟨g5, hg⟩ : ∃ g, g = W0.heap.size := ⟨_, rfl⟩
      have D1 := below_alloc (Below.refl _ W0) (.cells #[.slice none 0 0, .slice none 0 0] 24 (0, 0))
      have b_ := blk_new W0 (.cells #[.slice none 0 0, .slice none 0 0] 24 (0, 0))
      have G5 : W0.heap.size ≤ g5 := by rw [hg]; exact below_size E.out
      rw [← hg] at b_
      rw [← hg]
      clear hg
      have HB_ := Aside0.mk (below_step HB.out D1); clear HB; have HB := HB_; clear HB_
      have E_ := Aside0.mk (below_step E.out D1); clear E; have E := E_; clear E_
      have t_ := Aside0.mk (blk_below BK1.out D1); clear BK1; have BK1 := t_; clear t_
      have t_ := Aside0.mk (blk_below BK2.out D1); clear BK2; have BK2 := t_; clear t_
      generalize W0.alloc (.cells #[.slice none 0 0, .slice none 0 0] 24 (0, 0)) = V1 at *
      have B5 := Aside0.mk b_; clear b_
      refine hK.out _ _ E.out (fun hHeld => ?_)
      clear hK K
      refine norm_ (a' := ?_) ?_ ?_
      rotate_left
      · show Act.put _ (some 5) _ = _
        simp only [Act.put, List.setIfInBounds_toArray, List.set_cons_zero, List.set_cons_succ, i64_w, i32_w]
        rfl
      refine two_ (i := 1) (j := 5) (Ni := some 21) (Nj := some 6) #[true, true, true, false, true, false, false, false] #[true, false, true, false, true, true, false, false] rfl rfl rfl rfl (by kernel_rfl) (by decide) (by decide) (fun K hK => ?_) (fun K hK => ?_)
      · skip
        refine goes_ Try.func9 (by kernel_rfl) rfl #[.agg #[.slice A0 xs.length c0, .slice A1 xs2.length c1]] (by rfl) rfl rfl (by (try simp only [List.map_toArray, List.map_cons, List.map_nil]); first | done | rfl) ?_
        with_reducible refine (lent_f xs xs2 La0.out La1.out _ _ _ _ _ (Kd.C_below Ha0.out HB.out) (Kd.C_below Ha1.out HB.out)).mono ?_
        rintro e V2 ⟨X0, X1, x0, x1, rfl, kx0, kx1, r0, r1, D2⟩
        refine ⟨_, rfl, ?_⟩
        have RX0 := Aside0.mk (Kd.R_lower r0 (below_size HB.out)); have RX1 := Aside0.mk (Kd.R_lower r1 (below_size HB.out)); clear r0 r1
        have HB_ := Aside0.mk (below_step HB.out D2); clear HB; have HB := HB_; clear HB_
        have E_ := Aside0.mk (below_step E.out D2); clear E; have E := E_; clear E_
        have t_ := Aside0.mk (blk_below BK1.out D2); clear BK1; have BK1 := t_; clear t_
        have t_ := Aside0.mk (blk_below BK2.out D2); clear BK2; have BK2 := t_; clear t_
        have t_ := Aside0.mk (blk_below B5.out D2); clear B5; have B5 := t_; clear t_
        refine hK.out _ _ E.out (fun hHeld => ?_)
        clear hK K
        refine norm_ (a' := ?_) ?_ ?_
        rotate_left
        · show Act.put _ (some 21) _ = _
          simp only [Act.put, List.setIfInBounds_toArray, List.set_cons_zero, List.set_cons_succ, i64_w, i32_w]
          rfl
        refine two_ (i := 3) (j := 5) (Ni := some 23) (Nj := some 6) #[true, true, true, true, true, false, false, false] #[true, true, true, false, true, true, false, false] rfl rfl rfl rfl (by kernel_rfl) (by decide) (by decide) (fun K hK => ?_) (fun K hK => ?_)
        · skip
          refine goes_ Try.func9 (by kernel_rfl) rfl #[.agg #[.slice B0 ys.length d0, .slice B1 ys2.length d1]] (by rfl) rfl rfl (by (try simp only [List.map_toArray, List.map_cons, List.map_nil]); first | done | rfl) ?_
          with_reducible refine (lent_f ys ys2 Lb0.out Lb1.out _ _ _ _ _ (Kd.C_below Hb0.out HB.out) (Kd.C_below Hb1.out HB.out)).mono ?_
          rintro e V3 ⟨Y0, Y1, y0, y1, rfl, ky0, ky1, r0, r1, D3⟩
          refine ⟨_, rfl, ?_⟩
          have RY0 := Aside0.mk (Kd.R_lower r0 (below_size HB.out)); have RY1 := Aside0.mk (Kd.R_lower r1 (below_size HB.out)); clear r0 r1
          have HB_ := Aside0.mk (below_step HB.out D3); clear HB; have HB := HB_; clear HB_
          have E_ := Aside0.mk (below_step E.out D3); clear E; have E := E_; clear E_
          have t_ := Aside0.mk (blk_below BK1.out D3); clear BK1; have BK1 := t_; clear t_
          have t_ := Aside0.mk (blk_below BK2.out D3); clear BK2; have BK2 := t_; clear t_
          have t_ := Aside0.mk (blk_below B5.out D3); clear B5; have B5 := t_; clear t_
          have t_ := Aside0.mk (Kd.R_below RX0.out D3); clear RX0; have RX0 := t_; clear t_
          have t_ := Aside0.mk (Kd.R_below RX1.out D3); clear RX1; have RX1 := t_; clear t_
          refine hK.out _ _ E.out (fun hHeld => ?_)
          clear hK K
          refine norm_ (a' := ?_) ?_ ?_
          rotate_left
          · show Act.put _ (some 23) _ = _
            simp only [Act.put, List.setIfInBounds_toArray, List.set_cons_zero, List.set_cons_succ, i64_w, i32_w]
            rfl
          refine one_ (i := 5) (N := some 6) #[true, true, true, true, true, true, false, false] rfl rfl (by kernel_rfl) (by decide) (fun K hK => ?_)
          refine value_ (w1 := ?_) (v := ?_) (by rfl) rfl ?_ ?_
          rotate_left 2
          · go_simp
            constructor
            · rfl
            · rfl
          obtain ⟨g6, hg⟩ : ∃ g, g = V3.heap.size := ⟨_, rfl⟩
          have D4 := below_alloc (Below.refl _ V3) (.cells #[.slice none 0 0, .slice none 0 0] 24 (0, 0))
          have b_ := blk_new V3 (.cells #[.slice none 0 0, .slice none 0 0] 24 (0, 0))
          have G6 : W0.heap.size ≤ g6 := by rw [hg]; exact below_size E.out
          have NE : g5 ≠ g6 := by rw [hg]; exact Nat.ne_of_lt (blk_lt B5.out)
          rw [← hg] at b_
          rw [← hg]
          clear hg
          have HB_ := Aside0.mk (below_step HB.out D4); clear HB; have HB := HB_; clear HB_
          have E_ := Aside0.mk (below_step E.out D4); clear E; have E := E_; clear E_
          have t_ := Aside0.mk (blk_below BK1.out D4); clear BK1; have BK1 := t_; clear t_
          have t_ := Aside0.mk (blk_below BK2.out D4); clear BK2; have BK2 := t_; clear t_
          have t_ := Aside0.mk (blk_below B5.out D4); clear B5; have B5 := t_; clear t_
          have t_ := Aside0.mk (Kd.R_below RX0.out D4); clear RX0; have RX0 := t_; clear t_
          have t_ := Aside0.mk (Kd.R_below RX1.out D4); clear RX1; have RX1 := t_; clear t_
          have t_ := Aside0.mk (Kd.R_below RY0.out D4); clear RY0; have RY0 := t_; clear t_
          have t_ := Aside0.mk (Kd.R_below RY1.out D4); clear RY1; have RY1 := t_; clear t_
          generalize V3.alloc (.cells #[.slice none 0 0, .slice none 0 0] 24 (0, 0)) = V4 at *
          have B6 := Aside0.mk b_; clear b_
          refine hK.out _ _ E.out (fun hHeld => ?_)
          clear hK K
          refine norm_ (a' := ?_) ?_ ?_
          rotate_left
          · show Act.put _ (some 6) _ = _
            simp only [Act.put, List.setIfInBounds_toArray, List.set_cons_zero, List.set_cons_succ, i64_w, i32_w]
            rfl
          exact norm_ (by first | (simp only [putAll, Act.put, List.setIfInBounds_toArray, List.set_cons_zero, List.set_cons_succ]; done) | (simp only [putAll, Act.put, List.setIfInBounds_toArray, List.set_cons_zero, List.set_cons_succ]; rfl)) (hCont ⟨g5, g6, ⟨X0, X1, x0, x1⟩, Y0, Y1, y0, y1⟩ _ ⟨HB.out, E.out, BK1.out, BK2.out, B5.out, B6.out, NE, G5, G6, kx0, kx1, ky0, ky1, RX0.out, RX1.out, RY0.out, RY1.out⟩)
        · skip
          refine value_ (w1 := ?_) (v := ?_) (by rfl) rfl ?_ ?_
          rotate_left 2
          · go_simp
            constructor
            · rfl
            · rfl
          obtain ⟨g6, hg⟩ : ∃ g, g = V2.heap.size := ⟨_, rfl⟩
          have D3 := below_alloc (Below.refl _ V2) (.cells #[.slice none 0 0, .slice none 0 0] 24 (0, 0))
          have b_ := blk_new V2 (.cells #[.slice none 0 0, .slice none 0 0] 24 (0, 0))
          have G6 : W0.heap.size ≤ g6 := by rw [hg]; exact below_size E.out
          have NE : g5 ≠ g6 := by rw [hg]; exact Nat.ne_of_lt (blk_lt B5.out)
          rw [← hg] at b_
          rw [← hg]
          clear hg
          have HB_ := Aside0.mk (below_step HB.out D3); clear HB; have HB := HB_; clear HB_
          have E_ := Aside0.mk (below_step E.out D3); clear E; have E := E_; clear E_
          have t_ := Aside0.mk (blk_below BK1.out D3); clear BK1; have BK1 := t_; clear t_
          have t_ := Aside0.mk (blk_below BK2.out D3); clear BK2; have BK2 := t_; clear t_
          have t_ := Aside0.mk (blk_below B5.out D3); clear B5; have B5 := t_; clear t_
          have t_ := Aside0.mk (Kd.R_below RX0.out D3); clear RX0; have RX0 := t_; clear t_
          have t_ := Aside0.mk (Kd.R_below RX1.out D3); clear RX1; have RX1 := t_; clear t_
          generalize V2.alloc (.cells #[.slice none 0 0, .slice none 0 0] 24 (0, 0)) = V3 at *
          have B6 := Aside0.mk b_; clear b_
          refine hK.out _ _ E.out (fun hHeld => ?_)
          clear hK K
          refine norm_ (a' := ?_) ?_ ?_
          rotate_left
          · show Act.put _ (some 6) _ = _
            simp only [Act.put, List.setIfInBounds_toArray, List.set_cons_zero, List.set_cons_succ, i64_w, i32_w]
            rfl
          refine one_ (i := 3) (N := some 23) #[true, true, true, true, true, true, false, false] rfl rfl (by kernel_rfl) (by decide) (fun K hK => ?_)
          refine goes_ Try.func9 (by kernel_rfl) rfl #[.agg #[.slice B0 ys.length d0, .slice B1 ys2.length d1]] (by rfl) rfl rfl (by (try simp only [List.map_toArray, List.map_cons, List.map_nil]); first | done | rfl) ?_
          with_reducible refine (lent_f ys ys2 Lb0.out Lb1.out _ _ _ _ _ (Kd.C_below Hb0.out HB.out) (Kd.C_below Hb1.out HB.out)).mono ?_
          rintro e V4 ⟨Y0, Y1, y0, y1, rfl, ky0, ky1, r0, r1, D4⟩
          refine ⟨_, rfl, ?_⟩
          have RY0 := Aside0.mk (Kd.R_lower r0 (below_size HB.out)); have RY1 := Aside0.mk (Kd.R_lower r1 (below_size HB.out)); clear r0 r1
          have HB_ := Aside0.mk (below_step HB.out D4); clear HB; have HB := HB_; clear HB_
          have E_ := Aside0.mk (below_step E.out D4); clear E; have E := E_; clear E_
          have t_ := Aside0.mk (blk_below BK1.out D4); clear BK1; have BK1 := t_; clear t_
          have t_ := Aside0.mk (blk_below BK2.out D4); clear BK2; have BK2 := t_; clear t_
          have t_ := Aside0.mk (blk_below B5.out D4); clear B5; have B5 := t_; clear t_
          have t_ := Aside0.mk (blk_below B6.out D4); clear B6; have B6 := t_; clear t_
          have t_ := Aside0.mk (Kd.R_below RX0.out D4); clear RX0; have RX0 := t_; clear t_
          have t_ := Aside0.mk (Kd.R_below RX1.out D4); clear RX1; have RX1 := t_; clear t_
          refine hK.out _ _ E.out (fun hHeld => ?_)
          clear hK K
          refine norm_ (a' := ?_) ?_ ?_
          rotate_left
          · show Act.put _ (some 23) _ = _
            simp only [Act.put, List.setIfInBounds_toArray, List.set_cons_zero, List.set_cons_succ, i64_w, i32_w]
            rfl
          exact norm_ (by first | (simp only [putAll, Act.put, List.setIfInBounds_toArray, List.set_cons_zero, List.set_cons_succ]; done) | (simp only [putAll, Act.put, List.setIfInBounds_toArray, List.set_cons_zero, List.set_cons_succ]; rfl)) (hCont ⟨g5, g6, ⟨X0, X1, x0, x1⟩, Y0, Y1, y0, y1⟩ _ ⟨HB.out, E.out, BK1.out, BK2.out, B5.out, B6.out, NE, G5, G6, kx0, kx1, ky0, ky1, RX0.out, RX1.out, RY0.out, RY1.out⟩)
      · skip
        refine value_ (w1 := ?_) (v := ?_) (by rfl) rfl ?_ ?_
        rotate_left 2
        · go_simp
          constructor
          · rfl
          · rfl
        obtain ⟨g6, hg⟩ : ∃ g, g = V1.heap.size := ⟨_, rfl⟩
        have D2 := below_alloc (Below.refl _ V1) (.cells #[.slice none 0 0, .slice none 0 0] 24 (0, 0))
        have b_ := blk_new V1 (.cells #[.slice none 0 0, .slice none 0 0] 24 (0, 0))
        have G6 : W0.heap.size ≤ g6 := by rw [hg]; exact below_size E.out
        have NE : g5 ≠ g6 := by rw [hg]; exact Nat.ne_of_lt (blk_lt B5.out)
        rw [← hg] at b_
        rw [← hg]
        clear hg
        have HB_ := Aside0.mk (below_step HB.out D2); clear HB; have HB := HB_; clear HB_
        have E_ := Aside0.mk (below_step E.out D2); clear E; have E := E_; clear E_
        have t_ := Aside0.mk (blk_below BK1.out D2); clear BK1; have BK1 := t_; clear t_
        have t_ := Aside0.mk (blk_below BK2.out D2); clear BK2; have BK2 := t_; clear t_
        have t_ := Aside0.mk (blk_below B5.out D2); clear B5; have B5 := t_; clear t_
        generalize V1.alloc (.cells #[.slice none 0 0, .slice none 0 0] 24 (0, 0)) = V2 at *
        have B6 := Aside0.mk b_; clear b_
        refine hK.out _ _ E.out (fun hHeld => ?_)
        clear hK K
        refine norm_ (a' := ?_) ?_ ?_
        rotate_left
        · show Act.put _ (some 6) _ = _
          simp only [Act.put, List.setIfInBounds_toArray, List.set_cons_zero, List.set_cons_succ, i64_w, i32_w]
          rfl
        refine one_ (i := 1) (N := some 21) #[true, true, true, false, true, true, false, false] rfl rfl (by kernel_rfl) (by decide) (fun K hK => ?_)
        refine goes_ Try.func9 (by kernel_rfl) rfl #[.agg #[.slice A0 xs.length c0, .slice A1 xs2.length c1]] (by rfl) rfl rfl (by (try simp only [List.map_toArray, List.map_cons, List.map_nil]); first | done | rfl) ?_
        with_reducible refine (lent_f xs xs2 La0.out La1.out _ _ _ _ _ (Kd.C_below Ha0.out HB.out) (Kd.C_below Ha1.out HB.out)).mono ?_
        rintro e V3 ⟨X0, X1, x0, x1, rfl, kx0, kx1, r0, r1, D3⟩
        refine ⟨_, rfl, ?_⟩
        have RX0 := Aside0.mk (Kd.R_lower r0 (below_size HB.out)); have RX1 := Aside0.mk (Kd.R_lower r1 (below_size HB.out)); clear r0 r1
        have HB_ := Aside0.mk (below_step HB.out D3); clear HB; have HB := HB_; clear HB_
        have E_ := Aside0.mk (below_step E.out D3); clear E; have E := E_; clear E_
        have t_ := Aside0.mk (blk_below BK1.out D3); clear BK1; have BK1 := t_; clear t_
        have t_ := Aside0.mk (blk_below BK2.out D3); clear BK2; have BK2 := t_; clear t_
        have t_ := Aside0.mk (blk_below B5.out D3); clear B5; have B5 := t_; clear t_
        have t_ := Aside0.mk (blk_below B6.out D3); clear B6; have B6 := t_; clear t_
        refine hK.out _ _ E.out (fun hHeld => ?_)
        clear hK K
        refine norm_ (a' := ?_) ?_ ?_
        rotate_left
        · show Act.put _ (some 21) _ = _
          simp only [Act.put, List.setIfInBounds_toArray, List.set_cons_zero, List.set_cons_succ, i64_w, i32_w]
          rfl
        refine one_ (i := 3) (N := some 23) #[true, true, true, true, true, true, false, false] rfl rfl (by kernel_rfl) (by decide) (fun K hK => ?_)
        refine goes_ Try.func9 (by kernel_rfl) rfl #[.agg #[.slice B0 ys.length d0, .slice B1 ys2.length d1]] (by rfl) rfl rfl (by (try simp only [List.map_toArray, List.map_cons, List.map_nil]); first | done | rfl) ?_
        with_reducible refine (lent_f ys ys2 Lb0.out Lb1.out _ _ _ _ _ (Kd.C_below Hb0.out HB.out) (Kd.C_below Hb1.out HB.out)).mono ?_
        rintro e V4 ⟨Y0, Y1, y0, y1, rfl, ky0, ky1, r0, r1, D4⟩
        refine ⟨_, rfl, ?_⟩
        have RY0 := Aside0.mk (Kd.R_lower r0 (below_size HB.out)); have RY1 := Aside0.mk (Kd.R_lower r1 (below_size HB.out)); clear r0 r1
        have HB_ := Aside0.mk (below_step HB.out D4); clear HB; have HB := HB_; clear HB_
        have E_ := Aside0.mk (below_step E.out D4); clear E; have E := E_; clear E_
        have t_ := Aside0.mk (blk_below BK1.out D4); clear BK1; have BK1 := t_; clear t_
        have t_ := Aside0.mk (blk_below BK2.out D4); clear BK2; have BK2 := t_; clear t_
        have t_ := Aside0.mk (blk_below B5.out D4); clear B5; have B5 := t_; clear t_
        have t_ := Aside0.mk (blk_below B6.out D4); clear B6; have B6 := t_; clear t_
        have t_ := Aside0.mk (Kd.R_below RX0.out D4); clear RX0; have RX0 := t_; clear t_
        have t_ := Aside0.mk (Kd.R_below RX1.out D4); clear RX1; have RX1 := t_; clear t_
        refine hK.out _ _ E.out (fun hHeld => ?_)
        clear hK K
        refine norm_ (a' := ?_) ?_ ?_
        rotate_left
        · show Act.put _ (some 23) _ = _
          simp only [Act.put, List.setIfInBounds_toArray, List.set_cons_zero, List.set_cons_succ, i64_w, i32_w]
          rfl
        exact norm_ (by first | (simp only [putAll, Act.put, List.setIfInBounds_toArray, List.set_cons_zero, List.set_cons_succ]; done) | (simp only [putAll, Act.put, List.setIfInBounds_toArray, List.set_cons_zero, List.set_cons_succ]; rfl)) (hCont ⟨g5, g6, ⟨X0, X1, x0, x1⟩, Y0, Y1, y0, y1⟩ _ ⟨HB.out, E.out, BK1.out, BK2.out, B5.out, B6.out, NE, G5, G6, kx0, kx1, ky0, ky1, RX0.out, RX1.out, RY0.out, RY1.out⟩)
    · skip
      refine value_ (w1 := ?_) (v := ?_) (by rfl) rfl ?_ ?_
      rotate_left 2
      · go_simp
        constructor
        · rfl
        · rfl
      obtain ⟨g6, hg⟩ : ∃ g, g = W0.heap.size := ⟨_, rfl⟩
      have D1 := below_alloc (Below.refl _ W0) (.cells #[.slice none 0 0, .slice none 0 0] 24 (0, 0))
      have b_ := blk_new W0 (.cells #[.slice none 0 0, .slice none 0 0] 24 (0, 0))
      have G6 : W0.heap.size ≤ g6 := by rw [hg]; exact below_size E.out
      rw [← hg] at b_
      rw [← hg]
      clear hg
      have HB_ := Aside0.mk (below_step HB.out D1); clear HB; have HB := HB_; clear HB_
      have E_ := Aside0.mk (below_step E.out D1); clear E; have E := E_; clear E_
      have t_ := Aside0.mk (blk_below BK1.out D1); clear BK1; have BK1 := t_; clear t_
      have t_ := Aside0.mk (blk_below BK2.out D1); clear BK2; have BK2 := t_; clear t_
      generalize W0.alloc (.cells #[.slice none 0 0, .slice none 0 0] 24 (0, 0)) = V1 at *
      have B6 := Aside0.mk b_; clear b_
      refine hK.out _ _ E.out (fun hHeld => ?_)
      clear hK K
      refine norm_ (a' := ?_) ?_ ?_
      rotate_left
      · show Act.put _ (some 6) _ = _
        simp only [Act.put, List.setIfInBounds_toArray, List.set_cons_zero, List.set_cons_succ, i64_w, i32_w]
        rfl
      refine two_ (i := 1) (j := 4) (Ni := some 21) (Nj := some 5) #[true, true, true, false, false, true, false, false] #[true, false, true, false, true, true, false, false] rfl rfl rfl rfl (by kernel_rfl) (by decide) (by decide) (fun K hK => ?_) (fun K hK => ?_)
      · skip
        refine goes_ Try.func9 (by kernel_rfl) rfl #[.agg #[.slice A0 xs.length c0, .slice A1 xs2.length c1]] (by rfl) rfl rfl (by (try simp only [List.map_toArray, List.map_cons, List.map_nil]); first | done | rfl) ?_
        with_reducible refine (lent_f xs xs2 La0.out La1.out _ _ _ _ _ (Kd.C_below Ha0.out HB.out) (Kd.C_below Ha1.out HB.out)).mono ?_
        rintro e V2 ⟨X0, X1, x0, x1, rfl, kx0, kx1, r0, r1, D2⟩
        refine ⟨_, rfl, ?_⟩
        have RX0 := Aside0.mk (Kd.R_lower r0 (below_size HB.out)); have RX1 := Aside0.mk (Kd.R_lower r1 (below_size HB.out)); clear r0 r1
        have HB_ := Aside0.mk (below_step HB.out D2); clear HB; have HB := HB_; clear HB_
        have E_ := Aside0.mk (below_step E.out D2); clear E; have E := E_; clear E_
        have t_ := Aside0.mk (blk_below BK1.out D2); clear BK1; have BK1 := t_; clear t_
        have t_ := Aside0.mk (blk_below BK2.out D2); clear BK2; have BK2 := t_; clear t_
        have t_ := Aside0.mk (blk_below B6.out D2); clear B6; have B6 := t_; clear t_
        refine hK.out _ _ E.out (fun hHeld => ?_)
        clear hK K
        refine norm_ (a' := ?_) ?_ ?_
        rotate_left
        · show Act.put _ (some 21) _ = _
          simp only [Act.put, List.setIfInBounds_toArray, List.set_cons_zero, List.set_cons_succ, i64_w, i32_w]
          rfl
        refine two_ (i := 3) (j := 4) (Ni := some 23) (Nj := some 5) #[true, true, true, true, false, true, false, false] #[true, true, true, false, true, true, false, false] rfl rfl rfl rfl (by kernel_rfl) (by decide) (by decide) (fun K hK => ?_) (fun K hK => ?_)
        · skip
          refine goes_ Try.func9 (by kernel_rfl) rfl #[.agg #[.slice B0 ys.length d0, .slice B1 ys2.length d1]] (by rfl) rfl rfl (by (try simp only [List.map_toArray, List.map_cons, List.map_nil]); first | done | rfl) ?_
          with_reducible refine (lent_f ys ys2 Lb0.out Lb1.out _ _ _ _ _ (Kd.C_below Hb0.out HB.out) (Kd.C_below Hb1.out HB.out)).mono ?_
          rintro e V3 ⟨Y0, Y1, y0, y1, rfl, ky0, ky1, r0, r1, D3⟩
          refine ⟨_, rfl, ?_⟩
          have RY0 := Aside0.mk (Kd.R_lower r0 (below_size HB.out)); have RY1 := Aside0.mk (Kd.R_lower r1 (below_size HB.out)); clear r0 r1
          have HB_ := Aside0.mk (below_step HB.out D3); clear HB; have HB := HB_; clear HB_
          have E_ := Aside0.mk (below_step E.out D3); clear E; have E := E_; clear E_
          have t_ := Aside0.mk (blk_below BK1.out D3); clear BK1; have BK1 := t_; clear t_
          have t_ := Aside0.mk (blk_below BK2.out D3); clear BK2; have BK2 := t_; clear t_
          have t_ := Aside0.mk (blk_below B6.out D3); clear B6; have B6 := t_; clear t_
          have t_ := Aside0.mk (Kd.R_below RX0.out D3); clear RX0; have RX0 := t_; clear t_
          have t_ := Aside0.mk (Kd.R_below RX1.out D3); clear RX1; have RX1 := t_; clear t_
          refine hK.out _ _ E.out (fun hHeld => ?_)
          clear hK K
          refine norm_ (a' := ?_) ?_ ?_
          rotate_left
          · show Act.put _ (some 23) _ = _
            simp only [Act.put, List.setIfInBounds_toArray, List.set_cons_zero, List.set_cons_succ, i64_w, i32_w]
            rfl
          refine one_ (i := 4) (N := some 5) #[true, true, true, true, true, true, false, false] rfl rfl (by kernel_rfl) (by decide) (fun K hK => ?_)
          refine value_ (w1 := ?_) (v := ?_) (by rfl) rfl ?_ ?_
          rotate_left 2
          · go_simp
            constructor
            · rfl
            · rfl
          obtain ⟨g5, hg⟩ : ∃ g, g = V3.heap.size := ⟨_, rfl⟩
          have D4 := below_alloc (Below.refl _ V3) (.cells #[.slice none 0 0, .slice none 0 0] 24 (0, 0))
          have b_ := blk_new V3 (.cells #[.slice none 0 0, .slice none 0 0] 24 (0, 0))
          have G5 : W0.heap.size ≤ g5 := by rw [hg]; exact below_size E.out
          have NE : g5 ≠ g6 := by rw [hg]; exact (Nat.ne_of_lt (blk_lt B6.out)).symm
          rw [← hg] at b_
          rw [← hg]
          clear hg
          have HB_ := Aside0.mk (below_step HB.out D4); clear HB; have HB := HB_; clear HB_
          have E_ := Aside0.mk (below_step E.out D4); clear E; have E := E_; clear E_
          have t_ := Aside0.mk (blk_below BK1.out D4); clear BK1; have BK1 := t_; clear t_
          have t_ := Aside0.mk (blk_below BK2.out D4); clear BK2; have BK2 := t_; clear t_
          have t_ := Aside0.mk (blk_below B6.out D4); clear B6; have B6 := t_; clear t_
          have t_ := Aside0.mk (Kd.R_below RX0.out D4); clear RX0; have RX0 := t_; clear t_
          have t_ := Aside0.mk (Kd.R_below RX1.out D4); clear RX1; have RX1 := t_; clear t_
          have t_ := Aside0.mk (Kd.R_below RY0.out D4); clear RY0; have RY0 := t_; clear t_
          have t_ := Aside0.mk (Kd.R_below RY1.out D4); clear RY1; have RY1 := t_; clear t_
          generalize V3.alloc (.cells #[.slice none 0 0, .slice none 0 0] 24 (0, 0)) = V4 at *
          have B5 := Aside0.mk b_; clear b_
          refine hK.out _ _ E.out (fun hHeld => ?_)
          clear hK K
          refine norm_ (a' := ?_) ?_ ?_
          rotate_left
          · show Act.put _ (some 5) _ = _
            simp only [Act.put, List.setIfInBounds_toArray, List.set_cons_zero, List.set_cons_succ, i64_w, i32_w]
            rfl
          exact norm_ (by first | (simp only [putAll, Act.put, List.setIfInBounds_toArray, List.set_cons_zero, List.set_cons_succ]; done) | (simp only [putAll, Act.put, List.setIfInBounds_toArray, List.set_cons_zero, List.set_cons_succ]; rfl)) (hCont ⟨g5, g6, ⟨X0, X1, x0, x1⟩, Y0, Y1, y0, y1⟩ _ ⟨HB.out, E.out, BK1.out, BK2.out, B5.out, B6.out, NE, G5, G6, kx0, kx1, ky0, ky1, RX0.out, RX1.out, RY0.out, RY1.out⟩)
        · skip
          refine value_ (w1 := ?_) (v := ?_) (by rfl) rfl ?_ ?_
          rotate_left 2
          · go_simp
            constructor
            · rfl
            · rfl
          obtain ⟨g5, hg⟩ : ∃ g, g = V2.heap.size := ⟨_, rfl⟩
          have D3 := below_alloc (Below.refl _ V2) (.cells #[.slice none 0 0, .slice none 0 0] 24 (0, 0))
          have b_ := blk_new V2 (.cells #[.slice none 0 0, .slice none 0 0] 24 (0, 0))
          have G5 : W0.heap.size ≤ g5 := by rw [hg]; exact below_size E.out
          have NE : g5 ≠ g6 := by rw [hg]; exact (Nat.ne_of_lt (blk_lt B6.out)).symm
          rw [← hg] at b_
          rw [← hg]
          clear hg
          have HB_ := Aside0.mk (below_step HB.out D3); clear HB; have HB := HB_; clear HB_
          have E_ := Aside0.mk (below_step E.out D3); clear E; have E := E_; clear E_
          have t_ := Aside0.mk (blk_below BK1.out D3); clear BK1; have BK1 := t_; clear t_
          have t_ := Aside0.mk (blk_below BK2.out D3); clear BK2; have BK2 := t_; clear t_
          have t_ := Aside0.mk (blk_below B6.out D3); clear B6; have B6 := t_; clear t_
          have t_ := Aside0.mk (Kd.R_below RX0.out D3); clear RX0; have RX0 := t_; clear t_
          have t_ := Aside0.mk (Kd.R_below RX1.out D3); clear RX1; have RX1 := t_; clear t_
          generalize V2.alloc (.cells #[.slice none 0 0, .slice none 0 0] 24 (0, 0)) = V3 at *
          have B5 := Aside0.mk b_; clear b_
          refine hK.out _ _ E.out (fun hHeld => ?_)
          clear hK K
          refine norm_ (a' := ?_) ?_ ?_
          rotate_left
          · show Act.put _ (some 5) _ = _
            simp only [Act.put, List.setIfInBounds_toArray, List.set_cons_zero, List.set_cons_succ, i64_w, i32_w]
            rfl
          refine one_ (i := 3) (N := some 23) #[true, true, true, true, true, true, false, false] rfl rfl (by kernel_rfl) (by decide) (fun K hK => ?_)
          refine goes_ Try.func9 (by kernel_rfl) rfl #[.agg #[.slice B0 ys.length d0, .slice B1 ys2.length d1]] (by rfl) rfl rfl (by (try simp only [List.map_toArray, List.map_cons, List.map_nil]); first | done | rfl) ?_
          with_reducible refine (lent_f ys ys2 Lb0.out Lb1.out _ _ _ _ _ (Kd.C_below Hb0.out HB.out) (Kd.C_below Hb1.out HB.out)).mono ?_
          rintro e V4 ⟨Y0, Y1, y0, y1, rfl, ky0, ky1, r0, r1, D4⟩
          refine ⟨_, rfl, ?_⟩
          have RY0 := Aside0.mk (Kd.R_lower r0 (below_size HB.out)); have RY1 := Aside0.mk (Kd.R_lower r1 (below_size HB.out)); clear r0 r1
          have HB_ := Aside0.mk (below_step HB.out D4); clear HB; have HB := HB_; clear HB_
          have E_ := Aside0.mk (below_step E.out D4); clear E; have E := E_; clear E_
          have t_ := Aside0.mk (blk_below BK1.out D4); clear BK1; have BK1 := t_; clear t_
          have t_ := Aside0.mk (blk_below BK2.out D4); clear BK2; have BK2 := t_; clear t_
          have t_ := Aside0.mk (blk_below B5.out D4); clear B5; have B5 := t_; clear t_
          have t_ := Aside0.mk (blk_below B6.out D4); clear B6; have B6 := t_; clear t_
          have t_ := Aside0.mk (Kd.R_below RX0.out D4); clear RX0; have RX0 := t_; clear t_
          have t_ := Aside0.mk (Kd.R_below RX1.out D4); clear RX1; have RX1 := t_; clear t_
          refine hK.out _ _ E.out (fun hHeld => ?_)
          clear hK K
          refine norm_ (a' := ?_) ?_ ?_
          rotate_left
          · show Act.put _ (some 23) _ = _
            simp only [Act.put, List.setIfInBounds_toArray, List.set_cons_zero, List.set_cons_succ, i64_w, i32_w]
            rfl
          exact norm_ (by first | (simp only [putAll, Act.put, List.setIfInBounds_toArray, List.set_cons_zero, List.set_cons_succ]; done) | (simp only [putAll, Act.put, List.setIfInBounds_toArray, List.set_cons_zero, List.set_cons_succ]; rfl)) (hCont ⟨g5, g6, ⟨X0, X1, x0, x1⟩, Y0, Y1, y0, y1⟩ _ ⟨HB.out, E.out, BK1.out, BK2.out, B5.out, B6.out, NE, G5, G6, kx0, kx1, ky0, ky1, RX0.out, RX1.out, RY0.out, RY1.out⟩)
      · skip
        refine value_ (w1 := ?_) (v := ?_) (by rfl) rfl ?_ ?_
        rotate_left 2
        · go_simp
          constructor
          · rfl
          · rfl
        obtain ⟨g5, hg⟩ : ∃ g, g = V1.heap.size := ⟨_, rfl⟩
        have D2 := below_alloc (Below.refl _ V1) (.cells #[.slice none 0 0, .slice none 0 0] 24 (0, 0))
        have b_ := blk_new V1 (.cells #[.slice none 0 0, .slice none 0 0] 24 (0, 0))
        have G5 : W0.heap.size ≤ g5 := by rw [hg]; exact below_size E.out
        have NE : g5 ≠ g6 := by rw [hg]; exact (Nat.ne_of_lt (blk_lt B6.out)).symm
        rw [← hg] at b_
        rw [← hg]
        clear hg
        have HB_ := Aside0.mk (below_step HB.out D2); clear HB; have HB := HB_; clear HB_
        have E_ := Aside0.mk (below_step E.out D2); clear E; have E := E_; clear E_
        have t_ := Aside0.mk (blk_below BK1.out D2); clear BK1; have BK1 := t_; clear t_
        have t_ := Aside0.mk (blk_below BK2.out D2); clear BK2; have BK2 := t_; clear t_
        have t_ := Aside0.mk (blk_below B6.out D2); clear B6; have B6 := t_; clear t_
        generalize V1.alloc (.cells #[.slice none 0 0, .slice none 0 0] 24 (0, 0)) = V2 at *
        have B5 := Aside0.mk b_; clear b_
        refine hK.out _ _ E.out (fun hHeld => ?_)
        clear hK K
        refine norm_ (a' := ?_) ?_ ?_
        rotate_left
        · show Act.put _ (some 5) _ = _
          simp only [Act.put, List.setIfInBounds_toArray, List.set_cons_zero, List.set_cons_succ, i64_w, i32_w]
          rfl
        refine one_ (i := 1) (N := some 21) #[true, true, true, false, true, true, false, false] rfl rfl (by kernel_rfl) (by decide) (fun K hK => ?_)
        refine goes_ Try.func9 (by kernel_rfl) rfl #[.agg #[.slice A0 xs.length c0, .slice A1 xs2.length c1]] (by rfl) rfl rfl (by (try simp only [List.map_toArray, List.map_cons, List.map_nil]); first | done | rfl) ?_
        with_reducible refine (lent_f xs xs2 La0.out La1.out _ _ _ _ _ (Kd.C_below Ha0.out HB.out) (Kd.C_below Ha1.out HB.out)).mono ?_
        rintro e V3 ⟨X0, X1, x0, x1, rfl, kx0, kx1, r0, r1, D3⟩
        refine ⟨_, rfl, ?_⟩
        have RX0 := Aside0.mk (Kd.R_lower r0 (below_size HB.out)); have RX1 := Aside0.mk (Kd.R_lower r1 (below_size HB.out)); clear r0 r1
        have HB_ := Aside0.mk (below_step HB.out D3); clear HB; have HB := HB_; clear HB_
        have E_ := Aside0.mk (below_step E.out D3); clear E; have E := E_; clear E_
        have t_ := Aside0.mk (blk_below BK1.out D3); clear BK1; have BK1 := t_; clear t_
        have t_ := Aside0.mk (blk_below BK2.out D3); clear BK2; have BK2 := t_; clear t_
        have t_ := Aside0.mk (blk_below B5.out D3); clear B5; have B5 := t_; clear t_
        have t_ := Aside0.mk (blk_below B6.out D3); clear B6; have B6 := t_; clear t_
        refine hK.out _ _ E.out (fun hHeld => ?_)
        clear hK K
        refine norm_ (a' := ?_) ?_ ?_
        rotate_left
        · show Act.put _ (some 21) _ = _
          simp only [Act.put, List.setIfInBounds_toArray, List.set_cons_zero, List.set_cons_succ, i64_w, i32_w]
          rfl
        refine one_ (i := 3) (N := some 23) #[true, true, true, true, true, true, false, false] rfl rfl (by kernel_rfl) (by decide) (fun K hK => ?_)
        refine goes_ Try.func9 (by kernel_rfl) rfl #[.agg #[.slice B0 ys.length d0, .slice B1 ys2.length d1]] (by rfl) rfl rfl (by (try simp only [List.map_toArray, List.map_cons, List.map_nil]); first | done | rfl) ?_
        with_reducible refine (lent_f ys ys2 Lb0.out Lb1.out _ _ _ _ _ (Kd.C_below Hb0.out HB.out) (Kd.C_below Hb1.out HB.out)).mono ?_
        rintro e V4 ⟨Y0, Y1, y0, y1, rfl, ky0, ky1, r0, r1, D4⟩
        refine ⟨_, rfl, ?_⟩
        have RY0 := Aside0.mk (Kd.R_lower r0 (below_size HB.out)); have RY1 := Aside0.mk (Kd.R_lower r1 (below_size HB.out)); clear r0 r1
        have HB_ := Aside0.mk (below_step HB.out D4); clear HB; have HB := HB_; clear HB_
        have E_ := Aside0.mk (below_step E.out D4); clear E; have E := E_; clear E_
        have t_ := Aside0.mk (blk_below BK1.out D4); clear BK1; have BK1 := t_; clear t_
        have t_ := Aside0.mk (blk_below BK2.out D4); clear BK2; have BK2 := t_; clear t_
        have t_ := Aside0.mk (blk_below B5.out D4); clear B5; have B5 := t_; clear t_
        have t_ := Aside0.mk (blk_below B6.out D4); clear B6; have B6 := t_; clear t_
        have t_ := Aside0.mk (Kd.R_below RX0.out D4); clear RX0; have RX0 := t_; clear t_
        have t_ := Aside0.mk (Kd.R_below RX1.out D4); clear RX1; have RX1 := t_; clear t_
        refine hK.out _ _ E.out (fun hHeld => ?_)
        clear hK K
        refine norm_ (a' := ?_) ?_ ?_
        rotate_left
        · show Act.put _ (some 23) _ = _
          simp only [Act.put, List.setIfInBounds_toArray, List.set_cons_zero, List.set_cons_succ, i64_w, i32_w]
          rfl
        exact norm_ (by first | (simp only [putAll, Act.put, List.setIfInBounds_toArray, List.set_cons_zero, List.set_cons_succ]; done) | (simp only [putAll, Act.put, List.setIfInBounds_toArray, List.set_cons_zero, List.set_cons_succ]; rfl)) (hCont ⟨g5, g6, ⟨X0, X1, x0, x1⟩, Y0, Y1, y0, y1⟩ _ ⟨HB.out, E.out, BK1.out, BK2.out, B5.out, B6.out, NE, G5, G6, kx0, kx1, ky0, ky1, RX0.out, RX1.out, RY0.out, RY1.out⟩)
  rintro ⟨g5, g6, ⟨X0, X1, x0, x1⟩, Y0, Y1, y0, y1⟩ V ⟨hb, he, b1, b2, b5, b6, ne, G5, G6, kx0, kx1, ky0, ky1, rx0, rx1, ry0, ry1⟩
  simp only at hb he b1 b2 b5 b6 ne G5 G6 kx0 kx1 ky0 ky1 rx0 rx1 ry0 ry1
  clear BK1 BK2 HB E
  refine norm_ (a' := ?_) ?_ ?_
  rotate_left
  · simp only [putAll, Act.put, List.setIfInBounds_toArray, List.set_cons_zero, List.set_cons_succ]
    rfl
  refine one_ (i := 6) (N := none) #[true, true, true, true, true, true, true, false] rfl rfl (by kernel_rfl) (by decide) (fun K hK => ?_)
  have hcz_0 := (blk_cell b5 0).trans (show (#[.slice none 0 0, .slice none 0 0] : Array Value)[0]? = some (.slice none 0 0) from rfl)
  have hcz_1 := (blk_cell b5 1).trans (show (#[.slice none 0 0, .slice none 0 0] : Array Value)[1]? = some (.slice none 0 0) from rfl)
  have hfz_0 := blk_frozen b5 0
  have hfz_1 := blk_frozen b5 1
  refine skip_ (w1 := ?_) (by rfl) rfl ?_ ?_
  rotate_left
  · go_simp
    rfl
  clear hcz_0 hcz_1 hfz_0 hfz_1
  have t5 := blk_put (cs' := #[.slice X0 xs.length x0, .slice X1 xs2.length x1]) (blk_put (cs' := #[.slice X0 xs.length x0, .slice none 0 0]) b5 0 (.slice X0 xs.length x0) rfl) 1 (.slice X1 xs2.length x1) rfl
  have t1 := blk_far (p := ⟨g5, 1, none⟩) (blk_far (p := ⟨g5, 0, none⟩) b1 (Nat.ne_of_lt (Nat.lt_of_lt_of_le N1 G5)) (.slice X0 xs.length x0)) (Nat.ne_of_lt (Nat.lt_of_lt_of_le N1 G5)) (.slice X1 xs2.length x1)
  have t2 := blk_far (p := ⟨g5, 1, none⟩) (blk_far (p := ⟨g5, 0, none⟩) b2 (Nat.ne_of_lt (Nat.lt_of_lt_of_le N2 G5)) (.slice X0 xs.length x0)) (Nat.ne_of_lt (Nat.lt_of_lt_of_le N2 G5)) (.slice X1 xs2.length x1)
  have t6 := blk_far (p := ⟨g5, 1, none⟩) (blk_far (p := ⟨g5, 0, none⟩) b6 ne.symm (.slice X0 xs.length x0)) ne.symm (.slice X1 xs2.length x1)
  have trx0 := Kd.R_mono (ok' := fun _ => True) (Kd.R_far (p := ⟨g5, 1, none⟩) (Kd.R_far (p := ⟨g5, 0, none⟩) (Kd.R_types rx0 b5 (by decide)) (fun _ hk => hk.2) (.slice X0 xs.length x0)) (fun _ hk => hk.2) (.slice X1 xs2.length x1)) (fun _ _ => trivial)
  have trx1 := Kd.R_mono (ok' := fun _ => True) (Kd.R_far (p := ⟨g5, 1, none⟩) (Kd.R_far (p := ⟨g5, 0, none⟩) (Kd.R_types rx1 b5 (by decide)) (fun _ hk => hk.2) (.slice X0 xs.length x0)) (fun _ hk => hk.2) (.slice X1 xs2.length x1)) (fun _ _ => trivial)
  have try0 := Kd.R_mono (ok' := fun _ => True) (Kd.R_far (p := ⟨g5, 1, none⟩) (Kd.R_far (p := ⟨g5, 0, none⟩) (Kd.R_types ry0 b5 (by decide)) (fun _ hk => hk.2) (.slice X0 xs.length x0)) (fun _ hk => hk.2) (.slice X1 xs2.length x1)) (fun _ _ => trivial)
  have try1 := Kd.R_mono (ok' := fun _ => True) (Kd.R_far (p := ⟨g5, 1, none⟩) (Kd.R_far (p := ⟨g5, 0, none⟩) (Kd.R_types ry1 b5 (by decide)) (fun _ hk => hk.2) (.slice X0 xs.length x0)) (fun _ hk => hk.2) (.slice X1 xs2.length x1)) (fun _ _ => trivial)
  have the := below_set (g := g5) (j := 1) (v := .slice X1 xs2.length x1) (below_set (g := g5) (j := 0) (v := .slice X0 xs.length x0) he G5) G5
  have thb := below_set (g := g5) (j := 1) (v := .slice X1 xs2.length x1) (below_set (g := g5) (j := 0) (v := .slice X0 xs.length x0) hb (Nat.le_trans HS.out G5)) (Nat.le_trans HS.out G5)
  clear b1 b2 b5 b6 rx0 rx1 ry0 ry1 he hb
  generalize (V.setCell ⟨g5, 0, none⟩ (.slice X0 xs.length x0)).setCell ⟨g5, 1, none⟩ (.slice X1 xs2.length x1) = Z1 at *
  have b1 := t1; have b2 := t2; have b5 := t5; have b6 := t6; have he := the; have hb := thb; have rx0 := trx0; have rx1 := trx1; have ry0 := try0; have ry1 := try1; clear t1 t2 t5 t6 the thb trx0 trx1 try0 try1
  refine hK.out _ _ he (fun hHeld => ?_)
  clear hK K hHeld
  refine one_ (i := 7) (N := none) #[true, true, true, true, true, true, true, true] rfl rfl (by kernel_rfl) (by decide) (fun K hK => ?_)
  have hcz_0 := (blk_cell b6 0).trans (show (#[.slice none 0 0, .slice none 0 0] : Array Value)[0]? = some (.slice none 0 0) from rfl)
  have hcz_1 := (blk_cell b6 1).trans (show (#[.slice none 0 0, .slice none 0 0] : Array Value)[1]? = some (.slice none 0 0) from rfl)
  have hfz_0 := blk_frozen b6 0
  have hfz_1 := blk_frozen b6 1
  refine skip_ (w1 := ?_) (by rfl) rfl ?_ ?_
  rotate_left
  · go_simp
    rfl
  clear hcz_0 hcz_1 hfz_0 hfz_1
  have t5 := blk_put (cs' := #[.slice Y0 ys.length y0, .slice Y1 ys2.length y1]) (blk_put (cs' := #[.slice Y0 ys.length y0, .slice none 0 0]) b6 0 (.slice Y0 ys.length y0) rfl) 1 (.slice Y1 ys2.length y1) rfl
  have t1 := blk_far (p := ⟨g6, 1, none⟩) (blk_far (p := ⟨g6, 0, none⟩) b1 (Nat.ne_of_lt (Nat.lt_of_lt_of_le N1 G6)) (.slice Y0 ys.length y0)) (Nat.ne_of_lt (Nat.lt_of_lt_of_le N1 G6)) (.slice Y1 ys2.length y1)
  have t2 := blk_far (p := ⟨g6, 1, none⟩) (blk_far (p := ⟨g6, 0, none⟩) b2 (Nat.ne_of_lt (Nat.lt_of_lt_of_le N2 G6)) (.slice Y0 ys.length y0)) (Nat.ne_of_lt (Nat.lt_of_lt_of_le N2 G6)) (.slice Y1 ys2.length y1)
  have t6 := blk_far (p := ⟨g6, 1, none⟩) (blk_far (p := ⟨g6, 0, none⟩) b5 ne (.slice Y0 ys.length y0)) ne (.slice Y1 ys2.length y1)
  have trx0 := Kd.R_mono (ok' := fun _ => True) (Kd.R_far (p := ⟨g6, 1, none⟩) (Kd.R_far (p := ⟨g6, 0, none⟩) (Kd.R_types rx0 b6 (by decide)) (fun _ hk => hk.2) (.slice Y0 ys.length y0)) (fun _ hk => hk.2) (.slice Y1 ys2.length y1)) (fun _ _ => trivial)
  have trx1 := Kd.R_mono (ok' := fun _ => True) (Kd.R_far (p := ⟨g6, 1, none⟩) (Kd.R_far (p := ⟨g6, 0, none⟩) (Kd.R_types rx1 b6 (by decide)) (fun _ hk => hk.2) (.slice Y0 ys.length y0)) (fun _ hk => hk.2) (.slice Y1 ys2.length y1)) (fun _ _ => trivial)
  have try0 := Kd.R_mono (ok' := fun _ => True) (Kd.R_far (p := ⟨g6, 1, none⟩) (Kd.R_far (p := ⟨g6, 0, none⟩) (Kd.R_types ry0 b6 (by decide)) (fun _ hk => hk.2) (.slice Y0 ys.length y0)) (fun _ hk => hk.2) (.slice Y1 ys2.length y1)) (fun _ _ => trivial)
  have try1 := Kd.R_mono (ok' := fun _ => True) (Kd.R_far (p := ⟨g6, 1, none⟩) (Kd.R_far (p := ⟨g6, 0, none⟩) (Kd.R_types ry1 b6 (by decide)) (fun _ hk => hk.2) (.slice Y0 ys.length y0)) (fun _ hk => hk.2) (.slice Y1 ys2.length y1)) (fun _ _ => trivial)
  have the := below_set (g := g6) (j := 1) (v := .slice Y1 ys2.length y1) (below_set (g := g6) (j := 0) (v := .slice Y0 ys.length y0) he G6) G6
  have thb := below_set (g := g6) (j := 1) (v := .slice Y1 ys2.length y1) (below_set (g := g6) (j := 0) (v := .slice Y0 ys.length y0) hb (Nat.le_trans HS.out G6)) (Nat.le_trans HS.out G6)
  clear b1 b2 b5 b6 rx0 rx1 ry0 ry1 he hb
  generalize (Z1.setCell ⟨g6, 0, none⟩ (.slice Y0 ys.length y0)).setCell ⟨g6, 1, none⟩ (.slice Y1 ys2.length y1) = Z2 at *
  have b1 := t1; have b2 := t2; have b6 := t5; have b5 := t6; have he := the; have hb := thb; have rx0 := trx0; have rx1 := trx1; have ry0 := try0; have ry1 := try1; clear t1 t2 t5 t6 the thb trx0 trx1 try0 try1
  refine hK.out _ _ he (fun hHeld => ?_)
  clear hK K hHeld
  refine done_ (by kernel_rfl) ?_
  have BK1 := Aside0.mk b1; have BK2 := Aside0.mk b2; have BK5 := Aside0.mk b5; have BK6 := Aside0.mk b6; have HB := Aside0.mk hb
  have HMx0 : Aside0 (Rd Z2 X0 (mk xs 3)) := ⟨by have := (Kd.R_reads' rx0).2.2; exact this⟩
  have Hx0 := Aside0.mk (mk_rd HMx0.out)
  have Kx0 : Aside0 (xs.length ≤ x0) := ⟨by omega⟩
  have KKx0 := Aside0.mk kx0
  have HMx1 : Aside0 (Rd Z2 X1 (mk xs2 3)) := ⟨by have := (Kd.R_reads' rx1).2.2; exact this⟩
  have Hx1 := Aside0.mk (mk_rd HMx1.out)
  have Kx1 : Aside0 (xs2.length ≤ x1) := ⟨by omega⟩
  have KKx1 := Aside0.mk kx1
  have HMy0 : Aside0 (Rd Z2 Y0 (mk ys 3)) := ⟨by have := (Kd.R_reads' ry0).2.2; exact this⟩
  have Hy0 := Aside0.mk (mk_rd HMy0.out)
  have Ky0 : Aside0 (ys.length ≤ y0) := ⟨by omega⟩
  have KKy0 := Aside0.mk ky0
  have HMy1 : Aside0 (Rd Z2 Y1 (mk ys2 3)) := ⟨by have := (Kd.R_reads' ry1).2.2; exact this⟩
  have Hy1 := Aside0.mk (mk_rd HMy1.out)
  have Ky1 : Aside0 (ys2.length ≤ y1) := ⟨by omega⟩
  have KKy1 := Aside0.mk ky1
  clear b1 b2 b5 b6 hb he rx0 rx1 ry0 ry1 kx0 kx1 ky0 ky1 ne G5 G6 N1 N2 HS
  have HX := Aside0.mk (Below.refl Z2.heap.size Z2)
  generalize g5 = gb5 at *
  generalize g6 = gb6 at *
  have hcz1_0 := (blk_cell BK1.out 0).trans (show (#[.slice A0 xs.length c0, .slice A1 xs2.length c1] : Array Value)[0]? = some (.slice A0 xs.length c0) from rfl)
  have hcz1_1 := (blk_cell BK1.out 1).trans (show (#[.slice A0 xs.length c0, .slice A1 xs2.length c1] : Array Value)[1]? = some (.slice A1 xs2.length c1) from rfl)
  have hcz2_0 := (blk_cell BK2.out 0).trans (show (#[.slice B0 ys.length d0, .slice B1 ys2.length d1] : Array Value)[0]? = some (.slice B0 ys.length d0) from rfl)
  have hcz2_1 := (blk_cell BK2.out 1).trans (show (#[.slice B0 ys.length d0, .slice B1 ys2.length d1] : Array Value)[1]? = some (.slice B1 ys2.length d1) from rfl)
  have hcz5_0 := (blk_cell BK5.out 0).trans (show (#[.slice X0 xs.length x0, .slice X1 xs2.length x1] : Array Value)[0]? = some (.slice X0 xs.length x0) from rfl)
  have hcz5_1 := (blk_cell BK5.out 1).trans (show (#[.slice X0 xs.length x0, .slice X1 xs2.length x1] : Array Value)[1]? = some (.slice X1 xs2.length x1) from rfl)
  have hcz6_0 := (blk_cell BK6.out 0).trans (show (#[.slice Y0 ys.length y0, .slice Y1 ys2.length y1] : Array Value)[0]? = some (.slice Y0 ys.length y0) from rfl)
  have hcz6_1 := (blk_cell BK6.out 1).trans (show (#[.slice Y0 ys.length y0, .slice Y1 ys2.length y1] : Array Value)[1]? = some (.slice Y1 ys2.length y1) from rfl)
  go_upto_region 5 with (first
    | (go_at_call 10; (with_reducible refine (refmerge_t m m2 k xs xs2 ys ys2 La0.out La1.out Mab.out _ _ _ _ _ _ _ _ _ (by repeat (first | exact (Kd.C_below Ha0.out HB.out) | (with_reducible refine Kd.C_alloc ?_ _) | (with_reducible refine Kd.C_drewN ?_ _) | (with_reducible refine Kd.C_drew ?_))) (by repeat (first | exact (Kd.C_below Ha1.out HB.out) | (with_reducible refine Kd.C_alloc ?_ _) | (with_reducible refine Kd.C_drewN ?_ _) | (with_reducible refine Kd.C_drew ?_))) (by repeat (first | exact (Kd.C_below Hb0.out HB.out) | (with_reducible refine Kd.C_alloc ?_ _) | (with_reducible refine Kd.C_drewN ?_ _) | (with_reducible refine Kd.C_drew ?_))) (by repeat (first | exact (Kd.C_below Hb1.out HB.out) | (with_reducible refine Kd.C_alloc ?_ _) | (with_reducible refine Kd.C_drewN ?_ _) | (with_reducible refine Kd.C_drew ?_))) Ka0.out Ka1.out Kb0.out Kb1.out).mono ?_); rintro e wA ⟨Q0, Q1, q0, q1, rfl, kw0, kw1, w0_, w1_, hb_⟩; have tHB_ := Aside0.mk (below_step (by repeat (first | (with_reducible first | exact HB.out | apply below_alloc | apply pw_below_drewN | apply below_drew1 | apply below_drew) | exact HB.out)) hb_); have tHX_ := Aside0.mk (below_step (by repeat (first | (with_reducible first | exact HX.out | apply below_alloc | apply pw_below_drewN | apply below_drew1 | apply below_drew) | exact HX.out)) hb_); have bk2_ := Aside0.mk (blk_below (g := gb1) (o := .cells #[.slice A0 xs.length c0, .slice A1 xs2.length c1] 24 (0, 0)) (by (with_reducible repeat (first | refine blk_drewN ?_ _ | refine blk_drew ?_ | refine blk_alloc ?_ _)); exact BK1.out) hb_); clear BK1; have BK1 := bk2_; clear bk2_; have bk2_ := Aside0.mk (blk_below (g := gb2) (o := .cells #[.slice B0 ys.length d0, .slice B1 ys2.length d1] 24 (0, 0)) (by (with_reducible repeat (first | refine blk_drewN ?_ _ | refine blk_drew ?_ | refine blk_alloc ?_ _)); exact BK2.out) hb_); clear BK2; have BK2 := bk2_; clear bk2_; have bk2_ := Aside0.mk (blk_below (g := gb5) (o := .cells #[.slice X0 xs.length x0, .slice X1 xs2.length x1] 24 (0, 0)) (by (with_reducible repeat (first | refine blk_drewN ?_ _ | refine blk_drew ?_ | refine blk_alloc ?_ _)); exact BK5.out) hb_); clear BK5; have BK5 := bk2_; clear bk2_; have bk2_ := Aside0.mk (blk_below (g := gb6) (o := .cells #[.slice Y0 ys.length y0, .slice Y1 ys2.length y1] 24 (0, 0)) (by (with_reducible repeat (first | refine blk_drewN ?_ _ | refine blk_drew ?_ | refine blk_alloc ?_ _)); exact BK6.out) hb_); clear BK6; have BK6 := bk2_; clear bk2_; clear HB; have HB := tHB_; clear tHB_; clear HX; have HX := tHX_; clear tHX_; (try clear hcz1_0); (try clear hcz1_1); (try clear hcz2_0); (try clear hcz2_1); (try clear hcz5_0); (try clear hcz5_1); (try clear hcz6_0); (try clear hcz6_1); have hcz1_0 := (blk_cell BK1.out 0).trans (show (#[.slice A0 xs.length c0, .slice A1 xs2.length c1] : Array Value)[0]? = some (.slice A0 xs.length c0) from rfl); have hcz1_1 := (blk_cell BK1.out 1).trans (show (#[.slice A0 xs.length c0, .slice A1 xs2.length c1] : Array Value)[1]? = some (.slice A1 xs2.length c1) from rfl); have hcz2_0 := (blk_cell BK2.out 0).trans (show (#[.slice B0 ys.length d0, .slice B1 ys2.length d1] : Array Value)[0]? = some (.slice B0 ys.length d0) from rfl); have hcz2_1 := (blk_cell BK2.out 1).trans (show (#[.slice B0 ys.length d0, .slice B1 ys2.length d1] : Array Value)[1]? = some (.slice B1 ys2.length d1) from rfl); have hcz5_0 := (blk_cell BK5.out 0).trans (show (#[.slice X0 xs.length x0, .slice X1 xs2.length x1] : Array Value)[0]? = some (.slice X0 xs.length x0) from rfl); have hcz5_1 := (blk_cell BK5.out 1).trans (show (#[.slice X0 xs.length x0, .slice X1 xs2.length x1] : Array Value)[1]? = some (.slice X1 xs2.length x1) from rfl); have hcz6_0 := (blk_cell BK6.out 0).trans (show (#[.slice Y0 ys.length y0, .slice Y1 ys2.length y1] : Array Value)[0]? = some (.slice Y0 ys.length y0) from rfl); have hcz6_1 := (blk_cell BK6.out 1).trans (show (#[.slice Y0 ys.length y0, .slice Y1 ys2.length y1] : Array Value)[1]? = some (.slice Y1 ys2.length y1) from rfl); (try clear hb_))
    | ((with_reducible refine gate_dst (N := 7) rfl ?_); have HLT1 := Aside0.mk (blk_lt BK1.out); have HLT2 := Aside0.mk (blk_lt BK2.out); have HLT5 := Aside0.mk (blk_lt BK5.out); have HLT6 := Aside0.mk (blk_lt BK6.out); refine box_event ?hg (N := 7) ?hd (cs := #[.slice none 0 0, .slice none 0 0]) (t := 24) ?hr ?_; (case hd => rfl); (case hg => rfl); (case hr => first | (go_simp; done) | (go_simp; rfl)); intro gb7 hg_ wb7 hbox hb_; have GEHB7 := Aside0.mk ((by rw [hg_]; exact (below_size (by repeat (first | (with_reducible first | exact HB.out | apply below_alloc | apply pw_below_drewN | apply below_drew1 | apply below_drew) | exact HB.out)))) : _ ≤ gb7); have GEHX7 := Aside0.mk ((by rw [hg_]; exact (below_size (by repeat (first | (with_reducible first | exact HX.out | apply below_alloc | apply pw_below_drewN | apply below_drew1 | apply below_drew) | exact HX.out)))) : _ ≤ gb7); have GE7 := Aside0.mk ((by rw [hg_]; exact (below_size (by repeat (first | (with_reducible first | exact HB.out | apply below_alloc | apply pw_below_drewN | apply below_drew1 | apply below_drew) | exact HB.out)))) : w.heap.size ≤ gb7); have tHB_ := Aside0.mk (below_step (by repeat (first | (with_reducible first | exact HB.out | apply below_alloc | apply pw_below_drewN | apply below_drew1 | apply below_drew) | exact HB.out)) hb_); have tHX_ := Aside0.mk (below_step (by repeat (first | (with_reducible first | exact HX.out | apply below_alloc | apply pw_below_drewN | apply below_drew1 | apply below_drew) | exact HX.out)) hb_); have bk2_ := Aside0.mk (blk_below (g := gb1) (o := .cells #[.slice A0 xs.length c0, .slice A1 xs2.length c1] 24 (0, 0)) (by (with_reducible repeat (first | refine blk_drewN ?_ _ | refine blk_drew ?_ | refine blk_alloc ?_ _)); exact BK1.out) hb_); clear BK1; have BK1 := bk2_; clear bk2_; have bk2_ := Aside0.mk (blk_below (g := gb2) (o := .cells #[.slice B0 ys.length d0, .slice B1 ys2.length d1] 24 (0, 0)) (by (with_reducible repeat (first | refine blk_drewN ?_ _ | refine blk_drew ?_ | refine blk_alloc ?_ _)); exact BK2.out) hb_); clear BK2; have BK2 := bk2_; clear bk2_; have bk2_ := Aside0.mk (blk_below (g := gb5) (o := .cells #[.slice X0 xs.length x0, .slice X1 xs2.length x1] 24 (0, 0)) (by (with_reducible repeat (first | refine blk_drewN ?_ _ | refine blk_drew ?_ | refine blk_alloc ?_ _)); exact BK5.out) hb_); clear BK5; have BK5 := bk2_; clear bk2_; have bk2_ := Aside0.mk (blk_below (g := gb6) (o := .cells #[.slice Y0 ys.length y0, .slice Y1 ys2.length y1] 24 (0, 0)) (by (with_reducible repeat (first | refine blk_drewN ?_ _ | refine blk_drew ?_ | refine blk_alloc ?_ _)); exact BK6.out) hb_); clear BK6; have BK6 := bk2_; clear bk2_; clear HB; have HB := tHB_; clear tHB_; clear HX; have HX := tHX_; clear tHX_; have BK7 := Aside0.mk hbox; have HG7 := Aside0.mk hg_; have DB7 := Aside0.mk hb_; clear hbox hg_ hb_; have hcz1_0 := (blk_cell BK1.out 0).trans (show (#[.slice A0 xs.length c0, .slice A1 xs2.length c1] : Array Value)[0]? = some (.slice A0 xs.length c0) from rfl); have hfz1_0 := blk_frozen BK1.out 0; have hcz1_1 := (blk_cell BK1.out 1).trans (show (#[.slice A0 xs.length c0, .slice A1 xs2.length c1] : Array Value)[1]? = some (.slice A1 xs2.length c1) from rfl); have hfz1_1 := blk_frozen BK1.out 1; have hcz2_0 := (blk_cell BK2.out 0).trans (show (#[.slice B0 ys.length d0, .slice B1 ys2.length d1] : Array Value)[0]? = some (.slice B0 ys.length d0) from rfl); have hfz2_0 := blk_frozen BK2.out 0; have hcz2_1 := (blk_cell BK2.out 1).trans (show (#[.slice B0 ys.length d0, .slice B1 ys2.length d1] : Array Value)[1]? = some (.slice B1 ys2.length d1) from rfl); have hfz2_1 := blk_frozen BK2.out 1; have hcz5_0 := (blk_cell BK5.out 0).trans (show (#[.slice X0 xs.length x0, .slice X1 xs2.length x1] : Array Value)[0]? = some (.slice X0 xs.length x0) from rfl); have hfz5_0 := blk_frozen BK5.out 0; have hcz5_1 := (blk_cell BK5.out 1).trans (show (#[.slice X0 xs.length x0, .slice X1 xs2.length x1] : Array Value)[1]? = some (.slice X1 xs2.length x1) from rfl); have hfz5_1 := blk_frozen BK5.out 1; have hcz6_0 := (blk_cell BK6.out 0).trans (show (#[.slice Y0 ys.length y0, .slice Y1 ys2.length y1] : Array Value)[0]? = some (.slice Y0 ys.length y0) from rfl); have hfz6_0 := blk_frozen BK6.out 0; have hcz6_1 := (blk_cell BK6.out 1).trans (show (#[.slice Y0 ys.length y0, .slice Y1 ys2.length y1] : Array Value)[1]? = some (.slice Y1 ys2.length y1) from rfl); have hfz6_1 := blk_frozen BK6.out 1; have hcz7_0 := (blk_cell BK7.out 0).trans (show (#[.slice none 0 0, .slice none 0 0] : Array Value)[0]? = some (.slice none 0 0) from rfl); have hfz7_0 := blk_frozen BK7.out 0; have hcz7_1 := (blk_cell BK7.out 1).trans (show (#[.slice none 0 0, .slice none 0 0] : Array Value)[1]? = some (.slice none 0 0) from rfl); have hfz7_1 := blk_frozen BK7.out 1))
  have bk7 := blk_put (cs' := #[.slice Q0 m.length q0, .slice Q1 m2.length q1]) (blk_put (cs' := #[.slice Q0 m.length q0, .slice none 0 0]) BK7.out 0 (.slice Q0 m.length q0) rfl) 1 (.slice Q1 m2.length q1) rfl
  have hne1 : gb1 ≠ gb7 := by rw [HG7.out]; exact Nat.ne_of_lt (HLT1.out)
  have bk1 := blk_far (p := ⟨gb7, 1, none⟩) (blk_far (p := ⟨gb7, 0, none⟩) BK1.out hne1 (.slice Q0 m.length q0)) hne1 (.slice Q1 m2.length q1)
  have hne2 : gb2 ≠ gb7 := by rw [HG7.out]; exact Nat.ne_of_lt (HLT2.out)
  have bk2 := blk_far (p := ⟨gb7, 1, none⟩) (blk_far (p := ⟨gb7, 0, none⟩) BK2.out hne2 (.slice Q0 m.length q0)) hne2 (.slice Q1 m2.length q1)
  have hne5 : gb5 ≠ gb7 := by rw [HG7.out]; exact Nat.ne_of_lt (HLT5.out)
  have bk5 := blk_far (p := ⟨gb7, 1, none⟩) (blk_far (p := ⟨gb7, 0, none⟩) BK5.out hne5 (.slice Q0 m.length q0)) hne5 (.slice Q1 m2.length q1)
  have hne6 : gb6 ≠ gb7 := by rw [HG7.out]; exact Nat.ne_of_lt (HLT6.out)
  have bk6 := blk_far (p := ⟨gb7, 1, none⟩) (blk_far (p := ⟨gb7, 0, none⟩) BK6.out hne6 (.slice Q0 m.length q0)) hne6 (.slice Q1 m2.length q1)
  have D := below_set (g := gb7) (j := 1) (v := .slice Q1 m2.length q1) (below_set (g := gb7) (j := 0) (v := .slice Q0 m.length q0) DB7.out (Nat.le_of_eq HG7.out.symm)) (Nat.le_of_eq HG7.out.symm)
  have THB := Aside0.mk (below_set (g := gb7) (j := 1) (v := .slice Q1 m2.length q1) (below_set (g := gb7) (j := 0) (v := .slice Q0 m.length q0) HB.out GEHB7.out) GEHB7.out)
  have THX := Aside0.mk (below_set (g := gb7) (j := 1) (v := .slice Q1 m2.length q1) (below_set (g := gb7) (j := 0) (v := .slice Q0 m.length q0) HX.out GEHX7.out) GEHX7.out)
  have qw0_ := Kd.C_below w0_ D
  have qw1_ := Kd.C_below w1_ D
  clear D DB7 HG7 BK7 GE7
  clear HB GEHB7
  clear HX GEHX7
  clear HLT1 hne1 BK1
  clear HLT2 hne2 BK2
  clear HLT5 hne5 BK5
  clear HLT6 hne6 BK6
  clear w0_
  clear w1_
  (try clear hcz1_0)
  (try clear hcz1_1)
  (try clear hcz2_0)
  (try clear hcz2_1)
  (try clear hcz5_0)
  (try clear hcz5_1)
  (try clear hcz6_0)
  (try clear hcz6_1)
  (try clear hcz7_0)
  (try clear hcz7_1)
  (try clear hfz1_0)
  (try clear hfz1_1)
  (try clear hfz2_0)
  (try clear hfz2_1)
  (try clear hfz5_0)
  (try clear hfz5_1)
  (try clear hfz6_0)
  (try clear hfz6_1)
  (try clear hfz7_0)
  (try clear hfz7_1)
  generalize (wb7.setCell ⟨gb7, 0, none⟩ (.slice Q0 m.length q0)).setCell ⟨gb7, 1, none⟩ (.slice Q1 m2.length q1) = Z3 at *
  have HB := THB; clear THB
  have HX := THX; clear THX
  have BK1 := Aside0.mk bk1
  clear bk1
  have BK2 := Aside0.mk bk2
  clear bk2
  have BK5 := Aside0.mk bk5
  clear bk5
  have BK6 := Aside0.mk bk6
  clear bk6
  have BK7 := Aside0.mk bk7
  clear bk7
  have Hw0_ := Aside0.mk qw0_
  clear qw0_
  have Hw1_ := Aside0.mk qw1_
  clear qw1_
  have hcz1_0 := (blk_cell BK1.out 0).trans (show (#[.slice A0 xs.length c0, .slice A1 xs2.length c1] : Array Value)[0]? = some (.slice A0 xs.length c0) from rfl)
  have hcz1_1 := (blk_cell BK1.out 1).trans (show (#[.slice A0 xs.length c0, .slice A1 xs2.length c1] : Array Value)[1]? = some (.slice A1 xs2.length c1) from rfl)
  have hcz2_0 := (blk_cell BK2.out 0).trans (show (#[.slice B0 ys.length d0, .slice B1 ys2.length d1] : Array Value)[0]? = some (.slice B0 ys.length d0) from rfl)
  have hcz2_1 := (blk_cell BK2.out 1).trans (show (#[.slice B0 ys.length d0, .slice B1 ys2.length d1] : Array Value)[1]? = some (.slice B1 ys2.length d1) from rfl)
  have hcz5_0 := (blk_cell BK5.out 0).trans (show (#[.slice X0 xs.length x0, .slice X1 xs2.length x1] : Array Value)[0]? = some (.slice X0 xs.length x0) from rfl)
  have hcz5_1 := (blk_cell BK5.out 1).trans (show (#[.slice X0 xs.length x0, .slice X1 xs2.length x1] : Array Value)[1]? = some (.slice X1 xs2.length x1) from rfl)
  have hcz6_0 := (blk_cell BK6.out 0).trans (show (#[.slice Y0 ys.length y0, .slice Y1 ys2.length y1] : Array Value)[0]? = some (.slice Y0 ys.length y0) from rfl)
  have hcz6_1 := (blk_cell BK6.out 1).trans (show (#[.slice Y0 ys.length y0, .slice Y1 ys2.length y1] : Array Value)[1]? = some (.slice Y1 ys2.length y1) from rfl)
  have hcz7_0 := (blk_cell BK7.out 0).trans (show (#[.slice Q0 m.length q0, .slice Q1 m2.length q1] : Array Value)[0]? = some (.slice Q0 m.length q0) from rfl)
  have hcz7_1 := (blk_cell BK7.out 1).trans (show (#[.slice Q0 m.length q0, .slice Q1 m2.length q1] : Array Value)[1]? = some (.slice Q1 m2.length q1) from rfl)
  have Hw0 := Hw0_; have Hw1 := Hw1_; clear Hw0_ Hw1_
  have Kw0 := Aside0.mk kw0
  clear kw0
  have Kw1 := Aside0.mk kw1
  clear kw1
  have HC := Aside0.mk (Below.refl Z3.heap.size Z3)
  have OB1 := BK1
  have OB2 := BK2
  have OB5 := BK5
  have OB6 := BK6
  have OB7 := BK7
  have OHB := HB
  have OHX := HX
  go_upto_region 6 with (first
    | (go_at_call 11; (with_reducible refine (merge_r m m2 k xs xs2 ys ys2 La0.out La1.out Mab.out _ _ _ _ _ _ _ _ _ (by repeat (first | exact (Kd.C_below Hx0.out HX.out) | (with_reducible refine Kd.C_alloc ?_ _) | (with_reducible refine Kd.C_drewN ?_ _) | (with_reducible refine Kd.C_drew ?_))) (by repeat (first | exact (Kd.C_below Hx1.out HX.out) | (with_reducible refine Kd.C_alloc ?_ _) | (with_reducible refine Kd.C_drewN ?_ _) | (with_reducible refine Kd.C_drew ?_))) (by repeat (first | exact (Kd.C_below Hy0.out HX.out) | (with_reducible refine Kd.C_alloc ?_ _) | (with_reducible refine Kd.C_drewN ?_ _) | (with_reducible refine Kd.C_drew ?_))) (by repeat (first | exact (Kd.C_below Hy1.out HX.out) | (with_reducible refine Kd.C_alloc ?_ _) | (with_reducible refine Kd.C_drewN ?_ _) | (with_reducible refine Kd.C_drew ?_)))).mono ?_); rintro e wA ⟨F0, F1, f0, f1, P, rfl, km0, km1, r0, r1, hb_⟩; have tHB_ := Aside0.mk (below_step (by repeat (first | (with_reducible first | exact HB.out | apply below_alloc | apply pw_below_drewN | apply below_drew1 | apply below_drew) | exact HB.out)) hb_); have tHX_ := Aside0.mk (below_step (by repeat (first | (with_reducible first | exact HX.out | apply below_alloc | apply pw_below_drewN | apply below_drew1 | apply below_drew) | exact HX.out)) hb_); have tHC_ := Aside0.mk (below_step (by repeat (first | (with_reducible first | exact HC.out | apply below_alloc | apply pw_below_drewN | apply below_drew1 | apply below_drew) | exact HC.out)) hb_); have bk2_ := Aside0.mk (blk_below (g := gb1) (o := .cells #[.slice A0 xs.length c0, .slice A1 xs2.length c1] 24 (0, 0)) (by (with_reducible repeat (first | refine blk_drewN ?_ _ | refine blk_drew ?_ | refine blk_alloc ?_ _)); exact BK1.out) hb_); clear BK1; have BK1 := bk2_; clear bk2_; have bk2_ := Aside0.mk (blk_below (g := gb2) (o := .cells #[.slice B0 ys.length d0, .slice B1 ys2.length d1] 24 (0, 0)) (by (with_reducible repeat (first | refine blk_drewN ?_ _ | refine blk_drew ?_ | refine blk_alloc ?_ _)); exact BK2.out) hb_); clear BK2; have BK2 := bk2_; clear bk2_; have bk2_ := Aside0.mk (blk_below (g := gb5) (o := .cells #[.slice X0 xs.length x0, .slice X1 xs2.length x1] 24 (0, 0)) (by (with_reducible repeat (first | refine blk_drewN ?_ _ | refine blk_drew ?_ | refine blk_alloc ?_ _)); exact BK5.out) hb_); clear BK5; have BK5 := bk2_; clear bk2_; have bk2_ := Aside0.mk (blk_below (g := gb6) (o := .cells #[.slice Y0 ys.length y0, .slice Y1 ys2.length y1] 24 (0, 0)) (by (with_reducible repeat (first | refine blk_drewN ?_ _ | refine blk_drew ?_ | refine blk_alloc ?_ _)); exact BK6.out) hb_); clear BK6; have BK6 := bk2_; clear bk2_; have bk2_ := Aside0.mk (blk_below (g := gb7) (o := .cells #[.slice Q0 m.length q0, .slice Q1 m2.length q1] 24 (0, 0)) (by (with_reducible repeat (first | refine blk_drewN ?_ _ | refine blk_drew ?_ | refine blk_alloc ?_ _)); exact BK7.out) hb_); clear BK7; have BK7 := bk2_; clear bk2_; clear HB; have HB := tHB_; clear tHB_; clear HX; have HX := tHX_; clear tHX_; clear HC; have HC := tHC_; clear tHC_; (try clear hcz1_0); (try clear hcz1_1); (try clear hcz2_0); (try clear hcz2_1); (try clear hcz5_0); (try clear hcz5_1); (try clear hcz6_0); (try clear hcz6_1); (try clear hcz7_0); (try clear hcz7_1); have hcz1_0 := (blk_cell BK1.out 0).trans (show (#[.slice A0 xs.length c0, .slice A1 xs2.length c1] : Array Value)[0]? = some (.slice A0 xs.length c0) from rfl); have hcz1_1 := (blk_cell BK1.out 1).trans (show (#[.slice A0 xs.length c0, .slice A1 xs2.length c1] : Array Value)[1]? = some (.slice A1 xs2.length c1) from rfl); have hcz2_0 := (blk_cell BK2.out 0).trans (show (#[.slice B0 ys.length d0, .slice B1 ys2.length d1] : Array Value)[0]? = some (.slice B0 ys.length d0) from rfl); have hcz2_1 := (blk_cell BK2.out 1).trans (show (#[.slice B0 ys.length d0, .slice B1 ys2.length d1] : Array Value)[1]? = some (.slice B1 ys2.length d1) from rfl); have hcz5_0 := (blk_cell BK5.out 0).trans (show (#[.slice X0 xs.length x0, .slice X1 xs2.length x1] : Array Value)[0]? = some (.slice X0 xs.length x0) from rfl); have hcz5_1 := (blk_cell BK5.out 1).trans (show (#[.slice X0 xs.length x0, .slice X1 xs2.length x1] : Array Value)[1]? = some (.slice X1 xs2.length x1) from rfl); have hcz6_0 := (blk_cell BK6.out 0).trans (show (#[.slice Y0 ys.length y0, .slice Y1 ys2.length y1] : Array Value)[0]? = some (.slice Y0 ys.length y0) from rfl); have hcz6_1 := (blk_cell BK6.out 1).trans (show (#[.slice Y0 ys.length y0, .slice Y1 ys2.length y1] : Array Value)[1]? = some (.slice Y1 ys2.length y1) from rfl); have hcz7_0 := (blk_cell BK7.out 0).trans (show (#[.slice Q0 m.length q0, .slice Q1 m2.length q1] : Array Value)[0]? = some (.slice Q0 m.length q0) from rfl); have hcz7_1 := (blk_cell BK7.out 1).trans (show (#[.slice Q0 m.length q0, .slice Q1 m2.length q1] : Array Value)[1]? = some (.slice Q1 m2.length q1) from rfl); (try clear hb_))
    | ((with_reducible refine gate_dst (N := 9) rfl ?_); have HLT1 := Aside0.mk (blk_lt BK1.out); have HLT2 := Aside0.mk (blk_lt BK2.out); have HLT5 := Aside0.mk (blk_lt BK5.out); have HLT6 := Aside0.mk (blk_lt BK6.out); have HLT7 := Aside0.mk (blk_lt BK7.out); refine box_event ?hg (N := 9) ?hd (cs := #[.slice none 0 0, .slice none 0 0]) (t := 24) ?hr ?_; (case hd => rfl); (case hg => rfl); (case hr => first | (go_simp; done) | (go_simp; rfl)); intro gb9 hg_ wb9 hbox hb_; have GEHB9 := Aside0.mk ((by rw [hg_]; exact (below_size (by repeat (first | (with_reducible first | exact HB.out | apply below_alloc | apply pw_below_drewN | apply below_drew1 | apply below_drew) | exact HB.out)))) : _ ≤ gb9); have GEHX9 := Aside0.mk ((by rw [hg_]; exact (below_size (by repeat (first | (with_reducible first | exact HX.out | apply below_alloc | apply pw_below_drewN | apply below_drew1 | apply below_drew) | exact HX.out)))) : _ ≤ gb9); have GEHC9 := Aside0.mk ((by rw [hg_]; exact (below_size (by repeat (first | (with_reducible first | exact HC.out | apply below_alloc | apply pw_below_drewN | apply below_drew1 | apply below_drew) | exact HC.out)))) : _ ≤ gb9); have GE9 := Aside0.mk ((by rw [hg_]; exact (below_size (by repeat (first | (with_reducible first | exact HB.out | apply below_alloc | apply pw_below_drewN | apply below_drew1 | apply below_drew) | exact HB.out)))) : w.heap.size ≤ gb9); have tHB_ := Aside0.mk (below_step (by repeat (first | (with_reducible first | exact HB.out | apply below_alloc | apply pw_below_drewN | apply below_drew1 | apply below_drew) | exact HB.out)) hb_); have tHX_ := Aside0.mk (below_step (by repeat (first | (with_reducible first | exact HX.out | apply below_alloc | apply pw_below_drewN | apply below_drew1 | apply below_drew) | exact HX.out)) hb_); have tHC_ := Aside0.mk (below_step (by repeat (first | (with_reducible first | exact HC.out | apply below_alloc | apply pw_below_drewN | apply below_drew1 | apply below_drew) | exact HC.out)) hb_); have bk2_ := Aside0.mk (blk_below (g := gb1) (o := .cells #[.slice A0 xs.length c0, .slice A1 xs2.length c1] 24 (0, 0)) (by (with_reducible repeat (first | refine blk_drewN ?_ _ | refine blk_drew ?_ | refine blk_alloc ?_ _)); exact BK1.out) hb_); clear BK1; have BK1 := bk2_; clear bk2_; have bk2_ := Aside0.mk (blk_below (g := gb2) (o := .cells #[.slice B0 ys.length d0, .slice B1 ys2.length d1] 24 (0, 0)) (by (with_reducible repeat (first | refine blk_drewN ?_ _ | refine blk_drew ?_ | refine blk_alloc ?_ _)); exact BK2.out) hb_); clear BK2; have BK2 := bk2_; clear bk2_; have bk2_ := Aside0.mk (blk_below (g := gb5) (o := .cells #[.slice X0 xs.length x0, .slice X1 xs2.length x1] 24 (0, 0)) (by (with_reducible repeat (first | refine blk_drewN ?_ _ | refine blk_drew ?_ | refine blk_alloc ?_ _)); exact BK5.out) hb_); clear BK5; have BK5 := bk2_; clear bk2_; have bk2_ := Aside0.mk (blk_below (g := gb6) (o := .cells #[.slice Y0 ys.length y0, .slice Y1 ys2.length y1] 24 (0, 0)) (by (with_reducible repeat (first | refine blk_drewN ?_ _ | refine blk_drew ?_ | refine blk_alloc ?_ _)); exact BK6.out) hb_); clear BK6; have BK6 := bk2_; clear bk2_; have bk2_ := Aside0.mk (blk_below (g := gb7) (o := .cells #[.slice Q0 m.length q0, .slice Q1 m2.length q1] 24 (0, 0)) (by (with_reducible repeat (first | refine blk_drewN ?_ _ | refine blk_drew ?_ | refine blk_alloc ?_ _)); exact BK7.out) hb_); clear BK7; have BK7 := bk2_; clear bk2_; clear HB; have HB := tHB_; clear tHB_; clear HX; have HX := tHX_; clear tHX_; clear HC; have HC := tHC_; clear tHC_; have BK9 := Aside0.mk hbox; have HG9 := Aside0.mk hg_; have DB9 := Aside0.mk hb_; clear hbox hg_ hb_; have hcz1_0 := (blk_cell BK1.out 0).trans (show (#[.slice A0 xs.length c0, .slice A1 xs2.length c1] : Array Value)[0]? = some (.slice A0 xs.length c0) from rfl); have hfz1_0 := blk_frozen BK1.out 0; have hcz1_1 := (blk_cell BK1.out 1).trans (show (#[.slice A0 xs.length c0, .slice A1 xs2.length c1] : Array Value)[1]? = some (.slice A1 xs2.length c1) from rfl); have hfz1_1 := blk_frozen BK1.out 1; have hcz2_0 := (blk_cell BK2.out 0).trans (show (#[.slice B0 ys.length d0, .slice B1 ys2.length d1] : Array Value)[0]? = some (.slice B0 ys.length d0) from rfl); have hfz2_0 := blk_frozen BK2.out 0; have hcz2_1 := (blk_cell BK2.out 1).trans (show (#[.slice B0 ys.length d0, .slice B1 ys2.length d1] : Array Value)[1]? = some (.slice B1 ys2.length d1) from rfl); have hfz2_1 := blk_frozen BK2.out 1; have hcz5_0 := (blk_cell BK5.out 0).trans (show (#[.slice X0 xs.length x0, .slice X1 xs2.length x1] : Array Value)[0]? = some (.slice X0 xs.length x0) from rfl); have hfz5_0 := blk_frozen BK5.out 0; have hcz5_1 := (blk_cell BK5.out 1).trans (show (#[.slice X0 xs.length x0, .slice X1 xs2.length x1] : Array Value)[1]? = some (.slice X1 xs2.length x1) from rfl); have hfz5_1 := blk_frozen BK5.out 1; have hcz6_0 := (blk_cell BK6.out 0).trans (show (#[.slice Y0 ys.length y0, .slice Y1 ys2.length y1] : Array Value)[0]? = some (.slice Y0 ys.length y0) from rfl); have hfz6_0 := blk_frozen BK6.out 0; have hcz6_1 := (blk_cell BK6.out 1).trans (show (#[.slice Y0 ys.length y0, .slice Y1 ys2.length y1] : Array Value)[1]? = some (.slice Y1 ys2.length y1) from rfl); have hfz6_1 := blk_frozen BK6.out 1; have hcz7_0 := (blk_cell BK7.out 0).trans (show (#[.slice Q0 m.length q0, .slice Q1 m2.length q1] : Array Value)[0]? = some (.slice Q0 m.length q0) from rfl); have hfz7_0 := blk_frozen BK7.out 0; have hcz7_1 := (blk_cell BK7.out 1).trans (show (#[.slice Q0 m.length q0, .slice Q1 m2.length q1] : Array Value)[1]? = some (.slice Q1 m2.length q1) from rfl); have hfz7_1 := blk_frozen BK7.out 1; have hcz9_0 := (blk_cell BK9.out 0).trans (show (#[.slice none 0 0, .slice none 0 0] : Array Value)[0]? = some (.slice none 0 0) from rfl); have hfz9_0 := blk_frozen BK9.out 0; have hcz9_1 := (blk_cell BK9.out 1).trans (show (#[.slice none 0 0, .slice none 0 0] : Array Value)[1]? = some (.slice none 0 0) from rfl); have hfz9_1 := blk_frozen BK9.out 1))
  have bk9 := blk_put (cs' := #[.slice F0 m.length f0, .slice F1 m2.length f1]) (blk_put (cs' := #[.slice F0 m.length f0, .slice none 0 0]) BK9.out 0 (.slice F0 m.length f0) rfl) 1 (.slice F1 m2.length f1) rfl
  have hne1 : gb1 ≠ gb9 := by rw [HG9.out]; exact Nat.ne_of_lt (HLT1.out)
  have bk1 := blk_far (p := ⟨gb9, 1, none⟩) (blk_far (p := ⟨gb9, 0, none⟩) BK1.out hne1 (.slice F0 m.length f0)) hne1 (.slice F1 m2.length f1)
  have hne2 : gb2 ≠ gb9 := by rw [HG9.out]; exact Nat.ne_of_lt (HLT2.out)
  have bk2 := blk_far (p := ⟨gb9, 1, none⟩) (blk_far (p := ⟨gb9, 0, none⟩) BK2.out hne2 (.slice F0 m.length f0)) hne2 (.slice F1 m2.length f1)
  have hne5 : gb5 ≠ gb9 := by rw [HG9.out]; exact Nat.ne_of_lt (HLT5.out)
  have bk5 := blk_far (p := ⟨gb9, 1, none⟩) (blk_far (p := ⟨gb9, 0, none⟩) BK5.out hne5 (.slice F0 m.length f0)) hne5 (.slice F1 m2.length f1)
  have hne6 : gb6 ≠ gb9 := by rw [HG9.out]; exact Nat.ne_of_lt (HLT6.out)
  have bk6 := blk_far (p := ⟨gb9, 1, none⟩) (blk_far (p := ⟨gb9, 0, none⟩) BK6.out hne6 (.slice F0 m.length f0)) hne6 (.slice F1 m2.length f1)
  have hne7 : gb7 ≠ gb9 := by rw [HG9.out]; exact Nat.ne_of_lt (HLT7.out)
  have bk7 := blk_far (p := ⟨gb9, 1, none⟩) (blk_far (p := ⟨gb9, 0, none⟩) BK7.out hne7 (.slice F0 m.length f0)) hne7 (.slice F1 m2.length f1)
  have D := below_set (g := gb9) (j := 1) (v := .slice F1 m2.length f1) (below_set (g := gb9) (j := 0) (v := .slice F0 m.length f0) DB9.out (Nat.le_of_eq HG9.out.symm)) (Nat.le_of_eq HG9.out.symm)
  have THB := Aside0.mk (below_set (g := gb9) (j := 1) (v := .slice F1 m2.length f1) (below_set (g := gb9) (j := 0) (v := .slice F0 m.length f0) HB.out GEHB9.out) GEHB9.out)
  have THX := Aside0.mk (below_set (g := gb9) (j := 1) (v := .slice F1 m2.length f1) (below_set (g := gb9) (j := 0) (v := .slice F0 m.length f0) HX.out GEHX9.out) GEHX9.out)
  have THC := Aside0.mk (below_set (g := gb9) (j := 1) (v := .slice F1 m2.length f1) (below_set (g := gb9) (j := 0) (v := .slice F0 m.length f0) HC.out GEHC9.out) GEHC9.out)
  have qr0 := Kd.R_below r0 D
  have qr1 := Kd.R_below r1 D
  clear D DB9 HG9 BK9 GE9
  clear HB GEHB9
  clear HX GEHX9
  clear HC GEHC9
  clear HLT1 hne1 BK1
  clear HLT2 hne2 BK2
  clear HLT5 hne5 BK5
  clear HLT6 hne6 BK6
  clear HLT7 hne7 BK7
  clear r0
  clear r1
  (try clear hcz1_0)
  (try clear hcz1_1)
  (try clear hcz2_0)
  (try clear hcz2_1)
  (try clear hcz5_0)
  (try clear hcz5_1)
  (try clear hcz6_0)
  (try clear hcz6_1)
  (try clear hcz7_0)
  (try clear hcz7_1)
  (try clear hcz9_0)
  (try clear hcz9_1)
  (try clear hfz1_0)
  (try clear hfz1_1)
  (try clear hfz2_0)
  (try clear hfz2_1)
  (try clear hfz5_0)
  (try clear hfz5_1)
  (try clear hfz6_0)
  (try clear hfz6_1)
  (try clear hfz7_0)
  (try clear hfz7_1)
  (try clear hfz9_0)
  (try clear hfz9_1)
  generalize (wb9.setCell ⟨gb9, 0, none⟩ (.slice F0 m.length f0)).setCell ⟨gb9, 1, none⟩ (.slice F1 m2.length f1) = Z4 at *
  have HB := THB; clear THB
  have HX := THX; clear THX
  have HC := THC; clear THC
  have BK1 := Aside0.mk bk1
  clear bk1
  have BK2 := Aside0.mk bk2
  clear bk2
  have BK5 := Aside0.mk bk5
  clear bk5
  have BK6 := Aside0.mk bk6
  clear bk6
  have BK7 := Aside0.mk bk7
  clear bk7
  have BK9 := Aside0.mk bk9
  clear bk9
  have Hr0 := Aside0.mk qr0
  clear qr0
  have Hr1 := Aside0.mk qr1
  clear qr1
  have hcz1_0 := (blk_cell BK1.out 0).trans (show (#[.slice A0 xs.length c0, .slice A1 xs2.length c1] : Array Value)[0]? = some (.slice A0 xs.length c0) from rfl)
  have hcz1_1 := (blk_cell BK1.out 1).trans (show (#[.slice A0 xs.length c0, .slice A1 xs2.length c1] : Array Value)[1]? = some (.slice A1 xs2.length c1) from rfl)
  have hcz2_0 := (blk_cell BK2.out 0).trans (show (#[.slice B0 ys.length d0, .slice B1 ys2.length d1] : Array Value)[0]? = some (.slice B0 ys.length d0) from rfl)
  have hcz2_1 := (blk_cell BK2.out 1).trans (show (#[.slice B0 ys.length d0, .slice B1 ys2.length d1] : Array Value)[1]? = some (.slice B1 ys2.length d1) from rfl)
  have hcz5_0 := (blk_cell BK5.out 0).trans (show (#[.slice X0 xs.length x0, .slice X1 xs2.length x1] : Array Value)[0]? = some (.slice X0 xs.length x0) from rfl)
  have hcz5_1 := (blk_cell BK5.out 1).trans (show (#[.slice X0 xs.length x0, .slice X1 xs2.length x1] : Array Value)[1]? = some (.slice X1 xs2.length x1) from rfl)
  have hcz6_0 := (blk_cell BK6.out 0).trans (show (#[.slice Y0 ys.length y0, .slice Y1 ys2.length y1] : Array Value)[0]? = some (.slice Y0 ys.length y0) from rfl)
  have hcz6_1 := (blk_cell BK6.out 1).trans (show (#[.slice Y0 ys.length y0, .slice Y1 ys2.length y1] : Array Value)[1]? = some (.slice Y1 ys2.length y1) from rfl)
  have hcz7_0 := (blk_cell BK7.out 0).trans (show (#[.slice Q0 m.length q0, .slice Q1 m2.length q1] : Array Value)[0]? = some (.slice Q0 m.length q0) from rfl)
  have hcz7_1 := (blk_cell BK7.out 1).trans (show (#[.slice Q0 m.length q0, .slice Q1 m2.length q1] : Array Value)[1]? = some (.slice Q1 m2.length q1) from rfl)
  have hcz9_0 := (blk_cell BK9.out 0).trans (show (#[.slice F0 m.length f0, .slice F1 m2.length f1] : Array Value)[0]? = some (.slice F0 m.length f0) from rfl)
  have hcz9_1 := (blk_cell BK9.out 1).trans (show (#[.slice F0 m.length f0, .slice F1 m2.length f1] : Array Value)[1]? = some (.slice F1 m2.length f1) from rfl)
  have Km0 := Aside0.mk km0
  clear km0
  have Km1 := Aside0.mk km1
  clear km1
  have Hm0 := Aside0.mk (Kd.R_reads' Hr0.out).2.2
  have Hm1 := Aside0.mk (Kd.R_reads' Hr1.out).2.2
  have HV := Aside0.mk (Below.refl Z4.heap.size Z4)
  (try clear hcz1_0)
  (try clear hcz1_1)
  (try clear hcz2_0)
  (try clear hcz2_1)
  (try clear hcz5_0)
  (try clear hcz5_1)
  (try clear hcz6_0)
  (try clear hcz6_1)
  (try clear hcz7_0)
  (try clear hcz7_1)
  (try clear hcz9_0)
  (try clear hcz9_1)
  go_cut [69] (fun s wx => s = .bool false ∧ Aside0 (wx.heap[gb9]? = some (.cells #[.slice F0 m.length f0, .slice F1 m2.length f1] 24 (0, 0))) ∧ Aside0 (Below Z4.heap.size Z4 wx))
  case first =>
    refine startB_ (n := 34) #[false, false, false, false, false, false, false, false, false, false, false, false, false, false, false, false, false, false, false, false, false, false, false, false, false, false, false, false, false, false, false, false, false, false] (by kernel_rfl) rfl rfl (fun W0 D0 => ?_)
    have E0 := Aside0.mk (Below.refl W0.heap.size W0)
    have BL1 := Aside0.mk (blk_below BK1.out D0)
    have BL2 := Aside0.mk (blk_below BK2.out D0)
    have BL5 := Aside0.mk (blk_below BK5.out D0)
    have BL6 := Aside0.mk (blk_below BK6.out D0)
    have BL7 := Aside0.mk (blk_below BK7.out D0)
    have BL9 := Aside0.mk (blk_below BK9.out D0)
    have XHB := Aside0.mk (below_step HB.out D0)
    have XHX := Aside0.mk (below_step HX.out D0)
    have XHC := Aside0.mk (below_step HC.out D0)
    have XHV := Aside0.mk (below_step HV.out D0)
    refine take_ (i := 0) (N := some 36) (v := ?_) (a' := ?_) #[true, false, false, false, false, false, false, false, false, false, false, false, false, false, false, false, false, false, false, false, false, false, false, false, false, false, false, false, false, false, false, false, false, false] rfl rfl (by kernel_rfl) (fun _ _ _ h => h) (Or.inl ⟨by rfl, ?_⟩) (Below.refl _ _) ?_ ?_
    rotate_left
    · intro w' hS
      have hd_ := below_step E0.out hS
      have hy0 := (blk_cell (blk_below BL9.out hd_) 0).trans (show (#[.slice F0 m.length f0, .slice F1 m2.length f1] : Array Value)[0]? = some (.slice F0 m.length f0) from rfl)
      have hy1 := (blk_cell (blk_below BL9.out hd_) 1).trans (show (#[.slice F0 m.length f0, .slice F1 m2.length f1] : Array Value)[1]? = some (.slice F1 m2.length f1) from rfl)
      go_simp
      with_reducible rfl
    rotate_left
    · simp only [Act.put, List.setIfInBounds_toArray, List.set_cons_zero, List.set_cons_succ, i64_w, i32_w]
      rfl
    refine take_ (i := 1) (N := some 37) (v := ?_) (a' := ?_) #[true, true, false, false, false, false, false, false, false, false, false, false, false, false, false, false, false, false, false, false, false, false, false, false, false, false, false, false, false, false, false, false, false, false] rfl rfl (by kernel_rfl) (fun _ _ _ h => h) (Or.inl ⟨by rfl, ?_⟩) (Below.refl _ _) ?_ ?_
    rotate_left
    · intro w' hS
      have hd_ := below_step E0.out hS
      have hy0 := (blk_cell (blk_below BL7.out hd_) 0).trans (show (#[.slice Q0 m.length q0, .slice Q1 m2.length q1] : Array Value)[0]? = some (.slice Q0 m.length q0) from rfl)
      have hy1 := (blk_cell (blk_below BL7.out hd_) 1).trans (show (#[.slice Q0 m.length q0, .slice Q1 m2.length q1] : Array Value)[1]? = some (.slice Q1 m2.length q1) from rfl)
      go_simp
      with_reducible rfl
    rotate_left
    · simp only [Act.put, List.setIfInBounds_toArray, List.set_cons_zero, List.set_cons_succ, i64_w, i32_w]
      rfl
    refine one_ (i := 2) (N := some 38) #[true, true, true, false, false, false, false, false, false, false, false, false, false, false, false, false, false, false, false, false, false, false, false, false, false, false, false, false, false, false, false, false, false, false] rfl rfl (by kernel_rfl) (by decide) (fun K hK => ?_)
    refine goes_ Try.func12 (by kernel_rfl) rfl #[.agg #[.slice F0 m.length f0, .slice F1 m2.length f1], .agg #[.slice Q0 m.length q0, .slice Q1 m2.length q1]] (by rfl) rfl rfl (by (try simp only [List.map_toArray, List.map_cons, List.map_nil]); first | done | rfl) ?_
    with_reducible refine (sameframe_t m m2 Lm0.out Lm1.out _ _ _ _ _ _ _ _ _ (Kd.C_below (Kd.C_below Hm0.out XHV.out) E0.out) (Kd.C_below (Kd.C_below Hm1.out XHV.out) E0.out) (Kd.C_below (Kd.C_below Hw0.out XHC.out) E0.out) (Kd.C_below (Kd.C_below Hw1.out XHC.out) E0.out) Km0.out Km1.out Kw0.out Kw1.out).mono ?_
    rintro e W1 ⟨rfl, D1⟩
    refine ⟨_, rfl, ?_⟩
    have E1 := Aside0.mk (below_step E0.out D1)
    refine hK.out _ _ D1 (fun _ => behind_ D1 ?_)
    clear hK K
    refine norm_ (a' := ?_) ?_ ?_
    rotate_left
    · show Act.put _ (some 38) _ = _
      simp only [Act.put, List.setIfInBounds_toArray, List.set_cons_zero, List.set_cons_succ, i64_w, i32_w]
      rfl
    refine pure_ (i := 3) (N := some 39) (v := ?_) (a' := ?_) #[true, true, true, true, false, false, false, false, false, false, false, false, false, false, false, false, false, false, false, false, false, false, false, false, false, false, false, false, false, false, false, false, false, false] rfl rfl (by kernel_rfl) (fun _ _ _ h => h) (Or.inl ⟨by rfl, ?_⟩) ?_ ?_
    rotate_left
    · intro w'
      go_simp
      with_reducible rfl
    rotate_left
    · simp only [Act.put, List.setIfInBounds_toArray, List.set_cons_zero, List.set_cons_succ, i64_w, i32_w]
      rfl
    refine pure_ (i := 4) (N := some 40) (v := ?_) (a' := ?_) #[true, true, true, true, true, false, false, false, false, false, false, false, false, false, false, false, false, false, false, false, false, false, false, false, false, false, false, false, false, false, false, false, false, false] rfl rfl (by kernel_rfl) (fun _ _ _ h => h) (Or.inl ⟨by rfl, ?_⟩) ?_ ?_
    rotate_left
    · intro w'
      go_simp
      with_reducible rfl
    rotate_left
    · simp only [Act.put, List.setIfInBounds_toArray, List.set_cons_zero, List.set_cons_succ, i64_w, i32_w]
      rfl
    refine pure_ (i := 5) (N := some 41) (v := ?_) (a' := ?_) #[true, true, true, true, true, true, false, false, false, false, false, false, false, false, false, false, false, false, false, false, false, false, false, false, false, false, false, false, false, false, false, false, false, false] rfl rfl (by kernel_rfl) (fun _ _ _ h => h) (Or.inl ⟨by rfl, ?_⟩) ?_ ?_
    rotate_left
    · intro w'
      go_simp
      with_reducible rfl
    rotate_left
    · simp only [Act.put, List.setIfInBounds_toArray, List.set_cons_zero, List.set_cons_succ, i64_w, i32_w]
      rfl
    refine pure_ (i := 6) (N := some 42) (v := ?_) (a' := ?_) #[true, true, true, true, true, true, true, false, false, false, false, false, false, false, false, false, false, false, false, false, false, false, false, false, false, false, false, false, false, false, false, false, false, false] rfl rfl (by kernel_rfl) (fun _ _ _ h => h) (Or.inl ⟨by rfl, ?_⟩) ?_ ?_
    rotate_left
    · intro w'
      go_simp
      with_reducible rfl
    rotate_left
    · simp only [Act.put, List.setIfInBounds_toArray, List.set_cons_zero, List.set_cons_succ, i64_w, i32_w]
      rfl
    refine pure_ (i := 7) (N := some 43) (v := ?_) (a' := ?_) #[true, true, true, true, true, true, true, true, false, false, false, false, false, false, false, false, false, false, false, false, false, false, false, false, false, false, false, false, false, false, false, false, false, false] rfl rfl (by kernel_rfl) (fun _ _ _ h => h) (Or.inl ⟨by rfl, ?_⟩) ?_ ?_
    rotate_left
    · intro w'
      go_simp
      with_reducible rfl
    rotate_left
    · simp only [Act.put, List.setIfInBounds_toArray, List.set_cons_zero, List.set_cons_succ, i64_w, i32_w]
      rfl
    refine pure_ (i := 8) (N := some 44) (v := ?_) (a' := ?_) #[true, true, true, true, true, true, true, true, true, false, false, false, false, false, false, false, false, false, false, false, false, false, false, false, false, false, false, false, false, false, false, false, false, false] rfl rfl (by kernel_rfl) (fun _ _ _ h => h) (Or.inl ⟨by rfl, ?_⟩) ?_ ?_
    rotate_left
    · intro w'
      go_simp
      with_reducible rfl
    rotate_left
    · simp only [Act.put, List.setIfInBounds_toArray, List.set_cons_zero, List.set_cons_succ, i64_w, i32_w]
      rfl
    refine pure_ (i := 9) (N := some 45) (v := ?_) (a' := ?_) #[true, true, true, true, true, true, true, true, true, true, false, false, false, false, false, false, false, false, false, false, false, false, false, false, false, false, false, false, false, false, false, false, false, false] rfl rfl (by kernel_rfl) (fun _ _ _ h => h) (Or.inl ⟨by rfl, ?_⟩) ?_ ?_
    rotate_left
    · intro w'
      go_simp
      with_reducible rfl
    rotate_left
    · simp only [Act.put, List.setIfInBounds_toArray, List.set_cons_zero, List.set_cons_succ, i64_w, i32_w]
      rfl
    refine take_ (i := 10) (N := some 46) (v := ?_) (a' := ?_) #[true, true, true, true, true, true, true, true, true, true, true, false, false, false, false, false, false, false, false, false, false, false, false, false, false, false, false, false, false, false, false, false, false, false] rfl rfl (by kernel_rfl) (fun _ _ _ h => h) (Or.inl ⟨by rfl, ?_⟩) (Below.refl _ _) ?_ ?_
    rotate_left
    · intro w' hS
      have hd_ := below_step E1.out hS
      have hy0 := (blk_cell (blk_below BL5.out hd_) 0).trans (show (#[.slice X0 xs.length x0, .slice X1 xs2.length x1] : Array Value)[0]? = some (.slice X0 xs.length x0) from rfl)
      have hy1 := (blk_cell (blk_below BL5.out hd_) 1).trans (show (#[.slice X0 xs.length x0, .slice X1 xs2.length x1] : Array Value)[1]? = some (.slice X1 xs2.length x1) from rfl)
      go_simp
      with_reducible rfl
    rotate_left
    · simp only [Act.put, List.setIfInBounds_toArray, List.set_cons_zero, List.set_cons_succ, i64_w, i32_w]
      rfl
    refine take_ (i := 11) (N := some 47) (v := ?_) (a' := ?_) #[true, true, true, true, true, true, true, true, true, true, true, true, false, false, false, false, false, false, false, false, false, false, false, false, false, false, false, false, false, false, false, false, false, false] rfl rfl (by kernel_rfl) (fun _ _ _ h => h) (Or.inl ⟨by rfl, ?_⟩) (Below.refl _ _) ?_ ?_
    rotate_left
    · intro w' hS
      have hd_ := below_step E1.out hS
      have hy0 := (blk_cell (blk_below BL6.out hd_) 0).trans (show (#[.slice Y0 ys.length y0, .slice Y1 ys2.length y1] : Array Value)[0]? = some (.slice Y0 ys.length y0) from rfl)
      have hy1 := (blk_cell (blk_below BL6.out hd_) 1).trans (show (#[.slice Y0 ys.length y0, .slice Y1 ys2.length y1] : Array Value)[1]? = some (.slice Y1 ys2.length y1) from rfl)
      go_simp
      with_reducible rfl
    rotate_left
    · simp only [Act.put, List.setIfInBounds_toArray, List.set_cons_zero, List.set_cons_succ, i64_w, i32_w]
      rfl
    refine take_ (i := 13) (N := some 49) (v := ?_) (a' := ?_) #[true, true, true, true, true, true, true, true, true, true, true, true, false, true, false, false, false, false, false, false, false, false, false, false, false, false, false, false, false, false, false, false, false, false] rfl rfl (by kernel_rfl) (fun _ _ _ h => h) (Or.inl ⟨by rfl, ?_⟩) (Below.refl _ _) ?_ ?_
    rotate_left
    · intro w' hS
      have hd_ := below_step E1.out hS
      have hy0 := (blk_cell (blk_below BL1.out hd_) 0).trans (show (#[.slice A0 xs.length c0, .slice A1 xs2.length c1] : Array Value)[0]? = some (.slice A0 xs.length c0) from rfl)
      have hy1 := (blk_cell (blk_below BL1.out hd_) 1).trans (show (#[.slice A0 xs.length c0, .slice A1 xs2.length c1] : Array Value)[1]? = some (.slice A1 xs2.length c1) from rfl)
      go_simp
      with_reducible rfl
    rotate_left
    · simp only [Act.put, List.setIfInBounds_toArray, List.set_cons_zero, List.set_cons_succ, i64_w, i32_w]
      rfl
    refine take_ (i := 14) (N := some 50) (v := ?_) (a' := ?_) #[true, true, true, true, true, true, true, true, true, true, true, true, false, true, true, false, false, false, false, false, false, false, false, false, false, false, false, false, false, false, false, false, false, false] rfl rfl (by kernel_rfl) (fun _ _ _ h => h) (Or.inl ⟨by rfl, ?_⟩) (Below.refl _ _) ?_ ?_
    rotate_left
    · intro w' hS
      have hd_ := below_step E1.out hS
      have hy0 := (blk_cell (blk_below BL2.out hd_) 0).trans (show (#[.slice B0 ys.length d0, .slice B1 ys2.length d1] : Array Value)[0]? = some (.slice B0 ys.length d0) from rfl)
      have hy1 := (blk_cell (blk_below BL2.out hd_) 1).trans (show (#[.slice B0 ys.length d0, .slice B1 ys2.length d1] : Array Value)[1]? = some (.slice B1 ys2.length d1) from rfl)
      go_simp
      with_reducible rfl
    rotate_left
    · simp only [Act.put, List.setIfInBounds_toArray, List.set_cons_zero, List.set_cons_succ, i64_w, i32_w]
      rfl
    refine one_ (i := 12) (N := some 48) #[true, true, true, true, true, true, true, true, true, true, true, true, true, true, true, false, false, false, false, false, false, false, false, false, false, false, false, false, false, false, false, false, false, false] rfl rfl (by kernel_rfl) (by decide) (fun K hK => ?_)
    refine goes_ Try.func13 (by kernel_rfl) rfl #[.agg #[.slice X0 xs.length x0, .slice X1 xs2.length x1], .agg #[.slice Y0 ys.length y0, .slice Y1 ys2.length y1]] (by rfl) rfl rfl (by (try simp only [List.map_toArray, List.map_cons, List.map_nil]); first | done | rfl) ?_
    with_reducible refine (below_t xs xs2 ys ys2 La0.out La1.out _ _ _ _ _ _ _ _ _ _ Qab.out (Kd.C_below (Kd.C_below Hx0.out XHX.out) E1.out) (Kd.C_below (Kd.C_below Hx1.out XHX.out) E1.out) (Kd.C_below (Kd.C_below Hy0.out XHX.out) E1.out) (Kd.C_below (Kd.C_below Hy1.out XHX.out) E1.out)).mono ?_
    rintro e W2 ⟨rfl, D2⟩
    refine ⟨_, rfl, ?_⟩
    have E2 := Aside0.mk (below_step E1.out D2)
    refine hK.out _ _ D2 (fun _ => behind_ D2 ?_)
    clear hK K
    refine norm_ (a' := ?_) ?_ ?_
    rotate_left
    · show Act.put _ (some 48) _ = _
      simp only [Act.put, List.setIfInBounds_toArray, List.set_cons_zero, List.set_cons_succ, i64_w, i32_w]
      rfl
    refine one_ (i := 15) (N := some 51) #[true, true, true, true, true, true, true, true, true, true, true, true, true, true, true, true, false, false, false, false, false, false, false, false, false, false, false, false, false, false, false, false, false, false] rfl rfl (by kernel_rfl) (by decide) (fun K hK => ?_)
    refine goes_ Try.func14 (by kernel_rfl) rfl #[.agg #[.slice A0 xs.length c0, .slice A1 xs2.length c1], .agg #[.slice B0 ys.length d0, .slice B1 ys2.length d1]] (by rfl) rfl rfl (by (try simp only [List.map_toArray, List.map_cons, List.map_nil]); first | done | rfl) ?_
    with_reducible refine (refbelow_t xs xs2 ys ys2 La0.out La1.out _ _ _ _ _ _ _ _ _ _ Qab.out (Kd.C_below (Kd.C_below Ha0.out XHB.out) E2.out) (Kd.C_below (Kd.C_below Ha1.out XHB.out) E2.out) (Kd.C_below (Kd.C_below Hb0.out XHB.out) E2.out) (Kd.C_below (Kd.C_below Hb1.out XHB.out) E2.out) Ka0.out Ka1.out Kb0.out Kb1.out).mono ?_
    rintro e W3 ⟨rfl, D3⟩
    refine ⟨_, rfl, ?_⟩
    have E3 := Aside0.mk (below_step E2.out D3)
    refine hK.out _ _ D3 (fun _ => behind_ D3 ?_)
    clear hK K
    refine norm_ (a' := ?_) ?_ ?_
    rotate_left
    · show Act.put _ (some 51) _ = _
      simp only [Act.put, List.setIfInBounds_toArray, List.set_cons_zero, List.set_cons_succ, i64_w, i32_w]
      rfl
    refine pure_ (i := 16) (N := some 52) (v := ?_) (a' := ?_) #[true, true, true, true, true, true, true, true, true, true, true, true, true, true, true, true, true, false, false, false, false, false, false, false, false, false, false, false, false, false, false, false, false, false] rfl rfl (by kernel_rfl) (fun _ _ _ h => h) (Or.inl ⟨by rfl, ?_⟩) ?_ ?_
    rotate_left
    · intro w'
      go_simp
      with_reducible rfl
    rotate_left
    · simp only [Act.put, List.setIfInBounds_toArray, List.set_cons_zero, List.set_cons_succ, i64_w, i32_w]
      rfl
    refine pure_ (i := 17) (N := some 53) (v := ?_) (a' := ?_) #[true, true, true, true, true, true, true, true, true, true, true, true, true, true, true, true, true, true, false, false, false, false, false, false, false, false, false, false, false, false, false, false, false, false] rfl rfl (by kernel_rfl) (fun _ _ _ h => h) (Or.inl ⟨by rfl, ?_⟩) ?_ ?_
    rotate_left
    · intro w'
      go_simp
      with_reducible rfl
    rotate_left
    · simp only [Act.put, List.setIfInBounds_toArray, List.set_cons_zero, List.set_cons_succ, i64_w, i32_w]
      rfl
    refine pure_ (i := 18) (N := some 54) (v := ?_) (a' := ?_) #[true, true, true, true, true, true, true, true, true, true, true, true, true, true, true, true, true, true, true, false, false, false, false, false, false, false, false, false, false, false, false, false, false, false] rfl rfl (by kernel_rfl) (fun _ _ _ h => h) (Or.inl ⟨by rfl, ?_⟩) ?_ ?_
    rotate_left
    · intro w'
      go_simp
      with_reducible rfl
    rotate_left
    · simp only [Act.put, List.setIfInBounds_toArray, List.set_cons_zero, List.set_cons_succ, i64_w, i32_w]
      rfl
    refine take_ (i := 19) (N := some 55) (v := ?_) (a' := ?_) #[true, true, true, true, true, true, true, true, true, true, true, true, true, true, true, true, true, true, true, true, false, false, false, false, false, false, false, false, false, false, false, false, false, false] rfl rfl (by kernel_rfl) (fun _ _ _ h => h) (Or.inl ⟨by rfl, ?_⟩) (Below.refl _ _) ?_ ?_
    rotate_left
    · intro w' hS
      have hd_ := below_step E3.out hS
      have hy0 := (blk_cell (blk_below BL5.out hd_) 0).trans (show (#[.slice X0 xs.length x0, .slice X1 xs2.length x1] : Array Value)[0]? = some (.slice X0 xs.length x0) from rfl)
      have hy1 := (blk_cell (blk_below BL5.out hd_) 1).trans (show (#[.slice X0 xs.length x0, .slice X1 xs2.length x1] : Array Value)[1]? = some (.slice X1 xs2.length x1) from rfl)
      go_simp
      with_reducible rfl
    rotate_left
    · simp only [Act.put, List.setIfInBounds_toArray, List.set_cons_zero, List.set_cons_succ, i64_w, i32_w]
      rfl
    refine take_ (i := 20) (N := some 56) (v := ?_) (a' := ?_) #[true, true, true, true, true, true, true, true, true, true, true, true, true, true, true, true, true, true, true, true, true, false, false, false, false, false, false, false, false, false, false, false, false, false] rfl rfl (by kernel_rfl) (fun _ _ _ h => h) (Or.inl ⟨by rfl, ?_⟩) (Below.refl _ _) ?_ ?_
    rotate_left
    · intro w' hS
      have hd_ := below_step E3.out hS
      have hy0 := (blk_cell (blk_below BL6.out hd_) 0).trans (show (#[.slice Y0 ys.length y0, .slice Y1 ys2.length y1] : Array Value)[0]? = some (.slice Y0 ys.length y0) from rfl)
      have hy1 := (blk_cell (blk_below BL6.out hd_) 1).trans (show (#[.slice Y0 ys.length y0, .slice Y1 ys2.length y1] : Array Value)[1]? = some (.slice Y1 ys2.length y1) from rfl)
      go_simp
      with_reducible rfl
    rotate_left
    · simp only [Act.put, List.setIfInBounds_toArray, List.set_cons_zero, List.set_cons_succ, i64_w, i32_w]
      rfl
    refine take_ (i := 22) (N := some 58) (v := ?_) (a' := ?_) #[true, true, true, true, true, true, true, true, true, true, true, true, true, true, true, true, true, true, true, true, true, false, true, false, false, false, false, false, false, false, false, false, false, false] rfl rfl (by kernel_rfl) (fun _ _ _ h => h) (Or.inl ⟨by rfl, ?_⟩) (Below.refl _ _) ?_ ?_
    rotate_left
    · intro w' hS
      have hd_ := below_step E3.out hS
      have hy0 := (blk_cell (blk_below BL1.out hd_) 0).trans (show (#[.slice A0 xs.length c0, .slice A1 xs2.length c1] : Array Value)[0]? = some (.slice A0 xs.length c0) from rfl)
      have hy1 := (blk_cell (blk_below BL1.out hd_) 1).trans (show (#[.slice A0 xs.length c0, .slice A1 xs2.length c1] : Array Value)[1]? = some (.slice A1 xs2.length c1) from rfl)
      go_simp
      with_reducible rfl
    rotate_left
    · simp only [Act.put, List.setIfInBounds_toArray, List.set_cons_zero, List.set_cons_succ, i64_w, i32_w]
      rfl
    refine take_ (i := 23) (N := some 59) (v := ?_) (a' := ?_) #[true, true, true, true, true, true, true, true, true, true, true, true, true, true, true, true, true, true, true, true, true, false, true, true, false, false, false, false, false, false, false, false, false, false] rfl rfl (by kernel_rfl) (fun _ _ _ h => h) (Or.inl ⟨by rfl, ?_⟩) (Below.refl _ _) ?_ ?_
    rotate_left
    · intro w' hS
      have hd_ := below_step E3.out hS
      have hy0 := (blk_cell (blk_below BL2.out hd_) 0).trans (show (#[.slice B0 ys.length d0, .slice B1 ys2.length d1] : Array Value)[0]? = some (.slice B0 ys.length d0) from rfl)
      have hy1 := (blk_cell (blk_below BL2.out hd_) 1).trans (show (#[.slice B0 ys.length d0, .slice B1 ys2.length d1] : Array Value)[1]? = some (.slice B1 ys2.length d1) from rfl)
      go_simp
      with_reducible rfl
    rotate_left
    · simp only [Act.put, List.setIfInBounds_toArray, List.set_cons_zero, List.set_cons_succ, i64_w, i32_w]
      rfl
    refine one_ (i := 21) (N := some 57) #[true, true, true, true, true, true, true, true, true, true, true, true, true, true, true, true, true, true, true, true, true, true, true, true, false, false, false, false, false, false, false, false, false, false] rfl rfl (by kernel_rfl) (by decide) (fun K hK => ?_)
    refine goes_ Try.func15 (by kernel_rfl) rfl #[.agg #[.slice X0 xs.length x0, .slice X1 xs2.length x1], .agg #[.slice Y0 ys.length y0, .slice Y1 ys2.length y1]] (by rfl) rfl rfl (by (try simp only [List.map_toArray, List.map_cons, List.map_nil]); first | done | rfl) ?_
    with_reducible refine (same_t xs xs2 ys ys2 La0.out La1.out _ _ _ _ _ _ _ _ _ _ Sab.out (Kd.C_below (Kd.C_below Hx0.out XHX.out) E3.out) (Kd.C_below (Kd.C_below Hx1.out XHX.out) E3.out) (Kd.C_below (Kd.C_below Hy0.out XHX.out) E3.out) (Kd.C_below (Kd.C_below Hy1.out XHX.out) E3.out) Kx0.out Kx1.out Ky0.out Ky1.out).mono ?_
    rintro e W4 ⟨rfl, D4⟩
    refine ⟨_, rfl, ?_⟩
    have E4 := Aside0.mk (below_step E3.out D4)
    refine hK.out _ _ D4 (fun _ => behind_ D4 ?_)
    clear hK K
    refine norm_ (a' := ?_) ?_ ?_
    rotate_left
    · show Act.put _ (some 57) _ = _
      simp only [Act.put, List.setIfInBounds_toArray, List.set_cons_zero, List.set_cons_succ, i64_w, i32_w]
      rfl
    refine one_ (i := 24) (N := some 60) #[true, true, true, true, true, true, true, true, true, true, true, true, true, true, true, true, true, true, true, true, true, true, true, true, true, false, false, false, false, false, false, false, false, false] rfl rfl (by kernel_rfl) (by decide) (fun K hK => ?_)
    refine goes_ Try.func16 (by kernel_rfl) rfl #[.agg #[.slice A0 xs.length c0, .slice A1 xs2.length c1], .agg #[.slice B0 ys.length d0, .slice B1 ys2.length d1]] (by rfl) rfl rfl (by (try simp only [List.map_toArray, List.map_cons, List.map_nil]); first | done | rfl) ?_
    with_reducible refine (refsame_t xs xs2 ys ys2 La0.out La1.out _ _ _ _ _ _ _ _ _ _ Sab.out (Kd.C_below (Kd.C_below Ha0.out XHB.out) E4.out) (Kd.C_below (Kd.C_below Ha1.out XHB.out) E4.out) (Kd.C_below (Kd.C_below Hb0.out XHB.out) E4.out) (Kd.C_below (Kd.C_below Hb1.out XHB.out) E4.out) Ka0.out Ka1.out Kb0.out Kb1.out).mono ?_
    rintro e W5 ⟨rfl, D5⟩
    refine ⟨_, rfl, ?_⟩
    have E5 := Aside0.mk (below_step E4.out D5)
    refine hK.out _ _ D5 (fun _ => behind_ D5 ?_)
    clear hK K
    refine norm_ (a' := ?_) ?_ ?_
    rotate_left
    · show Act.put _ (some 60) _ = _
      simp only [Act.put, List.setIfInBounds_toArray, List.set_cons_zero, List.set_cons_succ, i64_w, i32_w]
      rfl
    refine pure_ (i := 25) (N := some 61) (v := ?_) (a' := ?_) #[true, true, true, true, true, true, true, true, true, true, true, true, true, true, true, true, true, true, true, true, true, true, true, true, true, true, false, false, false, false, false, false, false, false] rfl rfl (by kernel_rfl) (fun _ _ _ h => h) (Or.inl ⟨by rfl, ?_⟩) ?_ ?_
    rotate_left
    · intro w'
      go_simp
      with_reducible rfl
    rotate_left
    · simp only [Act.put, List.setIfInBounds_toArray, List.set_cons_zero, List.set_cons_succ, i64_w, i32_w]
      rfl
    refine pure_ (i := 26) (N := some 62) (v := ?_) (a' := ?_) #[true, true, true, true, true, true, true, true, true, true, true, true, true, true, true, true, true, true, true, true, true, true, true, true, true, true, true, false, false, false, false, false, false, false] rfl rfl (by kernel_rfl) (fun _ _ _ h => h) (Or.inl ⟨by rfl, ?_⟩) ?_ ?_
    rotate_left
    · intro w'
      go_simp
      with_reducible rfl
    rotate_left
    · simp only [Act.put, List.setIfInBounds_toArray, List.set_cons_zero, List.set_cons_succ, i64_w, i32_w]
      rfl
    refine pure_ (i := 27) (N := some 63) (v := ?_) (a' := ?_) #[true, true, true, true, true, true, true, true, true, true, true, true, true, true, true, true, true, true, true, true, true, true, true, true, true, true, true, true, false, false, false, false, false, false] rfl rfl (by kernel_rfl) (fun _ _ _ h => h) (Or.inl ⟨by rfl, ?_⟩) ?_ ?_
    rotate_left
    · intro w'
      go_simp
      with_reducible rfl
    rotate_left
    · simp only [Act.put, List.setIfInBounds_toArray, List.set_cons_zero, List.set_cons_succ, i64_w, i32_w]
      rfl
    refine take_ (i := 28) (N := some 64) (v := ?_) (a' := ?_) #[true, true, true, true, true, true, true, true, true, true, true, true, true, true, true, true, true, true, true, true, true, true, true, true, true, true, true, true, true, false, false, false, false, false] rfl rfl (by kernel_rfl) (fun _ _ _ h => h) (Or.inl ⟨by rfl, ?_⟩) (Below.refl _ _) ?_ ?_
    rotate_left
    · intro w' hS
      have hd_ := below_step E5.out hS
      have hy0 := (blk_cell (blk_below BL5.out hd_) 0).trans (show (#[.slice X0 xs.length x0, .slice X1 xs2.length x1] : Array Value)[0]? = some (.slice X0 xs.length x0) from rfl)
      have hy1 := (blk_cell (blk_below BL5.out hd_) 1).trans (show (#[.slice X0 xs.length x0, .slice X1 xs2.length x1] : Array Value)[1]? = some (.slice X1 xs2.length x1) from rfl)
      go_simp
      with_reducible rfl
    rotate_left
    · simp only [Act.put, List.setIfInBounds_toArray, List.set_cons_zero, List.set_cons_succ, i64_w, i32_w]
      rfl
    refine take_ (i := 30) (N := some 66) (v := ?_) (a' := ?_) #[true, true, true, true, true, true, true, true, true, true, true, true, true, true, true, true, true, true, true, true, true, true, true, true, true, true, true, true, true, false, true, false, false, false] rfl rfl (by kernel_rfl) (fun _ _ _ h => h) (Or.inl ⟨by rfl, ?_⟩) (Below.refl _ _) ?_ ?_
    rotate_left
    · intro w' hS
      have hd_ := below_step E5.out hS
      have hy0 := (blk_cell (blk_below BL1.out hd_) 0).trans (show (#[.slice A0 xs.length c0, .slice A1 xs2.length c1] : Array Value)[0]? = some (.slice A0 xs.length c0) from rfl)
      have hy1 := (blk_cell (blk_below BL1.out hd_) 1).trans (show (#[.slice A0 xs.length c0, .slice A1 xs2.length c1] : Array Value)[1]? = some (.slice A1 xs2.length c1) from rfl)
      go_simp
      with_reducible rfl
    rotate_left
    · simp only [Act.put, List.setIfInBounds_toArray, List.set_cons_zero, List.set_cons_succ, i64_w, i32_w]
      rfl
    refine one_ (i := 29) (N := some 65) #[true, true, true, true, true, true, true, true, true, true, true, true, true, true, true, true, true, true, true, true, true, true, true, true, true, true, true, true, true, true, true, false, false, false] rfl rfl (by kernel_rfl) (by decide) (fun K hK => ?_)
    refine goes_ Try.func17 (by kernel_rfl) rfl #[.agg #[.slice X0 xs.length x0, .slice X1 xs2.length x1]] (by rfl) rfl rfl (by (try simp only [List.map_toArray, List.map_cons, List.map_nil]); first | done | rfl) ?_
    with_reducible refine (height_t xs xs2 La0.out La1.out _ _ _ _ _ _ Ta.out (Kd.C_below (Kd.C_below Hx0.out XHX.out) E5.out) (Kd.C_below (Kd.C_below Hx1.out XHX.out) E5.out)).mono ?_
    rintro e W6 ⟨rfl, D6⟩
    refine ⟨_, rfl, ?_⟩
    have E6 := Aside0.mk (below_step E5.out D6)
    refine hK.out _ _ D6 (fun _ => behind_ D6 ?_)
    clear hK K
    refine norm_ (a' := ?_) ?_ ?_
    rotate_left
    · show Act.put _ (some 65) _ = _
      simp only [Act.put, List.setIfInBounds_toArray, List.set_cons_zero, List.set_cons_succ, i64_w, i32_w]
      rfl
    refine one_ (i := 31) (N := some 67) #[true, true, true, true, true, true, true, true, true, true, true, true, true, true, true, true, true, true, true, true, true, true, true, true, true, true, true, true, true, true, true, true, false, false] rfl rfl (by kernel_rfl) (by decide) (fun K hK => ?_)
    refine goes_ Try.func18 (by kernel_rfl) rfl #[.agg #[.slice A0 xs.length c0, .slice A1 xs2.length c1]] (by rfl) rfl rfl (by (try simp only [List.map_toArray, List.map_cons, List.map_nil]); first | done | rfl) ?_
    with_reducible refine (refheight_t xs xs2 La0.out La1.out _ _ _ _ _ _ Ta.out (Kd.C_below (Kd.C_below Ha0.out XHB.out) E6.out) (Kd.C_below (Kd.C_below Ha1.out XHB.out) E6.out) Ka0.out Ka1.out).mono ?_
    rintro e W7 ⟨rfl, D7⟩
    refine ⟨_, rfl, ?_⟩
    have E7 := Aside0.mk (below_step E6.out D7)
    refine hK.out _ _ D7 (fun _ => behind_ D7 ?_)
    clear hK K
    refine norm_ (a' := ?_) ?_ ?_
    rotate_left
    · show Act.put _ (some 67) _ = _
      simp only [Act.put, List.setIfInBounds_toArray, List.set_cons_zero, List.set_cons_succ, i64_w, i32_w]
      rfl
    refine pure_ (i := 32) (N := some 68) (v := ?_) (a' := ?_) #[true, true, true, true, true, true, true, true, true, true, true, true, true, true, true, true, true, true, true, true, true, true, true, true, true, true, true, true, true, true, true, true, true, false] rfl rfl (by kernel_rfl) (fun _ _ _ h => h) (Or.inl ⟨by rfl, ?_⟩) ?_ ?_
    rotate_left
    · intro w'
      go_simp
      with_reducible rfl
    rotate_left
    · simp only [Act.put, List.setIfInBounds_toArray, List.set_cons_zero, List.set_cons_succ, i64_w, i32_w]
      rfl
    refine pure_ (i := 33) (N := some 69) (v := ?_) (a' := ?_) #[true, true, true, true, true, true, true, true, true, true, true, true, true, true, true, true, true, true, true, true, true, true, true, true, true, true, true, true, true, true, true, true, true, true] rfl rfl (by kernel_rfl) (fun _ _ _ h => h) (Or.inl ⟨by rfl, ?_⟩) ?_ ?_
    rotate_left
    · intro w'
      go_simp
      with_reducible rfl
    rotate_left
    · simp only [Act.put, List.setIfInBounds_toArray, List.set_cons_zero, List.set_cons_succ, i64_w, i32_w]
      rfl
    refine done_ (by kernel_rfl) ?_
    go_wp2_with fail
    go_meet
    exact ⟨rfl, ⟨blk_below BL9.out E7.out⟩, ⟨below_step XHV.out E7.out⟩⟩
  case rest =>
    obtain ⟨rfl, B9, HZ⟩ := hcut
    have HW := Aside0.mk (below_step HC.out HZ.out)
    have R0 := Aside0.mk (Kd.R_below Hr0.out HZ.out)
    have R1 := Aside0.mk (Kd.R_below Hr1.out HZ.out)
    clear BK1 BK2 BK5 BK6 BK7 BK9 HB HX HC HV Hr0 Hr1 Hm0 Hm1
    have BK9 := B9
    have hcz9_0 := (blk_cell BK9.out 0).trans (show (#[.slice F0 m.length f0, .slice F1 m2.length f1] : Array Value)[0]? = some (.slice F0 m.length f0) from rfl)
    have hcz9_1 := (blk_cell BK9.out 1).trans (show (#[.slice F0 m.length f0, .slice F1 m2.length f1] : Array Value)[1]? = some (.slice F1 m2.length f1) from rfl)
    go_upto_region 9 with (first
      | (go_at_call 19; (with_reducible refine (spoil_t m m2 Lm0.out Lm1.out P _ _ Z3 _ HW.out R0.out R1.out).mono ?_); rintro e Z5 ⟨rfl, hs⟩))
    clear HW R0 R1 BK9 B9 HZ hcz9_0 hcz9_1
    have HB := Aside0.mk (below_step OHB.out hs)
    have HX := Aside0.mk (below_step OHX.out hs)
    have HC := Aside0.mk hs
    have BK1 := Aside0.mk (blk_below OB1.out hs)
    clear OB1
    have BK2 := Aside0.mk (blk_below OB2.out hs)
    clear OB2
    have BK5 := Aside0.mk (blk_below OB5.out hs)
    clear OB5
    have BK6 := Aside0.mk (blk_below OB6.out hs)
    clear OB6
    have BK7 := Aside0.mk (blk_below OB7.out hs)
    clear OB7
    clear hs OHB OHX
    have hcz1_0 := (blk_cell BK1.out 0).trans (show (#[.slice A0 xs.length c0, .slice A1 xs2.length c1] : Array Value)[0]? = some (.slice A0 xs.length c0) from rfl)
    have hcz1_1 := (blk_cell BK1.out 1).trans (show (#[.slice A0 xs.length c0, .slice A1 xs2.length c1] : Array Value)[1]? = some (.slice A1 xs2.length c1) from rfl)
    have hcz2_0 := (blk_cell BK2.out 0).trans (show (#[.slice B0 ys.length d0, .slice B1 ys2.length d1] : Array Value)[0]? = some (.slice B0 ys.length d0) from rfl)
    have hcz2_1 := (blk_cell BK2.out 1).trans (show (#[.slice B0 ys.length d0, .slice B1 ys2.length d1] : Array Value)[1]? = some (.slice B1 ys2.length d1) from rfl)
    have hcz5_0 := (blk_cell BK5.out 0).trans (show (#[.slice X0 xs.length x0, .slice X1 xs2.length x1] : Array Value)[0]? = some (.slice X0 xs.length x0) from rfl)
    have hcz5_1 := (blk_cell BK5.out 1).trans (show (#[.slice X0 xs.length x0, .slice X1 xs2.length x1] : Array Value)[1]? = some (.slice X1 xs2.length x1) from rfl)
    have hcz6_0 := (blk_cell BK6.out 0).trans (show (#[.slice Y0 ys.length y0, .slice Y1 ys2.length y1] : Array Value)[0]? = some (.slice Y0 ys.length y0) from rfl)
    have hcz6_1 := (blk_cell BK6.out 1).trans (show (#[.slice Y0 ys.length y0, .slice Y1 ys2.length y1] : Array Value)[1]? = some (.slice Y1 ys2.length y1) from rfl)
    have hcz7_0 := (blk_cell BK7.out 0).trans (show (#[.slice Q0 m.length q0, .slice Q1 m2.length q1] : Array Value)[0]? = some (.slice Q0 m.length q0) from rfl)
    have hcz7_1 := (blk_cell BK7.out 1).trans (show (#[.slice Q0 m.length q0, .slice Q1 m2.length q1] : Array Value)[1]? = some (.slice Q1 m2.length q1) from rfl)
    go_upto_region 10 with (first
      | (go_at_call 11; (with_reducible refine (merge_r m m2 k xs xs2 ys ys2 La0.out La1.out Mab.out _ _ _ _ _ _ _ _ _ (by repeat (first | exact (Kd.C_below Hx0.out HX.out) | (with_reducible refine Kd.C_alloc ?_ _) | (with_reducible refine Kd.C_drewN ?_ _) | (with_reducible refine Kd.C_drew ?_))) (by repeat (first | exact (Kd.C_below Hx1.out HX.out) | (with_reducible refine Kd.C_alloc ?_ _) | (with_reducible refine Kd.C_drewN ?_ _) | (with_reducible refine Kd.C_drew ?_))) (by repeat (first | exact (Kd.C_below Hy0.out HX.out) | (with_reducible refine Kd.C_alloc ?_ _) | (with_reducible refine Kd.C_drewN ?_ _) | (with_reducible refine Kd.C_drew ?_))) (by repeat (first | exact (Kd.C_below Hy1.out HX.out) | (with_reducible refine Kd.C_alloc ?_ _) | (with_reducible refine Kd.C_drewN ?_ _) | (with_reducible refine Kd.C_drew ?_)))).mono ?_); rintro e wA ⟨I0, I1, i0, i1, P2, rfl, kn0, kn1, r0, r1, hb_⟩; have tHB_ := Aside0.mk (below_step (by repeat (first | (with_reducible first | exact HB.out | apply below_alloc | apply pw_below_drewN | apply below_drew1 | apply below_drew) | exact HB.out)) hb_); have tHX_ := Aside0.mk (below_step (by repeat (first | (with_reducible first | exact HX.out | apply below_alloc | apply pw_below_drewN | apply below_drew1 | apply below_drew) | exact HX.out)) hb_); have tHC_ := Aside0.mk (below_step (by repeat (first | (with_reducible first | exact HC.out | apply below_alloc | apply pw_below_drewN | apply below_drew1 | apply below_drew) | exact HC.out)) hb_); have bk2_ := Aside0.mk (blk_below (g := gb1) (o := .cells #[.slice A0 xs.length c0, .slice A1 xs2.length c1] 24 (0, 0)) (by (with_reducible repeat (first | refine blk_drewN ?_ _ | refine blk_drew ?_ | refine blk_alloc ?_ _)); exact BK1.out) hb_); clear BK1; have BK1 := bk2_; clear bk2_; have bk2_ := Aside0.mk (blk_below (g := gb2) (o := .cells #[.slice B0 ys.length d0, .slice B1 ys2.length d1] 24 (0, 0)) (by (with_reducible repeat (first | refine blk_drewN ?_ _ | refine blk_drew ?_ | refine blk_alloc ?_ _)); exact BK2.out) hb_); clear BK2; have BK2 := bk2_; clear bk2_; have bk2_ := Aside0.mk (blk_below (g := gb5) (o := .cells #[.slice X0 xs.length x0, .slice X1 xs2.length x1] 24 (0, 0)) (by (with_reducible repeat (first | refine blk_drewN ?_ _ | refine blk_drew ?_ | refine blk_alloc ?_ _)); exact BK5.out) hb_); clear BK5; have BK5 := bk2_; clear bk2_; have bk2_ := Aside0.mk (blk_below (g := gb6) (o := .cells #[.slice Y0 ys.length y0, .slice Y1 ys2.length y1] 24 (0, 0)) (by (with_reducible repeat (first | refine blk_drewN ?_ _ | refine blk_drew ?_ | refine blk_alloc ?_ _)); exact BK6.out) hb_); clear BK6; have BK6 := bk2_; clear bk2_; have bk2_ := Aside0.mk (blk_below (g := gb7) (o := .cells #[.slice Q0 m.length q0, .slice Q1 m2.length q1] 24 (0, 0)) (by (with_reducible repeat (first | refine blk_drewN ?_ _ | refine blk_drew ?_ | refine blk_alloc ?_ _)); exact BK7.out) hb_); clear BK7; have BK7 := bk2_; clear bk2_; clear HB; have HB := tHB_; clear tHB_; clear HX; have HX := tHX_; clear tHX_; clear HC; have HC := tHC_; clear tHC_; (try clear hcz1_0); (try clear hcz1_1); (try clear hcz2_0); (try clear hcz2_1); (try clear hcz5_0); (try clear hcz5_1); (try clear hcz6_0); (try clear hcz6_1); (try clear hcz7_0); (try clear hcz7_1); have hcz1_0 := (blk_cell BK1.out 0).trans (show (#[.slice A0 xs.length c0, .slice A1 xs2.length c1] : Array Value)[0]? = some (.slice A0 xs.length c0) from rfl); have hcz1_1 := (blk_cell BK1.out 1).trans (show (#[.slice A0 xs.length c0, .slice A1 xs2.length c1] : Array Value)[1]? = some (.slice A1 xs2.length c1) from rfl); have hcz2_0 := (blk_cell BK2.out 0).trans (show (#[.slice B0 ys.length d0, .slice B1 ys2.length d1] : Array Value)[0]? = some (.slice B0 ys.length d0) from rfl); have hcz2_1 := (blk_cell BK2.out 1).trans (show (#[.slice B0 ys.length d0, .slice B1 ys2.length d1] : Array Value)[1]? = some (.slice B1 ys2.length d1) from rfl); have hcz5_0 := (blk_cell BK5.out 0).trans (show (#[.slice X0 xs.length x0, .slice X1 xs2.length x1] : Array Value)[0]? = some (.slice X0 xs.length x0) from rfl); have hcz5_1 := (blk_cell BK5.out 1).trans (show (#[.slice X0 xs.length x0, .slice X1 xs2.length x1] : Array Value)[1]? = some (.slice X1 xs2.length x1) from rfl); have hcz6_0 := (blk_cell BK6.out 0).trans (show (#[.slice Y0 ys.length y0, .slice Y1 ys2.length y1] : Array Value)[0]? = some (.slice Y0 ys.length y0) from rfl); have hcz6_1 := (blk_cell BK6.out 1).trans (show (#[.slice Y0 ys.length y0, .slice Y1 ys2.length y1] : Array Value)[1]? = some (.slice Y1 ys2.length y1) from rfl); have hcz7_0 := (blk_cell BK7.out 0).trans (show (#[.slice Q0 m.length q0, .slice Q1 m2.length q1] : Array Value)[0]? = some (.slice Q0 m.length q0) from rfl); have hcz7_1 := (blk_cell BK7.out 1).trans (show (#[.slice Q0 m.length q0, .slice Q1 m2.length q1] : Array Value)[1]? = some (.slice Q1 m2.length q1) from rfl); (try clear hb_))
      | ((with_reducible refine gate_dst (N := 11) rfl ?_); have HLT1 := Aside0.mk (blk_lt BK1.out); have HLT2 := Aside0.mk (blk_lt BK2.out); have HLT5 := Aside0.mk (blk_lt BK5.out); have HLT6 := Aside0.mk (blk_lt BK6.out); have HLT7 := Aside0.mk (blk_lt BK7.out); refine box_event ?hg (N := 11) ?hd (cs := #[.slice none 0 0, .slice none 0 0]) (t := 24) ?hr ?_; (case hd => rfl); (case hg => rfl); (case hr => first | (go_simp; done) | (go_simp; rfl)); intro gb11 hg_ wb11 hbox hb_; have GEHB11 := Aside0.mk ((by rw [hg_]; exact (below_size (by repeat (first | (with_reducible first | exact HB.out | apply below_alloc | apply pw_below_drewN | apply below_drew1 | apply below_drew) | exact HB.out)))) : _ ≤ gb11); have GEHX11 := Aside0.mk ((by rw [hg_]; exact (below_size (by repeat (first | (with_reducible first | exact HX.out | apply below_alloc | apply pw_below_drewN | apply below_drew1 | apply below_drew) | exact HX.out)))) : _ ≤ gb11); have GEHC11 := Aside0.mk ((by rw [hg_]; exact (below_size (by repeat (first | (with_reducible first | exact HC.out | apply below_alloc | apply pw_below_drewN | apply below_drew1 | apply below_drew) | exact HC.out)))) : _ ≤ gb11); have GE11 := Aside0.mk ((by rw [hg_]; exact (below_size (by repeat (first | (with_reducible first | exact HB.out | apply below_alloc | apply pw_below_drewN | apply below_drew1 | apply below_drew) | exact HB.out)))) : w.heap.size ≤ gb11); have tHB_ := Aside0.mk (below_step (by repeat (first | (with_reducible first | exact HB.out | apply below_alloc | apply pw_below_drewN | apply below_drew1 | apply below_drew) | exact HB.out)) hb_); have tHX_ := Aside0.mk (below_step (by repeat (first | (with_reducible first | exact HX.out | apply below_alloc | apply pw_below_drewN | apply below_drew1 | apply below_drew) | exact HX.out)) hb_); have tHC_ := Aside0.mk (below_step (by repeat (first | (with_reducible first | exact HC.out | apply below_alloc | apply pw_below_drewN | apply below_drew1 | apply below_drew) | exact HC.out)) hb_); have bk2_ := Aside0.mk (blk_below (g := gb1) (o := .cells #[.slice A0 xs.length c0, .slice A1 xs2.length c1] 24 (0, 0)) (by (with_reducible repeat (first | refine blk_drewN ?_ _ | refine blk_drew ?_ | refine blk_alloc ?_ _)); exact BK1.out) hb_); clear BK1; have BK1 := bk2_; clear bk2_; have bk2_ := Aside0.mk (blk_below (g := gb2) (o := .cells #[.slice B0 ys.length d0, .slice B1 ys2.length d1] 24 (0, 0)) (by (with_reducible repeat (first | refine blk_drewN ?_ _ | refine blk_drew ?_ | refine blk_alloc ?_ _)); exact BK2.out) hb_); clear BK2; have BK2 := bk2_; clear bk2_; have bk2_ := Aside0.mk (blk_below (g := gb5) (o := .cells #[.slice X0 xs.length x0, .slice X1 xs2.length x1] 24 (0, 0)) (by (with_reducible repeat (first | refine blk_drewN ?_ _ | refine blk_drew ?_ | refine blk_alloc ?_ _)); exact BK5.out) hb_); clear BK5; have BK5 := bk2_; clear bk2_; have bk2_ := Aside0.mk (blk_below (g := gb6) (o := .cells #[.slice Y0 ys.length y0, .slice Y1 ys2.length y1] 24 (0, 0)) (by (with_reducible repeat (first | refine blk_drewN ?_ _ | refine blk_drew ?_ | refine blk_alloc ?_ _)); exact BK6.out) hb_); clear BK6; have BK6 := bk2_; clear bk2_; have bk2_ := Aside0.mk (blk_below (g := gb7) (o := .cells #[.slice Q0 m.length q0, .slice Q1 m2.length q1] 24 (0, 0)) (by (with_reducible repeat (first | refine blk_drewN ?_ _ | refine blk_drew ?_ | refine blk_alloc ?_ _)); exact BK7.out) hb_); clear BK7; have BK7 := bk2_; clear bk2_; clear HB; have HB := tHB_; clear tHB_; clear HX; have HX := tHX_; clear tHX_; clear HC; have HC := tHC_; clear tHC_; have BK11 := Aside0.mk hbox; have HG11 := Aside0.mk hg_; have DB11 := Aside0.mk hb_; clear hbox hg_ hb_; have hcz1_0 := (blk_cell BK1.out 0).trans (show (#[.slice A0 xs.length c0, .slice A1 xs2.length c1] : Array Value)[0]? = some (.slice A0 xs.length c0) from rfl); have hfz1_0 := blk_frozen BK1.out 0; have hcz1_1 := (blk_cell BK1.out 1).trans (show (#[.slice A0 xs.length c0, .slice A1 xs2.length c1] : Array Value)[1]? = some (.slice A1 xs2.length c1) from rfl); have hfz1_1 := blk_frozen BK1.out 1; have hcz2_0 := (blk_cell BK2.out 0).trans (show (#[.slice B0 ys.length d0, .slice B1 ys2.length d1] : Array Value)[0]? = some (.slice B0 ys.length d0) from rfl); have hfz2_0 := blk_frozen BK2.out 0; have hcz2_1 := (blk_cell BK2.out 1).trans (show (#[.slice B0 ys.length d0, .slice B1 ys2.length d1] : Array Value)[1]? = some (.slice B1 ys2.length d1) from rfl); have hfz2_1 := blk_frozen BK2.out 1; have hcz5_0 := (blk_cell BK5.out 0).trans (show (#[.slice X0 xs.length x0, .slice X1 xs2.length x1] : Array Value)[0]? = some (.slice X0 xs.length x0) from rfl); have hfz5_0 := blk_frozen BK5.out 0; have hcz5_1 := (blk_cell BK5.out 1).trans (show (#[.slice X0 xs.length x0, .slice X1 xs2.length x1] : Array Value)[1]? = some (.slice X1 xs2.length x1) from rfl); have hfz5_1 := blk_frozen BK5.out 1; have hcz6_0 := (blk_cell BK6.out 0).trans (show (#[.slice Y0 ys.length y0, .slice Y1 ys2.length y1] : Array Value)[0]? = some (.slice Y0 ys.length y0) from rfl); have hfz6_0 := blk_frozen BK6.out 0; have hcz6_1 := (blk_cell BK6.out 1).trans (show (#[.slice Y0 ys.length y0, .slice Y1 ys2.length y1] : Array Value)[1]? = some (.slice Y1 ys2.length y1) from rfl); have hfz6_1 := blk_frozen BK6.out 1; have hcz7_0 := (blk_cell BK7.out 0).trans (show (#[.slice Q0 m.length q0, .slice Q1 m2.length q1] : Array Value)[0]? = some (.slice Q0 m.length q0) from rfl); have hfz7_0 := blk_frozen BK7.out 0; have hcz7_1 := (blk_cell BK7.out 1).trans (show (#[.slice Q0 m.length q0, .slice Q1 m2.length q1] : Array Value)[1]? = some (.slice Q1 m2.length q1) from rfl); have hfz7_1 := blk_frozen BK7.out 1; have hcz11_0 := (blk_cell BK11.out 0).trans (show (#[.slice none 0 0, .slice none 0 0] : Array Value)[0]? = some (.slice none 0 0) from rfl); have hfz11_0 := blk_frozen BK11.out 0; have hcz11_1 := (blk_cell BK11.out 1).trans (show (#[.slice none 0 0, .slice none 0 0] : Array Value)[1]? = some (.slice none 0 0) from rfl); have hfz11_1 := blk_frozen BK11.out 1))
    have bk11 := blk_put (cs' := #[.slice I0 m.length i0, .slice I1 m2.length i1]) (blk_put (cs' := #[.slice I0 m.length i0, .slice none 0 0]) BK11.out 0 (.slice I0 m.length i0) rfl) 1 (.slice I1 m2.length i1) rfl
    have hne1 : gb1 ≠ gb11 := by rw [HG11.out]; exact Nat.ne_of_lt (HLT1.out)
    have bk1 := blk_far (p := ⟨gb11, 1, none⟩) (blk_far (p := ⟨gb11, 0, none⟩) BK1.out hne1 (.slice I0 m.length i0)) hne1 (.slice I1 m2.length i1)
    have hne2 : gb2 ≠ gb11 := by rw [HG11.out]; exact Nat.ne_of_lt (HLT2.out)
    have bk2 := blk_far (p := ⟨gb11, 1, none⟩) (blk_far (p := ⟨gb11, 0, none⟩) BK2.out hne2 (.slice I0 m.length i0)) hne2 (.slice I1 m2.length i1)
    have hne5 : gb5 ≠ gb11 := by rw [HG11.out]; exact Nat.ne_of_lt (HLT5.out)
    have bk5 := blk_far (p := ⟨gb11, 1, none⟩) (blk_far (p := ⟨gb11, 0, none⟩) BK5.out hne5 (.slice I0 m.length i0)) hne5 (.slice I1 m2.length i1)
    have hne6 : gb6 ≠ gb11 := by rw [HG11.out]; exact Nat.ne_of_lt (HLT6.out)
    have bk6 := blk_far (p := ⟨gb11, 1, none⟩) (blk_far (p := ⟨gb11, 0, none⟩) BK6.out hne6 (.slice I0 m.length i0)) hne6 (.slice I1 m2.length i1)
    have hne7 : gb7 ≠ gb11 := by rw [HG11.out]; exact Nat.ne_of_lt (HLT7.out)
    have bk7 := blk_far (p := ⟨gb11, 1, none⟩) (blk_far (p := ⟨gb11, 0, none⟩) BK7.out hne7 (.slice I0 m.length i0)) hne7 (.slice I1 m2.length i1)
    have D := below_set (g := gb11) (j := 1) (v := .slice I1 m2.length i1) (below_set (g := gb11) (j := 0) (v := .slice I0 m.length i0) DB11.out (Nat.le_of_eq HG11.out.symm)) (Nat.le_of_eq HG11.out.symm)
    have THB := Aside0.mk (below_set (g := gb11) (j := 1) (v := .slice I1 m2.length i1) (below_set (g := gb11) (j := 0) (v := .slice I0 m.length i0) HB.out GEHB11.out) GEHB11.out)
    have THX := Aside0.mk (below_set (g := gb11) (j := 1) (v := .slice I1 m2.length i1) (below_set (g := gb11) (j := 0) (v := .slice I0 m.length i0) HX.out GEHX11.out) GEHX11.out)
    have THC := Aside0.mk (below_set (g := gb11) (j := 1) (v := .slice I1 m2.length i1) (below_set (g := gb11) (j := 0) (v := .slice I0 m.length i0) HC.out GEHC11.out) GEHC11.out)
    have qr0 := Kd.R_below r0 D
    have qr1 := Kd.R_below r1 D
    clear D DB11 HG11 BK11 GE11
    clear HB GEHB11
    clear HX GEHX11
    clear HC GEHC11
    clear HLT1 hne1 BK1
    clear HLT2 hne2 BK2
    clear HLT5 hne5 BK5
    clear HLT6 hne6 BK6
    clear HLT7 hne7 BK7
    clear r0
    clear r1
    (try clear hcz1_0)
    (try clear hcz1_1)
    (try clear hcz2_0)
    (try clear hcz2_1)
    (try clear hcz5_0)
    (try clear hcz5_1)
    (try clear hcz6_0)
    (try clear hcz6_1)
    (try clear hcz7_0)
    (try clear hcz7_1)
    (try clear hcz11_0)
    (try clear hcz11_1)
    (try clear hfz1_0)
    (try clear hfz1_1)
    (try clear hfz2_0)
    (try clear hfz2_1)
    (try clear hfz5_0)
    (try clear hfz5_1)
    (try clear hfz6_0)
    (try clear hfz6_1)
    (try clear hfz7_0)
    (try clear hfz7_1)
    (try clear hfz11_0)
    (try clear hfz11_1)
    generalize (wb11.setCell ⟨gb11, 0, none⟩ (.slice I0 m.length i0)).setCell ⟨gb11, 1, none⟩ (.slice I1 m2.length i1) = Z6 at *
    have HB := THB; clear THB
    have HX := THX; clear THX
    have HC := THC; clear THC
    have BK1 := Aside0.mk bk1
    clear bk1
    have BK2 := Aside0.mk bk2
    clear bk2
    have BK5 := Aside0.mk bk5
    clear bk5
    have BK6 := Aside0.mk bk6
    clear bk6
    have BK7 := Aside0.mk bk7
    clear bk7
    have BK11 := Aside0.mk bk11
    clear bk11
    have Hr0 := Aside0.mk qr0
    clear qr0
    have Hr1 := Aside0.mk qr1
    clear qr1
    have hcz1_0 := (blk_cell BK1.out 0).trans (show (#[.slice A0 xs.length c0, .slice A1 xs2.length c1] : Array Value)[0]? = some (.slice A0 xs.length c0) from rfl)
    have hcz1_1 := (blk_cell BK1.out 1).trans (show (#[.slice A0 xs.length c0, .slice A1 xs2.length c1] : Array Value)[1]? = some (.slice A1 xs2.length c1) from rfl)
    have hcz2_0 := (blk_cell BK2.out 0).trans (show (#[.slice B0 ys.length d0, .slice B1 ys2.length d1] : Array Value)[0]? = some (.slice B0 ys.length d0) from rfl)
    have hcz2_1 := (blk_cell BK2.out 1).trans (show (#[.slice B0 ys.length d0, .slice B1 ys2.length d1] : Array Value)[1]? = some (.slice B1 ys2.length d1) from rfl)
    have hcz5_0 := (blk_cell BK5.out 0).trans (show (#[.slice X0 xs.length x0, .slice X1 xs2.length x1] : Array Value)[0]? = some (.slice X0 xs.length x0) from rfl)
    have hcz5_1 := (blk_cell BK5.out 1).trans (show (#[.slice X0 xs.length x0, .slice X1 xs2.length x1] : Array Value)[1]? = some (.slice X1 xs2.length x1) from rfl)
    have hcz6_0 := (blk_cell BK6.out 0).trans (show (#[.slice Y0 ys.length y0, .slice Y1 ys2.length y1] : Array Value)[0]? = some (.slice Y0 ys.length y0) from rfl)
    have hcz6_1 := (blk_cell BK6.out 1).trans (show (#[.slice Y0 ys.length y0, .slice Y1 ys2.length y1] : Array Value)[1]? = some (.slice Y1 ys2.length y1) from rfl)
    have hcz7_0 := (blk_cell BK7.out 0).trans (show (#[.slice Q0 m.length q0, .slice Q1 m2.length q1] : Array Value)[0]? = some (.slice Q0 m.length q0) from rfl)
    have hcz7_1 := (blk_cell BK7.out 1).trans (show (#[.slice Q0 m.length q0, .slice Q1 m2.length q1] : Array Value)[1]? = some (.slice Q1 m2.length q1) from rfl)
    have hcz11_0 := (blk_cell BK11.out 0).trans (show (#[.slice I0 m.length i0, .slice I1 m2.length i1] : Array Value)[0]? = some (.slice I0 m.length i0) from rfl)
    have hcz11_1 := (blk_cell BK11.out 1).trans (show (#[.slice I0 m.length i0, .slice I1 m2.length i1] : Array Value)[1]? = some (.slice I1 m2.length i1) from rfl)
    have Kn0 := Aside0.mk kn0
    clear kn0
    have Kn1 := Aside0.mk kn1
    clear kn1
    have Hn0 := Aside0.mk (Kd.R_reads' Hr0.out).2.2
    have Hn1 := Aside0.mk (Kd.R_reads' Hr1.out).2.2
    have HV := Aside0.mk (Below.refl Z6.heap.size Z6)
    have tok0 : True := trivial
    have tok1 : True := trivial
    go_wp2_with (first
      | (go_at_call 12; (with_reducible refine (sameframe_t m m2 Lm0.out Lm1.out _ _ _ _ _ _ _ _ _ (by repeat (first | exact (Kd.C_below Hn0.out HV.out) | (with_reducible refine Kd.C_alloc ?_ _) | (with_reducible refine Kd.C_drewN ?_ _) | (with_reducible refine Kd.C_drew ?_))) (by repeat (first | exact (Kd.C_below Hn1.out HV.out) | (with_reducible refine Kd.C_alloc ?_ _) | (with_reducible refine Kd.C_drewN ?_ _) | (with_reducible refine Kd.C_drew ?_))) (by repeat (first | exact (Kd.C_below Hw0.out HC.out) | (with_reducible refine Kd.C_alloc ?_ _) | (with_reducible refine Kd.C_drewN ?_ _) | (with_reducible refine Kd.C_drew ?_))) (by repeat (first | exact (Kd.C_below Hw1.out HC.out) | (with_reducible refine Kd.C_alloc ?_ _) | (with_reducible refine Kd.C_drewN ?_ _) | (with_reducible refine Kd.C_drew ?_))) Kn0.out Kn1.out Kw0.out Kw1.out).mono ?_); rintro e wc ⟨rfl, hb_⟩; have tHB_ := Aside0.mk (below_step (by repeat (first | (with_reducible first | exact HB.out | apply below_alloc | apply pw_below_drewN | apply below_drew1 | apply below_drew) | exact HB.out)) hb_); have tHX_ := Aside0.mk (below_step (by repeat (first | (with_reducible first | exact HX.out | apply below_alloc | apply pw_below_drewN | apply below_drew1 | apply below_drew) | exact HX.out)) hb_); have tHC_ := Aside0.mk (below_step (by repeat (first | (with_reducible first | exact HC.out | apply below_alloc | apply pw_below_drewN | apply below_drew1 | apply below_drew) | exact HC.out)) hb_); have tHV_ := Aside0.mk (below_step (by repeat (first | (with_reducible first | exact HV.out | apply below_alloc | apply pw_below_drewN | apply below_drew1 | apply below_drew) | exact HV.out)) hb_); have bk2_ := Aside0.mk (blk_below (g := gb1) (o := .cells #[.slice A0 xs.length c0, .slice A1 xs2.length c1] 24 (0, 0)) (by (with_reducible repeat (first | refine blk_drewN ?_ _ | refine blk_drew ?_ | refine blk_alloc ?_ _)); exact BK1.out) hb_); clear BK1; have BK1 := bk2_; clear bk2_; have bk2_ := Aside0.mk (blk_below (g := gb2) (o := .cells #[.slice B0 ys.length d0, .slice B1 ys2.length d1] 24 (0, 0)) (by (with_reducible repeat (first | refine blk_drewN ?_ _ | refine blk_drew ?_ | refine blk_alloc ?_ _)); exact BK2.out) hb_); clear BK2; have BK2 := bk2_; clear bk2_; have bk2_ := Aside0.mk (blk_below (g := gb5) (o := .cells #[.slice X0 xs.length x0, .slice X1 xs2.length x1] 24 (0, 0)) (by (with_reducible repeat (first | refine blk_drewN ?_ _ | refine blk_drew ?_ | refine blk_alloc ?_ _)); exact BK5.out) hb_); clear BK5; have BK5 := bk2_; clear bk2_; have bk2_ := Aside0.mk (blk_below (g := gb6) (o := .cells #[.slice Y0 ys.length y0, .slice Y1 ys2.length y1] 24 (0, 0)) (by (with_reducible repeat (first | refine blk_drewN ?_ _ | refine blk_drew ?_ | refine blk_alloc ?_ _)); exact BK6.out) hb_); clear BK6; have BK6 := bk2_; clear bk2_; have bk2_ := Aside0.mk (blk_below (g := gb7) (o := .cells #[.slice Q0 m.length q0, .slice Q1 m2.length q1] 24 (0, 0)) (by (with_reducible repeat (first | refine blk_drewN ?_ _ | refine blk_drew ?_ | refine blk_alloc ?_ _)); exact BK7.out) hb_); clear BK7; have BK7 := bk2_; clear bk2_; have bk2_ := Aside0.mk (blk_below (g := gb11) (o := .cells #[.slice I0 m.length i0, .slice I1 m2.length i1] 24 (0, 0)) (by (with_reducible repeat (first | refine blk_drewN ?_ _ | refine blk_drew ?_ | refine blk_alloc ?_ _)); exact BK11.out) hb_); clear BK11; have BK11 := bk2_; clear bk2_; clear HB; have HB := tHB_; clear tHB_; clear HX; have HX := tHX_; clear tHX_; clear HC; have HC := tHC_; clear tHC_; clear HV; have HV := tHV_; clear tHV_; (try clear hcz1_0); (try clear hcz1_1); (try clear hcz2_0); (try clear hcz2_1); (try clear hcz5_0); (try clear hcz5_1); (try clear hcz6_0); (try clear hcz6_1); (try clear hcz7_0); (try clear hcz7_1); (try clear hcz11_0); (try clear hcz11_1); have hcz1_0 := (blk_cell BK1.out 0).trans (show (#[.slice A0 xs.length c0, .slice A1 xs2.length c1] : Array Value)[0]? = some (.slice A0 xs.length c0) from rfl); have hcz1_1 := (blk_cell BK1.out 1).trans (show (#[.slice A0 xs.length c0, .slice A1 xs2.length c1] : Array Value)[1]? = some (.slice A1 xs2.length c1) from rfl); have hcz2_0 := (blk_cell BK2.out 0).trans (show (#[.slice B0 ys.length d0, .slice B1 ys2.length d1] : Array Value)[0]? = some (.slice B0 ys.length d0) from rfl); have hcz2_1 := (blk_cell BK2.out 1).trans (show (#[.slice B0 ys.length d0, .slice B1 ys2.length d1] : Array Value)[1]? = some (.slice B1 ys2.length d1) from rfl); have hcz5_0 := (blk_cell BK5.out 0).trans (show (#[.slice X0 xs.length x0, .slice X1 xs2.length x1] : Array Value)[0]? = some (.slice X0 xs.length x0) from rfl); have hcz5_1 := (blk_cell BK5.out 1).trans (show (#[.slice X0 xs.length x0, .slice X1 xs2.length x1] : Array Value)[1]? = some (.slice X1 xs2.length x1) from rfl); have hcz6_0 := (blk_cell BK6.out 0).trans (show (#[.slice Y0 ys.length y0, .slice Y1 ys2.length y1] : Array Value)[0]? = some (.slice Y0 ys.length y0) from rfl); have hcz6_1 := (blk_cell BK6.out 1).trans (show (#[.slice Y0 ys.length y0, .slice Y1 ys2.length y1] : Array Value)[1]? = some (.slice Y1 ys2.length y1) from rfl); have hcz7_0 := (blk_cell BK7.out 0).trans (show (#[.slice Q0 m.length q0, .slice Q1 m2.length q1] : Array Value)[0]? = some (.slice Q0 m.length q0) from rfl); have hcz7_1 := (blk_cell BK7.out 1).trans (show (#[.slice Q0 m.length q0, .slice Q1 m2.length q1] : Array Value)[1]? = some (.slice Q1 m2.length q1) from rfl); have hcz11_0 := (blk_cell BK11.out 0).trans (show (#[.slice I0 m.length i0, .slice I1 m2.length i1] : Array Value)[0]? = some (.slice I0 m.length i0) from rfl); have hcz11_1 := (blk_cell BK11.out 1).trans (show (#[.slice I0 m.length i0, .slice I1 m2.length i1] : Array Value)[1]? = some (.slice I1 m2.length i1) from rfl); (try clear hb_))
      | (go_at_call 20; have _t := tok0; (with_reducible refine (kept_f xs xs2 La0.out La1.out _ _ _ _ _ _ _ _ _ (by repeat (first | exact (Kd.C_below HMx0.out HX.out) | (with_reducible refine Kd.C_alloc ?_ _) | (with_reducible refine Kd.C_drewN ?_ _) | (with_reducible refine Kd.C_drew ?_))) (by repeat (first | exact (Kd.C_below HMx1.out HX.out) | (with_reducible refine Kd.C_alloc ?_ _) | (with_reducible refine Kd.C_drewN ?_ _) | (with_reducible refine Kd.C_drew ?_))) KKx0.out KKx1.out (by repeat (first | exact (Kd.C_below Ha0.out HB.out) | (with_reducible refine Kd.C_alloc ?_ _) | (with_reducible refine Kd.C_drewN ?_ _) | (with_reducible refine Kd.C_drew ?_))) (by repeat (first | exact (Kd.C_below Ha1.out HB.out) | (with_reducible refine Kd.C_alloc ?_ _) | (with_reducible refine Kd.C_drewN ?_ _) | (with_reducible refine Kd.C_drew ?_))) Ka0.out Ka1.out).mono ?_); rintro e wc ⟨rfl, hb_⟩; have tHB_ := Aside0.mk (below_step (by repeat (first | (with_reducible first | exact HB.out | apply below_alloc | apply pw_below_drewN | apply below_drew1 | apply below_drew) | exact HB.out)) hb_); have tHX_ := Aside0.mk (below_step (by repeat (first | (with_reducible first | exact HX.out | apply below_alloc | apply pw_below_drewN | apply below_drew1 | apply below_drew) | exact HX.out)) hb_); have tHC_ := Aside0.mk (below_step (by repeat (first | (with_reducible first | exact HC.out | apply below_alloc | apply pw_below_drewN | apply below_drew1 | apply below_drew) | exact HC.out)) hb_); have tHV_ := Aside0.mk (below_step (by repeat (first | (with_reducible first | exact HV.out | apply below_alloc | apply pw_below_drewN | apply below_drew1 | apply below_drew) | exact HV.out)) hb_); have bk2_ := Aside0.mk (blk_below (g := gb1) (o := .cells #[.slice A0 xs.length c0, .slice A1 xs2.length c1] 24 (0, 0)) (by (with_reducible repeat (first | refine blk_drewN ?_ _ | refine blk_drew ?_ | refine blk_alloc ?_ _)); exact BK1.out) hb_); clear BK1; have BK1 := bk2_; clear bk2_; have bk2_ := Aside0.mk (blk_below (g := gb2) (o := .cells #[.slice B0 ys.length d0, .slice B1 ys2.length d1] 24 (0, 0)) (by (with_reducible repeat (first | refine blk_drewN ?_ _ | refine blk_drew ?_ | refine blk_alloc ?_ _)); exact BK2.out) hb_); clear BK2; have BK2 := bk2_; clear bk2_; have bk2_ := Aside0.mk (blk_below (g := gb5) (o := .cells #[.slice X0 xs.length x0, .slice X1 xs2.length x1] 24 (0, 0)) (by (with_reducible repeat (first | refine blk_drewN ?_ _ | refine blk_drew ?_ | refine blk_alloc ?_ _)); exact BK5.out) hb_); clear BK5; have BK5 := bk2_; clear bk2_; have bk2_ := Aside0.mk (blk_below (g := gb6) (o := .cells #[.slice Y0 ys.length y0, .slice Y1 ys2.length y1] 24 (0, 0)) (by (with_reducible repeat (first | refine blk_drewN ?_ _ | refine blk_drew ?_ | refine blk_alloc ?_ _)); exact BK6.out) hb_); clear BK6; have BK6 := bk2_; clear bk2_; have bk2_ := Aside0.mk (blk_below (g := gb7) (o := .cells #[.slice Q0 m.length q0, .slice Q1 m2.length q1] 24 (0, 0)) (by (with_reducible repeat (first | refine blk_drewN ?_ _ | refine blk_drew ?_ | refine blk_alloc ?_ _)); exact BK7.out) hb_); clear BK7; have BK7 := bk2_; clear bk2_; have bk2_ := Aside0.mk (blk_below (g := gb11) (o := .cells #[.slice I0 m.length i0, .slice I1 m2.length i1] 24 (0, 0)) (by (with_reducible repeat (first | refine blk_drewN ?_ _ | refine blk_drew ?_ | refine blk_alloc ?_ _)); exact BK11.out) hb_); clear BK11; have BK11 := bk2_; clear bk2_; clear HB; have HB := tHB_; clear tHB_; clear HX; have HX := tHX_; clear tHX_; clear HC; have HC := tHC_; clear tHC_; clear HV; have HV := tHV_; clear tHV_; (try clear hcz1_0); (try clear hcz1_1); (try clear hcz2_0); (try clear hcz2_1); (try clear hcz5_0); (try clear hcz5_1); (try clear hcz6_0); (try clear hcz6_1); (try clear hcz7_0); (try clear hcz7_1); (try clear hcz11_0); (try clear hcz11_1); have hcz1_0 := (blk_cell BK1.out 0).trans (show (#[.slice A0 xs.length c0, .slice A1 xs2.length c1] : Array Value)[0]? = some (.slice A0 xs.length c0) from rfl); have hcz1_1 := (blk_cell BK1.out 1).trans (show (#[.slice A0 xs.length c0, .slice A1 xs2.length c1] : Array Value)[1]? = some (.slice A1 xs2.length c1) from rfl); have hcz2_0 := (blk_cell BK2.out 0).trans (show (#[.slice B0 ys.length d0, .slice B1 ys2.length d1] : Array Value)[0]? = some (.slice B0 ys.length d0) from rfl); have hcz2_1 := (blk_cell BK2.out 1).trans (show (#[.slice B0 ys.length d0, .slice B1 ys2.length d1] : Array Value)[1]? = some (.slice B1 ys2.length d1) from rfl); have hcz5_0 := (blk_cell BK5.out 0).trans (show (#[.slice X0 xs.length x0, .slice X1 xs2.length x1] : Array Value)[0]? = some (.slice X0 xs.length x0) from rfl); have hcz5_1 := (blk_cell BK5.out 1).trans (show (#[.slice X0 xs.length x0, .slice X1 xs2.length x1] : Array Value)[1]? = some (.slice X1 xs2.length x1) from rfl); have hcz6_0 := (blk_cell BK6.out 0).trans (show (#[.slice Y0 ys.length y0, .slice Y1 ys2.length y1] : Array Value)[0]? = some (.slice Y0 ys.length y0) from rfl); have hcz6_1 := (blk_cell BK6.out 1).trans (show (#[.slice Y0 ys.length y0, .slice Y1 ys2.length y1] : Array Value)[1]? = some (.slice Y1 ys2.length y1) from rfl); have hcz7_0 := (blk_cell BK7.out 0).trans (show (#[.slice Q0 m.length q0, .slice Q1 m2.length q1] : Array Value)[0]? = some (.slice Q0 m.length q0) from rfl); have hcz7_1 := (blk_cell BK7.out 1).trans (show (#[.slice Q0 m.length q0, .slice Q1 m2.length q1] : Array Value)[1]? = some (.slice Q1 m2.length q1) from rfl); have hcz11_0 := (blk_cell BK11.out 0).trans (show (#[.slice I0 m.length i0, .slice I1 m2.length i1] : Array Value)[0]? = some (.slice I0 m.length i0) from rfl); have hcz11_1 := (blk_cell BK11.out 1).trans (show (#[.slice I0 m.length i0, .slice I1 m2.length i1] : Array Value)[1]? = some (.slice I1 m2.length i1) from rfl); (try clear hb_); clear tok0)
      | (go_at_call 20; have _t := tok1; (with_reducible refine (kept_f ys ys2 Lb0.out Lb1.out _ _ _ _ _ _ _ _ _ (by repeat (first | exact (Kd.C_below HMy0.out HX.out) | (with_reducible refine Kd.C_alloc ?_ _) | (with_reducible refine Kd.C_drewN ?_ _) | (with_reducible refine Kd.C_drew ?_))) (by repeat (first | exact (Kd.C_below HMy1.out HX.out) | (with_reducible refine Kd.C_alloc ?_ _) | (with_reducible refine Kd.C_drewN ?_ _) | (with_reducible refine Kd.C_drew ?_))) KKy0.out KKy1.out (by repeat (first | exact (Kd.C_below Hb0.out HB.out) | (with_reducible refine Kd.C_alloc ?_ _) | (with_reducible refine Kd.C_drewN ?_ _) | (with_reducible refine Kd.C_drew ?_))) (by repeat (first | exact (Kd.C_below Hb1.out HB.out) | (with_reducible refine Kd.C_alloc ?_ _) | (with_reducible refine Kd.C_drewN ?_ _) | (with_reducible refine Kd.C_drew ?_))) Kb0.out Kb1.out).mono ?_); rintro e wc ⟨rfl, hb_⟩; have tHB_ := Aside0.mk (below_step (by repeat (first | (with_reducible first | exact HB.out | apply below_alloc | apply pw_below_drewN | apply below_drew1 | apply below_drew) | exact HB.out)) hb_); have tHX_ := Aside0.mk (below_step (by repeat (first | (with_reducible first | exact HX.out | apply below_alloc | apply pw_below_drewN | apply below_drew1 | apply below_drew) | exact HX.out)) hb_); have tHC_ := Aside0.mk (below_step (by repeat (first | (with_reducible first | exact HC.out | apply below_alloc | apply pw_below_drewN | apply below_drew1 | apply below_drew) | exact HC.out)) hb_); have tHV_ := Aside0.mk (below_step (by repeat (first | (with_reducible first | exact HV.out | apply below_alloc | apply pw_below_drewN | apply below_drew1 | apply below_drew) | exact HV.out)) hb_); have bk2_ := Aside0.mk (blk_below (g := gb1) (o := .cells #[.slice A0 xs.length c0, .slice A1 xs2.length c1] 24 (0, 0)) (by (with_reducible repeat (first | refine blk_drewN ?_ _ | refine blk_drew ?_ | refine blk_alloc ?_ _)); exact BK1.out) hb_); clear BK1; have BK1 := bk2_; clear bk2_; have bk2_ := Aside0.mk (blk_below (g := gb2) (o := .cells #[.slice B0 ys.length d0, .slice B1 ys2.length d1] 24 (0, 0)) (by (with_reducible repeat (first | refine blk_drewN ?_ _ | refine blk_drew ?_ | refine blk_alloc ?_ _)); exact BK2.out) hb_); clear BK2; have BK2 := bk2_; clear bk2_; have bk2_ := Aside0.mk (blk_below (g := gb5) (o := .cells #[.slice X0 xs.length x0, .slice X1 xs2.length x1] 24 (0, 0)) (by (with_reducible repeat (first | refine blk_drewN ?_ _ | refine blk_drew ?_ | refine blk_alloc ?_ _)); exact BK5.out) hb_); clear BK5; have BK5 := bk2_; clear bk2_; have bk2_ := Aside0.mk (blk_below (g := gb6) (o := .cells #[.slice Y0 ys.length y0, .slice Y1 ys2.length y1] 24 (0, 0)) (by (with_reducible repeat (first | refine blk_drewN ?_ _ | refine blk_drew ?_ | refine blk_alloc ?_ _)); exact BK6.out) hb_); clear BK6; have BK6 := bk2_; clear bk2_; have bk2_ := Aside0.mk (blk_below (g := gb7) (o := .cells #[.slice Q0 m.length q0, .slice Q1 m2.length q1] 24 (0, 0)) (by (with_reducible repeat (first | refine blk_drewN ?_ _ | refine blk_drew ?_ | refine blk_alloc ?_ _)); exact BK7.out) hb_); clear BK7; have BK7 := bk2_; clear bk2_; have bk2_ := Aside0.mk (blk_below (g := gb11) (o := .cells #[.slice I0 m.length i0, .slice I1 m2.length i1] 24 (0, 0)) (by (with_reducible repeat (first | refine blk_drewN ?_ _ | refine blk_drew ?_ | refine blk_alloc ?_ _)); exact BK11.out) hb_); clear BK11; have BK11 := bk2_; clear bk2_; clear HB; have HB := tHB_; clear tHB_; clear HX; have HX := tHX_; clear tHX_; clear HC; have HC := tHC_; clear tHC_; clear HV; have HV := tHV_; clear tHV_; (try clear hcz1_0); (try clear hcz1_1); (try clear hcz2_0); (try clear hcz2_1); (try clear hcz5_0); (try clear hcz5_1); (try clear hcz6_0); (try clear hcz6_1); (try clear hcz7_0); (try clear hcz7_1); (try clear hcz11_0); (try clear hcz11_1); have hcz1_0 := (blk_cell BK1.out 0).trans (show (#[.slice A0 xs.length c0, .slice A1 xs2.length c1] : Array Value)[0]? = some (.slice A0 xs.length c0) from rfl); have hcz1_1 := (blk_cell BK1.out 1).trans (show (#[.slice A0 xs.length c0, .slice A1 xs2.length c1] : Array Value)[1]? = some (.slice A1 xs2.length c1) from rfl); have hcz2_0 := (blk_cell BK2.out 0).trans (show (#[.slice B0 ys.length d0, .slice B1 ys2.length d1] : Array Value)[0]? = some (.slice B0 ys.length d0) from rfl); have hcz2_1 := (blk_cell BK2.out 1).trans (show (#[.slice B0 ys.length d0, .slice B1 ys2.length d1] : Array Value)[1]? = some (.slice B1 ys2.length d1) from rfl); have hcz5_0 := (blk_cell BK5.out 0).trans (show (#[.slice X0 xs.length x0, .slice X1 xs2.length x1] : Array Value)[0]? = some (.slice X0 xs.length x0) from rfl); have hcz5_1 := (blk_cell BK5.out 1).trans (show (#[.slice X0 xs.length x0, .slice X1 xs2.length x1] : Array Value)[1]? = some (.slice X1 xs2.length x1) from rfl); have hcz6_0 := (blk_cell BK6.out 0).trans (show (#[.slice Y0 ys.length y0, .slice Y1 ys2.length y1] : Array Value)[0]? = some (.slice Y0 ys.length y0) from rfl); have hcz6_1 := (blk_cell BK6.out 1).trans (show (#[.slice Y0 ys.length y0, .slice Y1 ys2.length y1] : Array Value)[1]? = some (.slice Y1 ys2.length y1) from rfl); have hcz7_0 := (blk_cell BK7.out 0).trans (show (#[.slice Q0 m.length q0, .slice Q1 m2.length q1] : Array Value)[0]? = some (.slice Q0 m.length q0) from rfl); have hcz7_1 := (blk_cell BK7.out 1).trans (show (#[.slice Q0 m.length q0, .slice Q1 m2.length q1] : Array Value)[1]? = some (.slice Q1 m2.length q1) from rfl); have hcz11_0 := (blk_cell BK11.out 0).trans (show (#[.slice I0 m.length i0, .slice I1 m2.length i1] : Array Value)[0]? = some (.slice I0 m.length i0) from rfl); have hcz11_1 := (blk_cell BK11.out 1).trans (show (#[.slice I0 m.length i0, .slice I1 m2.length i1] : Array Value)[1]? = some (.slice I1 m2.length i1) from rfl); (try clear hb_); clear tok1)
      | (go_at_call 8; (with_reducible refine (works_b _).mono ?_); rintro e wc ⟨rfl, hb_⟩; have tHB_ := Aside0.mk (below_step (by repeat (first | (with_reducible first | exact HB.out | apply below_alloc | apply pw_below_drewN | apply below_drew1 | apply below_drew) | exact HB.out)) hb_); have tHX_ := Aside0.mk (below_step (by repeat (first | (with_reducible first | exact HX.out | apply below_alloc | apply pw_below_drewN | apply below_drew1 | apply below_drew) | exact HX.out)) hb_); have tHC_ := Aside0.mk (below_step (by repeat (first | (with_reducible first | exact HC.out | apply below_alloc | apply pw_below_drewN | apply below_drew1 | apply below_drew) | exact HC.out)) hb_); have tHV_ := Aside0.mk (below_step (by repeat (first | (with_reducible first | exact HV.out | apply below_alloc | apply pw_below_drewN | apply below_drew1 | apply below_drew) | exact HV.out)) hb_); have bk2_ := Aside0.mk (blk_below (g := gb1) (o := .cells #[.slice A0 xs.length c0, .slice A1 xs2.length c1] 24 (0, 0)) (by (with_reducible repeat (first | refine blk_drewN ?_ _ | refine blk_drew ?_ | refine blk_alloc ?_ _)); exact BK1.out) hb_); clear BK1; have BK1 := bk2_; clear bk2_; have bk2_ := Aside0.mk (blk_below (g := gb2) (o := .cells #[.slice B0 ys.length d0, .slice B1 ys2.length d1] 24 (0, 0)) (by (with_reducible repeat (first | refine blk_drewN ?_ _ | refine blk_drew ?_ | refine blk_alloc ?_ _)); exact BK2.out) hb_); clear BK2; have BK2 := bk2_; clear bk2_; have bk2_ := Aside0.mk (blk_below (g := gb5) (o := .cells #[.slice X0 xs.length x0, .slice X1 xs2.length x1] 24 (0, 0)) (by (with_reducible repeat (first | refine blk_drewN ?_ _ | refine blk_drew ?_ | refine blk_alloc ?_ _)); exact BK5.out) hb_); clear BK5; have BK5 := bk2_; clear bk2_; have bk2_ := Aside0.mk (blk_below (g := gb6) (o := .cells #[.slice Y0 ys.length y0, .slice Y1 ys2.length y1] 24 (0, 0)) (by (with_reducible repeat (first | refine blk_drewN ?_ _ | refine blk_drew ?_ | refine blk_alloc ?_ _)); exact BK6.out) hb_); clear BK6; have BK6 := bk2_; clear bk2_; have bk2_ := Aside0.mk (blk_below (g := gb7) (o := .cells #[.slice Q0 m.length q0, .slice Q1 m2.length q1] 24 (0, 0)) (by (with_reducible repeat (first | refine blk_drewN ?_ _ | refine blk_drew ?_ | refine blk_alloc ?_ _)); exact BK7.out) hb_); clear BK7; have BK7 := bk2_; clear bk2_; have bk2_ := Aside0.mk (blk_below (g := gb11) (o := .cells #[.slice I0 m.length i0, .slice I1 m2.length i1] 24 (0, 0)) (by (with_reducible repeat (first | refine blk_drewN ?_ _ | refine blk_drew ?_ | refine blk_alloc ?_ _)); exact BK11.out) hb_); clear BK11; have BK11 := bk2_; clear bk2_; clear HB; have HB := tHB_; clear tHB_; clear HX; have HX := tHX_; clear tHX_; clear HC; have HC := tHC_; clear tHC_; clear HV; have HV := tHV_; clear tHV_; (try clear hcz1_0); (try clear hcz1_1); (try clear hcz2_0); (try clear hcz2_1); (try clear hcz5_0); (try clear hcz5_1); (try clear hcz6_0); (try clear hcz6_1); (try clear hcz7_0); (try clear hcz7_1); (try clear hcz11_0); (try clear hcz11_1); (try clear hb_)))
    go_ret
    exact ⟨by first | rfl | (simp; done), HB.out⟩

theorem walk (xs xs2 ys ys2 : List Int) (A0 A1 B0 B1 : Option Addr) (c0 c1 d0 d1 : Nat) (w : World) (ha0 : Rd w A0 xs) (ha1 : Rd w A1 xs2) (hb0 : Rd w B0 ys) (hb1 : Rd w B1 ys2) (ka0 : xs.length ≤ c0) (ka1 : xs2.length ≤ c1) (kb0 : ys.length ≤ d0) (kb1 : ys2.length ≤ d1) :
    Calls Try.prog 3 #[.agg #[.slice A0 xs.length c0, .slice A1 xs2.length c1], .agg #[.slice B0 ys.length d0, .slice B1 ys2.length d1]] w fun e w' => e = .returned (.bool true) ∧ Below w.heap.size w w' := by
  by_cases ga : (xs.length > 5000 ∨ xs2.length > 5000)
  · exact tells_large_a xs xs2 ys ys2 (decide_eq_true ga) A0 A1 B0 B1 c0 c1 d0 d1 w ha0 ha1 hb0 hb1 ka0 ka1 kb0 kb1
  by_cases gb : (ys.length > 5000 ∨ ys2.length > 5000)
  · exact tells_large_b xs xs2 ys ys2 (decide_eq_false ga) (decide_eq_true gb) A0 A1 B0 B1 c0 c1 d0 d1 w ha0 ha1 hb0 hb1 ka0 ka1 kb0 kb1
  obtain ⟨m, m2, x, hab⟩ : ∃ m m2 x, mrg xs xs2 ys ys2 = (m, m2, x) := ⟨_, _, _, rfl⟩
  have lm := Plain.mrg_len xs xs2 ys ys2
  rw [hab] at lm
  have la0 : xs.length ≤ 10000 := by omega
  have la1 : xs2.length ≤ 10000 := by omega
  exact tells_in xs xs2 ys ys2 m m2 x _ _ _ (decide_eq_false ga) (decide_eq_false gb) la0 la1 (by omega) (by omega) (Nat.le_trans lm.1 la0) (Nat.le_trans lm.2 la1) hab rfl rfl rfl A0 A1 B0 B1 c0 c1 d0 d1 w ha0 ha1 hb0 hb1 ka0 ka1 kb0 kb1

end Go.Proofs.Ytnjmheadmcjgcaa.WalkLatticeTells
