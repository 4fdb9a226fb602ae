/- The law Laws, walked. Under no conditions beyond the statement's own. -/
import Derived.Test.YtnjmheadmcjgcaaPLatticeTellsx3
import Derived.Test.YtnjmheadmcjgcaaSwitch
import Derived.Outline
import Derived.Deep.RegionWith
import Derived.Deep.DeepCutAuto
import Derived.Test.YtnjmheadmcjgcaaWalkPairs
import Derived.Test.YtnjmheadmcjgcaaWalkSlots
import Derived.Test.YtnjmheadmcjgcaaWalkMerge
import Derived.Test.YtnjmheadmcjgcaaWalkHeight
import Derived.Test.YtnjmheadmcjgcaaWalkBase
import Derived.Test.YtnjmheadmcjgcaaWalkWorks
import Derived.Test.YtnjmheadmcjgcaaWalkOf
import Derived.Test.YtnjmheadmcjgcaaPlainLaws
set_option linter.unusedSimpArgs false
set_option linter.unusedVariables false
namespace Go.Proofs.Ytnjmheadmcjgcaa.WalkLatticeLaws
open Go.RowKit Go.Proofs.Ytnjmheadmcjgcaa.PLatticeTells Go.Proofs.YtnjmheadmcjgcaaW.PrintWords Go.Proofs.YtnjmheadmcjgcaaW.PrintLast Go.Proofs.YtnjmheadmcjgcaaW.PrintMore Go.Proofs.Ytnjmheadmcjgcaa.Switch
open Go.Proofs.Ytnjmheadmcjgcaa.WalkPairs
open Go.Proofs.Ytnjmheadmcjgcaa.WalkSlots
open Go.Proofs.Ytnjmheadmcjgcaa.WalkMerge
open Go.Proofs.Ytnjmheadmcjgcaa.WalkHeight (hgt height_c)
open Go.Proofs.Ytnjmheadmcjgcaa.WalkBase
open Go.Proofs.Ytnjmheadmcjgcaa.WalkWorks
open Go.Proofs.Ytnjmheadmcjgcaa.WalkOf
open Go.Proofs.Ytnjmheadmcjgcaa.Plain
theorem below_t (xs xs2 ys ys2 : List Int) (hl : xs.length ≤ 10000) (hl2 : xs2.length ≤ 10000) (A0 A1 B0 B1 : Option Addr) (c0 c1 d0 d1 : Nat) (w : World) (r : Bool) (hr : bel xs xs2 ys ys2 = r) (h0 : Rd w A0 xs) (h1 : Rd w A1 xs2) (h2 : Rd w B0 ys) (h3 : Rd w B1 ys2) :
    Calls Try.prog 13 #[.agg #[.slice A0 xs.length c0, .slice A1 xs2.length c1], .agg #[.slice B0 ys.length d0, .slice B1 ys2.length d1]] w fun e w' => e = .returned (.bool r) ∧ Below w.heap.size w w' := hr ▸ below_b xs xs2 ys ys2 hl hl2 A0 A1 B0 B1 c0 c1 d0 d1 w h0 h1 h2 h3
theorem same_t (xs xs2 ys ys2 : List Int) (hl : xs.length ≤ 10000) (hl2 : xs2.length ≤ 10000) (A0 A1 B0 B1 : Option Addr) (c0 c1 d0 d1 : Nat) (w : World) (r : Bool) (hr : sam xs xs2 ys ys2 = r) (h0 : Rd w A0 xs) (h1 : Rd w A1 xs2) (h2 : Rd w B0 ys) (h3 : Rd w B1 ys2) (k0 : xs.length ≤ c0) (k1 : xs2.length ≤ c1) (k2 : ys.length ≤ d0) (k3 : ys2.length ≤ d1) :
    Calls Try.prog 15 #[.agg #[.slice A0 xs.length c0, .slice A1 xs2.length c1], .agg #[.slice B0 ys.length d0, .slice B1 ys2.length d1]] w fun e w' => e = .returned (.bool r) ∧ Below w.heap.size w w' := hr ▸ same_b xs xs2 ys ys2 (by omega) (by omega) A0 A1 B0 B1 c0 c1 d0 d1 w h0 h1 h2 h3 k0 k1 k2 k3
theorem large_t (xs xs2 : List Int) (A0 A1 : Option Addr) (c0 c1 : Nat) (w : World) (r : Bool) (hr : decide (xs.length > 5000 ∨ xs2.length > 5000) = r) (h0 : Rd w A0 xs) (h1 : Rd w A1 xs2) (k0 : xs.length ≤ c0) (k1 : xs2.length ≤ c1) :
    Calls Try.prog 7 #[.agg #[.slice A0 xs.length c0, .slice A1 xs2.length c1]] w fun e w' => e = .returned (.bool r) ∧ Below w.heap.size w w' := hr ▸ large_b xs xs2 A0 A1 c0 c1 w h0 h1 k0 k1
set_option maxHeartbeats 16000000 in
set_option maxRecDepth 100000 in
theorem laws_large_a (xs xs2 ys ys2 zs zs2 : List Int) (qa : decide (xs.length > 5000 ∨ xs2.length > 5000) = true) (A0 A1 B0 B1 C0 C1 : Option Addr) (c0 c1 d0 d1 g0 g1 : Nat) (w : World) (ha0 : Rd w A0 xs) (ha1 : Rd w A1 xs2) (hb0 : Rd w B0 ys) (hb1 : Rd w B1 ys2) (hc0 : Rd w C0 zs) (hc1 : Rd w C1 zs2) (ka0 : xs.length ≤ c0) (ka1 : xs2.length ≤ c1) (kb0 : ys.length ≤ d0) (kb1 : ys2.length ≤ d1) (kc0 : zs.length ≤ g0) (kc1 : zs2.length ≤ g1) :
    Calls Try.prog 5 #[.agg #[.slice A0 xs.length c0, .slice A1 xs2.length c1], .agg #[.slice B0 ys.length d0, .slice B1 ys2.length d1], .agg #[.slice C0 zs.length g0, .slice C1 zs2.length g1]] w fun e w' => e = .returned (.bool true) ∧ Below w.heap.size w w' := by
  have hu24 := Try.underlying24
  have Ha0 := Aside0.mk ha0
  have Ka0 := Aside0.mk ka0
  clear ha0 ka0
  have Ha1 := Aside0.mk ha1
  have Ka1 := Aside0.mk ka1
  clear ha1 ka1
  have Hb0 := Aside0.mk hb0
  have Kb0 := Aside0.mk kb0
  clear hb0 kb0
  have Hb1 := Aside0.mk hb1
  have Kb1 := Aside0.mk kb1
  clear hb1 kb1
  have Hc0 := Aside0.mk hc0
  have Kc0 := Aside0.mk kc0
  clear hc0 kc0
  have Hc1 := Aside0.mk hc1
  have Kc1 := Aside0.mk kc1
  clear hc1 kc1
  have HB := Aside0.mk (Below.refl w.heap.size w)
  have Ga := Aside0.mk qa
  clear qa
  go_enter Try.func5, Try.ntmps5
  go_wp2_with (first
    | ((with_reducible refine gate_dst (N := 3) rfl ?_); refine box_event ?hg (N := 3) ?hd (cs := #[.slice A0 xs.length c0, .slice A1 xs2.length c1]) (t := 24) ?hr ?_; (case hd => rfl); (case hg => rfl); (case hr => first | (go_simp; done) | (go_simp; rfl)); intro gb1 hg_ wb1 hbox hb_; have GE1 := Aside0.mk ((by rw [hg_]; exact (below_size (by repeat (first | (with_reducible first | exact HB.out | apply below_alloc | apply pw_below_drewN | apply below_drew1 | apply below_drew) | exact HB.out)))) : w.heap.size ≤ gb1); have tHB_ := Aside0.mk (below_step (by repeat (first | (with_reducible first | exact HB.out | apply below_alloc | apply pw_below_drewN | apply below_drew1 | apply below_drew) | exact HB.out)) hb_); clear HB; have HB := tHB_; clear tHB_; have BK1 := Aside0.mk hbox; have HG1 := Aside0.mk hg_; have DB1 := Aside0.mk hb_; clear hbox hg_ hb_)
    | ((with_reducible refine gate_dst (N := 4) rfl ?_); refine box_event ?hg (N := 4) ?hd (cs := #[.slice B0 ys.length d0, .slice B1 ys2.length d1]) (t := 24) ?hr ?_; (case hd => rfl); (case hg => rfl); (case hr => first | (go_simp; done) | (go_simp; rfl)); intro gb2 hg_ wb2 hbox hb_; have GE2 := Aside0.mk ((by rw [hg_]; exact (below_size (by repeat (first | (with_reducible first | exact HB.out | apply below_alloc | apply pw_below_drewN | apply below_drew1 | apply below_drew) | exact HB.out)))) : w.heap.size ≤ gb2); have tHB_ := Aside0.mk (below_step (by repeat (first | (with_reducible first | exact HB.out | apply below_alloc | apply pw_below_drewN | apply below_drew1 | apply below_drew) | exact HB.out)) hb_); have bk2_ := Aside0.mk (blk_below (g := gb1) (o := .cells #[.slice A0 xs.length c0, .slice A1 xs2.length c1] 24 (0, 0)) (by (with_reducible repeat (first | refine blk_drewN ?_ _ | refine blk_drew ?_ | refine blk_alloc ?_ _)); exact BK1.out) hb_); clear BK1; have BK1 := bk2_; clear bk2_; clear HB; have HB := tHB_; clear tHB_; have BK2 := Aside0.mk hbox; have HG2 := Aside0.mk hg_; have DB2 := Aside0.mk hb_; clear hbox hg_ hb_)
    | ((with_reducible refine gate_dst (N := 5) rfl ?_); refine box_event ?hg (N := 5) ?hd (cs := #[.slice C0 zs.length g0, .slice C1 zs2.length g1]) (t := 24) ?hr ?_; (case hd => rfl); (case hg => rfl); (case hr => first | (go_simp; done) | (go_simp; rfl)); intro gb3 hg_ wb3 hbox hb_; have GE3 := Aside0.mk ((by rw [hg_]; exact (below_size (by repeat (first | (with_reducible first | exact HB.out | apply below_alloc | apply pw_below_drewN | apply below_drew1 | apply below_drew) | exact HB.out)))) : w.heap.size ≤ gb3); have tHB_ := Aside0.mk (below_step (by repeat (first | (with_reducible first | exact HB.out | apply below_alloc | apply pw_below_drewN | apply below_drew1 | apply below_drew) | exact HB.out)) hb_); have bk2_ := Aside0.mk (blk_below (g := gb1) (o := .cells #[.slice A0 xs.length c0, .slice A1 xs2.length c1] 24 (0, 0)) (by (with_reducible repeat (first | refine blk_drewN ?_ _ | refine blk_drew ?_ | refine blk_alloc ?_ _)); exact BK1.out) hb_); clear BK1; have BK1 := bk2_; clear bk2_; have bk2_ := Aside0.mk (blk_below (g := gb2) (o := .cells #[.slice B0 ys.length d0, .slice B1 ys2.length d1] 24 (0, 0)) (by (with_reducible repeat (first | refine blk_drewN ?_ _ | refine blk_drew ?_ | refine blk_alloc ?_ _)); exact BK2.out) hb_); clear BK2; have BK2 := bk2_; clear bk2_; clear HB; have HB := tHB_; clear tHB_; have BK3 := Aside0.mk hbox; have HG3 := Aside0.mk hg_; have DB3 := Aside0.mk hb_; clear hbox hg_ hb_; have hcz1_0 := (blk_cell BK1.out 0).trans (show (#[.slice A0 xs.length c0, .slice A1 xs2.length c1] : Array Value)[0]? = some (.slice A0 xs.length c0) from rfl); have hcz1_1 := (blk_cell BK1.out 1).trans (show (#[.slice A0 xs.length c0, .slice A1 xs2.length c1] : Array Value)[1]? = some (.slice A1 xs2.length c1) from rfl); have hcz2_0 := (blk_cell BK2.out 0).trans (show (#[.slice B0 ys.length d0, .slice B1 ys2.length d1] : Array Value)[0]? = some (.slice B0 ys.length d0) from rfl); have hcz2_1 := (blk_cell BK2.out 1).trans (show (#[.slice B0 ys.length d0, .slice B1 ys2.length d1] : Array Value)[1]? = some (.slice B1 ys2.length d1) from rfl); have hcz3_0 := (blk_cell BK3.out 0).trans (show (#[.slice C0 zs.length g0, .slice C1 zs2.length g1] : Array Value)[0]? = some (.slice C0 zs.length g0) from rfl); have hcz3_1 := (blk_cell BK3.out 1).trans (show (#[.slice C0 zs.length g0, .slice C1 zs2.length g1] : Array Value)[1]? = some (.slice C1 zs2.length g1) from rfl))
    | (go_at_call 7; (with_reducible refine (large_t xs xs2 _ _ _ _ _ _ Ga.out (by repeat (first | exact (Kd.C_below Ha0.out HB.out) | (with_reducible refine Kd.C_alloc ?_ _) | (with_reducible refine Kd.C_drewN ?_ _) | (with_reducible refine Kd.C_drew ?_))) (by repeat (first | exact (Kd.C_below Ha1.out HB.out) | (with_reducible refine Kd.C_alloc ?_ _) | (with_reducible refine Kd.C_drewN ?_ _) | (with_reducible refine Kd.C_drew ?_))) Ka0.out Ka1.out).mono ?_); rintro e wc ⟨rfl, hb_⟩; have tHB_ := Aside0.mk (below_step (by repeat (first | (with_reducible first | exact HB.out | apply below_alloc | apply pw_below_drewN | apply below_drew1 | apply below_drew) | exact HB.out)) hb_); have bk2_ := Aside0.mk (blk_below (g := gb1) (o := .cells #[.slice A0 xs.length c0, .slice A1 xs2.length c1] 24 (0, 0)) (by (with_reducible repeat (first | refine blk_drewN ?_ _ | refine blk_drew ?_ | refine blk_alloc ?_ _)); exact BK1.out) hb_); clear BK1; have BK1 := bk2_; clear bk2_; have bk2_ := Aside0.mk (blk_below (g := gb2) (o := .cells #[.slice B0 ys.length d0, .slice B1 ys2.length d1] 24 (0, 0)) (by (with_reducible repeat (first | refine blk_drewN ?_ _ | refine blk_drew ?_ | refine blk_alloc ?_ _)); exact BK2.out) hb_); clear BK2; have BK2 := bk2_; clear bk2_; have bk2_ := Aside0.mk (blk_below (g := gb3) (o := .cells #[.slice C0 zs.length g0, .slice C1 zs2.length g1] 24 (0, 0)) (by (with_reducible repeat (first | refine blk_drewN ?_ _ | refine blk_drew ?_ | refine blk_alloc ?_ _)); exact BK3.out) hb_); clear BK3; have BK3 := bk2_; clear bk2_; clear HB; have HB := tHB_; clear tHB_; (try clear hcz1_0); (try clear hcz1_1); (try clear hcz2_0); (try clear hcz2_1); (try clear hcz3_0); (try clear hcz3_1); have hcz1_0 := (blk_cell BK1.out 0).trans (show (#[.slice A0 xs.length c0, .slice A1 xs2.length c1] : Array Value)[0]? = some (.slice A0 xs.length c0) from rfl); have hcz1_1 := (blk_cell BK1.out 1).trans (show (#[.slice A0 xs.length c0, .slice A1 xs2.length c1] : Array Value)[1]? = some (.slice A1 xs2.length c1) from rfl); have hcz2_0 := (blk_cell BK2.out 0).trans (show (#[.slice B0 ys.length d0, .slice B1 ys2.length d1] : Array Value)[0]? = some (.slice B0 ys.length d0) from rfl); have hcz2_1 := (blk_cell BK2.out 1).trans (show (#[.slice B0 ys.length d0, .slice B1 ys2.length d1] : Array Value)[1]? = some (.slice B1 ys2.length d1) from rfl); have hcz3_0 := (blk_cell BK3.out 0).trans (show (#[.slice C0 zs.length g0, .slice C1 zs2.length g1] : Array Value)[0]? = some (.slice C0 zs.length g0) from rfl); have hcz3_1 := (blk_cell BK3.out 1).trans (show (#[.slice C0 zs.length g0, .slice C1 zs2.length g1] : Array Value)[1]? = some (.slice C1 zs2.length g1) from rfl); (try clear hb_))
    | (go_at_call 8; (with_reducible refine (works_b _).mono ?_); rintro e wc ⟨rfl, hb_⟩; have tHB_ := Aside0.mk (below_step (by repeat (first | (with_reducible first | exact HB.out | apply below_alloc | apply pw_below_drewN | apply below_drew1 | apply below_drew) | exact HB.out)) hb_); have bk2_ := Aside0.mk (blk_below (g := gb1) (o := .cells #[.slice A0 xs.length c0, .slice A1 xs2.length c1] 24 (0, 0)) (by (with_reducible repeat (first | refine blk_drewN ?_ _ | refine blk_drew ?_ | refine blk_alloc ?_ _)); exact BK1.out) hb_); clear BK1; have BK1 := bk2_; clear bk2_; have bk2_ := Aside0.mk (blk_below (g := gb2) (o := .cells #[.slice B0 ys.length d0, .slice B1 ys2.length d1] 24 (0, 0)) (by (with_reducible repeat (first | refine blk_drewN ?_ _ | refine blk_drew ?_ | refine blk_alloc ?_ _)); exact BK2.out) hb_); clear BK2; have BK2 := bk2_; clear bk2_; have bk2_ := Aside0.mk (blk_below (g := gb3) (o := .cells #[.slice C0 zs.length g0, .slice C1 zs2.length g1] 24 (0, 0)) (by (with_reducible repeat (first | refine blk_drewN ?_ _ | refine blk_drew ?_ | refine blk_alloc ?_ _)); exact BK3.out) hb_); clear BK3; have BK3 := bk2_; clear bk2_; clear HB; have HB := tHB_; clear tHB_; (try clear hcz1_0); (try clear hcz1_1); (try clear hcz2_0); (try clear hcz2_1); (try clear hcz3_0); (try clear hcz3_1); (try clear hb_)))
  go_ret
  exact ⟨by first | rfl | (simp; done), HB.out⟩

set_option maxHeartbeats 16000000 in
set_option maxRecDepth 100000 in
theorem laws_large_b (xs xs2 ys ys2 zs zs2 : List Int) (qa : decide (xs.length > 5000 ∨ xs2.length > 5000) = false) (qb : decide (ys.length > 5000 ∨ ys2.length > 5000) = true) (A0 A1 B0 B1 C0 C1 : Option Addr) (c0 c1 d0 d1 g0 g1 : Nat) (w : World) (ha0 : Rd w A0 xs) (ha1 : Rd w A1 xs2) (hb0 : Rd w B0 ys) (hb1 : Rd w B1 ys2) (hc0 : Rd w C0 zs) (hc1 : Rd w C1 zs2) (ka0 : xs.length ≤ c0) (ka1 : xs2.length ≤ c1) (kb0 : ys.length ≤ d0) (kb1 : ys2.length ≤ d1) (kc0 : zs.length ≤ g0) (kc1 : zs2.length ≤ g1) :
    Calls Try.prog 5 #[.agg #[.slice A0 xs.length c0, .slice A1 xs2.length c1], .agg #[.slice B0 ys.length d0, .slice B1 ys2.length d1], .agg #[.slice C0 zs.length g0, .slice C1 zs2.length g1]] w fun e w' => e = .returned (.bool true) ∧ Below w.heap.size w w' := by
  have hu24 := Try.underlying24
  have Ha0 := Aside0.mk ha0
  have Ka0 := Aside0.mk ka0
  clear ha0 ka0
  have Ha1 := Aside0.mk ha1
  have Ka1 := Aside0.mk ka1
  clear ha1 ka1
  have Hb0 := Aside0.mk hb0
  have Kb0 := Aside0.mk kb0
  clear hb0 kb0
  have Hb1 := Aside0.mk hb1
  have Kb1 := Aside0.mk kb1
  clear hb1 kb1
  have Hc0 := Aside0.mk hc0
  have Kc0 := Aside0.mk kc0
  clear hc0 kc0
  have Hc1 := Aside0.mk hc1
  have Kc1 := Aside0.mk kc1
  clear hc1 kc1
  have HB := Aside0.mk (Below.refl w.heap.size w)
  have Ga := Aside0.mk qa
  clear qa
  have Gb := Aside0.mk qb
  clear qb
  go_enter Try.func5, Try.ntmps5
  go_wp2_with (first
    | ((with_reducible refine gate_dst (N := 3) rfl ?_); refine box_event ?hg (N := 3) ?hd (cs := #[.slice A0 xs.length c0, .slice A1 xs2.length c1]) (t := 24) ?hr ?_; (case hd => rfl); (case hg => rfl); (case hr => first | (go_simp; done) | (go_simp; rfl)); intro gb1 hg_ wb1 hbox hb_; have GE1 := Aside0.mk ((by rw [hg_]; exact (below_size (by repeat (first | (with_reducible first | exact HB.out | apply below_alloc | apply pw_below_drewN | apply below_drew1 | apply below_drew) | exact HB.out)))) : w.heap.size ≤ gb1); have tHB_ := Aside0.mk (below_step (by repeat (first | (with_reducible first | exact HB.out | apply below_alloc | apply pw_below_drewN | apply below_drew1 | apply below_drew) | exact HB.out)) hb_); clear HB; have HB := tHB_; clear tHB_; have BK1 := Aside0.mk hbox; have HG1 := Aside0.mk hg_; have DB1 := Aside0.mk hb_; clear hbox hg_ hb_)
    | ((with_reducible refine gate_dst (N := 4) rfl ?_); refine box_event ?hg (N := 4) ?hd (cs := #[.slice B0 ys.length d0, .slice B1 ys2.length d1]) (t := 24) ?hr ?_; (case hd => rfl); (case hg => rfl); (case hr => first | (go_simp; done) | (go_simp; rfl)); intro gb2 hg_ wb2 hbox hb_; have GE2 := Aside0.mk ((by rw [hg_]; exact (below_size (by repeat (first | (with_reducible first | exact HB.out | apply below_alloc | apply pw_below_drewN | apply below_drew1 | apply below_drew) | exact HB.out)))) : w.heap.size ≤ gb2); have tHB_ := Aside0.mk (below_step (by repeat (first | (with_reducible first | exact HB.out | apply below_alloc | apply pw_below_drewN | apply below_drew1 | apply below_drew) | exact HB.out)) hb_); have bk2_ := Aside0.mk (blk_below (g := gb1) (o := .cells #[.slice A0 xs.length c0, .slice A1 xs2.length c1] 24 (0, 0)) (by (with_reducible repeat (first | refine blk_drewN ?_ _ | refine blk_drew ?_ | refine blk_alloc ?_ _)); exact BK1.out) hb_); clear BK1; have BK1 := bk2_; clear bk2_; clear HB; have HB := tHB_; clear tHB_; have BK2 := Aside0.mk hbox; have HG2 := Aside0.mk hg_; have DB2 := Aside0.mk hb_; clear hbox hg_ hb_)
    | ((with_reducible refine gate_dst (N := 5) rfl ?_); refine box_event ?hg (N := 5) ?hd (cs := #[.slice C0 zs.length g0, .slice C1 zs2.length g1]) (t := 24) ?hr ?_; (case hd => rfl); (case hg => rfl); (case hr => first | (go_simp; done) | (go_simp; rfl)); intro gb3 hg_ wb3 hbox hb_; have GE3 := Aside0.mk ((by rw [hg_]; exact (below_size (by repeat (first | (with_reducible first | exact HB.out | apply below_alloc | apply pw_below_drewN | apply below_drew1 | apply below_drew) | exact HB.out)))) : w.heap.size ≤ gb3); have tHB_ := Aside0.mk (below_step (by repeat (first | (with_reducible first | exact HB.out | apply below_alloc | apply pw_below_drewN | apply below_drew1 | apply below_drew) | exact HB.out)) hb_); have bk2_ := Aside0.mk (blk_below (g := gb1) (o := .cells #[.slice A0 xs.length c0, .slice A1 xs2.length c1] 24 (0, 0)) (by (with_reducible repeat (first | refine blk_drewN ?_ _ | refine blk_drew ?_ | refine blk_alloc ?_ _)); exact BK1.out) hb_); clear BK1; have BK1 := bk2_; clear bk2_; have bk2_ := Aside0.mk (blk_below (g := gb2) (o := .cells #[.slice B0 ys.length d0, .slice B1 ys2.length d1] 24 (0, 0)) (by (with_reducible repeat (first | refine blk_drewN ?_ _ | refine blk_drew ?_ | refine blk_alloc ?_ _)); exact BK2.out) hb_); clear BK2; have BK2 := bk2_; clear bk2_; clear HB; have HB := tHB_; clear tHB_; have BK3 := Aside0.mk hbox; have HG3 := Aside0.mk hg_; have DB3 := Aside0.mk hb_; clear hbox hg_ hb_; have hcz1_0 := (blk_cell BK1.out 0).trans (show (#[.slice A0 xs.length c0, .slice A1 xs2.length c1] : Array Value)[0]? = some (.slice A0 xs.length c0) from rfl); have hcz1_1 := (blk_cell BK1.out 1).trans (show (#[.slice A0 xs.length c0, .slice A1 xs2.length c1] : Array Value)[1]? = some (.slice A1 xs2.length c1) from rfl); have hcz2_0 := (blk_cell BK2.out 0).trans (show (#[.slice B0 ys.length d0, .slice B1 ys2.length d1] : Array Value)[0]? = some (.slice B0 ys.length d0) from rfl); have hcz2_1 := (blk_cell BK2.out 1).trans (show (#[.slice B0 ys.length d0, .slice B1 ys2.length d1] : Array Value)[1]? = some (.slice B1 ys2.length d1) from rfl); have hcz3_0 := (blk_cell BK3.out 0).trans (show (#[.slice C0 zs.length g0, .slice C1 zs2.length g1] : Array Value)[0]? = some (.slice C0 zs.length g0) from rfl); have hcz3_1 := (blk_cell BK3.out 1).trans (show (#[.slice C0 zs.length g0, .slice C1 zs2.length g1] : Array Value)[1]? = some (.slice C1 zs2.length g1) from rfl))
    | (go_at_call 7; (with_reducible refine (large_t xs xs2 _ _ _ _ _ _ Ga.out (by repeat (first | exact (Kd.C_below Ha0.out HB.out) | (with_reducible refine Kd.C_alloc ?_ _) | (with_reducible refine Kd.C_drewN ?_ _) | (with_reducible refine Kd.C_drew ?_))) (by repeat (first | exact (Kd.C_below Ha1.out HB.out) | (with_reducible refine Kd.C_alloc ?_ _) | (with_reducible refine Kd.C_drewN ?_ _) | (with_reducible refine Kd.C_drew ?_))) Ka0.out Ka1.out).mono ?_); rintro e wc ⟨rfl, hb_⟩; have tHB_ := Aside0.mk (below_step (by repeat (first | (with_reducible first | exact HB.out | apply below_alloc | apply pw_below_drewN | apply below_drew1 | apply below_drew) | exact HB.out)) hb_); have bk2_ := Aside0.mk (blk_below (g := gb1) (o := .cells #[.slice A0 xs.length c0, .slice A1 xs2.length c1] 24 (0, 0)) (by (with_reducible repeat (first | refine blk_drewN ?_ _ | refine blk_drew ?_ | refine blk_alloc ?_ _)); exact BK1.out) hb_); clear BK1; have BK1 := bk2_; clear bk2_; have bk2_ := Aside0.mk (blk_below (g := gb2) (o := .cells #[.slice B0 ys.length d0, .slice B1 ys2.length d1] 24 (0, 0)) (by (with_reducible repeat (first | refine blk_drewN ?_ _ | refine blk_drew ?_ | refine blk_alloc ?_ _)); exact BK2.out) hb_); clear BK2; have BK2 := bk2_; clear bk2_; have bk2_ := Aside0.mk (blk_below (g := gb3) (o := .cells #[.slice C0 zs.length g0, .slice C1 zs2.length g1] 24 (0, 0)) (by (with_reducible repeat (first | refine blk_drewN ?_ _ | refine blk_drew ?_ | refine blk_alloc ?_ _)); exact BK3.out) hb_); clear BK3; have BK3 := bk2_; clear bk2_; clear HB; have HB := tHB_; clear tHB_; (try clear hcz1_0); (try clear hcz1_1); (try clear hcz2_0); (try clear hcz2_1); (try clear hcz3_0); (try clear hcz3_1); have hcz1_0 := (blk_cell BK1.out 0).trans (show (#[.slice A0 xs.length c0, .slice A1 xs2.length c1] : Array Value)[0]? = some (.slice A0 xs.length c0) from rfl); have hcz1_1 := (blk_cell BK1.out 1).trans (show (#[.slice A0 xs.length c0, .slice A1 xs2.length c1] : Array Value)[1]? = some (.slice A1 xs2.length c1) from rfl); have hcz2_0 := (blk_cell BK2.out 0).trans (show (#[.slice B0 ys.length d0, .slice B1 ys2.length d1] : Array Value)[0]? = some (.slice B0 ys.length d0) from rfl); have hcz2_1 := (blk_cell BK2.out 1).trans (show (#[.slice B0 ys.length d0, .slice B1 ys2.length d1] : Array Value)[1]? = some (.slice B1 ys2.length d1) from rfl); have hcz3_0 := (blk_cell BK3.out 0).trans (show (#[.slice C0 zs.length g0, .slice C1 zs2.length g1] : Array Value)[0]? = some (.slice C0 zs.length g0) from rfl); have hcz3_1 := (blk_cell BK3.out 1).trans (show (#[.slice C0 zs.length g0, .slice C1 zs2.length g1] : Array Value)[1]? = some (.slice C1 zs2.length g1) from rfl); (try clear hb_))
    | (go_at_call 7; (with_reducible refine (large_t ys ys2 _ _ _ _ _ _ Gb.out (by repeat (first | exact (Kd.C_below Hb0.out HB.out) | (with_reducible refine Kd.C_alloc ?_ _) | (with_reducible refine Kd.C_drewN ?_ _) | (with_reducible refine Kd.C_drew ?_))) (by repeat (first | exact (Kd.C_below Hb1.out HB.out) | (with_reducible refine Kd.C_alloc ?_ _) | (with_reducible refine Kd.C_drewN ?_ _) | (with_reducible refine Kd.C_drew ?_))) Kb0.out Kb1.out).mono ?_); rintro e wc ⟨rfl, hb_⟩; have tHB_ := Aside0.mk (below_step (by repeat (first | (with_reducible first | exact HB.out | apply below_alloc | apply pw_below_drewN | apply below_drew1 | apply below_drew) | exact HB.out)) hb_); have bk2_ := Aside0.mk (blk_below (g := gb1) (o := .cells #[.slice A0 xs.length c0, .slice A1 xs2.length c1] 24 (0, 0)) (by (with_reducible repeat (first | refine blk_drewN ?_ _ | refine blk_drew ?_ | refine blk_alloc ?_ _)); exact BK1.out) hb_); clear BK1; have BK1 := bk2_; clear bk2_; have bk2_ := Aside0.mk (blk_below (g := gb2) (o := .cells #[.slice B0 ys.length d0, .slice B1 ys2.length d1] 24 (0, 0)) (by (with_reducible repeat (first | refine blk_drewN ?_ _ | refine blk_drew ?_ | refine blk_alloc ?_ _)); exact BK2.out) hb_); clear BK2; have BK2 := bk2_; clear bk2_; have bk2_ := Aside0.mk (blk_below (g := gb3) (o := .cells #[.slice C0 zs.length g0, .slice C1 zs2.length g1] 24 (0, 0)) (by (with_reducible repeat (first | refine blk_drewN ?_ _ | refine blk_drew ?_ | refine blk_alloc ?_ _)); exact BK3.out) hb_); clear BK3; have BK3 := bk2_; clear bk2_; clear HB; have HB := tHB_; clear tHB_; (try clear hcz1_0); (try clear hcz1_1); (try clear hcz2_0); (try clear hcz2_1); (try clear hcz3_0); (try clear hcz3_1); have hcz1_0 := (blk_cell BK1.out 0).trans (show (#[.slice A0 xs.length c0, .slice A1 xs2.length c1] : Array Value)[0]? = some (.slice A0 xs.length c0) from rfl); have hcz1_1 := (blk_cell BK1.out 1).trans (show (#[.slice A0 xs.length c0, .slice A1 xs2.length c1] : Array Value)[1]? = some (.slice A1 xs2.length c1) from rfl); have hcz2_0 := (blk_cell BK2.out 0).trans (show (#[.slice B0 ys.length d0, .slice B1 ys2.length d1] : Array Value)[0]? = some (.slice B0 ys.length d0) from rfl); have hcz2_1 := (blk_cell BK2.out 1).trans (show (#[.slice B0 ys.length d0, .slice B1 ys2.length d1] : Array Value)[1]? = some (.slice B1 ys2.length d1) from rfl); have hcz3_0 := (blk_cell BK3.out 0).trans (show (#[.slice C0 zs.length g0, .slice C1 zs2.length g1] : Array Value)[0]? = some (.slice C0 zs.length g0) from rfl); have hcz3_1 := (blk_cell BK3.out 1).trans (show (#[.slice C0 zs.length g0, .slice C1 zs2.length g1] : Array Value)[1]? = some (.slice C1 zs2.length g1) from rfl); (try clear hb_))
    | (go_at_call 8; (with_reducible refine (works_b _).mono ?_); rintro e wc ⟨rfl, hb_⟩; have tHB_ := Aside0.mk (below_step (by repeat (first | (with_reducible first | exact HB.out | apply below_alloc | apply pw_below_drewN | apply below_drew1 | apply below_drew) | exact HB.out)) hb_); have bk2_ := Aside0.mk (blk_below (g := gb1) (o := .cells #[.slice A0 xs.length c0, .slice A1 xs2.length c1] 24 (0, 0)) (by (with_reducible repeat (first | refine blk_drewN ?_ _ | refine blk_drew ?_ | refine blk_alloc ?_ _)); exact BK1.out) hb_); clear BK1; have BK1 := bk2_; clear bk2_; have bk2_ := Aside0.mk (blk_below (g := gb2) (o := .cells #[.slice B0 ys.length d0, .slice B1 ys2.length d1] 24 (0, 0)) (by (with_reducible repeat (first | refine blk_drewN ?_ _ | refine blk_drew ?_ | refine blk_alloc ?_ _)); exact BK2.out) hb_); clear BK2; have BK2 := bk2_; clear bk2_; have bk2_ := Aside0.mk (blk_below (g := gb3) (o := .cells #[.slice C0 zs.length g0, .slice C1 zs2.length g1] 24 (0, 0)) (by (with_reducible repeat (first | refine blk_drewN ?_ _ | refine blk_drew ?_ | refine blk_alloc ?_ _)); exact BK3.out) hb_); clear BK3; have BK3 := bk2_; clear bk2_; clear HB; have HB := tHB_; clear tHB_; (try clear hcz1_0); (try clear hcz1_1); (try clear hcz2_0); (try clear hcz2_1); (try clear hcz3_0); (try clear hcz3_1); (try clear hb_)))
  go_ret
  exact ⟨by first | rfl | (simp; done), HB.out⟩

set_option maxHeartbeats 16000000 in
set_option maxRecDepth 100000 in
theorem laws_large_c (xs xs2 ys ys2 zs zs2 : List Int) (qa : decide (xs.length > 5000 ∨ xs2.length > 5000) = false) (qb : decide (ys.length > 5000 ∨ ys2.length > 5000) = false) (qc : decide (zs.length > 5000 ∨ zs2.length > 5000) = true) (A0 A1 B0 B1 C0 C1 : Option Addr) (c0 c1 d0 d1 g0 g1 : Nat) (w : World) (ha0 : Rd w A0 xs) (ha1 : Rd w A1 xs2) (hb0 : Rd w B0 ys) (hb1 : Rd w B1 ys2) (hc0 : Rd w C0 zs) (hc1 : Rd w C1 zs2) (ka0 : xs.length ≤ c0) (ka1 : xs2.length ≤ c1) (kb0 : ys.length ≤ d0) (kb1 : ys2.length ≤ d1) (kc0 : zs.length ≤ g0) (kc1 : zs2.length ≤ g1) :
    Calls Try.prog 5 #[.agg #[.slice A0 xs.length c0, .slice A1 xs2.length c1], .agg #[.slice B0 ys.length d0, .slice B1 ys2.length d1], .agg #[.slice C0 zs.length g0, .slice C1 zs2.length g1]] w fun e w' => e = .returned (.bool true) ∧ Below w.heap.size w w' := by
  have hu24 := Try.underlying24
  have Ha0 := Aside0.mk ha0
  have Ka0 := Aside0.mk ka0
  clear ha0 ka0
  have Ha1 := Aside0.mk ha1
  have Ka1 := Aside0.mk ka1
  clear ha1 ka1
  have Hb0 := Aside0.mk hb0
  have Kb0 := Aside0.mk kb0
  clear hb0 kb0
  have Hb1 := Aside0.mk hb1
  have Kb1 := Aside0.mk kb1
  clear hb1 kb1
  have Hc0 := Aside0.mk hc0
  have Kc0 := Aside0.mk kc0
  clear hc0 kc0
  have Hc1 := Aside0.mk hc1
  have Kc1 := Aside0.mk kc1
  clear hc1 kc1
  have HB := Aside0.mk (Below.refl w.heap.size w)
  have Ga := Aside0.mk qa
  clear qa
  have Gb := Aside0.mk qb
  clear qb
  have Gc := Aside0.mk qc
  clear qc
  go_enter Try.func5, Try.ntmps5
  go_wp2_with (first
    | ((with_reducible refine gate_dst (N := 3) rfl ?_); refine box_event ?hg (N := 3) ?hd (cs := #[.slice A0 xs.length c0, .slice A1 xs2.length c1]) (t := 24) ?hr ?_; (case hd => rfl); (case hg => rfl); (case hr => first | (go_simp; done) | (go_simp; rfl)); intro gb1 hg_ wb1 hbox hb_; have GE1 := Aside0.mk ((by rw [hg_]; exact (below_size (by repeat (first | (with_reducible first | exact HB.out | apply below_alloc | apply pw_below_drewN | apply below_drew1 | apply below_drew) | exact HB.out)))) : w.heap.size ≤ gb1); have tHB_ := Aside0.mk (below_step (by repeat (first | (with_reducible first | exact HB.out | apply below_alloc | apply pw_below_drewN | apply below_drew1 | apply below_drew) | exact HB.out)) hb_); clear HB; have HB := tHB_; clear tHB_; have BK1 := Aside0.mk hbox; have HG1 := Aside0.mk hg_; have DB1 := Aside0.mk hb_; clear hbox hg_ hb_)
    | ((with_reducible refine gate_dst (N := 4) rfl ?_); refine box_event ?hg (N := 4) ?hd (cs := #[.slice B0 ys.length d0, .slice B1 ys2.length d1]) (t := 24) ?hr ?_; (case hd => rfl); (case hg => rfl); (case hr => first | (go_simp; done) | (go_simp; rfl)); intro gb2 hg_ wb2 hbox hb_; have GE2 := Aside0.mk ((by rw [hg_]; exact (below_size (by repeat (first | (with_reducible first | exact HB.out | apply below_alloc | apply pw_below_drewN | apply below_drew1 | apply below_drew) | exact HB.out)))) : w.heap.size ≤ gb2); have tHB_ := Aside0.mk (below_step (by repeat (first | (with_reducible first | exact HB.out | apply below_alloc | apply pw_below_drewN | apply below_drew1 | apply below_drew) | exact HB.out)) hb_); have bk2_ := Aside0.mk (blk_below (g := gb1) (o := .cells #[.slice A0 xs.length c0, .slice A1 xs2.length c1] 24 (0, 0)) (by (with_reducible repeat (first | refine blk_drewN ?_ _ | refine blk_drew ?_ | refine blk_alloc ?_ _)); exact BK1.out) hb_); clear BK1; have BK1 := bk2_; clear bk2_; clear HB; have HB := tHB_; clear tHB_; have BK2 := Aside0.mk hbox; have HG2 := Aside0.mk hg_; have DB2 := Aside0.mk hb_; clear hbox hg_ hb_)
    | ((with_reducible refine gate_dst (N := 5) rfl ?_); refine box_event ?hg (N := 5) ?hd (cs := #[.slice C0 zs.length g0, .slice C1 zs2.length g1]) (t := 24) ?hr ?_; (case hd => rfl); (case hg => rfl); (case hr => first | (go_simp; done) | (go_simp; rfl)); intro gb3 hg_ wb3 hbox hb_; have GE3 := Aside0.mk ((by rw [hg_]; exact (below_size (by repeat (first | (with_reducible first | exact HB.out | apply below_alloc | apply pw_below_drewN | apply below_drew1 | apply below_drew) | exact HB.out)))) : w.heap.size ≤ gb3); have tHB_ := Aside0.mk (below_step (by repeat (first | (with_reducible first | exact HB.out | apply below_alloc | apply pw_below_drewN | apply below_drew1 | apply below_drew) | exact HB.out)) hb_); have bk2_ := Aside0.mk (blk_below (g := gb1) (o := .cells #[.slice A0 xs.length c0, .slice A1 xs2.length c1] 24 (0, 0)) (by (with_reducible repeat (first | refine blk_drewN ?_ _ | refine blk_drew ?_ | refine blk_alloc ?_ _)); exact BK1.out) hb_); clear BK1; have BK1 := bk2_; clear bk2_; have bk2_ := Aside0.mk (blk_below (g := gb2) (o := .cells #[.slice B0 ys.length d0, .slice B1 ys2.length d1] 24 (0, 0)) (by (with_reducible repeat (first | refine blk_drewN ?_ _ | refine blk_drew ?_ | refine blk_alloc ?_ _)); exact BK2.out) hb_); clear BK2; have BK2 := bk2_; clear bk2_; clear HB; have HB := tHB_; clear tHB_; have BK3 := Aside0.mk hbox; have HG3 := Aside0.mk hg_; have DB3 := Aside0.mk hb_; clear hbox hg_ hb_; have hcz1_0 := (blk_cell BK1.out 0).trans (show (#[.slice A0 xs.length c0, .slice A1 xs2.length c1] : Array Value)[0]? = some (.slice A0 xs.length c0) from rfl); have hcz1_1 := (blk_cell BK1.out 1).trans (show (#[.slice A0 xs.length c0, .slice A1 xs2.length c1] : Array Value)[1]? = some (.slice A1 xs2.length c1) from rfl); have hcz2_0 := (blk_cell BK2.out 0).trans (show (#[.slice B0 ys.length d0, .slice B1 ys2.length d1] : Array Value)[0]? = some (.slice B0 ys.length d0) from rfl); have hcz2_1 := (blk_cell BK2.out 1).trans (show (#[.slice B0 ys.length d0, .slice B1 ys2.length d1] : Array Value)[1]? = some (.slice B1 ys2.length d1) from rfl); have hcz3_0 := (blk_cell BK3.out 0).trans (show (#[.slice C0 zs.length g0, .slice C1 zs2.length g1] : Array Value)[0]? = some (.slice C0 zs.length g0) from rfl); have hcz3_1 := (blk_cell BK3.out 1).trans (show (#[.slice C0 zs.length g0, .slice C1 zs2.length g1] : Array Value)[1]? = some (.slice C1 zs2.length g1) from rfl))
    | (go_at_call 7; (with_reducible refine (large_t xs xs2 _ _ _ _ _ _ Ga.out (by repeat (first | exact (Kd.C_below Ha0.out HB.out) | (with_reducible refine Kd.C_alloc ?_ _) | (with_reducible refine Kd.C_drewN ?_ _) | (with_reducible refine Kd.C_drew ?_))) (by repeat (first | exact (Kd.C_below Ha1.out HB.out) | (with_reducible refine Kd.C_alloc ?_ _) | (with_reducible refine Kd.C_drewN ?_ _) | (with_reducible refine Kd.C_drew ?_))) Ka0.out Ka1.out).mono ?_); rintro e wc ⟨rfl, hb_⟩; have tHB_ := Aside0.mk (below_step (by repeat (first | (with_reducible first | exact HB.out | apply below_alloc | apply pw_below_drewN | apply below_drew1 | apply below_drew) | exact HB.out)) hb_); have bk2_ := Aside0.mk (blk_below (g := gb1) (o := .cells #[.slice A0 xs.length c0, .slice A1 xs2.length c1] 24 (0, 0)) (by (with_reducible repeat (first | refine blk_drewN ?_ _ | refine blk_drew ?_ | refine blk_alloc ?_ _)); exact BK1.out) hb_); clear BK1; have BK1 := bk2_; clear bk2_; have bk2_ := Aside0.mk (blk_below (g := gb2) (o := .cells #[.slice B0 ys.length d0, .slice B1 ys2.length d1] 24 (0, 0)) (by (with_reducible repeat (first | refine blk_drewN ?_ _ | refine blk_drew ?_ | refine blk_alloc ?_ _)); exact BK2.out) hb_); clear BK2; have BK2 := bk2_; clear bk2_; have bk2_ := Aside0.mk (blk_below (g := gb3) (o := .cells #[.slice C0 zs.length g0, .slice C1 zs2.length g1] 24 (0, 0)) (by (with_reducible repeat (first | refine blk_drewN ?_ _ | refine blk_drew ?_ | refine blk_alloc ?_ _)); exact BK3.out) hb_); clear BK3; have BK3 := bk2_; clear bk2_; clear HB; have HB := tHB_; clear tHB_; (try clear hcz1_0); (try clear hcz1_1); (try clear hcz2_0); (try clear hcz2_1); (try clear hcz3_0); (try clear hcz3_1); have hcz1_0 := (blk_cell BK1.out 0).trans (show (#[.slice A0 xs.length c0, .slice A1 xs2.length c1] : Array Value)[0]? = some (.slice A0 xs.length c0) from rfl); have hcz1_1 := (blk_cell BK1.out 1).trans (show (#[.slice A0 xs.length c0, .slice A1 xs2.length c1] : Array Value)[1]? = some (.slice A1 xs2.length c1) from rfl); have hcz2_0 := (blk_cell BK2.out 0).trans (show (#[.slice B0 ys.length d0, .slice B1 ys2.length d1] : Array Value)[0]? = some (.slice B0 ys.length d0) from rfl); have hcz2_1 := (blk_cell BK2.out 1).trans (show (#[.slice B0 ys.length d0, .slice B1 ys2.length d1] : Array Value)[1]? = some (.slice B1 ys2.length d1) from rfl); have hcz3_0 := (blk_cell BK3.out 0).trans (show (#[.slice C0 zs.length g0, .slice C1 zs2.length g1] : Array Value)[0]? = some (.slice C0 zs.length g0) from rfl); have hcz3_1 := (blk_cell BK3.out 1).trans (show (#[.slice C0 zs.length g0, .slice C1 zs2.length g1] : Array Value)[1]? = some (.slice C1 zs2.length g1) from rfl); (try clear hb_))
    | (go_at_call 7; (with_reducible refine (large_t ys ys2 _ _ _ _ _ _ Gb.out (by repeat (first | exact (Kd.C_below Hb0.out HB.out) | (with_reducible refine Kd.C_alloc ?_ _) | (with_reducible refine Kd.C_drewN ?_ _) | (with_reducible refine Kd.C_drew ?_))) (by repeat (first | exact (Kd.C_below Hb1.out HB.out) | (with_reducible refine Kd.C_alloc ?_ _) | (with_reducible refine Kd.C_drewN ?_ _) | (with_reducible refine Kd.C_drew ?_))) Kb0.out Kb1.out).mono ?_); rintro e wc ⟨rfl, hb_⟩; have tHB_ := Aside0.mk (below_step (by repeat (first | (with_reducible first | exact HB.out | apply below_alloc | apply pw_below_drewN | apply below_drew1 | apply below_drew) | exact HB.out)) hb_); have bk2_ := Aside0.mk (blk_below (g := gb1) (o := .cells #[.slice A0 xs.length c0, .slice A1 xs2.length c1] 24 (0, 0)) (by (with_reducible repeat (first | refine blk_drewN ?_ _ | refine blk_drew ?_ | refine blk_alloc ?_ _)); exact BK1.out) hb_); clear BK1; have BK1 := bk2_; clear bk2_; have bk2_ := Aside0.mk (blk_below (g := gb2) (o := .cells #[.slice B0 ys.length d0, .slice B1 ys2.length d1] 24 (0, 0)) (by (with_reducible repeat (first | refine blk_drewN ?_ _ | refine blk_drew ?_ | refine blk_alloc ?_ _)); exact BK2.out) hb_); clear BK2; have BK2 := bk2_; clear bk2_; have bk2_ := Aside0.mk (blk_below (g := gb3) (o := .cells #[.slice C0 zs.length g0, .slice C1 zs2.length g1] 24 (0, 0)) (by (with_reducible repeat (first | refine blk_drewN ?_ _ | refine blk_drew ?_ | refine blk_alloc ?_ _)); exact BK3.out) hb_); clear BK3; have BK3 := bk2_; clear bk2_; clear HB; have HB := tHB_; clear tHB_; (try clear hcz1_0); (try clear hcz1_1); (try clear hcz2_0); (try clear hcz2_1); (try clear hcz3_0); (try clear hcz3_1); have hcz1_0 := (blk_cell BK1.out 0).trans (show (#[.slice A0 xs.length c0, .slice A1 xs2.length c1] : Array Value)[0]? = some (.slice A0 xs.length c0) from rfl); have hcz1_1 := (blk_cell BK1.out 1).trans (show (#[.slice A0 xs.length c0, .slice A1 xs2.length c1] : Array Value)[1]? = some (.slice A1 xs2.length c1) from rfl); have hcz2_0 := (blk_cell BK2.out 0).trans (show (#[.slice B0 ys.length d0, .slice B1 ys2.length d1] : Array Value)[0]? = some (.slice B0 ys.length d0) from rfl); have hcz2_1 := (blk_cell BK2.out 1).trans (show (#[.slice B0 ys.length d0, .slice B1 ys2.length d1] : Array Value)[1]? = some (.slice B1 ys2.length d1) from rfl); have hcz3_0 := (blk_cell BK3.out 0).trans (show (#[.slice C0 zs.length g0, .slice C1 zs2.length g1] : Array Value)[0]? = some (.slice C0 zs.length g0) from rfl); have hcz3_1 := (blk_cell BK3.out 1).trans (show (#[.slice C0 zs.length g0, .slice C1 zs2.length g1] : Array Value)[1]? = some (.slice C1 zs2.length g1) from rfl); (try clear hb_))
    | (go_at_call 7; (with_reducible refine (large_t zs zs2 _ _ _ _ _ _ Gc.out (by repeat (first | exact (Kd.C_below Hc0.out HB.out) | (with_reducible refine Kd.C_alloc ?_ _) | (with_reducible refine Kd.C_drewN ?_ _) | (with_reducible refine Kd.C_drew ?_))) (by repeat (first | exact (Kd.C_below Hc1.out HB.out) | (with_reducible refine Kd.C_alloc ?_ _) | (with_reducible refine Kd.C_drewN ?_ _) | (with_reducible refine Kd.C_drew ?_))) Kc0.out Kc1.out).mono ?_); rintro e wc ⟨rfl, hb_⟩; have tHB_ := Aside0.mk (below_step (by repeat (first | (with_reducible first | exact HB.out | apply below_alloc | apply pw_below_drewN | apply below_drew1 | apply below_drew) | exact HB.out)) hb_); have bk2_ := Aside0.mk (blk_below (g := gb1) (o := .cells #[.slice A0 xs.length c0, .slice A1 xs2.length c1] 24 (0, 0)) (by (with_reducible repeat (first | refine blk_drewN ?_ _ | refine blk_drew ?_ | refine blk_alloc ?_ _)); exact BK1.out) hb_); clear BK1; have BK1 := bk2_; clear bk2_; have bk2_ := Aside0.mk (blk_below (g := gb2) (o := .cells #[.slice B0 ys.length d0, .slice B1 ys2.length d1] 24 (0, 0)) (by (with_reducible repeat (first | refine blk_drewN ?_ _ | refine blk_drew ?_ | refine blk_alloc ?_ _)); exact BK2.out) hb_); clear BK2; have BK2 := bk2_; clear bk2_; have bk2_ := Aside0.mk (blk_below (g := gb3) (o := .cells #[.slice C0 zs.length g0, .slice C1 zs2.length g1] 24 (0, 0)) (by (with_reducible repeat (first | refine blk_drewN ?_ _ | refine blk_drew ?_ | refine blk_alloc ?_ _)); exact BK3.out) hb_); clear BK3; have BK3 := bk2_; clear bk2_; clear HB; have HB := tHB_; clear tHB_; (try clear hcz1_0); (try clear hcz1_1); (try clear hcz2_0); (try clear hcz2_1); (try clear hcz3_0); (try clear hcz3_1); have hcz1_0 := (blk_cell BK1.out 0).trans (show (#[.slice A0 xs.length c0, .slice A1 xs2.length c1] : Array Value)[0]? = some (.slice A0 xs.length c0) from rfl); have hcz1_1 := (blk_cell BK1.out 1).trans (show (#[.slice A0 xs.length c0, .slice A1 xs2.length c1] : Array Value)[1]? = some (.slice A1 xs2.length c1) from rfl); have hcz2_0 := (blk_cell BK2.out 0).trans (show (#[.slice B0 ys.length d0, .slice B1 ys2.length d1] : Array Value)[0]? = some (.slice B0 ys.length d0) from rfl); have hcz2_1 := (blk_cell BK2.out 1).trans (show (#[.slice B0 ys.length d0, .slice B1 ys2.length d1] : Array Value)[1]? = some (.slice B1 ys2.length d1) from rfl); have hcz3_0 := (blk_cell BK3.out 0).trans (show (#[.slice C0 zs.length g0, .slice C1 zs2.length g1] : Array Value)[0]? = some (.slice C0 zs.length g0) from rfl); have hcz3_1 := (blk_cell BK3.out 1).trans (show (#[.slice C0 zs.length g0, .slice C1 zs2.length g1] : Array Value)[1]? = some (.slice C1 zs2.length g1) from rfl); (try clear hb_))
    | (go_at_call 8; (with_reducible refine (works_b _).mono ?_); rintro e wc ⟨rfl, hb_⟩; have tHB_ := Aside0.mk (below_step (by repeat (first | (with_reducible first | exact HB.out | apply below_alloc | apply pw_below_drewN | apply below_drew1 | apply below_drew) | exact HB.out)) hb_); have bk2_ := Aside0.mk (blk_below (g := gb1) (o := .cells #[.slice A0 xs.length c0, .slice A1 xs2.length c1] 24 (0, 0)) (by (with_reducible repeat (first | refine blk_drewN ?_ _ | refine blk_drew ?_ | refine blk_alloc ?_ _)); exact BK1.out) hb_); clear BK1; have BK1 := bk2_; clear bk2_; have bk2_ := Aside0.mk (blk_below (g := gb2) (o := .cells #[.slice B0 ys.length d0, .slice B1 ys2.length d1] 24 (0, 0)) (by (with_reducible repeat (first | refine blk_drewN ?_ _ | refine blk_drew ?_ | refine blk_alloc ?_ _)); exact BK2.out) hb_); clear BK2; have BK2 := bk2_; clear bk2_; have bk2_ := Aside0.mk (blk_below (g := gb3) (o := .cells #[.slice C0 zs.length g0, .slice C1 zs2.length g1] 24 (0, 0)) (by (with_reducible repeat (first | refine blk_drewN ?_ _ | refine blk_drew ?_ | refine blk_alloc ?_ _)); exact BK3.out) hb_); clear BK3; have BK3 := bk2_; clear bk2_; clear HB; have HB := tHB_; clear tHB_; (try clear hcz1_0); (try clear hcz1_1); (try clear hcz2_0); (try clear hcz2_1); (try clear hcz3_0); (try clear hcz3_1); (try clear hb_)))
  go_ret
  exact ⟨by first | rfl | (simp; done), HB.out⟩

set_option maxHeartbeats 16000000 in
set_option maxRecDepth 100000 in
theorem laws_in (xs xs2 ys ys2 zs zs2 : List Int) (m m2 u u2 t t2 : List Int) (x y k r1 r2 r3 : Bool) (qa : decide (xs.length > 5000 ∨ xs2.length > 5000) = false) (qb : decide (ys.length > 5000 ∨ ys2.length > 5000) = false) (qc : decide (zs.length > 5000 ∨ zs2.length > 5000) = false) (la0 : xs.length ≤ 10000) (la1 : xs2.length ≤ 10000) (lb0 : ys.length ≤ 10000) (lb1 : ys2.length ≤ 10000) (lm0 : m.length ≤ 10000) (lm1 : m2.length ≤ 10000) (lt0 : t.length ≤ 10000) (lt1 : t2.length ≤ 10000) (maa : mrg xs xs2 xs xs2 = (xs, xs2, true)) (mab : mrg xs xs2 ys ys2 = (m, m2, x)) (mba : mrg ys ys2 xs xs2 = (m, m2, x)) (mbc : mrg ys ys2 zs zs2 = (u, u2, y)) (mmc : x = true → y = true → mrg m m2 zs zs2 = (t, t2, k)) (mau : x = true → y = true → mrg xs xs2 u u2 = (t, t2, k)) (saa : sam xs xs2 xs xs2 = true) (smm : sam m m2 m m2 = true) (stt : sam t t2 t t2 = true) (qaa : bel xs xs2 xs xs2 = true) (qab : bel xs xs2 ys ys2 = r1) (qbc : bel ys ys2 zs zs2 = r2) (qba : bel ys ys2 xs xs2 = r3) (qac : r1 = true → r2 = true → bel xs xs2 zs zs2 = true) (sab : sam xs xs2 ys ys2 = (r1 && r3)) (A0 A1 B0 B1 C0 C1 : Option Addr) (c0 c1 d0 d1 g0 g1 : Nat) (w : World) (ha0 : Rd w A0 xs) (ha1 : Rd w A1 xs2) (hb0 : Rd w B0 ys) (hb1 : Rd w B1 ys2) (hc0 : Rd w C0 zs) (hc1 : Rd w C1 zs2) (ka0 : xs.length ≤ c0) (ka1 : xs2.length ≤ c1) (kb0 : ys.length ≤ d0) (kb1 : ys2.length ≤ d1) (kc0 : zs.length ≤ g0) (kc1 : zs2.length ≤ g1) :
    Calls Try.prog 5 #[.agg #[.slice A0 xs.length c0, .slice A1 xs2.length c1], .agg #[.slice B0 ys.length d0, .slice B1 ys2.length d1], .agg #[.slice C0 zs.length g0, .slice C1 zs2.length g1]] w fun e w' => e = .returned (.bool true) ∧ Below w.heap.size w w' := by
  have hu24 := Try.underlying24
  have Ha0 := Aside0.mk ha0
  have Ka0 := Aside0.mk ka0
  clear ha0 ka0
  have Ha1 := Aside0.mk ha1
  have Ka1 := Aside0.mk ka1
  clear ha1 ka1
  have Hb0 := Aside0.mk hb0
  have Kb0 := Aside0.mk kb0
  clear hb0 kb0
  have Hb1 := Aside0.mk hb1
  have Kb1 := Aside0.mk kb1
  clear hb1 kb1
  have Hc0 := Aside0.mk hc0
  have Kc0 := Aside0.mk kc0
  clear hc0 kc0
  have Hc1 := Aside0.mk hc1
  have Kc1 := Aside0.mk kc1
  clear hc1 kc1
  have HB := Aside0.mk (Below.refl w.heap.size w)
  have Mmc := Aside0.mk mmc
  have Mau := Aside0.mk mau
  have Qac := Aside0.mk qac
  have Sab := Aside0.mk sab
  clear mmc mau qac sab
  have Ga := Aside0.mk qa
  clear qa
  have Gb := Aside0.mk qb
  clear qb
  have Gc := Aside0.mk qc
  clear qc
  have La0 := Aside0.mk la0
  clear la0
  have La1 := Aside0.mk la1
  clear la1
  have Lb0 := Aside0.mk lb0
  clear lb0
  have Lb1 := Aside0.mk lb1
  clear lb1
  have Lm0 := Aside0.mk lm0
  clear lm0
  have Lm1 := Aside0.mk lm1
  clear lm1
  have Lt0 := Aside0.mk lt0
  clear lt0
  have Lt1 := Aside0.mk lt1
  clear lt1
  have Maa := Aside0.mk maa
  clear maa
  have Mab := Aside0.mk mab
  clear mab
  have Mba := Aside0.mk mba
  clear mba
  have Mbc := Aside0.mk mbc
  clear mbc
  have Saa := Aside0.mk saa
  clear saa
  have Smm := Aside0.mk smm
  clear smm
  have Stt := Aside0.mk stt
  clear stt
  have Qaa := Aside0.mk qaa
  clear qaa
  have Qab := Aside0.mk qab
  clear qab
  have Qbc := Aside0.mk qbc
  clear qbc
  have Qba := Aside0.mk qba
  clear qba
  go_enter Try.func5, Try.ntmps5
  go_upto_region 3 with (first
    | ((with_reducible refine gate_dst (N := 3) rfl ?_); refine box_event ?hg (N := 3) ?hd (cs := #[.slice A0 xs.length c0, .slice A1 xs2.length c1]) (t := 24) ?hr ?_; (case hd => rfl); (case hg => rfl); (case hr => first | (go_simp; done) | (go_simp; rfl)); intro gb1 hg_ wb1 hbox hb_; have GE1 := Aside0.mk ((by rw [hg_]; exact (below_size (by repeat (first | (with_reducible first | exact HB.out | apply below_alloc | apply pw_below_drewN | apply below_drew1 | apply below_drew) | exact HB.out)))) : w.heap.size ≤ gb1); have tHB_ := Aside0.mk (below_step (by repeat (first | (with_reducible first | exact HB.out | apply below_alloc | apply pw_below_drewN | apply below_drew1 | apply below_drew) | exact HB.out)) hb_); clear HB; have HB := tHB_; clear tHB_; have BK1 := Aside0.mk hbox; have HG1 := Aside0.mk hg_; have DB1 := Aside0.mk hb_; clear hbox hg_ hb_)
    | ((with_reducible refine gate_dst (N := 4) rfl ?_); refine box_event ?hg (N := 4) ?hd (cs := #[.slice B0 ys.length d0, .slice B1 ys2.length d1]) (t := 24) ?hr ?_; (case hd => rfl); (case hg => rfl); (case hr => first | (go_simp; done) | (go_simp; rfl)); intro gb2 hg_ wb2 hbox hb_; have GE2 := Aside0.mk ((by rw [hg_]; exact (below_size (by repeat (first | (with_reducible first | exact HB.out | apply below_alloc | apply pw_below_drewN | apply below_drew1 | apply below_drew) | exact HB.out)))) : w.heap.size ≤ gb2); have tHB_ := Aside0.mk (below_step (by repeat (first | (with_reducible first | exact HB.out | apply below_alloc | apply pw_below_drewN | apply below_drew1 | apply below_drew) | exact HB.out)) hb_); have bk2_ := Aside0.mk (blk_below (g := gb1) (o := .cells #[.slice A0 xs.length c0, .slice A1 xs2.length c1] 24 (0, 0)) (by (with_reducible repeat (first | refine blk_drewN ?_ _ | refine blk_drew ?_ | refine blk_alloc ?_ _)); exact BK1.out) hb_); clear BK1; have BK1 := bk2_; clear bk2_; clear HB; have HB := tHB_; clear tHB_; have BK2 := Aside0.mk hbox; have HG2 := Aside0.mk hg_; have DB2 := Aside0.mk hb_; clear hbox hg_ hb_)
    | ((with_reducible refine gate_dst (N := 5) rfl ?_); refine box_event ?hg (N := 5) ?hd (cs := #[.slice C0 zs.length g0, .slice C1 zs2.length g1]) (t := 24) ?hr ?_; (case hd => rfl); (case hg => rfl); (case hr => first | (go_simp; done) | (go_simp; rfl)); intro gb3 hg_ wb3 hbox hb_; have GE3 := Aside0.mk ((by rw [hg_]; exact (below_size (by repeat (first | (with_reducible first | exact HB.out | apply below_alloc | apply pw_below_drewN | apply below_drew1 | apply below_drew) | exact HB.out)))) : w.heap.size ≤ gb3); have tHB_ := Aside0.mk (below_step (by repeat (first | (with_reducible first | exact HB.out | apply below_alloc | apply pw_below_drewN | apply below_drew1 | apply below_drew) | exact HB.out)) hb_); have bk2_ := Aside0.mk (blk_below (g := gb1) (o := .cells #[.slice A0 xs.length c0, .slice A1 xs2.length c1] 24 (0, 0)) (by (with_reducible repeat (first | refine blk_drewN ?_ _ | refine blk_drew ?_ | refine blk_alloc ?_ _)); exact BK1.out) hb_); clear BK1; have BK1 := bk2_; clear bk2_; have bk2_ := Aside0.mk (blk_below (g := gb2) (o := .cells #[.slice B0 ys.length d0, .slice B1 ys2.length d1] 24 (0, 0)) (by (with_reducible repeat (first | refine blk_drewN ?_ _ | refine blk_drew ?_ | refine blk_alloc ?_ _)); exact BK2.out) hb_); clear BK2; have BK2 := bk2_; clear bk2_; clear HB; have HB := tHB_; clear tHB_; have BK3 := Aside0.mk hbox; have HG3 := Aside0.mk hg_; have DB3 := Aside0.mk hb_; clear hbox hg_ hb_; have hcz1_0 := (blk_cell BK1.out 0).trans (show (#[.slice A0 xs.length c0, .slice A1 xs2.length c1] : Array Value)[0]? = some (.slice A0 xs.length c0) from rfl); have hcz1_1 := (blk_cell BK1.out 1).trans (show (#[.slice A0 xs.length c0, .slice A1 xs2.length c1] : Array Value)[1]? = some (.slice A1 xs2.length c1) from rfl); have hcz2_0 := (blk_cell BK2.out 0).trans (show (#[.slice B0 ys.length d0, .slice B1 ys2.length d1] : Array Value)[0]? = some (.slice B0 ys.length d0) from rfl); have hcz2_1 := (blk_cell BK2.out 1).trans (show (#[.slice B0 ys.length d0, .slice B1 ys2.length d1] : Array Value)[1]? = some (.slice B1 ys2.length d1) from rfl); have hcz3_0 := (blk_cell BK3.out 0).trans (show (#[.slice C0 zs.length g0, .slice C1 zs2.length g1] : Array Value)[0]? = some (.slice C0 zs.length g0) from rfl); have hcz3_1 := (blk_cell BK3.out 1).trans (show (#[.slice C0 zs.length g0, .slice C1 zs2.length g1] : Array Value)[1]? = some (.slice C1 zs2.length g1) from rfl))
    | (go_at_call 7; (with_reducible refine (large_t xs xs2 _ _ _ _ _ _ Ga.out (by repeat (first | exact (Kd.C_below Ha0.out HB.out) | (with_reducible refine Kd.C_alloc ?_ _) | (with_reducible refine Kd.C_drewN ?_ _) | (with_reducible refine Kd.C_drew ?_))) (by repeat (first | exact (Kd.C_below Ha1.out HB.out) | (with_reducible refine Kd.C_alloc ?_ _) | (with_reducible refine Kd.C_drewN ?_ _) | (with_reducible refine Kd.C_drew ?_))) Ka0.out Ka1.out).mono ?_); rintro e wc ⟨rfl, hb_⟩; have tHB_ := Aside0.mk (below_step (by repeat (first | (with_reducible first | exact HB.out | apply below_alloc | apply pw_below_drewN | apply below_drew1 | apply below_drew) | exact HB.out)) hb_); have bk2_ := Aside0.mk (blk_below (g := gb1) (o := .cells #[.slice A0 xs.length c0, .slice A1 xs2.length c1] 24 (0, 0)) (by (with_reducible repeat (first | refine blk_drewN ?_ _ | refine blk_drew ?_ | refine blk_alloc ?_ _)); exact BK1.out) hb_); clear BK1; have BK1 := bk2_; clear bk2_; have bk2_ := Aside0.mk (blk_below (g := gb2) (o := .cells #[.slice B0 ys.length d0, .slice B1 ys2.length d1] 24 (0, 0)) (by (with_reducible repeat (first | refine blk_drewN ?_ _ | refine blk_drew ?_ | refine blk_alloc ?_ _)); exact BK2.out) hb_); clear BK2; have BK2 := bk2_; clear bk2_; have bk2_ := Aside0.mk (blk_below (g := gb3) (o := .cells #[.slice C0 zs.length g0, .slice C1 zs2.length g1] 24 (0, 0)) (by (with_reducible repeat (first | refine blk_drewN ?_ _ | refine blk_drew ?_ | refine blk_alloc ?_ _)); exact BK3.out) hb_); clear BK3; have BK3 := bk2_; clear bk2_; clear HB; have HB := tHB_; clear tHB_; (try clear hcz1_0); (try clear hcz1_1); (try clear hcz2_0); (try clear hcz2_1); (try clear hcz3_0); (try clear hcz3_1); have hcz1_0 := (blk_cell BK1.out 0).trans (show (#[.slice A0 xs.length c0, .slice A1 xs2.length c1] : Array Value)[0]? = some (.slice A0 xs.length c0) from rfl); have hcz1_1 := (blk_cell BK1.out 1).trans (show (#[.slice A0 xs.length c0, .slice A1 xs2.length c1] : Array Value)[1]? = some (.slice A1 xs2.length c1) from rfl); have hcz2_0 := (blk_cell BK2.out 0).trans (show (#[.slice B0 ys.length d0, .slice B1 ys2.length d1] : Array Value)[0]? = some (.slice B0 ys.length d0) from rfl); have hcz2_1 := (blk_cell BK2.out 1).trans (show (#[.slice B0 ys.length d0, .slice B1 ys2.length d1] : Array Value)[1]? = some (.slice B1 ys2.length d1) from rfl); have hcz3_0 := (blk_cell BK3.out 0).trans (show (#[.slice C0 zs.length g0, .slice C1 zs2.length g1] : Array Value)[0]? = some (.slice C0 zs.length g0) from rfl); have hcz3_1 := (blk_cell BK3.out 1).trans (show (#[.slice C0 zs.length g0, .slice C1 zs2.length g1] : Array Value)[1]? = some (.slice C1 zs2.length g1) from rfl); (try clear hb_))
    | (go_at_call 7; (with_reducible refine (large_t ys ys2 _ _ _ _ _ _ Gb.out (by repeat (first | exact (Kd.C_below Hb0.out HB.out) | (with_reducible refine Kd.C_alloc ?_ _) | (with_reducible refine Kd.C_drewN ?_ _) | (with_reducible refine Kd.C_drew ?_))) (by repeat (first | exact (Kd.C_below Hb1.out HB.out) | (with_reducible refine Kd.C_alloc ?_ _) | (with_reducible refine Kd.C_drewN ?_ _) | (with_reducible refine Kd.C_drew ?_))) Kb0.out Kb1.out).mono ?_); rintro e wc ⟨rfl, hb_⟩; have tHB_ := Aside0.mk (below_step (by repeat (first | (with_reducible first | exact HB.out | apply below_alloc | apply pw_below_drewN | apply below_drew1 | apply below_drew) | exact HB.out)) hb_); have bk2_ := Aside0.mk (blk_below (g := gb1) (o := .cells #[.slice A0 xs.length c0, .slice A1 xs2.length c1] 24 (0, 0)) (by (with_reducible repeat (first | refine blk_drewN ?_ _ | refine blk_drew ?_ | refine blk_alloc ?_ _)); exact BK1.out) hb_); clear BK1; have BK1 := bk2_; clear bk2_; have bk2_ := Aside0.mk (blk_below (g := gb2) (o := .cells #[.slice B0 ys.length d0, .slice B1 ys2.length d1] 24 (0, 0)) (by (with_reducible repeat (first | refine blk_drewN ?_ _ | refine blk_drew ?_ | refine blk_alloc ?_ _)); exact BK2.out) hb_); clear BK2; have BK2 := bk2_; clear bk2_; have bk2_ := Aside0.mk (blk_below (g := gb3) (o := .cells #[.slice C0 zs.length g0, .slice C1 zs2.length g1] 24 (0, 0)) (by (with_reducible repeat (first | refine blk_drewN ?_ _ | refine blk_drew ?_ | refine blk_alloc ?_ _)); exact BK3.out) hb_); clear BK3; have BK3 := bk2_; clear bk2_; clear HB; have HB := tHB_; clear tHB_; (try clear hcz1_0); (try clear hcz1_1); (try clear hcz2_0); (try clear hcz2_1); (try clear hcz3_0); (try clear hcz3_1); have hcz1_0 := (blk_cell BK1.out 0).trans (show (#[.slice A0 xs.length c0, .slice A1 xs2.length c1] : Array Value)[0]? = some (.slice A0 xs.length c0) from rfl); have hcz1_1 := (blk_cell BK1.out 1).trans (show (#[.slice A0 xs.length c0, .slice A1 xs2.length c1] : Array Value)[1]? = some (.slice A1 xs2.length c1) from rfl); have hcz2_0 := (blk_cell BK2.out 0).trans (show (#[.slice B0 ys.length d0, .slice B1 ys2.length d1] : Array Value)[0]? = some (.slice B0 ys.length d0) from rfl); have hcz2_1 := (blk_cell BK2.out 1).trans (show (#[.slice B0 ys.length d0, .slice B1 ys2.length d1] : Array Value)[1]? = some (.slice B1 ys2.length d1) from rfl); have hcz3_0 := (blk_cell BK3.out 0).trans (show (#[.slice C0 zs.length g0, .slice C1 zs2.length g1] : Array Value)[0]? = some (.slice C0 zs.length g0) from rfl); have hcz3_1 := (blk_cell BK3.out 1).trans (show (#[.slice C0 zs.length g0, .slice C1 zs2.length g1] : Array Value)[1]? = some (.slice C1 zs2.length g1) from rfl); (try clear hb_))
    | (go_at_call 7; (with_reducible refine (large_t zs zs2 _ _ _ _ _ _ Gc.out (by repeat (first | exact (Kd.C_below Hc0.out HB.out) | (with_reducible refine Kd.C_alloc ?_ _) | (with_reducible refine Kd.C_drewN ?_ _) | (with_reducible refine Kd.C_drew ?_))) (by repeat (first | exact (Kd.C_below Hc1.out HB.out) | (with_reducible refine Kd.C_alloc ?_ _) | (with_reducible refine Kd.C_drewN ?_ _) | (with_reducible refine Kd.C_drew ?_))) Kc0.out Kc1.out).mono ?_); rintro e wc ⟨rfl, hb_⟩; have tHB_ := Aside0.mk (below_step (by repeat (first | (with_reducible first | exact HB.out | apply below_alloc | apply pw_below_drewN | apply below_drew1 | apply below_drew) | exact HB.out)) hb_); have bk2_ := Aside0.mk (blk_below (g := gb1) (o := .cells #[.slice A0 xs.length c0, .slice A1 xs2.length c1] 24 (0, 0)) (by (with_reducible repeat (first | refine blk_drewN ?_ _ | refine blk_drew ?_ | refine blk_alloc ?_ _)); exact BK1.out) hb_); clear BK1; have BK1 := bk2_; clear bk2_; have bk2_ := Aside0.mk (blk_below (g := gb2) (o := .cells #[.slice B0 ys.length d0, .slice B1 ys2.length d1] 24 (0, 0)) (by (with_reducible repeat (first | refine blk_drewN ?_ _ | refine blk_drew ?_ | refine blk_alloc ?_ _)); exact BK2.out) hb_); clear BK2; have BK2 := bk2_; clear bk2_; have bk2_ := Aside0.mk (blk_below (g := gb3) (o := .cells #[.slice C0 zs.length g0, .slice C1 zs2.length g1] 24 (0, 0)) (by (with_reducible repeat (first | refine blk_drewN ?_ _ | refine blk_drew ?_ | refine blk_alloc ?_ _)); exact BK3.out) hb_); clear BK3; have BK3 := bk2_; clear bk2_; clear HB; have HB := tHB_; clear tHB_; (try clear hcz1_0); (try clear hcz1_1); (try clear hcz2_0); (try clear hcz2_1); (try clear hcz3_0); (try clear hcz3_1); have hcz1_0 := (blk_cell BK1.out 0).trans (show (#[.slice A0 xs.length c0, .slice A1 xs2.length c1] : Array Value)[0]? = some (.slice A0 xs.length c0) from rfl); have hcz1_1 := (blk_cell BK1.out 1).trans (show (#[.slice A0 xs.length c0, .slice A1 xs2.length c1] : Array Value)[1]? = some (.slice A1 xs2.length c1) from rfl); have hcz2_0 := (blk_cell BK2.out 0).trans (show (#[.slice B0 ys.length d0, .slice B1 ys2.length d1] : Array Value)[0]? = some (.slice B0 ys.length d0) from rfl); have hcz2_1 := (blk_cell BK2.out 1).trans (show (#[.slice B0 ys.length d0, .slice B1 ys2.length d1] : Array Value)[1]? = some (.slice B1 ys2.length d1) from rfl); have hcz3_0 := (blk_cell BK3.out 0).trans (show (#[.slice C0 zs.length g0, .slice C1 zs2.length g1] : Array Value)[0]? = some (.slice C0 zs.length g0) from rfl); have hcz3_1 := (blk_cell BK3.out 1).trans (show (#[.slice C0 zs.length g0, .slice C1 zs2.length g1] : Array Value)[1]? = some (.slice C1 zs2.length g1) from rfl); (try clear hb_)))
  (try clear hcz1_0)
  (try clear hcz1_1)
  (try clear hcz2_0)
  (try clear hcz2_1)
  (try clear hcz3_0)
  (try clear hcz3_1)
  refine startB_ (n := 16) #[false, false, false, false, false, false, false, false, false, false, false, false, false, false, false, false] (by kernel_rfl) rfl rfl (fun W0 D0 => ?_)
  have E0 := Aside0.mk (Below.refl W0.heap.size W0)
  have BL1 := Aside0.mk (blk_below BK1.out D0)
  have BL2 := Aside0.mk (blk_below BK2.out D0)
  have BL3 := Aside0.mk (blk_below BK3.out D0)
  have XHB := Aside0.mk (below_step HB.out D0)
  refine take_ (i := 0) (N := some 22) (v := ?_) (a' := ?_) #[true, false, false, false, false, false, false, false, false, false, false, false, false, false, false, false] rfl rfl (by kernel_rfl) (fun _ _ _ h => h) (Or.inl ⟨by rfl, ?_⟩) (Below.refl _ _) ?_ ?_
  rotate_left
  · intro w' hS
    have hd_ := below_step E0.out hS
    have hy0 := (blk_cell (blk_below BL1.out hd_) 0).trans (show (#[.slice A0 xs.length c0, .slice A1 xs2.length c1] : Array Value)[0]? = some (.slice A0 xs.length c0) from rfl)
    have hy1 := (blk_cell (blk_below BL1.out hd_) 1).trans (show (#[.slice A0 xs.length c0, .slice A1 xs2.length c1] : Array Value)[1]? = some (.slice A1 xs2.length c1) from rfl)
    go_simp
    with_reducible rfl
  rotate_left
  · simp only [Act.put, List.setIfInBounds_toArray, List.set_cons_zero, List.set_cons_succ, i64_w, i32_w]
    rfl
  refine take_ (i := 1) (N := some 23) (v := ?_) (a' := ?_) #[true, true, false, false, false, false, false, false, false, false, false, false, false, false, false, false] rfl rfl (by kernel_rfl) (fun _ _ _ h => h) (Or.inl ⟨by rfl, ?_⟩) (Below.refl _ _) ?_ ?_
  rotate_left
  · intro w' hS
    have hd_ := below_step E0.out hS
    have hy0 := (blk_cell (blk_below BL1.out hd_) 0).trans (show (#[.slice A0 xs.length c0, .slice A1 xs2.length c1] : Array Value)[0]? = some (.slice A0 xs.length c0) from rfl)
    have hy1 := (blk_cell (blk_below BL1.out hd_) 1).trans (show (#[.slice A0 xs.length c0, .slice A1 xs2.length c1] : Array Value)[1]? = some (.slice A1 xs2.length c1) from rfl)
    go_simp
    with_reducible rfl
  rotate_left
  · simp only [Act.put, List.setIfInBounds_toArray, List.set_cons_zero, List.set_cons_succ, i64_w, i32_w]
    rfl
  refine take_ (i := 3) (N := some 25) (v := ?_) (a' := ?_) #[true, true, false, true, false, false, false, false, false, false, false, false, false, false, false, false] rfl rfl (by kernel_rfl) (fun _ _ _ h => h) (Or.inl ⟨by rfl, ?_⟩) (Below.refl _ _) ?_ ?_
  rotate_left
  · intro w' hS
    have hd_ := below_step E0.out hS
    have hy0 := (blk_cell (blk_below BL1.out hd_) 0).trans (show (#[.slice A0 xs.length c0, .slice A1 xs2.length c1] : Array Value)[0]? = some (.slice A0 xs.length c0) from rfl)
    have hy1 := (blk_cell (blk_below BL1.out hd_) 1).trans (show (#[.slice A0 xs.length c0, .slice A1 xs2.length c1] : Array Value)[1]? = some (.slice A1 xs2.length c1) from rfl)
    go_simp
    with_reducible rfl
  rotate_left
  · simp only [Act.put, List.setIfInBounds_toArray, List.set_cons_zero, List.set_cons_succ, i64_w, i32_w]
    rfl
  refine one_ (i := 2) (N := some 24) #[true, true, true, true, false, false, false, false, false, false, false, false, false, false, false, false] rfl rfl (by kernel_rfl) (by decide) (fun K hK => ?_)
  refine goes_ Try.func21 (by kernel_rfl) rfl #[.agg #[.slice A0 xs.length c0, .slice A1 xs2.length c1], .agg #[.slice A0 xs.length c0, .slice A1 xs2.length c1]] (by rfl) rfl rfl (by (try simp only [List.map_toArray, List.map_cons, List.map_nil]); first | done | rfl) ?_
  with_reducible refine (of_t xs xs2 true xs xs2 xs xs2 La0.out La1.out Maa.out _ _ _ _ _ _ _ _ _ (Kd.C_below (Kd.C_below Ha0.out XHB.out) E0.out) (Kd.C_below (Kd.C_below Ha1.out XHB.out) E0.out) (Kd.C_below (Kd.C_below Ha0.out XHB.out) E0.out) (Kd.C_below (Kd.C_below Ha1.out XHB.out) E0.out)).mono ?_
  rintro e W1 ⟨P10, P11, p10, p11, rfl, u10, u11, s10, s11, D1⟩
  refine ⟨_, rfl, ?_⟩
  have E1 := Aside0.mk (below_step E0.out D1)
  refine hK.out _ _ D1 (fun _ => behind_ D1 ?_)
  clear hK K
  refine norm_ (a' := ?_) ?_ ?_
  rotate_left
  · show Act.put _ (some 24) _ = _
    simp only [Act.put, List.setIfInBounds_toArray, List.set_cons_zero, List.set_cons_succ, i64_w, i32_w]
    rfl
  refine one_ (i := 4) (N := some 26) #[true, true, true, true, true, false, false, false, false, false, false, false, false, false, false, false] rfl rfl (by kernel_rfl) (by decide) (fun K hK => ?_)
  refine goes_ Try.func15 (by kernel_rfl) rfl #[.agg #[.slice P10 xs.length p10, .slice P11 xs2.length p11], .agg #[.slice A0 xs.length c0, .slice A1 xs2.length c1]] (by rfl) rfl rfl (by (try simp only [List.map_toArray, List.map_cons, List.map_nil]); first | done | rfl) ?_
  with_reducible refine (same_t xs xs2 xs xs2 La0.out La1.out _ _ _ _ _ _ _ _ _ _ Saa.out s10 s11 (Kd.C_below (Kd.C_below Ha0.out XHB.out) E1.out) (Kd.C_below (Kd.C_below Ha1.out XHB.out) E1.out) u10 u11 Ka0.out Ka1.out).mono ?_
  rintro e W2 ⟨rfl, D2⟩
  refine ⟨_, rfl, ?_⟩
  have E2 := Aside0.mk (below_step E1.out D2)
  refine hK.out _ _ D2 (fun _ => behind_ D2 ?_)
  clear hK K
  refine norm_ (a' := ?_) ?_ ?_
  rotate_left
  · show Act.put _ (some 26) _ = _
    simp only [Act.put, List.setIfInBounds_toArray, List.set_cons_zero, List.set_cons_succ, i64_w, i32_w]
    rfl
  refine pure_ (i := 5) (N := some 27) (v := ?_) (a' := ?_) #[true, true, true, true, true, true, false, false, false, false, false, false, false, false, false, false] rfl rfl (by kernel_rfl) (fun _ _ _ h => h) (Or.inl ⟨by rfl, ?_⟩) ?_ ?_
  rotate_left
  · intro w'
    go_simp
    with_reducible rfl
  rotate_left
  · simp only [Act.put, List.setIfInBounds_toArray, List.set_cons_zero, List.set_cons_succ, i64_w, i32_w]
    rfl
  refine pure_ (i := 6) (N := some 28) (v := ?_) (a' := ?_) #[true, true, true, true, true, true, true, false, false, false, false, false, false, false, false, false] rfl rfl (by kernel_rfl) (fun _ _ _ h => h) (Or.inl ⟨by rfl, ?_⟩) ?_ ?_
  rotate_left
  · intro w'
    go_simp
    with_reducible rfl
  rotate_left
  · simp only [Act.put, List.setIfInBounds_toArray, List.set_cons_zero, List.set_cons_succ, i64_w, i32_w]
    rfl
  refine take_ (i := 7) (N := some 29) (v := ?_) (a' := ?_) #[true, true, true, true, true, true, true, true, false, false, false, false, false, false, false, false] rfl rfl (by kernel_rfl) (fun _ _ _ h => h) (Or.inl ⟨by rfl, ?_⟩) (Below.refl _ _) ?_ ?_
  rotate_left
  · intro w' hS
    have hd_ := below_step E2.out hS
    have hy0 := (blk_cell (blk_below BL1.out hd_) 0).trans (show (#[.slice A0 xs.length c0, .slice A1 xs2.length c1] : Array Value)[0]? = some (.slice A0 xs.length c0) from rfl)
    have hy1 := (blk_cell (blk_below BL1.out hd_) 1).trans (show (#[.slice A0 xs.length c0, .slice A1 xs2.length c1] : Array Value)[1]? = some (.slice A1 xs2.length c1) from rfl)
    go_simp
    with_reducible rfl
  rotate_left
  · simp only [Act.put, List.setIfInBounds_toArray, List.set_cons_zero, List.set_cons_succ, i64_w, i32_w]
    rfl
  refine take_ (i := 8) (N := some 30) (v := ?_) (a' := ?_) #[true, true, true, true, true, true, true, true, true, false, false, false, false, false, false, false] rfl rfl (by kernel_rfl) (fun _ _ _ h => h) (Or.inl ⟨by rfl, ?_⟩) (Below.refl _ _) ?_ ?_
  rotate_left
  · intro w' hS
    have hd_ := below_step E2.out hS
    have hy0 := (blk_cell (blk_below BL2.out hd_) 0).trans (show (#[.slice B0 ys.length d0, .slice B1 ys2.length d1] : Array Value)[0]? = some (.slice B0 ys.length d0) from rfl)
    have hy1 := (blk_cell (blk_below BL2.out hd_) 1).trans (show (#[.slice B0 ys.length d0, .slice B1 ys2.length d1] : Array Value)[1]? = some (.slice B1 ys2.length d1) from rfl)
    go_simp
    with_reducible rfl
  rotate_left
  · simp only [Act.put, List.setIfInBounds_toArray, List.set_cons_zero, List.set_cons_succ, i64_w, i32_w]
    rfl
  refine take_ (i := 10) (N := some 32) (v := ?_) (a' := ?_) #[true, true, true, true, true, true, true, true, true, false, true, false, false, false, false, false] rfl rfl (by kernel_rfl) (fun _ _ _ h => h) (Or.inl ⟨by rfl, ?_⟩) (Below.refl _ _) ?_ ?_
  rotate_left
  · intro w' hS
    have hd_ := below_step E2.out hS
    have hy0 := (blk_cell (blk_below BL2.out hd_) 0).trans (show (#[.slice B0 ys.length d0, .slice B1 ys2.length d1] : Array Value)[0]? = some (.slice B0 ys.length d0) from rfl)
    have hy1 := (blk_cell (blk_below BL2.out hd_) 1).trans (show (#[.slice B0 ys.length d0, .slice B1 ys2.length d1] : Array Value)[1]? = some (.slice B1 ys2.length d1) from rfl)
    go_simp
    with_reducible rfl
  rotate_left
  · simp only [Act.put, List.setIfInBounds_toArray, List.set_cons_zero, List.set_cons_succ, i64_w, i32_w]
    rfl
  refine take_ (i := 11) (N := some 33) (v := ?_) (a' := ?_) #[true, true, true, true, true, true, true, true, true, false, true, true, false, false, false, false] rfl rfl (by kernel_rfl) (fun _ _ _ h => h) (Or.inl ⟨by rfl, ?_⟩) (Below.refl _ _) ?_ ?_
  rotate_left
  · intro w' hS
    have hd_ := below_step E2.out hS
    have hy0 := (blk_cell (blk_below BL1.out hd_) 0).trans (show (#[.slice A0 xs.length c0, .slice A1 xs2.length c1] : Array Value)[0]? = some (.slice A0 xs.length c0) from rfl)
    have hy1 := (blk_cell (blk_below BL1.out hd_) 1).trans (show (#[.slice A0 xs.length c0, .slice A1 xs2.length c1] : Array Value)[1]? = some (.slice A1 xs2.length c1) from rfl)
    go_simp
    with_reducible rfl
  rotate_left
  · simp only [Act.put, List.setIfInBounds_toArray, List.set_cons_zero, List.set_cons_succ, i64_w, i32_w]
    rfl
  refine one_ (i := 9) (N := some 31) #[true, true, true, true, true, true, true, true, true, true, true, true, false, false, false, false] rfl rfl (by kernel_rfl) (by decide) (fun K hK => ?_)
  refine goes_ Try.func21 (by kernel_rfl) rfl #[.agg #[.slice A0 xs.length c0, .slice A1 xs2.length c1], .agg #[.slice B0 ys.length d0, .slice B1 ys2.length d1]] (by rfl) rfl rfl (by (try simp only [List.map_toArray, List.map_cons, List.map_nil]); first | done | rfl) ?_
  with_reducible refine (of_t m m2 x xs xs2 ys ys2 La0.out La1.out Mab.out _ _ _ _ _ _ _ _ _ (Kd.C_below (Kd.C_below Ha0.out XHB.out) E2.out) (Kd.C_below (Kd.C_below Ha1.out XHB.out) E2.out) (Kd.C_below (Kd.C_below Hb0.out XHB.out) E2.out) (Kd.C_below (Kd.C_below Hb1.out XHB.out) E2.out)).mono ?_
  rintro e W3 ⟨P30, P31, p30, p31, rfl, u30, u31, s30, s31, D3⟩
  refine ⟨_, rfl, ?_⟩
  have E3 := Aside0.mk (below_step E2.out D3)
  refine hK.out _ _ D3 (fun _ => behind_ D3 ?_)
  clear hK K
  refine norm_ (a' := ?_) ?_ ?_
  rotate_left
  · show Act.put _ (some 31) _ = _
    simp only [Act.put, List.setIfInBounds_toArray, List.set_cons_zero, List.set_cons_succ, i64_w, i32_w]
    rfl
  refine one_ (i := 12) (N := some 34) #[true, true, true, true, true, true, true, true, true, true, true, true, true, false, false, false] rfl rfl (by kernel_rfl) (by decide) (fun K hK => ?_)
  refine goes_ Try.func21 (by kernel_rfl) rfl #[.agg #[.slice B0 ys.length d0, .slice B1 ys2.length d1], .agg #[.slice A0 xs.length c0, .slice A1 xs2.length c1]] (by rfl) rfl rfl (by (try simp only [List.map_toArray, List.map_cons, List.map_nil]); first | done | rfl) ?_
  with_reducible refine (of_t m m2 x ys ys2 xs xs2 Lb0.out Lb1.out Mba.out _ _ _ _ _ _ _ _ _ (Kd.C_below (Kd.C_below Hb0.out XHB.out) E3.out) (Kd.C_below (Kd.C_below Hb1.out XHB.out) E3.out) (Kd.C_below (Kd.C_below Ha0.out XHB.out) E3.out) (Kd.C_below (Kd.C_below Ha1.out XHB.out) E3.out)).mono ?_
  rintro e W4 ⟨P40, P41, p40, p41, rfl, u40, u41, s40, s41, D4⟩
  refine ⟨_, rfl, ?_⟩
  have E4 := Aside0.mk (below_step E3.out D4)
  refine hK.out _ _ D4 (fun _ => behind_ D4 ?_)
  clear hK K
  refine norm_ (a' := ?_) ?_ ?_
  rotate_left
  · show Act.put _ (some 34) _ = _
    simp only [Act.put, List.setIfInBounds_toArray, List.set_cons_zero, List.set_cons_succ, i64_w, i32_w]
    rfl
  refine one_ (i := 13) (N := some 35) #[true, true, true, true, true, true, true, true, true, true, true, true, true, true, false, false] rfl rfl (by kernel_rfl) (by decide) (fun K hK => ?_)
  refine goes_ Try.func15 (by kernel_rfl) rfl #[.agg #[.slice P30 m.length p30, .slice P31 m2.length p31], .agg #[.slice P40 m.length p40, .slice P41 m2.length p41]] (by rfl) rfl rfl (by (try simp only [List.map_toArray, List.map_cons, List.map_nil]); first | done | rfl) ?_
  with_reducible refine (same_t m m2 m m2 Lm0.out Lm1.out _ _ _ _ _ _ _ _ _ _ Smm.out (Kd.C_below s30 D4) (Kd.C_below s31 D4) s40 s41 u30 u31 u40 u41).mono ?_
  rintro e W5 ⟨rfl, D5⟩
  refine ⟨_, rfl, ?_⟩
  have E5 := Aside0.mk (below_step E4.out D5)
  refine hK.out _ _ D5 (fun _ => behind_ D5 ?_)
  clear hK K
  refine norm_ (a' := ?_) ?_ ?_
  rotate_left
  · show Act.put _ (some 35) _ = _
    simp only [Act.put, List.setIfInBounds_toArray, List.set_cons_zero, List.set_cons_succ, i64_w, i32_w]
    rfl
  refine pure_ (i := 14) (N := some 36) (v := ?_) (a' := ?_) #[true, true, true, true, true, true, true, true, true, true, true, true, true, true, true, false] rfl rfl (by kernel_rfl) (fun _ _ _ h => h) (Or.inl ⟨by rfl, ?_⟩) ?_ ?_
  rotate_left
  · intro w'
    go_simp
    with_reducible rfl
  rotate_left
  · simp only [Act.put, List.setIfInBounds_toArray, List.set_cons_zero, List.set_cons_succ, i64_w, i32_w]
    rfl
  refine pure_ (i := 15) (N := some 37) (v := ?_) (a' := ?_) #[true, true, true, true, true, true, true, true, true, true, true, true, true, true, true, true] rfl rfl (by kernel_rfl) (fun _ _ _ h => h) (Or.inl ⟨by rfl, ?_⟩) ?_ ?_
  rotate_left
  · intro w'
    go_simp
    with_reducible rfl
  rotate_left
  · simp only [Act.put, List.setIfInBounds_toArray, List.set_cons_zero, List.set_cons_succ, i64_w, i32_w]
    rfl
  refine done_ (by kernel_rfl) ?_
  have BK1 := Aside0.mk (blk_below BL1.out E5.out)
  have BK2 := Aside0.mk (blk_below BL2.out E5.out)
  have BK3 := Aside0.mk (blk_below BL3.out E5.out)
  have HB := Aside0.mk (below_step XHB.out E5.out)
  have hcz1_0 := (blk_cell BK1.out 0).trans (show (#[.slice A0 xs.length c0, .slice A1 xs2.length c1] : Array Value)[0]? = some (.slice A0 xs.length c0) from rfl)
  have hcz1_1 := (blk_cell BK1.out 1).trans (show (#[.slice A0 xs.length c0, .slice A1 xs2.length c1] : Array Value)[1]? = some (.slice A1 xs2.length c1) from rfl)
  have hcz2_0 := (blk_cell BK2.out 0).trans (show (#[.slice B0 ys.length d0, .slice B1 ys2.length d1] : Array Value)[0]? = some (.slice B0 ys.length d0) from rfl)
  have hcz2_1 := (blk_cell BK2.out 1).trans (show (#[.slice B0 ys.length d0, .slice B1 ys2.length d1] : Array Value)[1]? = some (.slice B1 ys2.length d1) from rfl)
  have hcz3_0 := (blk_cell BK3.out 0).trans (show (#[.slice C0 zs.length g0, .slice C1 zs2.length g1] : Array Value)[0]? = some (.slice C0 zs.length g0) from rfl)
  have hcz3_1 := (blk_cell BK3.out 1).trans (show (#[.slice C0 zs.length g0, .slice C1 zs2.length g1] : Array Value)[1]? = some (.slice C1 zs2.length g1) from rfl)
  clear D0 D1 D2 D3 D4 D5 E0 E1 E2 E3 E4 E5 BL1 BL2 BL3 XHB s10 s11 s30 s31 s40 s41 u10 u11 u30 u31 u40 u41
  generalize W5 = W at *
  go_upto_region 6 with (first
    | (go_at_call 11; (with_reducible refine (merge_t m m2 x xs xs2 ys ys2 La0.out La1.out Mab.out _ _ _ _ _ _ _ _ _ (by repeat (first | exact (Kd.C_below Ha0.out HB.out) | (with_reducible refine Kd.C_alloc ?_ _) | (with_reducible refine Kd.C_drewN ?_ _) | (with_reducible refine Kd.C_drew ?_))) (by repeat (first | exact (Kd.C_below Ha1.out HB.out) | (with_reducible refine Kd.C_alloc ?_ _) | (with_reducible refine Kd.C_drewN ?_ _) | (with_reducible refine Kd.C_drew ?_))) (by repeat (first | exact (Kd.C_below Hb0.out HB.out) | (with_reducible refine Kd.C_alloc ?_ _) | (with_reducible refine Kd.C_drewN ?_ _) | (with_reducible refine Kd.C_drew ?_))) (by repeat (first | exact (Kd.C_below Hb1.out HB.out) | (with_reducible refine Kd.C_alloc ?_ _) | (with_reducible refine Kd.C_drewN ?_ _) | (with_reducible refine Kd.C_drew ?_)))).mono ?_); rintro e wA ⟨F0, F1, f0, f1, rfl, k0, k1, r0, r1, hb_, R0, R1⟩; have tHB_ := Aside0.mk (below_step (by repeat (first | (with_reducible first | exact HB.out | apply below_alloc | apply pw_below_drewN | apply below_drew1 | apply below_drew) | exact HB.out)) hb_); have bk2_ := Aside0.mk (blk_below (g := gb1) (o := .cells #[.slice A0 xs.length c0, .slice A1 xs2.length c1] 24 (0, 0)) (by (with_reducible repeat (first | refine blk_drewN ?_ _ | refine blk_drew ?_ | refine blk_alloc ?_ _)); exact BK1.out) hb_); clear BK1; have BK1 := bk2_; clear bk2_; have bk2_ := Aside0.mk (blk_below (g := gb2) (o := .cells #[.slice B0 ys.length d0, .slice B1 ys2.length d1] 24 (0, 0)) (by (with_reducible repeat (first | refine blk_drewN ?_ _ | refine blk_drew ?_ | refine blk_alloc ?_ _)); exact BK2.out) hb_); clear BK2; have BK2 := bk2_; clear bk2_; have bk2_ := Aside0.mk (blk_below (g := gb3) (o := .cells #[.slice C0 zs.length g0, .slice C1 zs2.length g1] 24 (0, 0)) (by (with_reducible repeat (first | refine blk_drewN ?_ _ | refine blk_drew ?_ | refine blk_alloc ?_ _)); exact BK3.out) hb_); clear BK3; have BK3 := bk2_; clear bk2_; clear HB; have HB := tHB_; clear tHB_; (try clear hcz1_0); (try clear hcz1_1); (try clear hcz2_0); (try clear hcz2_1); (try clear hcz3_0); (try clear hcz3_1); have hcz1_0 := (blk_cell BK1.out 0).trans (show (#[.slice A0 xs.length c0, .slice A1 xs2.length c1] : Array Value)[0]? = some (.slice A0 xs.length c0) from rfl); have hcz1_1 := (blk_cell BK1.out 1).trans (show (#[.slice A0 xs.length c0, .slice A1 xs2.length c1] : Array Value)[1]? = some (.slice A1 xs2.length c1) from rfl); have hcz2_0 := (blk_cell BK2.out 0).trans (show (#[.slice B0 ys.length d0, .slice B1 ys2.length d1] : Array Value)[0]? = some (.slice B0 ys.length d0) from rfl); have hcz2_1 := (blk_cell BK2.out 1).trans (show (#[.slice B0 ys.length d0, .slice B1 ys2.length d1] : Array Value)[1]? = some (.slice B1 ys2.length d1) from rfl); have hcz3_0 := (blk_cell BK3.out 0).trans (show (#[.slice C0 zs.length g0, .slice C1 zs2.length g1] : Array Value)[0]? = some (.slice C0 zs.length g0) from rfl); have hcz3_1 := (blk_cell BK3.out 1).trans (show (#[.slice C0 zs.length g0, .slice C1 zs2.length g1] : Array Value)[1]? = some (.slice C1 zs2.length g1) from rfl); (try clear hb_); clear k0 k1 r0 r1 R0 R1)
    | ((with_reducible refine gate_dst (N := 7) rfl ?_); have HLT1 := Aside0.mk (blk_lt BK1.out); have HLT2 := Aside0.mk (blk_lt BK2.out); have HLT3 := Aside0.mk (blk_lt BK3.out); refine box_event ?hg (N := 7) ?hd (cs := #[.slice none 0 0, .slice none 0 0]) (t := 24) ?hr ?_; (case hd => rfl); (case hg => rfl); (case hr => first | (go_simp; done) | (go_simp; rfl)); intro gb4 hg_ wb4 hbox hb_; have GE4 := Aside0.mk ((by rw [hg_]; exact (below_size (by repeat (first | (with_reducible first | exact HB.out | apply below_alloc | apply pw_below_drewN | apply below_drew1 | apply below_drew) | exact HB.out)))) : w.heap.size ≤ gb4); have tHB_ := Aside0.mk (below_step (by repeat (first | (with_reducible first | exact HB.out | apply below_alloc | apply pw_below_drewN | apply below_drew1 | apply below_drew) | exact HB.out)) hb_); have bk2_ := Aside0.mk (blk_below (g := gb1) (o := .cells #[.slice A0 xs.length c0, .slice A1 xs2.length c1] 24 (0, 0)) (by (with_reducible repeat (first | refine blk_drewN ?_ _ | refine blk_drew ?_ | refine blk_alloc ?_ _)); exact BK1.out) hb_); clear BK1; have BK1 := bk2_; clear bk2_; have bk2_ := Aside0.mk (blk_below (g := gb2) (o := .cells #[.slice B0 ys.length d0, .slice B1 ys2.length d1] 24 (0, 0)) (by (with_reducible repeat (first | refine blk_drewN ?_ _ | refine blk_drew ?_ | refine blk_alloc ?_ _)); exact BK2.out) hb_); clear BK2; have BK2 := bk2_; clear bk2_; have bk2_ := Aside0.mk (blk_below (g := gb3) (o := .cells #[.slice C0 zs.length g0, .slice C1 zs2.length g1] 24 (0, 0)) (by (with_reducible repeat (first | refine blk_drewN ?_ _ | refine blk_drew ?_ | refine blk_alloc ?_ _)); exact BK3.out) hb_); clear BK3; have BK3 := bk2_; clear bk2_; clear HB; have HB := tHB_; clear tHB_; have BK4 := Aside0.mk hbox; have HG4 := Aside0.mk hg_; have DB4 := Aside0.mk hb_; clear hbox hg_ hb_; have hcz1_0 := (blk_cell BK1.out 0).trans (show (#[.slice A0 xs.length c0, .slice A1 xs2.length c1] : Array Value)[0]? = some (.slice A0 xs.length c0) from rfl); have hfz1_0 := blk_frozen BK1.out 0; have hcz1_1 := (blk_cell BK1.out 1).trans (show (#[.slice A0 xs.length c0, .slice A1 xs2.length c1] : Array Value)[1]? = some (.slice A1 xs2.length c1) from rfl); have hfz1_1 := blk_frozen BK1.out 1; have hcz2_0 := (blk_cell BK2.out 0).trans (show (#[.slice B0 ys.length d0, .slice B1 ys2.length d1] : Array Value)[0]? = some (.slice B0 ys.length d0) from rfl); have hfz2_0 := blk_frozen BK2.out 0; have hcz2_1 := (blk_cell BK2.out 1).trans (show (#[.slice B0 ys.length d0, .slice B1 ys2.length d1] : Array Value)[1]? = some (.slice B1 ys2.length d1) from rfl); have hfz2_1 := blk_frozen BK2.out 1; have hcz3_0 := (blk_cell BK3.out 0).trans (show (#[.slice C0 zs.length g0, .slice C1 zs2.length g1] : Array Value)[0]? = some (.slice C0 zs.length g0) from rfl); have hfz3_0 := blk_frozen BK3.out 0; have hcz3_1 := (blk_cell BK3.out 1).trans (show (#[.slice C0 zs.length g0, .slice C1 zs2.length g1] : Array Value)[1]? = some (.slice C1 zs2.length g1) from rfl); have hfz3_1 := blk_frozen BK3.out 1; have hcz4_0 := (blk_cell BK4.out 0).trans (show (#[.slice none 0 0, .slice none 0 0] : Array Value)[0]? = some (.slice none 0 0) from rfl); have hfz4_0 := blk_frozen BK4.out 0; have hcz4_1 := (blk_cell BK4.out 1).trans (show (#[.slice none 0 0, .slice none 0 0] : Array Value)[1]? = some (.slice none 0 0) from rfl); have hfz4_1 := blk_frozen BK4.out 1))
  have hne1 : gb1 ≠ gb4 := by rw [HG4.out]; exact Nat.ne_of_lt (HLT1.out)
  have bk1 := blk_far (p := ⟨gb4, 1, none⟩) (blk_far (p := ⟨gb4, 0, none⟩) BK1.out hne1 (.slice F0 m.length f0)) hne1 (.slice F1 m2.length f1)
  have hne2 : gb2 ≠ gb4 := by rw [HG4.out]; exact Nat.ne_of_lt (HLT2.out)
  have bk2 := blk_far (p := ⟨gb4, 1, none⟩) (blk_far (p := ⟨gb4, 0, none⟩) BK2.out hne2 (.slice F0 m.length f0)) hne2 (.slice F1 m2.length f1)
  have hne3 : gb3 ≠ gb4 := by rw [HG4.out]; exact Nat.ne_of_lt (HLT3.out)
  have bk3 := blk_far (p := ⟨gb4, 1, none⟩) (blk_far (p := ⟨gb4, 0, none⟩) BK3.out hne3 (.slice F0 m.length f0)) hne3 (.slice F1 m2.length f1)
  have HV := Aside0.mk (below_set (g := gb4) (j := 1) (v := .slice F1 m2.length f1) (below_set (g := gb4) (j := 0) (v := .slice F0 m.length f0) HB.out GE4.out) GE4.out)
  clear HB DB4 HG4 BK4 GE4
  clear HLT1 hne1 BK1
  clear HLT2 hne2 BK2
  clear HLT3 hne3 BK3
  (try clear hcz1_0)
  (try clear hcz1_1)
  (try clear hcz2_0)
  (try clear hcz2_1)
  (try clear hcz3_0)
  (try clear hcz3_1)
  (try clear hcz4_0)
  (try clear hcz4_1)
  (try clear hfz1_0)
  (try clear hfz1_1)
  (try clear hfz2_0)
  (try clear hfz2_1)
  (try clear hfz3_0)
  (try clear hfz3_1)
  (try clear hfz4_0)
  (try clear hfz4_1)
  generalize (wb4.setCell ⟨gb4, 0, none⟩ (.slice F0 m.length f0)).setCell ⟨gb4, 1, none⟩ (.slice F1 m2.length f1) = V1 at *
  have HB := HV
  clear HV
  have BK1 := Aside0.mk bk1
  clear bk1
  have BK2 := Aside0.mk bk2
  clear bk2
  have BK3 := Aside0.mk bk3
  clear bk3
  have hcz1_0 := (blk_cell BK1.out 0).trans (show (#[.slice A0 xs.length c0, .slice A1 xs2.length c1] : Array Value)[0]? = some (.slice A0 xs.length c0) from rfl)
  have hcz1_1 := (blk_cell BK1.out 1).trans (show (#[.slice A0 xs.length c0, .slice A1 xs2.length c1] : Array Value)[1]? = some (.slice A1 xs2.length c1) from rfl)
  have hcz2_0 := (blk_cell BK2.out 0).trans (show (#[.slice B0 ys.length d0, .slice B1 ys2.length d1] : Array Value)[0]? = some (.slice B0 ys.length d0) from rfl)
  have hcz2_1 := (blk_cell BK2.out 1).trans (show (#[.slice B0 ys.length d0, .slice B1 ys2.length d1] : Array Value)[1]? = some (.slice B1 ys2.length d1) from rfl)
  have hcz3_0 := (blk_cell BK3.out 0).trans (show (#[.slice C0 zs.length g0, .slice C1 zs2.length g1] : Array Value)[0]? = some (.slice C0 zs.length g0) from rfl)
  have hcz3_1 := (blk_cell BK3.out 1).trans (show (#[.slice C0 zs.length g0, .slice C1 zs2.length g1] : Array Value)[1]? = some (.slice C1 zs2.length g1) from rfl)
  go_upto_region 7 with (first
    | (go_at_call 11; (with_reducible refine (merge_t u u2 y ys ys2 zs zs2 Lb0.out Lb1.out Mbc.out _ _ _ _ _ _ _ _ _ (by repeat (first | exact (Kd.C_below Hb0.out HB.out) | (with_reducible refine Kd.C_alloc ?_ _) | (with_reducible refine Kd.C_drewN ?_ _) | (with_reducible refine Kd.C_drew ?_))) (by repeat (first | exact (Kd.C_below Hb1.out HB.out) | (with_reducible refine Kd.C_alloc ?_ _) | (with_reducible refine Kd.C_drewN ?_ _) | (with_reducible refine Kd.C_drew ?_))) (by repeat (first | exact (Kd.C_below Hc0.out HB.out) | (with_reducible refine Kd.C_alloc ?_ _) | (with_reducible refine Kd.C_drewN ?_ _) | (with_reducible refine Kd.C_drew ?_))) (by repeat (first | exact (Kd.C_below Hc1.out HB.out) | (with_reducible refine Kd.C_alloc ?_ _) | (with_reducible refine Kd.C_drewN ?_ _) | (with_reducible refine Kd.C_drew ?_)))).mono ?_); rintro e wA ⟨I0, I1, i0, i1, rfl, k0, k1, r0, r1, hb_, R0, R1⟩; have tHB_ := Aside0.mk (below_step (by repeat (first | (with_reducible first | exact HB.out | apply below_alloc | apply pw_below_drewN | apply below_drew1 | apply below_drew) | exact HB.out)) hb_); have bk2_ := Aside0.mk (blk_below (g := gb1) (o := .cells #[.slice A0 xs.length c0, .slice A1 xs2.length c1] 24 (0, 0)) (by (with_reducible repeat (first | refine blk_drewN ?_ _ | refine blk_drew ?_ | refine blk_alloc ?_ _)); exact BK1.out) hb_); clear BK1; have BK1 := bk2_; clear bk2_; have bk2_ := Aside0.mk (blk_below (g := gb2) (o := .cells #[.slice B0 ys.length d0, .slice B1 ys2.length d1] 24 (0, 0)) (by (with_reducible repeat (first | refine blk_drewN ?_ _ | refine blk_drew ?_ | refine blk_alloc ?_ _)); exact BK2.out) hb_); clear BK2; have BK2 := bk2_; clear bk2_; have bk2_ := Aside0.mk (blk_below (g := gb3) (o := .cells #[.slice C0 zs.length g0, .slice C1 zs2.length g1] 24 (0, 0)) (by (with_reducible repeat (first | refine blk_drewN ?_ _ | refine blk_drew ?_ | refine blk_alloc ?_ _)); exact BK3.out) hb_); clear BK3; have BK3 := bk2_; clear bk2_; clear HB; have HB := tHB_; clear tHB_; (try clear hcz1_0); (try clear hcz1_1); (try clear hcz2_0); (try clear hcz2_1); (try clear hcz3_0); (try clear hcz3_1); have hcz1_0 := (blk_cell BK1.out 0).trans (show (#[.slice A0 xs.length c0, .slice A1 xs2.length c1] : Array Value)[0]? = some (.slice A0 xs.length c0) from rfl); have hcz1_1 := (blk_cell BK1.out 1).trans (show (#[.slice A0 xs.length c0, .slice A1 xs2.length c1] : Array Value)[1]? = some (.slice A1 xs2.length c1) from rfl); have hcz2_0 := (blk_cell BK2.out 0).trans (show (#[.slice B0 ys.length d0, .slice B1 ys2.length d1] : Array Value)[0]? = some (.slice B0 ys.length d0) from rfl); have hcz2_1 := (blk_cell BK2.out 1).trans (show (#[.slice B0 ys.length d0, .slice B1 ys2.length d1] : Array Value)[1]? = some (.slice B1 ys2.length d1) from rfl); have hcz3_0 := (blk_cell BK3.out 0).trans (show (#[.slice C0 zs.length g0, .slice C1 zs2.length g1] : Array Value)[0]? = some (.slice C0 zs.length g0) from rfl); have hcz3_1 := (blk_cell BK3.out 1).trans (show (#[.slice C0 zs.length g0, .slice C1 zs2.length g1] : Array Value)[1]? = some (.slice C1 zs2.length g1) from rfl); (try clear hb_); clear k0 k1 r0 r1 R0 R1)
    | ((with_reducible refine gate_dst (N := 9) rfl ?_); have HLT1 := Aside0.mk (blk_lt BK1.out); have HLT2 := Aside0.mk (blk_lt BK2.out); have HLT3 := Aside0.mk (blk_lt BK3.out); refine box_event ?hg (N := 9) ?hd (cs := #[.slice none 0 0, .slice none 0 0]) (t := 24) ?hr ?_; (case hd => rfl); (case hg => rfl); (case hr => first | (go_simp; done) | (go_simp; rfl)); intro gb5 hg_ wb5 hbox hb_; have GE5 := Aside0.mk ((by rw [hg_]; exact (below_size (by repeat (first | (with_reducible first | exact HB.out | apply below_alloc | apply pw_below_drewN | apply below_drew1 | apply below_drew) | exact HB.out)))) : w.heap.size ≤ gb5); have tHB_ := Aside0.mk (below_step (by repeat (first | (with_reducible first | exact HB.out | apply below_alloc | apply pw_below_drewN | apply below_drew1 | apply below_drew) | exact HB.out)) hb_); have bk2_ := Aside0.mk (blk_below (g := gb1) (o := .cells #[.slice A0 xs.length c0, .slice A1 xs2.length c1] 24 (0, 0)) (by (with_reducible repeat (first | refine blk_drewN ?_ _ | refine blk_drew ?_ | refine blk_alloc ?_ _)); exact BK1.out) hb_); clear BK1; have BK1 := bk2_; clear bk2_; have bk2_ := Aside0.mk (blk_below (g := gb2) (o := .cells #[.slice B0 ys.length d0, .slice B1 ys2.length d1] 24 (0, 0)) (by (with_reducible repeat (first | refine blk_drewN ?_ _ | refine blk_drew ?_ | refine blk_alloc ?_ _)); exact BK2.out) hb_); clear BK2; have BK2 := bk2_; clear bk2_; have bk2_ := Aside0.mk (blk_below (g := gb3) (o := .cells #[.slice C0 zs.length g0, .slice C1 zs2.length g1] 24 (0, 0)) (by (with_reducible repeat (first | refine blk_drewN ?_ _ | refine blk_drew ?_ | refine blk_alloc ?_ _)); exact BK3.out) hb_); clear BK3; have BK3 := bk2_; clear bk2_; clear HB; have HB := tHB_; clear tHB_; have BK5 := Aside0.mk hbox; have HG5 := Aside0.mk hg_; have DB5 := Aside0.mk hb_; clear hbox hg_ hb_; have hcz1_0 := (blk_cell BK1.out 0).trans (show (#[.slice A0 xs.length c0, .slice A1 xs2.length c1] : Array Value)[0]? = some (.slice A0 xs.length c0) from rfl); have hfz1_0 := blk_frozen BK1.out 0; have hcz1_1 := (blk_cell BK1.out 1).trans (show (#[.slice A0 xs.length c0, .slice A1 xs2.length c1] : Array Value)[1]? = some (.slice A1 xs2.length c1) from rfl); have hfz1_1 := blk_frozen BK1.out 1; have hcz2_0 := (blk_cell BK2.out 0).trans (show (#[.slice B0 ys.length d0, .slice B1 ys2.length d1] : Array Value)[0]? = some (.slice B0 ys.length d0) from rfl); have hfz2_0 := blk_frozen BK2.out 0; have hcz2_1 := (blk_cell BK2.out 1).trans (show (#[.slice B0 ys.length d0, .slice B1 ys2.length d1] : Array Value)[1]? = some (.slice B1 ys2.length d1) from rfl); have hfz2_1 := blk_frozen BK2.out 1; have hcz3_0 := (blk_cell BK3.out 0).trans (show (#[.slice C0 zs.length g0, .slice C1 zs2.length g1] : Array Value)[0]? = some (.slice C0 zs.length g0) from rfl); have hfz3_0 := blk_frozen BK3.out 0; have hcz3_1 := (blk_cell BK3.out 1).trans (show (#[.slice C0 zs.length g0, .slice C1 zs2.length g1] : Array Value)[1]? = some (.slice C1 zs2.length g1) from rfl); have hfz3_1 := blk_frozen BK3.out 1; have hcz5_0 := (blk_cell BK5.out 0).trans (show (#[.slice none 0 0, .slice none 0 0] : Array Value)[0]? = some (.slice none 0 0) from rfl); have hfz5_0 := blk_frozen BK5.out 0; have hcz5_1 := (blk_cell BK5.out 1).trans (show (#[.slice none 0 0, .slice none 0 0] : Array Value)[1]? = some (.slice none 0 0) from rfl); have hfz5_1 := blk_frozen BK5.out 1))
  have hne1 : gb1 ≠ gb5 := by rw [HG5.out]; exact Nat.ne_of_lt (HLT1.out)
  have bk1 := blk_far (p := ⟨gb5, 1, none⟩) (blk_far (p := ⟨gb5, 0, none⟩) BK1.out hne1 (.slice I0 u.length i0)) hne1 (.slice I1 u2.length i1)
  have hne2 : gb2 ≠ gb5 := by rw [HG5.out]; exact Nat.ne_of_lt (HLT2.out)
  have bk2 := blk_far (p := ⟨gb5, 1, none⟩) (blk_far (p := ⟨gb5, 0, none⟩) BK2.out hne2 (.slice I0 u.length i0)) hne2 (.slice I1 u2.length i1)
  have hne3 : gb3 ≠ gb5 := by rw [HG5.out]; exact Nat.ne_of_lt (HLT3.out)
  have bk3 := blk_far (p := ⟨gb5, 1, none⟩) (blk_far (p := ⟨gb5, 0, none⟩) BK3.out hne3 (.slice I0 u.length i0)) hne3 (.slice I1 u2.length i1)
  have HV := Aside0.mk (below_set (g := gb5) (j := 1) (v := .slice I1 u2.length i1) (below_set (g := gb5) (j := 0) (v := .slice I0 u.length i0) HB.out GE5.out) GE5.out)
  clear HB DB5 HG5 BK5 GE5
  clear HLT1 hne1 BK1
  clear HLT2 hne2 BK2
  clear HLT3 hne3 BK3
  (try clear hcz1_0)
  (try clear hcz1_1)
  (try clear hcz2_0)
  (try clear hcz2_1)
  (try clear hcz3_0)
  (try clear hcz3_1)
  (try clear hcz5_0)
  (try clear hcz5_1)
  (try clear hfz1_0)
  (try clear hfz1_1)
  (try clear hfz2_0)
  (try clear hfz2_1)
  (try clear hfz3_0)
  (try clear hfz3_1)
  (try clear hfz5_0)
  (try clear hfz5_1)
  generalize (wb5.setCell ⟨gb5, 0, none⟩ (.slice I0 u.length i0)).setCell ⟨gb5, 1, none⟩ (.slice I1 u2.length i1) = V2 at *
  have HB := HV
  clear HV
  have BK1 := Aside0.mk bk1
  clear bk1
  have BK2 := Aside0.mk bk2
  clear bk2
  have BK3 := Aside0.mk bk3
  clear bk3
  have hcz1_0 := (blk_cell BK1.out 0).trans (show (#[.slice A0 xs.length c0, .slice A1 xs2.length c1] : Array Value)[0]? = some (.slice A0 xs.length c0) from rfl)
  have hcz1_1 := (blk_cell BK1.out 1).trans (show (#[.slice A0 xs.length c0, .slice A1 xs2.length c1] : Array Value)[1]? = some (.slice A1 xs2.length c1) from rfl)
  have hcz2_0 := (blk_cell BK2.out 0).trans (show (#[.slice B0 ys.length d0, .slice B1 ys2.length d1] : Array Value)[0]? = some (.slice B0 ys.length d0) from rfl)
  have hcz2_1 := (blk_cell BK2.out 1).trans (show (#[.slice B0 ys.length d0, .slice B1 ys2.length d1] : Array Value)[1]? = some (.slice B1 ys2.length d1) from rfl)
  have hcz3_0 := (blk_cell BK3.out 0).trans (show (#[.slice C0 zs.length g0, .slice C1 zs2.length g1] : Array Value)[0]? = some (.slice C0 zs.length g0) from rfl)
  have hcz3_1 := (blk_cell BK3.out 1).trans (show (#[.slice C0 zs.length g0, .slice C1 zs2.length g1] : Array Value)[1]? = some (.slice C1 zs2.length g1) from rfl)
  (try clear hcz1_0)
  (try clear hcz1_1)
  (try clear hcz2_0)
  (try clear hcz2_1)
  (try clear hcz3_0)
  (try clear hcz3_1)
  go_cut [67] (fun s wx => s = .bool false ∧ Aside0 (wx.heap[gb1]? = some (.cells #[.slice A0 xs.length c0, .slice A1 xs2.length c1] 24 (0, 0))) ∧ Aside0 (wx.heap[gb2]? = some (.cells #[.slice B0 ys.length d0, .slice B1 ys2.length d1] 24 (0, 0))) ∧ Aside0 (wx.heap[gb3]? = some (.cells #[.slice C0 zs.length g0, .slice C1 zs2.length g1] 24 (0, 0))) ∧ Aside0 (Below w.heap.size w wx))
  case first =>
    cases x with
    | false =>
      refine startB_ (n := 18) #[false, false, false, false, false, false, false, false, false, false, false, false, false, false, false, false, false, false] (by kernel_rfl) rfl rfl (fun W0 D0 => ?_)
      have E0 := Aside0.mk (Below.refl W0.heap.size W0)
      have BL1 := Aside0.mk (blk_below BK1.out D0)
      have BL2 := Aside0.mk (blk_below BK2.out D0)
      have BL3 := Aside0.mk (blk_below BK3.out D0)
      have XHB := Aside0.mk (below_step HB.out D0)
      refine pure_ (i := 0) (N := some 50) (v := ?_) (a' := ?_) #[true, false, false, false, false, false, false, false, false, false, false, false, false, false, false, false, false, false] rfl rfl (by kernel_rfl) (fun _ _ _ h => h) (Or.inl ⟨by rfl, ?_⟩) ?_ ?_
      rotate_left
      · intro w'
        go_simp
        with_reducible rfl
      rotate_left
      · simp only [Act.put, List.setIfInBounds_toArray, List.set_cons_zero, List.set_cons_succ, i64_w, i32_w]
        rfl
      refine pure_ (i := 1) (N := some 51) (v := ?_) (a' := ?_) #[true, true, false, false, false, false, false, false, false, false, false, false, false, false, false, false, false, false] rfl rfl (by kernel_rfl) (fun _ _ _ h => h) (Or.inl ⟨by rfl, ?_⟩) ?_ ?_
      rotate_left
      · intro w'
        go_simp
        with_reducible rfl
      rotate_left
      · simp only [Act.put, List.setIfInBounds_toArray, List.set_cons_zero, List.set_cons_succ, i64_w, i32_w]
        rfl
      refine pure_ (i := 2) (N := some 52) (v := undef) (a' := ?_) #[true, true, true, false, false, false, false, false, false, false, false, false, false, false, false, false, false, false] rfl rfl (by kernel_rfl) (fun _ _ _ h => h) (Or.inr ⟨by rfl, rfl⟩) ?_ ?_
      rotate_left
      · simp only [Act.put, List.setIfInBounds_toArray, List.set_cons_zero, List.set_cons_succ, i64_w, i32_w]
        rfl
      refine pure_ (i := 3) (N := some 53) (v := ?_) (a' := ?_) #[true, true, true, true, false, false, false, false, false, false, false, false, false, false, false, false, false, false] rfl rfl (by kernel_rfl) (fun _ _ _ h => h) (Or.inl ⟨by rfl, ?_⟩) ?_ ?_
      rotate_left
      · intro w'
        go_simp
        with_reducible rfl
      rotate_left
      · simp only [Act.put, List.setIfInBounds_toArray, List.set_cons_zero, List.set_cons_succ, i64_w, i32_w]
        rfl
      refine pure_ (i := 4) (N := some 54) (v := ?_) (a' := ?_) #[true, true, true, true, true, false, false, false, false, false, false, false, false, false, false, false, false, false] rfl rfl (by kernel_rfl) (fun _ _ _ h => h) (Or.inl ⟨by rfl, ?_⟩) ?_ ?_
      rotate_left
      · intro w'
        go_simp
        with_reducible rfl
      rotate_left
      · simp only [Act.put, List.setIfInBounds_toArray, List.set_cons_zero, List.set_cons_succ, i64_w, i32_w]
        rfl
      refine pure_ (i := 5) (N := some 55) (v := undef) (a' := ?_) #[true, true, true, true, true, true, false, false, false, false, false, false, false, false, false, false, false, false] rfl rfl (by kernel_rfl) (fun _ _ _ h => h) (Or.inr ⟨by rfl, rfl⟩) ?_ ?_
      rotate_left
      · simp only [Act.put, List.setIfInBounds_toArray, List.set_cons_zero, List.set_cons_succ, i64_w, i32_w]
        rfl
      refine pure_ (i := 6) (N := some 56) (v := undef) (a' := ?_) #[true, true, true, true, true, true, true, false, false, false, false, false, false, false, false, false, false, false] rfl rfl (by kernel_rfl) (fun _ _ _ h => h) (Or.inr ⟨by rfl, rfl⟩) ?_ ?_
      rotate_left
      · simp only [Act.put, List.setIfInBounds_toArray, List.set_cons_zero, List.set_cons_succ, i64_w, i32_w]
        rfl
      refine pure_ (i := 7) (N := some 57) (v := undef) (a' := ?_) #[true, true, true, true, true, true, true, true, false, false, false, false, false, false, false, false, false, false] rfl rfl (by kernel_rfl) (fun _ _ _ h => h) (Or.inr ⟨by rfl, rfl⟩) ?_ ?_
      rotate_left
      · simp only [Act.put, List.setIfInBounds_toArray, List.set_cons_zero, List.set_cons_succ, i64_w, i32_w]
        rfl
      refine pure_ (i := 8) (N := some 58) (v := undef) (a' := ?_) #[true, true, true, true, true, true, true, true, true, false, false, false, false, false, false, false, false, false] rfl rfl (by kernel_rfl) (fun _ _ _ h => h) (Or.inr ⟨by rfl, rfl⟩) ?_ ?_
      rotate_left
      · simp only [Act.put, List.setIfInBounds_toArray, List.set_cons_zero, List.set_cons_succ, i64_w, i32_w]
        rfl
      refine pure_ (i := 9) (N := some 59) (v := undef) (a' := ?_) #[true, true, true, true, true, true, true, true, true, true, false, false, false, false, false, false, false, false] rfl rfl (by kernel_rfl) (fun _ _ _ h => h) (Or.inr ⟨by rfl, rfl⟩) ?_ ?_
      rotate_left
      · simp only [Act.put, List.setIfInBounds_toArray, List.set_cons_zero, List.set_cons_succ, i64_w, i32_w]
        rfl
      refine pure_ (i := 10) (N := some 60) (v := undef) (a' := ?_) #[true, true, true, true, true, true, true, true, true, true, true, false, false, false, false, false, false, false] rfl rfl (by kernel_rfl) (fun _ _ _ h => h) (Or.inr ⟨by rfl, rfl⟩) ?_ ?_
      rotate_left
      · simp only [Act.put, List.setIfInBounds_toArray, List.set_cons_zero, List.set_cons_succ, i64_w, i32_w]
        rfl
      refine pure_ (i := 11) (N := some 61) (v := undef) (a' := ?_) #[true, true, true, true, true, true, true, true, true, true, true, true, false, false, false, false, false, false] rfl rfl (by kernel_rfl) (fun _ _ _ h => h) (Or.inr ⟨by rfl, rfl⟩) ?_ ?_
      rotate_left
      · simp only [Act.put, List.setIfInBounds_toArray, List.set_cons_zero, List.set_cons_succ, i64_w, i32_w]
        rfl
      refine pure_ (i := 12) (N := some 62) (v := undef) (a' := ?_) #[true, true, true, true, true, true, true, true, true, true, true, true, true, false, false, false, false, false] rfl rfl (by kernel_rfl) (fun _ _ _ h => h) (Or.inr ⟨by rfl, rfl⟩) ?_ ?_
      rotate_left
      · simp only [Act.put, List.setIfInBounds_toArray, List.set_cons_zero, List.set_cons_succ, i64_w, i32_w]
        rfl
      refine pure_ (i := 13) (N := some 63) (v := undef) (a' := ?_) #[true, true, true, true, true, true, true, true, true, true, true, true, true, true, false, false, false, false] rfl rfl (by kernel_rfl) (fun _ _ _ h => h) (Or.inr ⟨by rfl, rfl⟩) ?_ ?_
      rotate_left
      · simp only [Act.put, List.setIfInBounds_toArray, List.set_cons_zero, List.set_cons_succ, i64_w, i32_w]
        rfl
      refine pure_ (i := 14) (N := some 64) (v := undef) (a' := ?_) #[true, true, true, true, true, true, true, true, true, true, true, true, true, true, true, false, false, false] rfl rfl (by kernel_rfl) (fun _ _ _ h => h) (Or.inr ⟨by rfl, rfl⟩) ?_ ?_
      rotate_left
      · simp only [Act.put, List.setIfInBounds_toArray, List.set_cons_zero, List.set_cons_succ, i64_w, i32_w]
        rfl
      refine pure_ (i := 15) (N := some 65) (v := undef) (a' := ?_) #[true, true, true, true, true, true, true, true, true, true, true, true, true, true, true, true, false, false] rfl rfl (by kernel_rfl) (fun _ _ _ h => h) (Or.inr ⟨by rfl, rfl⟩) ?_ ?_
      rotate_left
      · simp only [Act.put, List.setIfInBounds_toArray, List.set_cons_zero, List.set_cons_succ, i64_w, i32_w]
        rfl
      refine pure_ (i := 16) (N := some 66) (v := undef) (a' := ?_) #[true, true, true, true, true, true, true, true, true, true, true, true, true, true, true, true, true, false] rfl rfl (by kernel_rfl) (fun _ _ _ h => h) (Or.inr ⟨by rfl, rfl⟩) ?_ ?_
      rotate_left
      · simp only [Act.put, List.setIfInBounds_toArray, List.set_cons_zero, List.set_cons_succ, i64_w, i32_w]
        rfl
      refine pure_ (i := 17) (N := some 67) (v := ?_) (a' := ?_) #[true, true, true, true, true, true, true, true, true, true, true, true, true, true, true, true, true, true] rfl rfl (by kernel_rfl) (fun _ _ _ h => h) (Or.inl ⟨by rfl, ?_⟩) ?_ ?_
      rotate_left
      · intro w'
        go_simp
        with_reducible rfl
      rotate_left
      · simp only [Act.put, List.setIfInBounds_toArray, List.set_cons_zero, List.set_cons_succ, i64_w, i32_w]
        rfl
      refine done_ (by kernel_rfl) ?_
      go_wp2_with fail
      go_meet
      exact ⟨rfl, ⟨blk_below BL1.out E0.out⟩, ⟨blk_below BL2.out E0.out⟩, ⟨blk_below BL3.out E0.out⟩, ⟨below_step XHB.out E0.out⟩⟩
    | true =>
      cases y with
      | false =>
        refine startB_ (n := 18) #[false, false, false, false, false, false, false, false, false, false, false, false, false, false, false, false, false, false] (by kernel_rfl) rfl rfl (fun W0 D0 => ?_)
        have E0 := Aside0.mk (Below.refl W0.heap.size W0)
        have BL1 := Aside0.mk (blk_below BK1.out D0)
        have BL2 := Aside0.mk (blk_below BK2.out D0)
        have BL3 := Aside0.mk (blk_below BK3.out D0)
        have XHB := Aside0.mk (below_step HB.out D0)
        refine pure_ (i := 0) (N := some 50) (v := ?_) (a' := ?_) #[true, false, false, false, false, false, false, false, false, false, false, false, false, false, false, false, false, false] rfl rfl (by kernel_rfl) (fun _ _ _ h => h) (Or.inl ⟨by rfl, ?_⟩) ?_ ?_
        rotate_left
        · intro w'
          go_simp
          with_reducible rfl
        rotate_left
        · simp only [Act.put, List.setIfInBounds_toArray, List.set_cons_zero, List.set_cons_succ, i64_w, i32_w]
          rfl
        refine pure_ (i := 1) (N := some 51) (v := ?_) (a' := ?_) #[true, true, false, false, false, false, false, false, false, false, false, false, false, false, false, false, false, false] rfl rfl (by kernel_rfl) (fun _ _ _ h => h) (Or.inl ⟨by rfl, ?_⟩) ?_ ?_
        rotate_left
        · intro w'
          go_simp
          with_reducible rfl
        rotate_left
        · simp only [Act.put, List.setIfInBounds_toArray, List.set_cons_zero, List.set_cons_succ, i64_w, i32_w]
          rfl
        refine pure_ (i := 2) (N := some 52) (v := ?_) (a' := ?_) #[true, true, true, false, false, false, false, false, false, false, false, false, false, false, false, false, false, false] rfl rfl (by kernel_rfl) (fun _ _ _ h => h) (Or.inl ⟨by rfl, ?_⟩) ?_ ?_
        rotate_left
        · intro w'
          go_simp
          with_reducible rfl
        rotate_left
        · simp only [Act.put, List.setIfInBounds_toArray, List.set_cons_zero, List.set_cons_succ, i64_w, i32_w]
          rfl
        refine pure_ (i := 3) (N := some 53) (v := ?_) (a' := ?_) #[true, true, true, true, false, false, false, false, false, false, false, false, false, false, false, false, false, false] rfl rfl (by kernel_rfl) (fun _ _ _ h => h) (Or.inl ⟨by rfl, ?_⟩) ?_ ?_
        rotate_left
        · intro w'
          go_simp
          with_reducible rfl
        rotate_left
        · simp only [Act.put, List.setIfInBounds_toArray, List.set_cons_zero, List.set_cons_succ, i64_w, i32_w]
          rfl
        refine pure_ (i := 4) (N := some 54) (v := ?_) (a' := ?_) #[true, true, true, true, true, false, false, false, false, false, false, false, false, false, false, false, false, false] rfl rfl (by kernel_rfl) (fun _ _ _ h => h) (Or.inl ⟨by rfl, ?_⟩) ?_ ?_
        rotate_left
        · intro w'
          go_simp
          with_reducible rfl
        rotate_left
        · simp only [Act.put, List.setIfInBounds_toArray, List.set_cons_zero, List.set_cons_succ, i64_w, i32_w]
          rfl
        refine pure_ (i := 5) (N := some 55) (v := undef) (a' := ?_) #[true, true, true, true, true, true, false, false, false, false, false, false, false, false, false, false, false, false] rfl rfl (by kernel_rfl) (fun _ _ _ h => h) (Or.inr ⟨by rfl, rfl⟩) ?_ ?_
        rotate_left
        · simp only [Act.put, List.setIfInBounds_toArray, List.set_cons_zero, List.set_cons_succ, i64_w, i32_w]
          rfl
        refine pure_ (i := 6) (N := some 56) (v := undef) (a' := ?_) #[true, true, true, true, true, true, true, false, false, false, false, false, false, false, false, false, false, false] rfl rfl (by kernel_rfl) (fun _ _ _ h => h) (Or.inr ⟨by rfl, rfl⟩) ?_ ?_
        rotate_left
        · simp only [Act.put, List.setIfInBounds_toArray, List.set_cons_zero, List.set_cons_succ, i64_w, i32_w]
          rfl
        refine pure_ (i := 7) (N := some 57) (v := undef) (a' := ?_) #[true, true, true, true, true, true, true, true, false, false, false, false, false, false, false, false, false, false] rfl rfl (by kernel_rfl) (fun _ _ _ h => h) (Or.inr ⟨by rfl, rfl⟩) ?_ ?_
        rotate_left
        · simp only [Act.put, List.setIfInBounds_toArray, List.set_cons_zero, List.set_cons_succ, i64_w, i32_w]
          rfl
        refine pure_ (i := 8) (N := some 58) (v := undef) (a' := ?_) #[true, true, true, true, true, true, true, true, true, false, false, false, false, false, false, false, false, false] rfl rfl (by kernel_rfl) (fun _ _ _ h => h) (Or.inr ⟨by rfl, rfl⟩) ?_ ?_
        rotate_left
        · simp only [Act.put, List.setIfInBounds_toArray, List.set_cons_zero, List.set_cons_succ, i64_w, i32_w]
          rfl
        refine pure_ (i := 9) (N := some 59) (v := undef) (a' := ?_) #[true, true, true, true, true, true, true, true, true, true, false, false, false, false, false, false, false, false] rfl rfl (by kernel_rfl) (fun _ _ _ h => h) (Or.inr ⟨by rfl, rfl⟩) ?_ ?_
        rotate_left
        · simp only [Act.put, List.setIfInBounds_toArray, List.set_cons_zero, List.set_cons_succ, i64_w, i32_w]
          rfl
        refine pure_ (i := 10) (N := some 60) (v := undef) (a' := ?_) #[true, true, true, true, true, true, true, true, true, true, true, false, false, false, false, false, false, false] rfl rfl (by kernel_rfl) (fun _ _ _ h => h) (Or.inr ⟨by rfl, rfl⟩) ?_ ?_
        rotate_left
        · simp only [Act.put, List.setIfInBounds_toArray, List.set_cons_zero, List.set_cons_succ, i64_w, i32_w]
          rfl
        refine pure_ (i := 11) (N := some 61) (v := undef) (a' := ?_) #[true, true, true, true, true, true, true, true, true, true, true, true, false, false, false, false, false, false] rfl rfl (by kernel_rfl) (fun _ _ _ h => h) (Or.inr ⟨by rfl, rfl⟩) ?_ ?_
        rotate_left
        · simp only [Act.put, List.setIfInBounds_toArray, List.set_cons_zero, List.set_cons_succ, i64_w, i32_w]
          rfl
        refine pure_ (i := 12) (N := some 62) (v := undef) (a' := ?_) #[true, true, true, true, true, true, true, true, true, true, true, true, true, false, false, false, false, false] rfl rfl (by kernel_rfl) (fun _ _ _ h => h) (Or.inr ⟨by rfl, rfl⟩) ?_ ?_
        rotate_left
        · simp only [Act.put, List.setIfInBounds_toArray, List.set_cons_zero, List.set_cons_succ, i64_w, i32_w]
          rfl
        refine pure_ (i := 13) (N := some 63) (v := undef) (a' := ?_) #[true, true, true, true, true, true, true, true, true, true, true, true, true, true, false, false, false, false] rfl rfl (by kernel_rfl) (fun _ _ _ h => h) (Or.inr ⟨by rfl, rfl⟩) ?_ ?_
        rotate_left
        · simp only [Act.put, List.setIfInBounds_toArray, List.set_cons_zero, List.set_cons_succ, i64_w, i32_w]
          rfl
        refine pure_ (i := 14) (N := some 64) (v := undef) (a' := ?_) #[true, true, true, true, true, true, true, true, true, true, true, true, true, true, true, false, false, false] rfl rfl (by kernel_rfl) (fun _ _ _ h => h) (Or.inr ⟨by rfl, rfl⟩) ?_ ?_
        rotate_left
        · simp only [Act.put, List.setIfInBounds_toArray, List.set_cons_zero, List.set_cons_succ, i64_w, i32_w]
          rfl
        refine pure_ (i := 15) (N := some 65) (v := undef) (a' := ?_) #[true, true, true, true, true, true, true, true, true, true, true, true, true, true, true, true, false, false] rfl rfl (by kernel_rfl) (fun _ _ _ h => h) (Or.inr ⟨by rfl, rfl⟩) ?_ ?_
        rotate_left
        · simp only [Act.put, List.setIfInBounds_toArray, List.set_cons_zero, List.set_cons_succ, i64_w, i32_w]
          rfl
        refine pure_ (i := 16) (N := some 66) (v := undef) (a' := ?_) #[true, true, true, true, true, true, true, true, true, true, true, true, true, true, true, true, true, false] rfl rfl (by kernel_rfl) (fun _ _ _ h => h) (Or.inr ⟨by rfl, rfl⟩) ?_ ?_
        rotate_left
        · simp only [Act.put, List.setIfInBounds_toArray, List.set_cons_zero, List.set_cons_succ, i64_w, i32_w]
          rfl
        refine pure_ (i := 17) (N := some 67) (v := ?_) (a' := ?_) #[true, true, true, true, true, true, true, true, true, true, true, true, true, true, true, true, true, true] rfl rfl (by kernel_rfl) (fun _ _ _ h => h) (Or.inl ⟨by rfl, ?_⟩) ?_ ?_
        rotate_left
        · intro w'
          go_simp
          with_reducible rfl
        rotate_left
        · simp only [Act.put, List.setIfInBounds_toArray, List.set_cons_zero, List.set_cons_succ, i64_w, i32_w]
          rfl
        refine done_ (by kernel_rfl) ?_
        go_wp2_with fail
        go_meet
        exact ⟨rfl, ⟨blk_below BL1.out E0.out⟩, ⟨blk_below BL2.out E0.out⟩, ⟨blk_below BL3.out E0.out⟩, ⟨below_step XHB.out E0.out⟩⟩
      | true =>
        have Mmc' := Mmc.out rfl rfl
        have Mau' := Mau.out rfl rfl
        clear Mmc Mau
        have MMC := Aside0.mk Mmc'
        have MAU := Aside0.mk Mau'
        clear Mmc' Mau'
        refine startB_ (n := 18) #[false, false, false, false, false, false, false, false, false, false, false, false, false, false, false, false, false, false] (by kernel_rfl) rfl rfl (fun W0 D0 => ?_)
        have E0 := Aside0.mk (Below.refl W0.heap.size W0)
        have BL1 := Aside0.mk (blk_below BK1.out D0)
        have BL2 := Aside0.mk (blk_below BK2.out D0)
        have BL3 := Aside0.mk (blk_below BK3.out D0)
        have XHB := Aside0.mk (below_step HB.out D0)
        refine pure_ (i := 0) (N := some 50) (v := ?_) (a' := ?_) #[true, false, false, false, false, false, false, false, false, false, false, false, false, false, false, false, false, false] rfl rfl (by kernel_rfl) (fun _ _ _ h => h) (Or.inl ⟨by rfl, ?_⟩) ?_ ?_
        rotate_left
        · intro w'
          go_simp
          with_reducible rfl
        rotate_left
        · simp only [Act.put, List.setIfInBounds_toArray, List.set_cons_zero, List.set_cons_succ, i64_w, i32_w]
          rfl
        refine pure_ (i := 1) (N := some 51) (v := ?_) (a' := ?_) #[true, true, false, false, false, false, false, false, false, false, false, false, false, false, false, false, false, false] rfl rfl (by kernel_rfl) (fun _ _ _ h => h) (Or.inl ⟨by rfl, ?_⟩) ?_ ?_
        rotate_left
        · intro w'
          go_simp
          with_reducible rfl
        rotate_left
        · simp only [Act.put, List.setIfInBounds_toArray, List.set_cons_zero, List.set_cons_succ, i64_w, i32_w]
          rfl
        refine pure_ (i := 2) (N := some 52) (v := ?_) (a' := ?_) #[true, true, true, false, false, false, false, false, false, false, false, false, false, false, false, false, false, false] rfl rfl (by kernel_rfl) (fun _ _ _ h => h) (Or.inl ⟨by rfl, ?_⟩) ?_ ?_
        rotate_left
        · intro w'
          go_simp
          with_reducible rfl
        rotate_left
        · simp only [Act.put, List.setIfInBounds_toArray, List.set_cons_zero, List.set_cons_succ, i64_w, i32_w]
          rfl
        refine pure_ (i := 3) (N := some 53) (v := ?_) (a' := ?_) #[true, true, true, true, false, false, false, false, false, false, false, false, false, false, false, false, false, false] rfl rfl (by kernel_rfl) (fun _ _ _ h => h) (Or.inl ⟨by rfl, ?_⟩) ?_ ?_
        rotate_left
        · intro w'
          go_simp
          with_reducible rfl
        rotate_left
        · simp only [Act.put, List.setIfInBounds_toArray, List.set_cons_zero, List.set_cons_succ, i64_w, i32_w]
          rfl
        refine pure_ (i := 4) (N := some 54) (v := ?_) (a' := ?_) #[true, true, true, true, true, false, false, false, false, false, false, false, false, false, false, false, false, false] rfl rfl (by kernel_rfl) (fun _ _ _ h => h) (Or.inl ⟨by rfl, ?_⟩) ?_ ?_
        rotate_left
        · intro w'
          go_simp
          with_reducible rfl
        rotate_left
        · simp only [Act.put, List.setIfInBounds_toArray, List.set_cons_zero, List.set_cons_succ, i64_w, i32_w]
          rfl
        refine take_ (i := 5) (N := some 55) (v := ?_) (a' := ?_) #[true, true, true, true, true, true, false, false, false, false, false, false, false, false, false, false, false, false] rfl rfl (by kernel_rfl) (fun _ _ _ h => h) (Or.inl ⟨by rfl, ?_⟩) (Below.refl _ _) ?_ ?_
        rotate_left
        · intro w' hS
          have hd_ := below_step E0.out hS
          have hy0 := (blk_cell (blk_below BL1.out hd_) 0).trans (show (#[.slice A0 xs.length c0, .slice A1 xs2.length c1] : Array Value)[0]? = some (.slice A0 xs.length c0) from rfl)
          have hy1 := (blk_cell (blk_below BL1.out hd_) 1).trans (show (#[.slice A0 xs.length c0, .slice A1 xs2.length c1] : Array Value)[1]? = some (.slice A1 xs2.length c1) from rfl)
          go_simp
          with_reducible rfl
        rotate_left
        · simp only [Act.put, List.setIfInBounds_toArray, List.set_cons_zero, List.set_cons_succ, i64_w, i32_w]
          rfl
        refine take_ (i := 6) (N := some 56) (v := ?_) (a' := ?_) #[true, true, true, true, true, true, true, false, false, false, false, false, false, false, false, false, false, false] rfl rfl (by kernel_rfl) (fun _ _ _ h => h) (Or.inl ⟨by rfl, ?_⟩) (Below.refl _ _) ?_ ?_
        rotate_left
        · intro w' hS
          have hd_ := below_step E0.out hS
          have hy0 := (blk_cell (blk_below BL2.out hd_) 0).trans (show (#[.slice B0 ys.length d0, .slice B1 ys2.length d1] : Array Value)[0]? = some (.slice B0 ys.length d0) from rfl)
          have hy1 := (blk_cell (blk_below BL2.out hd_) 1).trans (show (#[.slice B0 ys.length d0, .slice B1 ys2.length d1] : Array Value)[1]? = some (.slice B1 ys2.length d1) from rfl)
          go_simp
          with_reducible rfl
        rotate_left
        · simp only [Act.put, List.setIfInBounds_toArray, List.set_cons_zero, List.set_cons_succ, i64_w, i32_w]
          rfl
        refine take_ (i := 8) (N := some 58) (v := ?_) (a' := ?_) #[true, true, true, true, true, true, true, false, true, false, false, false, false, false, false, false, false, false] rfl rfl (by kernel_rfl) (fun _ _ _ h => h) (Or.inl ⟨by rfl, ?_⟩) (Below.refl _ _) ?_ ?_
        rotate_left
        · intro w' hS
          have hd_ := below_step E0.out hS
          have hy0 := (blk_cell (blk_below BL3.out hd_) 0).trans (show (#[.slice C0 zs.length g0, .slice C1 zs2.length g1] : Array Value)[0]? = some (.slice C0 zs.length g0) from rfl)
          have hy1 := (blk_cell (blk_below BL3.out hd_) 1).trans (show (#[.slice C0 zs.length g0, .slice C1 zs2.length g1] : Array Value)[1]? = some (.slice C1 zs2.length g1) from rfl)
          go_simp
          with_reducible rfl
        rotate_left
        · simp only [Act.put, List.setIfInBounds_toArray, List.set_cons_zero, List.set_cons_succ, i64_w, i32_w]
          rfl
        refine take_ (i := 10) (N := some 60) (v := ?_) (a' := ?_) #[true, true, true, true, true, true, true, false, true, false, true, false, false, false, false, false, false, false] rfl rfl (by kernel_rfl) (fun _ _ _ h => h) (Or.inl ⟨by rfl, ?_⟩) (Below.refl _ _) ?_ ?_
        rotate_left
        · intro w' hS
          have hd_ := below_step E0.out hS
          have hy0 := (blk_cell (blk_below BL1.out hd_) 0).trans (show (#[.slice A0 xs.length c0, .slice A1 xs2.length c1] : Array Value)[0]? = some (.slice A0 xs.length c0) from rfl)
          have hy1 := (blk_cell (blk_below BL1.out hd_) 1).trans (show (#[.slice A0 xs.length c0, .slice A1 xs2.length c1] : Array Value)[1]? = some (.slice A1 xs2.length c1) from rfl)
          go_simp
          with_reducible rfl
        rotate_left
        · simp only [Act.put, List.setIfInBounds_toArray, List.set_cons_zero, List.set_cons_succ, i64_w, i32_w]
          rfl
        refine take_ (i := 11) (N := some 61) (v := ?_) (a' := ?_) #[true, true, true, true, true, true, true, false, true, false, true, true, false, false, false, false, false, false] rfl rfl (by kernel_rfl) (fun _ _ _ h => h) (Or.inl ⟨by rfl, ?_⟩) (Below.refl _ _) ?_ ?_
        rotate_left
        · intro w' hS
          have hd_ := below_step E0.out hS
          have hy0 := (blk_cell (blk_below BL2.out hd_) 0).trans (show (#[.slice B0 ys.length d0, .slice B1 ys2.length d1] : Array Value)[0]? = some (.slice B0 ys.length d0) from rfl)
          have hy1 := (blk_cell (blk_below BL2.out hd_) 1).trans (show (#[.slice B0 ys.length d0, .slice B1 ys2.length d1] : Array Value)[1]? = some (.slice B1 ys2.length d1) from rfl)
          go_simp
          with_reducible rfl
        rotate_left
        · simp only [Act.put, List.setIfInBounds_toArray, List.set_cons_zero, List.set_cons_succ, i64_w, i32_w]
          rfl
        refine take_ (i := 12) (N := some 62) (v := ?_) (a' := ?_) #[true, true, true, true, true, true, true, false, true, false, true, true, true, false, false, false, false, false] rfl rfl (by kernel_rfl) (fun _ _ _ h => h) (Or.inl ⟨by rfl, ?_⟩) (Below.refl _ _) ?_ ?_
        rotate_left
        · intro w' hS
          have hd_ := below_step E0.out hS
          have hy0 := (blk_cell (blk_below BL3.out hd_) 0).trans (show (#[.slice C0 zs.length g0, .slice C1 zs2.length g1] : Array Value)[0]? = some (.slice C0 zs.length g0) from rfl)
          have hy1 := (blk_cell (blk_below BL3.out hd_) 1).trans (show (#[.slice C0 zs.length g0, .slice C1 zs2.length g1] : Array Value)[1]? = some (.slice C1 zs2.length g1) from rfl)
          go_simp
          with_reducible rfl
        rotate_left
        · simp only [Act.put, List.setIfInBounds_toArray, List.set_cons_zero, List.set_cons_succ, i64_w, i32_w]
          rfl
        refine one_ (i := 7) (N := some 57) #[true, true, true, true, true, true, true, true, true, false, true, true, true, false, false, false, false, false] rfl rfl (by kernel_rfl) (by decide) (fun K hK => ?_)
        refine goes_ Try.func21 (by kernel_rfl) rfl #[.agg #[.slice A0 xs.length c0, .slice A1 xs2.length c1], .agg #[.slice B0 ys.length d0, .slice B1 ys2.length d1]] (by rfl) rfl rfl (by (try simp only [List.map_toArray, List.map_cons, List.map_nil]); first | done | rfl) ?_
        with_reducible refine (of_t m m2 true xs xs2 ys ys2 La0.out La1.out Mab.out _ _ _ _ _ _ _ _ _ (Kd.C_below (Kd.C_below Ha0.out XHB.out) E0.out) (Kd.C_below (Kd.C_below Ha1.out XHB.out) E0.out) (Kd.C_below (Kd.C_below Hb0.out XHB.out) E0.out) (Kd.C_below (Kd.C_below Hb1.out XHB.out) E0.out)).mono ?_
        rintro e W1 ⟨P10, P11, p10, p11, rfl, u10, u11, s10, s11, D1⟩
        refine ⟨_, rfl, ?_⟩
        have E1 := Aside0.mk (below_step E0.out D1)
        refine hK.out _ _ D1 (fun _ => behind_ D1 ?_)
        clear hK K
        refine norm_ (a' := ?_) ?_ ?_
        rotate_left
        · show Act.put _ (some 57) _ = _
          simp only [Act.put, List.setIfInBounds_toArray, List.set_cons_zero, List.set_cons_succ, i64_w, i32_w]
          rfl
        refine one_ (i := 9) (N := some 59) #[true, true, true, true, true, true, true, true, true, true, true, true, true, false, false, false, false, false] rfl rfl (by kernel_rfl) (by decide) (fun K hK => ?_)
        refine goes_ Try.func21 (by kernel_rfl) rfl #[.agg #[.slice P10 m.length p10, .slice P11 m2.length p11], .agg #[.slice C0 zs.length g0, .slice C1 zs2.length g1]] (by rfl) rfl rfl (by (try simp only [List.map_toArray, List.map_cons, List.map_nil]); first | done | rfl) ?_
        with_reducible refine (of_t t t2 k m m2 zs zs2 Lm0.out Lm1.out MMC.out _ _ _ _ _ _ _ _ _ s10 s11 (Kd.C_below (Kd.C_below Hc0.out XHB.out) E1.out) (Kd.C_below (Kd.C_below Hc1.out XHB.out) E1.out)).mono ?_
        rintro e W2 ⟨P20, P21, p20, p21, rfl, u20, u21, s20, s21, D2⟩
        refine ⟨_, rfl, ?_⟩
        have E2 := Aside0.mk (below_step E1.out D2)
        refine hK.out _ _ D2 (fun _ => behind_ D2 ?_)
        clear hK K
        refine norm_ (a' := ?_) ?_ ?_
        rotate_left
        · show Act.put _ (some 59) _ = _
          simp only [Act.put, List.setIfInBounds_toArray, List.set_cons_zero, List.set_cons_succ, i64_w, i32_w]
          rfl
        refine one_ (i := 13) (N := some 63) #[true, true, true, true, true, true, true, true, true, true, true, true, true, true, false, false, false, false] rfl rfl (by kernel_rfl) (by decide) (fun K hK => ?_)
        refine goes_ Try.func21 (by kernel_rfl) rfl #[.agg #[.slice B0 ys.length d0, .slice B1 ys2.length d1], .agg #[.slice C0 zs.length g0, .slice C1 zs2.length g1]] (by rfl) rfl rfl (by (try simp only [List.map_toArray, List.map_cons, List.map_nil]); first | done | rfl) ?_
        with_reducible refine (of_t u u2 true ys ys2 zs zs2 Lb0.out Lb1.out Mbc.out _ _ _ _ _ _ _ _ _ (Kd.C_below (Kd.C_below Hb0.out XHB.out) E2.out) (Kd.C_below (Kd.C_below Hb1.out XHB.out) E2.out) (Kd.C_below (Kd.C_below Hc0.out XHB.out) E2.out) (Kd.C_below (Kd.C_below Hc1.out XHB.out) E2.out)).mono ?_
        rintro e W3 ⟨P30, P31, p30, p31, rfl, u30, u31, s30, s31, D3⟩
        refine ⟨_, rfl, ?_⟩
        have E3 := Aside0.mk (below_step E2.out D3)
        refine hK.out _ _ D3 (fun _ => behind_ D3 ?_)
        clear hK K
        refine norm_ (a' := ?_) ?_ ?_
        rotate_left
        · show Act.put _ (some 63) _ = _
          simp only [Act.put, List.setIfInBounds_toArray, List.set_cons_zero, List.set_cons_succ, i64_w, i32_w]
          rfl
        refine one_ (i := 14) (N := some 64) #[true, true, true, true, true, true, true, true, true, true, true, true, true, true, true, false, false, false] rfl rfl (by kernel_rfl) (by decide) (fun K hK => ?_)
        refine goes_ Try.func21 (by kernel_rfl) rfl #[.agg #[.slice A0 xs.length c0, .slice A1 xs2.length c1], .agg #[.slice P30 u.length p30, .slice P31 u2.length p31]] (by rfl) rfl rfl (by (try simp only [List.map_toArray, List.map_cons, List.map_nil]); first | done | rfl) ?_
        with_reducible refine (of_t t t2 k xs xs2 u u2 La0.out La1.out MAU.out _ _ _ _ _ _ _ _ _ (Kd.C_below (Kd.C_below Ha0.out XHB.out) E3.out) (Kd.C_below (Kd.C_below Ha1.out XHB.out) E3.out) s30 s31).mono ?_
        rintro e W4 ⟨P40, P41, p40, p41, rfl, u40, u41, s40, s41, D4⟩
        refine ⟨_, rfl, ?_⟩
        have E4 := Aside0.mk (below_step E3.out D4)
        refine hK.out _ _ D4 (fun _ => behind_ D4 ?_)
        clear hK K
        refine norm_ (a' := ?_) ?_ ?_
        rotate_left
        · show Act.put _ (some 64) _ = _
          simp only [Act.put, List.setIfInBounds_toArray, List.set_cons_zero, List.set_cons_succ, i64_w, i32_w]
          rfl
        refine one_ (i := 15) (N := some 65) #[true, true, true, true, true, true, true, true, true, true, true, true, true, true, true, true, false, false] rfl rfl (by kernel_rfl) (by decide) (fun K hK => ?_)
        refine goes_ Try.func15 (by kernel_rfl) rfl #[.agg #[.slice P20 t.length p20, .slice P21 t2.length p21], .agg #[.slice P40 t.length p40, .slice P41 t2.length p41]] (by rfl) rfl rfl (by (try simp only [List.map_toArray, List.map_cons, List.map_nil]); first | done | rfl) ?_
        with_reducible refine (same_t t t2 t t2 Lt0.out Lt1.out _ _ _ _ _ _ _ _ _ _ Stt.out (Kd.C_below (Kd.C_below s20 D3) D4) (Kd.C_below (Kd.C_below s21 D3) D4) s40 s41 u20 u21 u40 u41).mono ?_
        rintro e W5 ⟨rfl, D5⟩
        refine ⟨_, rfl, ?_⟩
        have E5 := Aside0.mk (below_step E4.out D5)
        refine hK.out _ _ D5 (fun _ => behind_ D5 ?_)
        clear hK K
        refine norm_ (a' := ?_) ?_ ?_
        rotate_left
        · show Act.put _ (some 65) _ = _
          simp only [Act.put, List.setIfInBounds_toArray, List.set_cons_zero, List.set_cons_succ, i64_w, i32_w]
          rfl
        refine pure_ (i := 16) (N := some 66) (v := ?_) (a' := ?_) #[true, true, true, true, true, true, true, true, true, true, true, true, true, true, true, true, true, false] rfl rfl (by kernel_rfl) (fun _ _ _ h => h) (Or.inl ⟨by rfl, ?_⟩) ?_ ?_
        rotate_left
        · intro w'
          go_simp
          with_reducible rfl
        rotate_left
        · simp only [Act.put, List.setIfInBounds_toArray, List.set_cons_zero, List.set_cons_succ, i64_w, i32_w]
          rfl
        refine pure_ (i := 17) (N := some 67) (v := ?_) (a' := ?_) #[true, true, true, true, true, true, true, true, true, true, true, true, true, true, true, true, true, true] rfl rfl (by kernel_rfl) (fun _ _ _ h => h) (Or.inl ⟨by rfl, ?_⟩) ?_ ?_
        rotate_left
        · intro w'
          go_simp
          with_reducible rfl
        rotate_left
        · simp only [Act.put, List.setIfInBounds_toArray, List.set_cons_zero, List.set_cons_succ, i64_w, i32_w]
          rfl
        refine done_ (by kernel_rfl) ?_
        go_wp2_with fail
        go_meet
        exact ⟨rfl, ⟨blk_below BL1.out E5.out⟩, ⟨blk_below BL2.out E5.out⟩, ⟨blk_below BL3.out E5.out⟩, ⟨below_step XHB.out E5.out⟩⟩
  case rest =>
    clear HB BK1 BK2 BK3 Mmc Mau
    obtain ⟨rfl, BK1, BK2, BK3, HB⟩ := hcut
    have hcz1_0 := (blk_cell BK1.out 0).trans (show (#[.slice A0 xs.length c0, .slice A1 xs2.length c1] : Array Value)[0]? = some (.slice A0 xs.length c0) from rfl)
    have hcz1_1 := (blk_cell BK1.out 1).trans (show (#[.slice A0 xs.length c0, .slice A1 xs2.length c1] : Array Value)[1]? = some (.slice A1 xs2.length c1) from rfl)
    have hcz2_0 := (blk_cell BK2.out 0).trans (show (#[.slice B0 ys.length d0, .slice B1 ys2.length d1] : Array Value)[0]? = some (.slice B0 ys.length d0) from rfl)
    have hcz2_1 := (blk_cell BK2.out 1).trans (show (#[.slice B0 ys.length d0, .slice B1 ys2.length d1] : Array Value)[1]? = some (.slice B1 ys2.length d1) from rfl)
    have hcz3_0 := (blk_cell BK3.out 0).trans (show (#[.slice C0 zs.length g0, .slice C1 zs2.length g1] : Array Value)[0]? = some (.slice C0 zs.length g0) from rfl)
    have hcz3_1 := (blk_cell BK3.out 1).trans (show (#[.slice C0 zs.length g0, .slice C1 zs2.length g1] : Array Value)[1]? = some (.slice C1 zs2.length g1) from rfl)
    go_upto_region 9 with fail
    (try clear hcz1_0)
    (try clear hcz1_1)
    (try clear hcz2_0)
    (try clear hcz2_1)
    (try clear hcz3_0)
    (try clear hcz3_1)
    have hcz1_0 := (blk_cell BK1.out 0).trans (show (#[.slice A0 xs.length c0, .slice A1 xs2.length c1] : Array Value)[0]? = some (.slice A0 xs.length c0) from rfl)
    have hcz1_1 := (blk_cell BK1.out 1).trans (show (#[.slice A0 xs.length c0, .slice A1 xs2.length c1] : Array Value)[1]? = some (.slice A1 xs2.length c1) from rfl)
    have hcz2_0 := (blk_cell BK2.out 0).trans (show (#[.slice B0 ys.length d0, .slice B1 ys2.length d1] : Array Value)[0]? = some (.slice B0 ys.length d0) from rfl)
    have hcz2_1 := (blk_cell BK2.out 1).trans (show (#[.slice B0 ys.length d0, .slice B1 ys2.length d1] : Array Value)[1]? = some (.slice B1 ys2.length d1) from rfl)
    have hcz3_0 := (blk_cell BK3.out 0).trans (show (#[.slice C0 zs.length g0, .slice C1 zs2.length g1] : Array Value)[0]? = some (.slice C0 zs.length g0) from rfl)
    have hcz3_1 := (blk_cell BK3.out 1).trans (show (#[.slice C0 zs.length g0, .slice C1 zs2.length g1] : Array Value)[1]? = some (.slice C1 zs2.length g1) from rfl)
    go_cut [81] (fun s wx => s = .bool false ∧ Aside0 (wx.heap[gb1]? = some (.cells #[.slice A0 xs.length c0, .slice A1 xs2.length c1] 24 (0, 0))) ∧ Aside0 (wx.heap[gb2]? = some (.cells #[.slice B0 ys.length d0, .slice B1 ys2.length d1] 24 (0, 0))) ∧ Aside0 (wx.heap[gb3]? = some (.cells #[.slice C0 zs.length g0, .slice C1 zs2.length g1] 24 (0, 0))) ∧ Aside0 (Below w.heap.size w wx))
    case first =>
      cases r1 with
      | false =>
        go_wp2_with (first
          | (go_at_call 13; (with_reducible refine (below_t xs xs2 ys ys2 La0.out La1.out _ _ _ _ _ _ _ _ _ _ Qab.out (by repeat (first | exact (Kd.C_below Ha0.out HB.out) | (with_reducible refine Kd.C_alloc ?_ _) | (with_reducible refine Kd.C_drewN ?_ _) | (with_reducible refine Kd.C_drew ?_))) (by repeat (first | exact (Kd.C_below Ha1.out HB.out) | (with_reducible refine Kd.C_alloc ?_ _) | (with_reducible refine Kd.C_drewN ?_ _) | (with_reducible refine Kd.C_drew ?_))) (by repeat (first | exact (Kd.C_below Hb0.out HB.out) | (with_reducible refine Kd.C_alloc ?_ _) | (with_reducible refine Kd.C_drewN ?_ _) | (with_reducible refine Kd.C_drew ?_))) (by repeat (first | exact (Kd.C_below Hb1.out HB.out) | (with_reducible refine Kd.C_alloc ?_ _) | (with_reducible refine Kd.C_drewN ?_ _) | (with_reducible refine Kd.C_drew ?_)))).mono ?_); rintro e wc ⟨rfl, hb_⟩; have tHB_ := Aside0.mk (below_step (by repeat (first | (with_reducible first | exact HB.out | apply below_alloc | apply pw_below_drewN | apply below_drew1 | apply below_drew) | exact HB.out)) hb_); have bk2_ := Aside0.mk (blk_below (g := gb1) (o := .cells #[.slice A0 xs.length c0, .slice A1 xs2.length c1] 24 (0, 0)) (by (with_reducible repeat (first | refine blk_drewN ?_ _ | refine blk_drew ?_ | refine blk_alloc ?_ _)); exact BK1.out) hb_); clear BK1; have BK1 := bk2_; clear bk2_; have bk2_ := Aside0.mk (blk_below (g := gb2) (o := .cells #[.slice B0 ys.length d0, .slice B1 ys2.length d1] 24 (0, 0)) (by (with_reducible repeat (first | refine blk_drewN ?_ _ | refine blk_drew ?_ | refine blk_alloc ?_ _)); exact BK2.out) hb_); clear BK2; have BK2 := bk2_; clear bk2_; have bk2_ := Aside0.mk (blk_below (g := gb3) (o := .cells #[.slice C0 zs.length g0, .slice C1 zs2.length g1] 24 (0, 0)) (by (with_reducible repeat (first | refine blk_drewN ?_ _ | refine blk_drew ?_ | refine blk_alloc ?_ _)); exact BK3.out) hb_); clear BK3; have BK3 := bk2_; clear bk2_; clear HB; have HB := tHB_; clear tHB_; (try clear hcz1_0); (try clear hcz1_1); (try clear hcz2_0); (try clear hcz2_1); (try clear hcz3_0); (try clear hcz3_1); have hcz1_0 := (blk_cell BK1.out 0).trans (show (#[.slice A0 xs.length c0, .slice A1 xs2.length c1] : Array Value)[0]? = some (.slice A0 xs.length c0) from rfl); have hcz1_1 := (blk_cell BK1.out 1).trans (show (#[.slice A0 xs.length c0, .slice A1 xs2.length c1] : Array Value)[1]? = some (.slice A1 xs2.length c1) from rfl); have hcz2_0 := (blk_cell BK2.out 0).trans (show (#[.slice B0 ys.length d0, .slice B1 ys2.length d1] : Array Value)[0]? = some (.slice B0 ys.length d0) from rfl); have hcz2_1 := (blk_cell BK2.out 1).trans (show (#[.slice B0 ys.length d0, .slice B1 ys2.length d1] : Array Value)[1]? = some (.slice B1 ys2.length d1) from rfl); have hcz3_0 := (blk_cell BK3.out 0).trans (show (#[.slice C0 zs.length g0, .slice C1 zs2.length g1] : Array Value)[0]? = some (.slice C0 zs.length g0) from rfl); have hcz3_1 := (blk_cell BK3.out 1).trans (show (#[.slice C0 zs.length g0, .slice C1 zs2.length g1] : Array Value)[1]? = some (.slice C1 zs2.length g1) from rfl); (try clear hb_)))
        go_meet
        exact ⟨rfl, BK1, BK2, BK3, HB⟩
      | true =>
        cases r2 with
        | false =>
          go_wp2_with (first
            | (go_at_call 13; (with_reducible refine (below_t xs xs2 ys ys2 La0.out La1.out _ _ _ _ _ _ _ _ _ _ Qab.out (by repeat (first | exact (Kd.C_below Ha0.out HB.out) | (with_reducible refine Kd.C_alloc ?_ _) | (with_reducible refine Kd.C_drewN ?_ _) | (with_reducible refine Kd.C_drew ?_))) (by repeat (first | exact (Kd.C_below Ha1.out HB.out) | (with_reducible refine Kd.C_alloc ?_ _) | (with_reducible refine Kd.C_drewN ?_ _) | (with_reducible refine Kd.C_drew ?_))) (by repeat (first | exact (Kd.C_below Hb0.out HB.out) | (with_reducible refine Kd.C_alloc ?_ _) | (with_reducible refine Kd.C_drewN ?_ _) | (with_reducible refine Kd.C_drew ?_))) (by repeat (first | exact (Kd.C_below Hb1.out HB.out) | (with_reducible refine Kd.C_alloc ?_ _) | (with_reducible refine Kd.C_drewN ?_ _) | (with_reducible refine Kd.C_drew ?_)))).mono ?_); rintro e wc ⟨rfl, hb_⟩; have tHB_ := Aside0.mk (below_step (by repeat (first | (with_reducible first | exact HB.out | apply below_alloc | apply pw_below_drewN | apply below_drew1 | apply below_drew) | exact HB.out)) hb_); have bk2_ := Aside0.mk (blk_below (g := gb1) (o := .cells #[.slice A0 xs.length c0, .slice A1 xs2.length c1] 24 (0, 0)) (by (with_reducible repeat (first | refine blk_drewN ?_ _ | refine blk_drew ?_ | refine blk_alloc ?_ _)); exact BK1.out) hb_); clear BK1; have BK1 := bk2_; clear bk2_; have bk2_ := Aside0.mk (blk_below (g := gb2) (o := .cells #[.slice B0 ys.length d0, .slice B1 ys2.length d1] 24 (0, 0)) (by (with_reducible repeat (first | refine blk_drewN ?_ _ | refine blk_drew ?_ | refine blk_alloc ?_ _)); exact BK2.out) hb_); clear BK2; have BK2 := bk2_; clear bk2_; have bk2_ := Aside0.mk (blk_below (g := gb3) (o := .cells #[.slice C0 zs.length g0, .slice C1 zs2.length g1] 24 (0, 0)) (by (with_reducible repeat (first | refine blk_drewN ?_ _ | refine blk_drew ?_ | refine blk_alloc ?_ _)); exact BK3.out) hb_); clear BK3; have BK3 := bk2_; clear bk2_; clear HB; have HB := tHB_; clear tHB_; (try clear hcz1_0); (try clear hcz1_1); (try clear hcz2_0); (try clear hcz2_1); (try clear hcz3_0); (try clear hcz3_1); have hcz1_0 := (blk_cell BK1.out 0).trans (show (#[.slice A0 xs.length c0, .slice A1 xs2.length c1] : Array Value)[0]? = some (.slice A0 xs.length c0) from rfl); have hcz1_1 := (blk_cell BK1.out 1).trans (show (#[.slice A0 xs.length c0, .slice A1 xs2.length c1] : Array Value)[1]? = some (.slice A1 xs2.length c1) from rfl); have hcz2_0 := (blk_cell BK2.out 0).trans (show (#[.slice B0 ys.length d0, .slice B1 ys2.length d1] : Array Value)[0]? = some (.slice B0 ys.length d0) from rfl); have hcz2_1 := (blk_cell BK2.out 1).trans (show (#[.slice B0 ys.length d0, .slice B1 ys2.length d1] : Array Value)[1]? = some (.slice B1 ys2.length d1) from rfl); have hcz3_0 := (blk_cell BK3.out 0).trans (show (#[.slice C0 zs.length g0, .slice C1 zs2.length g1] : Array Value)[0]? = some (.slice C0 zs.length g0) from rfl); have hcz3_1 := (blk_cell BK3.out 1).trans (show (#[.slice C0 zs.length g0, .slice C1 zs2.length g1] : Array Value)[1]? = some (.slice C1 zs2.length g1) from rfl); (try clear hb_))
            | (go_at_call 13; (with_reducible refine (below_t ys ys2 zs zs2 Lb0.out Lb1.out _ _ _ _ _ _ _ _ _ _ Qbc.out (by repeat (first | exact (Kd.C_below Hb0.out HB.out) | (with_reducible refine Kd.C_alloc ?_ _) | (with_reducible refine Kd.C_drewN ?_ _) | (with_reducible refine Kd.C_drew ?_))) (by repeat (first | exact (Kd.C_below Hb1.out HB.out) | (with_reducible refine Kd.C_alloc ?_ _) | (with_reducible refine Kd.C_drewN ?_ _) | (with_reducible refine Kd.C_drew ?_))) (by repeat (first | exact (Kd.C_below Hc0.out HB.out) | (with_reducible refine Kd.C_alloc ?_ _) | (with_reducible refine Kd.C_drewN ?_ _) | (with_reducible refine Kd.C_drew ?_))) (by repeat (first | exact (Kd.C_below Hc1.out HB.out) | (with_reducible refine Kd.C_alloc ?_ _) | (with_reducible refine Kd.C_drewN ?_ _) | (with_reducible refine Kd.C_drew ?_)))).mono ?_); rintro e wc ⟨rfl, hb_⟩; have tHB_ := Aside0.mk (below_step (by repeat (first | (with_reducible first | exact HB.out | apply below_alloc | apply pw_below_drewN | apply below_drew1 | apply below_drew) | exact HB.out)) hb_); have bk2_ := Aside0.mk (blk_below (g := gb1) (o := .cells #[.slice A0 xs.length c0, .slice A1 xs2.length c1] 24 (0, 0)) (by (with_reducible repeat (first | refine blk_drewN ?_ _ | refine blk_drew ?_ | refine blk_alloc ?_ _)); exact BK1.out) hb_); clear BK1; have BK1 := bk2_; clear bk2_; have bk2_ := Aside0.mk (blk_below (g := gb2) (o := .cells #[.slice B0 ys.length d0, .slice B1 ys2.length d1] 24 (0, 0)) (by (with_reducible repeat (first | refine blk_drewN ?_ _ | refine blk_drew ?_ | refine blk_alloc ?_ _)); exact BK2.out) hb_); clear BK2; have BK2 := bk2_; clear bk2_; have bk2_ := Aside0.mk (blk_below (g := gb3) (o := .cells #[.slice C0 zs.length g0, .slice C1 zs2.length g1] 24 (0, 0)) (by (with_reducible repeat (first | refine blk_drewN ?_ _ | refine blk_drew ?_ | refine blk_alloc ?_ _)); exact BK3.out) hb_); clear BK3; have BK3 := bk2_; clear bk2_; clear HB; have HB := tHB_; clear tHB_; (try clear hcz1_0); (try clear hcz1_1); (try clear hcz2_0); (try clear hcz2_1); (try clear hcz3_0); (try clear hcz3_1); have hcz1_0 := (blk_cell BK1.out 0).trans (show (#[.slice A0 xs.length c0, .slice A1 xs2.length c1] : Array Value)[0]? = some (.slice A0 xs.length c0) from rfl); have hcz1_1 := (blk_cell BK1.out 1).trans (show (#[.slice A0 xs.length c0, .slice A1 xs2.length c1] : Array Value)[1]? = some (.slice A1 xs2.length c1) from rfl); have hcz2_0 := (blk_cell BK2.out 0).trans (show (#[.slice B0 ys.length d0, .slice B1 ys2.length d1] : Array Value)[0]? = some (.slice B0 ys.length d0) from rfl); have hcz2_1 := (blk_cell BK2.out 1).trans (show (#[.slice B0 ys.length d0, .slice B1 ys2.length d1] : Array Value)[1]? = some (.slice B1 ys2.length d1) from rfl); have hcz3_0 := (blk_cell BK3.out 0).trans (show (#[.slice C0 zs.length g0, .slice C1 zs2.length g1] : Array Value)[0]? = some (.slice C0 zs.length g0) from rfl); have hcz3_1 := (blk_cell BK3.out 1).trans (show (#[.slice C0 zs.length g0, .slice C1 zs2.length g1] : Array Value)[1]? = some (.slice C1 zs2.length g1) from rfl); (try clear hb_)))
          go_meet
          exact ⟨rfl, BK1, BK2, BK3, HB⟩
        | true =>
          have QAC := Aside0.mk (Qac.out rfl rfl)
          clear Qac
          go_wp2_with (first
            | (go_at_call 13; (with_reducible refine (below_t xs xs2 ys ys2 La0.out La1.out _ _ _ _ _ _ _ _ _ _ Qab.out (by repeat (first | exact (Kd.C_below Ha0.out HB.out) | (with_reducible refine Kd.C_alloc ?_ _) | (with_reducible refine Kd.C_drewN ?_ _) | (with_reducible refine Kd.C_drew ?_))) (by repeat (first | exact (Kd.C_below Ha1.out HB.out) | (with_reducible refine Kd.C_alloc ?_ _) | (with_reducible refine Kd.C_drewN ?_ _) | (with_reducible refine Kd.C_drew ?_))) (by repeat (first | exact (Kd.C_below Hb0.out HB.out) | (with_reducible refine Kd.C_alloc ?_ _) | (with_reducible refine Kd.C_drewN ?_ _) | (with_reducible refine Kd.C_drew ?_))) (by repeat (first | exact (Kd.C_below Hb1.out HB.out) | (with_reducible refine Kd.C_alloc ?_ _) | (with_reducible refine Kd.C_drewN ?_ _) | (with_reducible refine Kd.C_drew ?_)))).mono ?_); rintro e wc ⟨rfl, hb_⟩; have tHB_ := Aside0.mk (below_step (by repeat (first | (with_reducible first | exact HB.out | apply below_alloc | apply pw_below_drewN | apply below_drew1 | apply below_drew) | exact HB.out)) hb_); have bk2_ := Aside0.mk (blk_below (g := gb1) (o := .cells #[.slice A0 xs.length c0, .slice A1 xs2.length c1] 24 (0, 0)) (by (with_reducible repeat (first | refine blk_drewN ?_ _ | refine blk_drew ?_ | refine blk_alloc ?_ _)); exact BK1.out) hb_); clear BK1; have BK1 := bk2_; clear bk2_; have bk2_ := Aside0.mk (blk_below (g := gb2) (o := .cells #[.slice B0 ys.length d0, .slice B1 ys2.length d1] 24 (0, 0)) (by (with_reducible repeat (first | refine blk_drewN ?_ _ | refine blk_drew ?_ | refine blk_alloc ?_ _)); exact BK2.out) hb_); clear BK2; have BK2 := bk2_; clear bk2_; have bk2_ := Aside0.mk (blk_below (g := gb3) (o := .cells #[.slice C0 zs.length g0, .slice C1 zs2.length g1] 24 (0, 0)) (by (with_reducible repeat (first | refine blk_drewN ?_ _ | refine blk_drew ?_ | refine blk_alloc ?_ _)); exact BK3.out) hb_); clear BK3; have BK3 := bk2_; clear bk2_; clear HB; have HB := tHB_; clear tHB_; (try clear hcz1_0); (try clear hcz1_1); (try clear hcz2_0); (try clear hcz2_1); (try clear hcz3_0); (try clear hcz3_1); have hcz1_0 := (blk_cell BK1.out 0).trans (show (#[.slice A0 xs.length c0, .slice A1 xs2.length c1] : Array Value)[0]? = some (.slice A0 xs.length c0) from rfl); have hcz1_1 := (blk_cell BK1.out 1).trans (show (#[.slice A0 xs.length c0, .slice A1 xs2.length c1] : Array Value)[1]? = some (.slice A1 xs2.length c1) from rfl); have hcz2_0 := (blk_cell BK2.out 0).trans (show (#[.slice B0 ys.length d0, .slice B1 ys2.length d1] : Array Value)[0]? = some (.slice B0 ys.length d0) from rfl); have hcz2_1 := (blk_cell BK2.out 1).trans (show (#[.slice B0 ys.length d0, .slice B1 ys2.length d1] : Array Value)[1]? = some (.slice B1 ys2.length d1) from rfl); have hcz3_0 := (blk_cell BK3.out 0).trans (show (#[.slice C0 zs.length g0, .slice C1 zs2.length g1] : Array Value)[0]? = some (.slice C0 zs.length g0) from rfl); have hcz3_1 := (blk_cell BK3.out 1).trans (show (#[.slice C0 zs.length g0, .slice C1 zs2.length g1] : Array Value)[1]? = some (.slice C1 zs2.length g1) from rfl); (try clear hb_))
            | (go_at_call 13; (with_reducible refine (below_t ys ys2 zs zs2 Lb0.out Lb1.out _ _ _ _ _ _ _ _ _ _ Qbc.out (by repeat (first | exact (Kd.C_below Hb0.out HB.out) | (with_reducible refine Kd.C_alloc ?_ _) | (with_reducible refine Kd.C_drewN ?_ _) | (with_reducible refine Kd.C_drew ?_))) (by repeat (first | exact (Kd.C_below Hb1.out HB.out) | (with_reducible refine Kd.C_alloc ?_ _) | (with_reducible refine Kd.C_drewN ?_ _) | (with_reducible refine Kd.C_drew ?_))) (by repeat (first | exact (Kd.C_below Hc0.out HB.out) | (with_reducible refine Kd.C_alloc ?_ _) | (with_reducible refine Kd.C_drewN ?_ _) | (with_reducible refine Kd.C_drew ?_))) (by repeat (first | exact (Kd.C_below Hc1.out HB.out) | (with_reducible refine Kd.C_alloc ?_ _) | (with_reducible refine Kd.C_drewN ?_ _) | (with_reducible refine Kd.C_drew ?_)))).mono ?_); rintro e wc ⟨rfl, hb_⟩; have tHB_ := Aside0.mk (below_step (by repeat (first | (with_reducible first | exact HB.out | apply below_alloc | apply pw_below_drewN | apply below_drew1 | apply below_drew) | exact HB.out)) hb_); have bk2_ := Aside0.mk (blk_below (g := gb1) (o := .cells #[.slice A0 xs.length c0, .slice A1 xs2.length c1] 24 (0, 0)) (by (with_reducible repeat (first | refine blk_drewN ?_ _ | refine blk_drew ?_ | refine blk_alloc ?_ _)); exact BK1.out) hb_); clear BK1; have BK1 := bk2_; clear bk2_; have bk2_ := Aside0.mk (blk_below (g := gb2) (o := .cells #[.slice B0 ys.length d0, .slice B1 ys2.length d1] 24 (0, 0)) (by (with_reducible repeat (first | refine blk_drewN ?_ _ | refine blk_drew ?_ | refine blk_alloc ?_ _)); exact BK2.out) hb_); clear BK2; have BK2 := bk2_; clear bk2_; have bk2_ := Aside0.mk (blk_below (g := gb3) (o := .cells #[.slice C0 zs.length g0, .slice C1 zs2.length g1] 24 (0, 0)) (by (with_reducible repeat (first | refine blk_drewN ?_ _ | refine blk_drew ?_ | refine blk_alloc ?_ _)); exact BK3.out) hb_); clear BK3; have BK3 := bk2_; clear bk2_; clear HB; have HB := tHB_; clear tHB_; (try clear hcz1_0); (try clear hcz1_1); (try clear hcz2_0); (try clear hcz2_1); (try clear hcz3_0); (try clear hcz3_1); have hcz1_0 := (blk_cell BK1.out 0).trans (show (#[.slice A0 xs.length c0, .slice A1 xs2.length c1] : Array Value)[0]? = some (.slice A0 xs.length c0) from rfl); have hcz1_1 := (blk_cell BK1.out 1).trans (show (#[.slice A0 xs.length c0, .slice A1 xs2.length c1] : Array Value)[1]? = some (.slice A1 xs2.length c1) from rfl); have hcz2_0 := (blk_cell BK2.out 0).trans (show (#[.slice B0 ys.length d0, .slice B1 ys2.length d1] : Array Value)[0]? = some (.slice B0 ys.length d0) from rfl); have hcz2_1 := (blk_cell BK2.out 1).trans (show (#[.slice B0 ys.length d0, .slice B1 ys2.length d1] : Array Value)[1]? = some (.slice B1 ys2.length d1) from rfl); have hcz3_0 := (blk_cell BK3.out 0).trans (show (#[.slice C0 zs.length g0, .slice C1 zs2.length g1] : Array Value)[0]? = some (.slice C0 zs.length g0) from rfl); have hcz3_1 := (blk_cell BK3.out 1).trans (show (#[.slice C0 zs.length g0, .slice C1 zs2.length g1] : Array Value)[1]? = some (.slice C1 zs2.length g1) from rfl); (try clear hb_))
            | (go_at_call 13; (with_reducible refine (below_t xs xs2 zs zs2 La0.out La1.out _ _ _ _ _ _ _ _ _ _ QAC.out (by repeat (first | exact (Kd.C_below Ha0.out HB.out) | (with_reducible refine Kd.C_alloc ?_ _) | (with_reducible refine Kd.C_drewN ?_ _) | (with_reducible refine Kd.C_drew ?_))) (by repeat (first | exact (Kd.C_below Ha1.out HB.out) | (with_reducible refine Kd.C_alloc ?_ _) | (with_reducible refine Kd.C_drewN ?_ _) | (with_reducible refine Kd.C_drew ?_))) (by repeat (first | exact (Kd.C_below Hc0.out HB.out) | (with_reducible refine Kd.C_alloc ?_ _) | (with_reducible refine Kd.C_drewN ?_ _) | (with_reducible refine Kd.C_drew ?_))) (by repeat (first | exact (Kd.C_below Hc1.out HB.out) | (with_reducible refine Kd.C_alloc ?_ _) | (with_reducible refine Kd.C_drewN ?_ _) | (with_reducible refine Kd.C_drew ?_)))).mono ?_); rintro e wc ⟨rfl, hb_⟩; have tHB_ := Aside0.mk (below_step (by repeat (first | (with_reducible first | exact HB.out | apply below_alloc | apply pw_below_drewN | apply below_drew1 | apply below_drew) | exact HB.out)) hb_); have bk2_ := Aside0.mk (blk_below (g := gb1) (o := .cells #[.slice A0 xs.length c0, .slice A1 xs2.length c1] 24 (0, 0)) (by (with_reducible repeat (first | refine blk_drewN ?_ _ | refine blk_drew ?_ | refine blk_alloc ?_ _)); exact BK1.out) hb_); clear BK1; have BK1 := bk2_; clear bk2_; have bk2_ := Aside0.mk (blk_below (g := gb2) (o := .cells #[.slice B0 ys.length d0, .slice B1 ys2.length d1] 24 (0, 0)) (by (with_reducible repeat (first | refine blk_drewN ?_ _ | refine blk_drew ?_ | refine blk_alloc ?_ _)); exact BK2.out) hb_); clear BK2; have BK2 := bk2_; clear bk2_; have bk2_ := Aside0.mk (blk_below (g := gb3) (o := .cells #[.slice C0 zs.length g0, .slice C1 zs2.length g1] 24 (0, 0)) (by (with_reducible repeat (first | refine blk_drewN ?_ _ | refine blk_drew ?_ | refine blk_alloc ?_ _)); exact BK3.out) hb_); clear BK3; have BK3 := bk2_; clear bk2_; clear HB; have HB := tHB_; clear tHB_; (try clear hcz1_0); (try clear hcz1_1); (try clear hcz2_0); (try clear hcz2_1); (try clear hcz3_0); (try clear hcz3_1); have hcz1_0 := (blk_cell BK1.out 0).trans (show (#[.slice A0 xs.length c0, .slice A1 xs2.length c1] : Array Value)[0]? = some (.slice A0 xs.length c0) from rfl); have hcz1_1 := (blk_cell BK1.out 1).trans (show (#[.slice A0 xs.length c0, .slice A1 xs2.length c1] : Array Value)[1]? = some (.slice A1 xs2.length c1) from rfl); have hcz2_0 := (blk_cell BK2.out 0).trans (show (#[.slice B0 ys.length d0, .slice B1 ys2.length d1] : Array Value)[0]? = some (.slice B0 ys.length d0) from rfl); have hcz2_1 := (blk_cell BK2.out 1).trans (show (#[.slice B0 ys.length d0, .slice B1 ys2.length d1] : Array Value)[1]? = some (.slice B1 ys2.length d1) from rfl); have hcz3_0 := (blk_cell BK3.out 0).trans (show (#[.slice C0 zs.length g0, .slice C1 zs2.length g1] : Array Value)[0]? = some (.slice C0 zs.length g0) from rfl); have hcz3_1 := (blk_cell BK3.out 1).trans (show (#[.slice C0 zs.length g0, .slice C1 zs2.length g1] : Array Value)[1]? = some (.slice C1 zs2.length g1) from rfl); (try clear hb_)))
          go_meet
          exact ⟨rfl, BK1, BK2, BK3, HB⟩
    case rest =>
      (try clear HB BK1 BK2 BK3)
      obtain ⟨rfl, BK1, BK2, BK3, HB⟩ := hcut
      have hcz1_0 := (blk_cell BK1.out 0).trans (show (#[.slice A0 xs.length c0, .slice A1 xs2.length c1] : Array Value)[0]? = some (.slice A0 xs.length c0) from rfl)
      have hcz1_1 := (blk_cell BK1.out 1).trans (show (#[.slice A0 xs.length c0, .slice A1 xs2.length c1] : Array Value)[1]? = some (.slice A1 xs2.length c1) from rfl)
      have hcz2_0 := (blk_cell BK2.out 0).trans (show (#[.slice B0 ys.length d0, .slice B1 ys2.length d1] : Array Value)[0]? = some (.slice B0 ys.length d0) from rfl)
      have hcz2_1 := (blk_cell BK2.out 1).trans (show (#[.slice B0 ys.length d0, .slice B1 ys2.length d1] : Array Value)[1]? = some (.slice B1 ys2.length d1) from rfl)
      have hcz3_0 := (blk_cell BK3.out 0).trans (show (#[.slice C0 zs.length g0, .slice C1 zs2.length g1] : Array Value)[0]? = some (.slice C0 zs.length g0) from rfl)
      have hcz3_1 := (blk_cell BK3.out 1).trans (show (#[.slice C0 zs.length g0, .slice C1 zs2.length g1] : Array Value)[1]? = some (.slice C1 zs2.length g1) from rfl)
      go_upto_region 11 with fail
      (try clear hcz1_0)
      (try clear hcz1_1)
      (try clear hcz2_0)
      (try clear hcz2_1)
      (try clear hcz3_0)
      (try clear hcz3_1)
      cases r1 with
      | false =>
        have SAB : Aside0 (sam xs xs2 ys ys2 = false) := ⟨Sab.out⟩
        clear Sab
        refine startB_ (n := 26) #[false, false, false, false, false, false, false, false, false, false, false, false, false, false, false, false, false, false, false, false, false, false, false, false, false, false] (by kernel_rfl) rfl rfl (fun W0 D0 => ?_)
        have E0 := Aside0.mk (Below.refl W0.heap.size W0)
        have BL1 := Aside0.mk (blk_below BK1.out D0)
        have BL2 := Aside0.mk (blk_below BK2.out D0)
        have BL3 := Aside0.mk (blk_below BK3.out D0)
        have XHB := Aside0.mk (below_step HB.out D0)
        refine take_ (i := 0) (N := some 82) (v := ?_) (a' := ?_) #[true, false, false, false, false, false, false, false, false, false, false, false, false, false, false, false, false, false, false, false, false, false, false, false, false, false] rfl rfl (by kernel_rfl) (fun _ _ _ h => h) (Or.inl ⟨by rfl, ?_⟩) (Below.refl _ _) ?_ ?_
        rotate_left
        · intro w' hS
          have hd_ := below_step E0.out hS
          have hy0 := (blk_cell (blk_below BL1.out hd_) 0).trans (show (#[.slice A0 xs.length c0, .slice A1 xs2.length c1] : Array Value)[0]? = some (.slice A0 xs.length c0) from rfl)
          have hy1 := (blk_cell (blk_below BL1.out hd_) 1).trans (show (#[.slice A0 xs.length c0, .slice A1 xs2.length c1] : Array Value)[1]? = some (.slice A1 xs2.length c1) from rfl)
          go_simp
          with_reducible rfl
        rotate_left
        · simp only [Act.put, List.setIfInBounds_toArray, List.set_cons_zero, List.set_cons_succ, i64_w, i32_w]
          rfl
        refine take_ (i := 1) (N := some 83) (v := ?_) (a' := ?_) #[true, true, false, false, false, false, false, false, false, false, false, false, false, false, false, false, false, false, false, false, false, false, false, false, false, false] rfl rfl (by kernel_rfl) (fun _ _ _ h => h) (Or.inl ⟨by rfl, ?_⟩) (Below.refl _ _) ?_ ?_
        rotate_left
        · intro w' hS
          have hd_ := below_step E0.out hS
          have hy0 := (blk_cell (blk_below BL2.out hd_) 0).trans (show (#[.slice B0 ys.length d0, .slice B1 ys2.length d1] : Array Value)[0]? = some (.slice B0 ys.length d0) from rfl)
          have hy1 := (blk_cell (blk_below BL2.out hd_) 1).trans (show (#[.slice B0 ys.length d0, .slice B1 ys2.length d1] : Array Value)[1]? = some (.slice B1 ys2.length d1) from rfl)
          go_simp
          with_reducible rfl
        rotate_left
        · simp only [Act.put, List.setIfInBounds_toArray, List.set_cons_zero, List.set_cons_succ, i64_w, i32_w]
          rfl
        refine take_ (i := 8) (N := some 90) (v := ?_) (a' := ?_) #[true, true, false, false, false, false, false, false, true, false, false, false, false, false, false, false, false, false, false, false, false, false, false, false, false, false] rfl rfl (by kernel_rfl) (fun _ _ _ h => h) (Or.inl ⟨by rfl, ?_⟩) (Below.refl _ _) ?_ ?_
        rotate_left
        · intro w' hS
          have hd_ := below_step E0.out hS
          have hy0 := (blk_cell (blk_below BL1.out hd_) 0).trans (show (#[.slice A0 xs.length c0, .slice A1 xs2.length c1] : Array Value)[0]? = some (.slice A0 xs.length c0) from rfl)
          have hy1 := (blk_cell (blk_below BL1.out hd_) 1).trans (show (#[.slice A0 xs.length c0, .slice A1 xs2.length c1] : Array Value)[1]? = some (.slice A1 xs2.length c1) from rfl)
          go_simp
          with_reducible rfl
        rotate_left
        · simp only [Act.put, List.setIfInBounds_toArray, List.set_cons_zero, List.set_cons_succ, i64_w, i32_w]
          rfl
        refine take_ (i := 9) (N := some 91) (v := ?_) (a' := ?_) #[true, true, false, false, false, false, false, false, true, true, false, false, false, false, false, false, false, false, false, false, false, false, false, false, false, false] rfl rfl (by kernel_rfl) (fun _ _ _ h => h) (Or.inl ⟨by rfl, ?_⟩) (Below.refl _ _) ?_ ?_
        rotate_left
        · intro w' hS
          have hd_ := below_step E0.out hS
          have hy0 := (blk_cell (blk_below BL2.out hd_) 0).trans (show (#[.slice B0 ys.length d0, .slice B1 ys2.length d1] : Array Value)[0]? = some (.slice B0 ys.length d0) from rfl)
          have hy1 := (blk_cell (blk_below BL2.out hd_) 1).trans (show (#[.slice B0 ys.length d0, .slice B1 ys2.length d1] : Array Value)[1]? = some (.slice B1 ys2.length d1) from rfl)
          go_simp
          with_reducible rfl
        rotate_left
        · simp only [Act.put, List.setIfInBounds_toArray, List.set_cons_zero, List.set_cons_succ, i64_w, i32_w]
          rfl
        refine one_ (i := 2) (N := some 84) #[true, true, true, false, false, false, false, false, true, true, false, false, false, false, false, false, false, false, false, false, false, false, false, false, false, false] rfl rfl (by kernel_rfl) (by decide) (fun K hK => ?_)
        refine goes_ Try.func13 (by kernel_rfl) rfl #[.agg #[.slice A0 xs.length c0, .slice A1 xs2.length c1], .agg #[.slice B0 ys.length d0, .slice B1 ys2.length d1]] (by rfl) rfl rfl (by (try simp only [List.map_toArray, List.map_cons, List.map_nil]); first | done | rfl) ?_
        with_reducible refine (below_t xs xs2 ys ys2 La0.out La1.out _ _ _ _ _ _ _ _ _ _ Qab.out (Kd.C_below (Kd.C_below Ha0.out XHB.out) E0.out) (Kd.C_below (Kd.C_below Ha1.out XHB.out) E0.out) (Kd.C_below (Kd.C_below Hb0.out XHB.out) E0.out) (Kd.C_below (Kd.C_below Hb1.out XHB.out) E0.out)).mono ?_
        rintro e W1 ⟨rfl, D1⟩
        refine ⟨_, rfl, ?_⟩
        have E1 := Aside0.mk (below_step E0.out D1)
        refine hK.out _ _ D1 (fun _ => behind_ D1 ?_)
        clear hK K
        refine norm_ (a' := ?_) ?_ ?_
        rotate_left
        · show Act.put _ (some 84) _ = _
          simp only [Act.put, List.setIfInBounds_toArray, List.set_cons_zero, List.set_cons_succ, i64_w, i32_w]
          rfl
        refine pure_ (i := 3) (N := some 85) (v := ?_) (a' := ?_) #[true, true, true, true, false, false, false, false, true, true, false, false, false, false, false, false, false, false, false, false, false, false, false, false, false, false] rfl rfl (by kernel_rfl) (fun _ _ _ h => h) (Or.inl ⟨by rfl, ?_⟩) ?_ ?_
        rotate_left
        · intro w'
          go_simp
          with_reducible rfl
        rotate_left
        · simp only [Act.put, List.setIfInBounds_toArray, List.set_cons_zero, List.set_cons_succ, i64_w, i32_w]
          rfl
        refine pure_ (i := 4) (N := some 86) (v := undef) (a' := ?_) #[true, true, true, true, true, false, false, false, true, true, false, false, false, false, false, false, false, false, false, false, false, false, false, false, false, false] rfl rfl (by kernel_rfl) (fun _ _ _ h => h) (Or.inr ⟨by rfl, rfl⟩) ?_ ?_
        rotate_left
        · simp only [Act.put, List.setIfInBounds_toArray, List.set_cons_zero, List.set_cons_succ, i64_w, i32_w]
          rfl
        refine pure_ (i := 5) (N := some 87) (v := undef) (a' := ?_) #[true, true, true, true, true, true, false, false, true, true, false, false, false, false, false, false, false, false, false, false, false, false, false, false, false, false] rfl rfl (by kernel_rfl) (fun _ _ _ h => h) (Or.inr ⟨by rfl, rfl⟩) ?_ ?_
        rotate_left
        · simp only [Act.put, List.setIfInBounds_toArray, List.set_cons_zero, List.set_cons_succ, i64_w, i32_w]
          rfl
        refine pure_ (i := 6) (N := some 88) (v := undef) (a' := ?_) #[true, true, true, true, true, true, true, false, true, true, false, false, false, false, false, false, false, false, false, false, false, false, false, false, false, false] rfl rfl (by kernel_rfl) (fun _ _ _ h => h) (Or.inr ⟨by rfl, rfl⟩) ?_ ?_
        rotate_left
        · simp only [Act.put, List.setIfInBounds_toArray, List.set_cons_zero, List.set_cons_succ, i64_w, i32_w]
          rfl
        refine pure_ (i := 7) (N := some 89) (v := ?_) (a' := ?_) #[true, true, true, true, true, true, true, true, true, true, false, false, false, false, false, false, false, false, false, false, false, false, false, false, false, false] rfl rfl (by kernel_rfl) (fun _ _ _ h => h) (Or.inl ⟨by rfl, ?_⟩) ?_ ?_
        rotate_left
        · intro w'
          go_simp
          with_reducible rfl
        rotate_left
        · simp only [Act.put, List.setIfInBounds_toArray, List.set_cons_zero, List.set_cons_succ, i64_w, i32_w]
          rfl
        refine one_ (i := 10) (N := some 92) #[true, true, true, true, true, true, true, true, true, true, true, false, false, false, false, false, false, false, false, false, false, false, false, false, false, false] rfl rfl (by kernel_rfl) (by decide) (fun K hK => ?_)
        refine goes_ Try.func15 (by kernel_rfl) rfl #[.agg #[.slice A0 xs.length c0, .slice A1 xs2.length c1], .agg #[.slice B0 ys.length d0, .slice B1 ys2.length d1]] (by rfl) rfl rfl (by (try simp only [List.map_toArray, List.map_cons, List.map_nil]); first | done | rfl) ?_
        with_reducible refine (same_t xs xs2 ys ys2 La0.out La1.out _ _ _ _ _ _ _ _ _ _ SAB.out (Kd.C_below (Kd.C_below Ha0.out XHB.out) E1.out) (Kd.C_below (Kd.C_below Ha1.out XHB.out) E1.out) (Kd.C_below (Kd.C_below Hb0.out XHB.out) E1.out) (Kd.C_below (Kd.C_below Hb1.out XHB.out) E1.out) Ka0.out Ka1.out Kb0.out Kb1.out).mono ?_
        rintro e W2 ⟨rfl, D2⟩
        refine ⟨_, rfl, ?_⟩
        have E2 := Aside0.mk (below_step E1.out D2)
        refine hK.out _ _ D2 (fun _ => behind_ D2 ?_)
        clear hK K
        refine norm_ (a' := ?_) ?_ ?_
        rotate_left
        · show Act.put _ (some 92) _ = _
          simp only [Act.put, List.setIfInBounds_toArray, List.set_cons_zero, List.set_cons_succ, i64_w, i32_w]
          rfl
        refine pure_ (i := 11) (N := some 93) (v := ?_) (a' := ?_) #[true, true, true, true, true, true, true, true, true, true, true, true, false, false, false, false, false, false, false, false, false, false, false, false, false, false] rfl rfl (by kernel_rfl) (fun _ _ _ h => h) (Or.inl ⟨by rfl, ?_⟩) ?_ ?_
        rotate_left
        · intro w'
          go_simp
          with_reducible rfl
        rotate_left
        · simp only [Act.put, List.setIfInBounds_toArray, List.set_cons_zero, List.set_cons_succ, i64_w, i32_w]
          rfl
        refine pure_ (i := 12) (N := some 94) (v := ?_) (a' := ?_) #[true, true, true, true, true, true, true, true, true, true, true, true, true, false, false, false, false, false, false, false, false, false, false, false, false, false] rfl rfl (by kernel_rfl) (fun _ _ _ h => h) (Or.inl ⟨by rfl, ?_⟩) ?_ ?_
        rotate_left
        · intro w'
          go_simp
          with_reducible rfl
        rotate_left
        · simp only [Act.put, List.setIfInBounds_toArray, List.set_cons_zero, List.set_cons_succ, i64_w, i32_w]
          rfl
        refine take_ (i := 13) (N := some 95) (v := ?_) (a' := ?_) #[true, true, true, true, true, true, true, true, true, true, true, true, true, true, false, false, false, false, false, false, false, false, false, false, false, false] rfl rfl (by kernel_rfl) (fun _ _ _ h => h) (Or.inl ⟨by rfl, ?_⟩) (Below.refl _ _) ?_ ?_
        rotate_left
        · intro w' hS
          have hd_ := below_step E2.out hS
          have hy0 := (blk_cell (blk_below BL1.out hd_) 0).trans (show (#[.slice A0 xs.length c0, .slice A1 xs2.length c1] : Array Value)[0]? = some (.slice A0 xs.length c0) from rfl)
          have hy1 := (blk_cell (blk_below BL1.out hd_) 1).trans (show (#[.slice A0 xs.length c0, .slice A1 xs2.length c1] : Array Value)[1]? = some (.slice A1 xs2.length c1) from rfl)
          go_simp
          with_reducible rfl
        rotate_left
        · simp only [Act.put, List.setIfInBounds_toArray, List.set_cons_zero, List.set_cons_succ, i64_w, i32_w]
          rfl
        refine take_ (i := 14) (N := some 96) (v := ?_) (a' := ?_) #[true, true, true, true, true, true, true, true, true, true, true, true, true, true, true, false, false, false, false, false, false, false, false, false, false, false] rfl rfl (by kernel_rfl) (fun _ _ _ h => h) (Or.inl ⟨by rfl, ?_⟩) (Below.refl _ _) ?_ ?_
        rotate_left
        · intro w' hS
          have hd_ := below_step E2.out hS
          have hy0 := (blk_cell (blk_below BL1.out hd_) 0).trans (show (#[.slice A0 xs.length c0, .slice A1 xs2.length c1] : Array Value)[0]? = some (.slice A0 xs.length c0) from rfl)
          have hy1 := (blk_cell (blk_below BL1.out hd_) 1).trans (show (#[.slice A0 xs.length c0, .slice A1 xs2.length c1] : Array Value)[1]? = some (.slice A1 xs2.length c1) from rfl)
          go_simp
          with_reducible rfl
        rotate_left
        · simp only [Act.put, List.setIfInBounds_toArray, List.set_cons_zero, List.set_cons_succ, i64_w, i32_w]
          rfl
        refine one_ (i := 15) (N := some 97) #[true, true, true, true, true, true, true, true, true, true, true, true, true, true, true, true, false, false, false, false, false, false, false, false, false, false] rfl rfl (by kernel_rfl) (by decide) (fun K hK => ?_)
        refine goes_ Try.func13 (by kernel_rfl) rfl #[.agg #[.slice A0 xs.length c0, .slice A1 xs2.length c1], .agg #[.slice A0 xs.length c0, .slice A1 xs2.length c1]] (by rfl) rfl rfl (by (try simp only [List.map_toArray, List.map_cons, List.map_nil]); first | done | rfl) ?_
        with_reducible refine (below_t xs xs2 xs xs2 La0.out La1.out _ _ _ _ _ _ _ _ _ _ Qaa.out (Kd.C_below (Kd.C_below Ha0.out XHB.out) E2.out) (Kd.C_below (Kd.C_below Ha1.out XHB.out) E2.out) (Kd.C_below (Kd.C_below Ha0.out XHB.out) E2.out) (Kd.C_below (Kd.C_below Ha1.out XHB.out) E2.out)).mono ?_
        rintro e W3 ⟨rfl, D3⟩
        refine ⟨_, rfl, ?_⟩
        have E3 := Aside0.mk (below_step E2.out D3)
        refine hK.out _ _ D3 (fun _ => behind_ D3 ?_)
        clear hK K
        refine norm_ (a' := ?_) ?_ ?_
        rotate_left
        · show Act.put _ (some 97) _ = _
          simp only [Act.put, List.setIfInBounds_toArray, List.set_cons_zero, List.set_cons_succ, i64_w, i32_w]
          rfl
        refine pure_ (i := 16) (N := some 98) (v := ?_) (a' := ?_) #[true, true, true, true, true, true, true, true, true, true, true, true, true, true, true, true, true, false, false, false, false, false, false, false, false, false] rfl rfl (by kernel_rfl) (fun _ _ _ h => h) (Or.inl ⟨by rfl, ?_⟩) ?_ ?_
        rotate_left
        · intro w'
          go_simp
          with_reducible rfl
        rotate_left
        · simp only [Act.put, List.setIfInBounds_toArray, List.set_cons_zero, List.set_cons_succ, i64_w, i32_w]
          rfl
        refine pure_ (i := 17) (N := some 99) (v := ?_) (a' := ?_) #[true, true, true, true, true, true, true, true, true, true, true, true, true, true, true, true, true, true, false, false, false, false, false, false, false, false] rfl rfl (by kernel_rfl) (fun _ _ _ h => h) (Or.inl ⟨by rfl, ?_⟩) ?_ ?_
        rotate_left
        · intro w'
          go_simp
          with_reducible rfl
        rotate_left
        · simp only [Act.put, List.setIfInBounds_toArray, List.set_cons_zero, List.set_cons_succ, i64_w, i32_w]
          rfl
        refine take_ (i := 18) (N := some 100) (v := ?_) (a' := ?_) #[true, true, true, true, true, true, true, true, true, true, true, true, true, true, true, true, true, true, true, false, false, false, false, false, false, false] rfl rfl (by kernel_rfl) (fun _ _ _ h => h) (Or.inl ⟨by rfl, ?_⟩) (Below.refl _ _) ?_ ?_
        rotate_left
        · intro w' hS
          have hd_ := below_step E3.out hS
          have hy0 := (blk_cell (blk_below BL1.out hd_) 0).trans (show (#[.slice A0 xs.length c0, .slice A1 xs2.length c1] : Array Value)[0]? = some (.slice A0 xs.length c0) from rfl)
          have hy1 := (blk_cell (blk_below BL1.out hd_) 1).trans (show (#[.slice A0 xs.length c0, .slice A1 xs2.length c1] : Array Value)[1]? = some (.slice A1 xs2.length c1) from rfl)
          go_simp
          with_reducible rfl
        rotate_left
        · simp only [Act.put, List.setIfInBounds_toArray, List.set_cons_zero, List.set_cons_succ, i64_w, i32_w]
          rfl
        refine take_ (i := 19) (N := some 101) (v := ?_) (a' := ?_) #[true, true, true, true, true, true, true, true, true, true, true, true, true, true, true, true, true, true, true, true, false, false, false, false, false, false] rfl rfl (by kernel_rfl) (fun _ _ _ h => h) (Or.inl ⟨by rfl, ?_⟩) (Below.refl _ _) ?_ ?_
        rotate_left
        · intro w' hS
          have hd_ := below_step E3.out hS
          have hy0 := (blk_cell (blk_below BL1.out hd_) 0).trans (show (#[.slice A0 xs.length c0, .slice A1 xs2.length c1] : Array Value)[0]? = some (.slice A0 xs.length c0) from rfl)
          have hy1 := (blk_cell (blk_below BL1.out hd_) 1).trans (show (#[.slice A0 xs.length c0, .slice A1 xs2.length c1] : Array Value)[1]? = some (.slice A1 xs2.length c1) from rfl)
          go_simp
          with_reducible rfl
        rotate_left
        · simp only [Act.put, List.setIfInBounds_toArray, List.set_cons_zero, List.set_cons_succ, i64_w, i32_w]
          rfl
        refine one_ (i := 20) (N := some 102) #[true, true, true, true, true, true, true, true, true, true, true, true, true, true, true, true, true, true, true, true, true, false, false, false, false, false] rfl rfl (by kernel_rfl) (by decide) (fun K hK => ?_)
        refine goes_ Try.func15 (by kernel_rfl) rfl #[.agg #[.slice A0 xs.length c0, .slice A1 xs2.length c1], .agg #[.slice A0 xs.length c0, .slice A1 xs2.length c1]] (by rfl) rfl rfl (by (try simp only [List.map_toArray, List.map_cons, List.map_nil]); first | done | rfl) ?_
        with_reducible refine (same_t xs xs2 xs xs2 La0.out La1.out _ _ _ _ _ _ _ _ _ _ Saa.out (Kd.C_below (Kd.C_below Ha0.out XHB.out) E3.out) (Kd.C_below (Kd.C_below Ha1.out XHB.out) E3.out) (Kd.C_below (Kd.C_below Ha0.out XHB.out) E3.out) (Kd.C_below (Kd.C_below Ha1.out XHB.out) E3.out) Ka0.out Ka1.out Ka0.out Ka1.out).mono ?_
        rintro e W4 ⟨rfl, D4⟩
        refine ⟨_, rfl, ?_⟩
        have E4 := Aside0.mk (below_step E3.out D4)
        refine hK.out _ _ D4 (fun _ => behind_ D4 ?_)
        clear hK K
        refine norm_ (a' := ?_) ?_ ?_
        rotate_left
        · show Act.put _ (some 102) _ = _
          simp only [Act.put, List.setIfInBounds_toArray, List.set_cons_zero, List.set_cons_succ, i64_w, i32_w]
          rfl
        refine pure_ (i := 21) (N := some 103) (v := ?_) (a' := ?_) #[true, true, true, true, true, true, true, true, true, true, true, true, true, true, true, true, true, true, true, true, true, true, false, false, false, false] rfl rfl (by kernel_rfl) (fun _ _ _ h => h) (Or.inl ⟨by rfl, ?_⟩) ?_ ?_
        rotate_left
        · intro w'
          go_simp
          with_reducible rfl
        rotate_left
        · simp only [Act.put, List.setIfInBounds_toArray, List.set_cons_zero, List.set_cons_succ, i64_w, i32_w]
          rfl
        refine pure_ (i := 22) (N := some 104) (v := ?_) (a' := ?_) #[true, true, true, true, true, true, true, true, true, true, true, true, true, true, true, true, true, true, true, true, true, true, true, false, false, false] rfl rfl (by kernel_rfl) (fun _ _ _ h => h) (Or.inl ⟨by rfl, ?_⟩) ?_ ?_
        rotate_left
        · intro w'
          go_simp
          with_reducible rfl
        rotate_left
        · simp only [Act.put, List.setIfInBounds_toArray, List.set_cons_zero, List.set_cons_succ, i64_w, i32_w]
          rfl
        refine one_ (i := 23) (N := some 105) #[true, true, true, true, true, true, true, true, true, true, true, true, true, true, true, true, true, true, true, true, true, true, true, true, false, false] rfl rfl (by kernel_rfl) (by decide) (fun K hK => ?_)
        refine goes_ Try.func8 (by kernel_rfl) rfl #[] (by rfl) rfl rfl (by (try simp only [List.map_toArray, List.map_cons, List.map_nil]); first | done | rfl) ?_
        with_reducible refine (works_b _).mono ?_
        rintro e W5 ⟨rfl, D5⟩
        refine ⟨_, rfl, ?_⟩
        have E5 := Aside0.mk (below_step E4.out D5)
        refine hK.out _ _ D5 (fun _ => behind_ D5 ?_)
        clear hK K
        refine norm_ (a' := ?_) ?_ ?_
        rotate_left
        · show Act.put _ (some 105) _ = _
          simp only [Act.put, List.setIfInBounds_toArray, List.set_cons_zero, List.set_cons_succ, i64_w, i32_w]
          rfl
        refine pure_ (i := 24) (N := some 106) (v := ?_) (a' := ?_) #[true, true, true, true, true, true, true, true, true, true, true, true, true, true, true, true, true, true, true, true, true, true, true, true, true, false] rfl rfl (by kernel_rfl) (fun _ _ _ h => h) (Or.inl ⟨by rfl, ?_⟩) ?_ ?_
        rotate_left
        · intro w'
          go_simp
          with_reducible rfl
        rotate_left
        · simp only [Act.put, List.setIfInBounds_toArray, List.set_cons_zero, List.set_cons_succ, i64_w, i32_w]
          rfl
        refine pure_ (i := 25) (N := some 6) (v := ?_) (a' := ?_) #[true, true, true, true, true, true, true, true, true, true, true, true, true, true, true, true, true, true, true, true, true, true, true, true, true, true] rfl rfl (by kernel_rfl) (fun _ _ _ h => h) (Or.inl ⟨by rfl, ?_⟩) ?_ ?_
        rotate_left
        · intro w'
          go_simp
          with_reducible rfl
        rotate_left
        · simp only [Act.put, List.setIfInBounds_toArray, List.set_cons_zero, List.set_cons_succ, i64_w, i32_w]
          rfl
        refine done_ (by kernel_rfl) ?_
        go_wp2
        go_ret
        exact ⟨by first | rfl | (simp; done), below_step XHB.out E5.out⟩
      | true =>
        cases r3 with
        | false =>
          have SAB : Aside0 (sam xs xs2 ys ys2 = false) := ⟨Sab.out⟩
          clear Sab
          refine startB_ (n := 26) #[false, false, false, false, false, false, false, false, false, false, false, false, false, false, false, false, false, false, false, false, false, false, false, false, false, false] (by kernel_rfl) rfl rfl (fun W0 D0 => ?_)
          have E0 := Aside0.mk (Below.refl W0.heap.size W0)
          have BL1 := Aside0.mk (blk_below BK1.out D0)
          have BL2 := Aside0.mk (blk_below BK2.out D0)
          have BL3 := Aside0.mk (blk_below BK3.out D0)
          have XHB := Aside0.mk (below_step HB.out D0)
          refine take_ (i := 0) (N := some 82) (v := ?_) (a' := ?_) #[true, false, false, false, false, false, false, false, false, false, false, false, false, false, false, false, false, false, false, false, false, false, false, false, false, false] rfl rfl (by kernel_rfl) (fun _ _ _ h => h) (Or.inl ⟨by rfl, ?_⟩) (Below.refl _ _) ?_ ?_
          rotate_left
          · intro w' hS
            have hd_ := below_step E0.out hS
            have hy0 := (blk_cell (blk_below BL1.out hd_) 0).trans (show (#[.slice A0 xs.length c0, .slice A1 xs2.length c1] : Array Value)[0]? = some (.slice A0 xs.length c0) from rfl)
            have hy1 := (blk_cell (blk_below BL1.out hd_) 1).trans (show (#[.slice A0 xs.length c0, .slice A1 xs2.length c1] : Array Value)[1]? = some (.slice A1 xs2.length c1) from rfl)
            go_simp
            with_reducible rfl
          rotate_left
          · simp only [Act.put, List.setIfInBounds_toArray, List.set_cons_zero, List.set_cons_succ, i64_w, i32_w]
            rfl
          refine take_ (i := 1) (N := some 83) (v := ?_) (a' := ?_) #[true, true, false, false, false, false, false, false, false, false, false, false, false, false, false, false, false, false, false, false, false, false, false, false, false, false] rfl rfl (by kernel_rfl) (fun _ _ _ h => h) (Or.inl ⟨by rfl, ?_⟩) (Below.refl _ _) ?_ ?_
          rotate_left
          · intro w' hS
            have hd_ := below_step E0.out hS
            have hy0 := (blk_cell (blk_below BL2.out hd_) 0).trans (show (#[.slice B0 ys.length d0, .slice B1 ys2.length d1] : Array Value)[0]? = some (.slice B0 ys.length d0) from rfl)
            have hy1 := (blk_cell (blk_below BL2.out hd_) 1).trans (show (#[.slice B0 ys.length d0, .slice B1 ys2.length d1] : Array Value)[1]? = some (.slice B1 ys2.length d1) from rfl)
            go_simp
            with_reducible rfl
          rotate_left
          · simp only [Act.put, List.setIfInBounds_toArray, List.set_cons_zero, List.set_cons_succ, i64_w, i32_w]
            rfl
          refine take_ (i := 8) (N := some 90) (v := ?_) (a' := ?_) #[true, true, false, false, false, false, false, false, true, false, false, false, false, false, false, false, false, false, false, false, false, false, false, false, false, false] rfl rfl (by kernel_rfl) (fun _ _ _ h => h) (Or.inl ⟨by rfl, ?_⟩) (Below.refl _ _) ?_ ?_
          rotate_left
          · intro w' hS
            have hd_ := below_step E0.out hS
            have hy0 := (blk_cell (blk_below BL1.out hd_) 0).trans (show (#[.slice A0 xs.length c0, .slice A1 xs2.length c1] : Array Value)[0]? = some (.slice A0 xs.length c0) from rfl)
            have hy1 := (blk_cell (blk_below BL1.out hd_) 1).trans (show (#[.slice A0 xs.length c0, .slice A1 xs2.length c1] : Array Value)[1]? = some (.slice A1 xs2.length c1) from rfl)
            go_simp
            with_reducible rfl
          rotate_left
          · simp only [Act.put, List.setIfInBounds_toArray, List.set_cons_zero, List.set_cons_succ, i64_w, i32_w]
            rfl
          refine take_ (i := 9) (N := some 91) (v := ?_) (a' := ?_) #[true, true, false, false, false, false, false, false, true, true, false, false, false, false, false, false, false, false, false, false, false, false, false, false, false, false] rfl rfl (by kernel_rfl) (fun _ _ _ h => h) (Or.inl ⟨by rfl, ?_⟩) (Below.refl _ _) ?_ ?_
          rotate_left
          · intro w' hS
            have hd_ := below_step E0.out hS
            have hy0 := (blk_cell (blk_below BL2.out hd_) 0).trans (show (#[.slice B0 ys.length d0, .slice B1 ys2.length d1] : Array Value)[0]? = some (.slice B0 ys.length d0) from rfl)
            have hy1 := (blk_cell (blk_below BL2.out hd_) 1).trans (show (#[.slice B0 ys.length d0, .slice B1 ys2.length d1] : Array Value)[1]? = some (.slice B1 ys2.length d1) from rfl)
            go_simp
            with_reducible rfl
          rotate_left
          · simp only [Act.put, List.setIfInBounds_toArray, List.set_cons_zero, List.set_cons_succ, i64_w, i32_w]
            rfl
          refine one_ (i := 2) (N := some 84) #[true, true, true, false, false, false, false, false, true, true, false, false, false, false, false, false, false, false, false, false, false, false, false, false, false, false] rfl rfl (by kernel_rfl) (by decide) (fun K hK => ?_)
          refine goes_ Try.func13 (by kernel_rfl) rfl #[.agg #[.slice A0 xs.length c0, .slice A1 xs2.length c1], .agg #[.slice B0 ys.length d0, .slice B1 ys2.length d1]] (by rfl) rfl rfl (by (try simp only [List.map_toArray, List.map_cons, List.map_nil]); first | done | rfl) ?_
          with_reducible refine (below_t xs xs2 ys ys2 La0.out La1.out _ _ _ _ _ _ _ _ _ _ Qab.out (Kd.C_below (Kd.C_below Ha0.out XHB.out) E0.out) (Kd.C_below (Kd.C_below Ha1.out XHB.out) E0.out) (Kd.C_below (Kd.C_below Hb0.out XHB.out) E0.out) (Kd.C_below (Kd.C_below Hb1.out XHB.out) E0.out)).mono ?_
          rintro e W1 ⟨rfl, D1⟩
          refine ⟨_, rfl, ?_⟩
          have E1 := Aside0.mk (below_step E0.out D1)
          refine hK.out _ _ D1 (fun _ => behind_ D1 ?_)
          clear hK K
          refine norm_ (a' := ?_) ?_ ?_
          rotate_left
          · show Act.put _ (some 84) _ = _
            simp only [Act.put, List.setIfInBounds_toArray, List.set_cons_zero, List.set_cons_succ, i64_w, i32_w]
            rfl
          refine pure_ (i := 3) (N := some 85) (v := ?_) (a' := ?_) #[true, true, true, true, false, false, false, false, true, true, false, false, false, false, false, false, false, false, false, false, false, false, false, false, false, false] rfl rfl (by kernel_rfl) (fun _ _ _ h => h) (Or.inl ⟨by rfl, ?_⟩) ?_ ?_
          rotate_left
          · intro w'
            go_simp
            with_reducible rfl
          rotate_left
          · simp only [Act.put, List.setIfInBounds_toArray, List.set_cons_zero, List.set_cons_succ, i64_w, i32_w]
            rfl
          refine take_ (i := 4) (N := some 86) (v := ?_) (a' := ?_) #[true, true, true, true, true, false, false, false, true, true, false, false, false, false, false, false, false, false, false, false, false, false, false, false, false, false] rfl rfl (by kernel_rfl) (fun _ _ _ h => h) (Or.inl ⟨by rfl, ?_⟩) (Below.refl _ _) ?_ ?_
          rotate_left
          · intro w' hS
            have hd_ := below_step E1.out hS
            have hy0 := (blk_cell (blk_below BL2.out hd_) 0).trans (show (#[.slice B0 ys.length d0, .slice B1 ys2.length d1] : Array Value)[0]? = some (.slice B0 ys.length d0) from rfl)
            have hy1 := (blk_cell (blk_below BL2.out hd_) 1).trans (show (#[.slice B0 ys.length d0, .slice B1 ys2.length d1] : Array Value)[1]? = some (.slice B1 ys2.length d1) from rfl)
            go_simp
            with_reducible rfl
          rotate_left
          · simp only [Act.put, List.setIfInBounds_toArray, List.set_cons_zero, List.set_cons_succ, i64_w, i32_w]
            rfl
          refine take_ (i := 5) (N := some 87) (v := ?_) (a' := ?_) #[true, true, true, true, true, true, false, false, true, true, false, false, false, false, false, false, false, false, false, false, false, false, false, false, false, false] rfl rfl (by kernel_rfl) (fun _ _ _ h => h) (Or.inl ⟨by rfl, ?_⟩) (Below.refl _ _) ?_ ?_
          rotate_left
          · intro w' hS
            have hd_ := below_step E1.out hS
            have hy0 := (blk_cell (blk_below BL1.out hd_) 0).trans (show (#[.slice A0 xs.length c0, .slice A1 xs2.length c1] : Array Value)[0]? = some (.slice A0 xs.length c0) from rfl)
            have hy1 := (blk_cell (blk_below BL1.out hd_) 1).trans (show (#[.slice A0 xs.length c0, .slice A1 xs2.length c1] : Array Value)[1]? = some (.slice A1 xs2.length c1) from rfl)
            go_simp
            with_reducible rfl
          rotate_left
          · simp only [Act.put, List.setIfInBounds_toArray, List.set_cons_zero, List.set_cons_succ, i64_w, i32_w]
            rfl
          refine one_ (i := 6) (N := some 88) #[true, true, true, true, true, true, true, false, true, true, false, false, false, false, false, false, false, false, false, false, false, false, false, false, false, false] rfl rfl (by kernel_rfl) (by decide) (fun K hK => ?_)
          refine goes_ Try.func13 (by kernel_rfl) rfl #[.agg #[.slice B0 ys.length d0, .slice B1 ys2.length d1], .agg #[.slice A0 xs.length c0, .slice A1 xs2.length c1]] (by rfl) rfl rfl (by (try simp only [List.map_toArray, List.map_cons, List.map_nil]); first | done | rfl) ?_
          with_reducible refine (below_t ys ys2 xs xs2 Lb0.out Lb1.out _ _ _ _ _ _ _ _ _ _ Qba.out (Kd.C_below (Kd.C_below Hb0.out XHB.out) E1.out) (Kd.C_below (Kd.C_below Hb1.out XHB.out) E1.out) (Kd.C_below (Kd.C_below Ha0.out XHB.out) E1.out) (Kd.C_below (Kd.C_below Ha1.out XHB.out) E1.out)).mono ?_
          rintro e W2 ⟨rfl, D2⟩
          refine ⟨_, rfl, ?_⟩
          have E2 := Aside0.mk (below_step E1.out D2)
          refine hK.out _ _ D2 (fun _ => behind_ D2 ?_)
          clear hK K
          refine norm_ (a' := ?_) ?_ ?_
          rotate_left
          · show Act.put _ (some 88) _ = _
            simp only [Act.put, List.setIfInBounds_toArray, List.set_cons_zero, List.set_cons_succ, i64_w, i32_w]
            rfl
          refine pure_ (i := 7) (N := some 89) (v := ?_) (a' := ?_) #[true, true, true, true, true, true, true, true, true, true, false, false, false, false, false, false, false, false, false, false, false, false, false, false, false, false] rfl rfl (by kernel_rfl) (fun _ _ _ h => h) (Or.inl ⟨by rfl, ?_⟩) ?_ ?_
          rotate_left
          · intro w'
            go_simp
            with_reducible rfl
          rotate_left
          · simp only [Act.put, List.setIfInBounds_toArray, List.set_cons_zero, List.set_cons_succ, i64_w, i32_w]
            rfl
          refine one_ (i := 10) (N := some 92) #[true, true, true, true, true, true, true, true, true, true, true, false, false, false, false, false, false, false, false, false, false, false, false, false, false, false] rfl rfl (by kernel_rfl) (by decide) (fun K hK => ?_)
          refine goes_ Try.func15 (by kernel_rfl) rfl #[.agg #[.slice A0 xs.length c0, .slice A1 xs2.length c1], .agg #[.slice B0 ys.length d0, .slice B1 ys2.length d1]] (by rfl) rfl rfl (by (try simp only [List.map_toArray, List.map_cons, List.map_nil]); first | done | rfl) ?_
          with_reducible refine (same_t xs xs2 ys ys2 La0.out La1.out _ _ _ _ _ _ _ _ _ _ SAB.out (Kd.C_below (Kd.C_below Ha0.out XHB.out) E2.out) (Kd.C_below (Kd.C_below Ha1.out XHB.out) E2.out) (Kd.C_below (Kd.C_below Hb0.out XHB.out) E2.out) (Kd.C_below (Kd.C_below Hb1.out XHB.out) E2.out) Ka0.out Ka1.out Kb0.out Kb1.out).mono ?_
          rintro e W3 ⟨rfl, D3⟩
          refine ⟨_, rfl, ?_⟩
          have E3 := Aside0.mk (below_step E2.out D3)
          refine hK.out _ _ D3 (fun _ => behind_ D3 ?_)
          clear hK K
          refine norm_ (a' := ?_) ?_ ?_
          rotate_left
          · show Act.put _ (some 92) _ = _
            simp only [Act.put, List.setIfInBounds_toArray, List.set_cons_zero, List.set_cons_succ, i64_w, i32_w]
            rfl
          refine pure_ (i := 11) (N := some 93) (v := ?_) (a' := ?_) #[true, true, true, true, true, true, true, true, true, true, true, true, false, false, false, false, false, false, false, false, false, false, false, false, false, false] rfl rfl (by kernel_rfl) (fun _ _ _ h => h) (Or.inl ⟨by rfl, ?_⟩) ?_ ?_
          rotate_left
          · intro w'
            go_simp
            with_reducible rfl
          rotate_left
          · simp only [Act.put, List.setIfInBounds_toArray, List.set_cons_zero, List.set_cons_succ, i64_w, i32_w]
            rfl
          refine pure_ (i := 12) (N := some 94) (v := ?_) (a' := ?_) #[true, true, true, true, true, true, true, true, true, true, true, true, true, false, false, false, false, false, false, false, false, false, false, false, false, false] rfl rfl (by kernel_rfl) (fun _ _ _ h => h) (Or.inl ⟨by rfl, ?_⟩) ?_ ?_
          rotate_left
          · intro w'
            go_simp
            with_reducible rfl
          rotate_left
          · simp only [Act.put, List.setIfInBounds_toArray, List.set_cons_zero, List.set_cons_succ, i64_w, i32_w]
            rfl
          refine take_ (i := 13) (N := some 95) (v := ?_) (a' := ?_) #[true, true, true, true, true, true, true, true, true, true, true, true, true, true, false, false, false, false, false, false, false, false, false, false, false, false] rfl rfl (by kernel_rfl) (fun _ _ _ h => h) (Or.inl ⟨by rfl, ?_⟩) (Below.refl _ _) ?_ ?_
          rotate_left
          · intro w' hS
            have hd_ := below_step E3.out hS
            have hy0 := (blk_cell (blk_below BL1.out hd_) 0).trans (show (#[.slice A0 xs.length c0, .slice A1 xs2.length c1] : Array Value)[0]? = some (.slice A0 xs.length c0) from rfl)
            have hy1 := (blk_cell (blk_below BL1.out hd_) 1).trans (show (#[.slice A0 xs.length c0, .slice A1 xs2.length c1] : Array Value)[1]? = some (.slice A1 xs2.length c1) from rfl)
            go_simp
            with_reducible rfl
          rotate_left
          · simp only [Act.put, List.setIfInBounds_toArray, List.set_cons_zero, List.set_cons_succ, i64_w, i32_w]
            rfl
          refine take_ (i := 14) (N := some 96) (v := ?_) (a' := ?_) #[true, true, true, true, true, true, true, true, true, true, true, true, true, true, true, false, false, false, false, false, false, false, false, false, false, false] rfl rfl (by kernel_rfl) (fun _ _ _ h => h) (Or.inl ⟨by rfl, ?_⟩) (Below.refl _ _) ?_ ?_
          rotate_left
          · intro w' hS
            have hd_ := below_step E3.out hS
            have hy0 := (blk_cell (blk_below BL1.out hd_) 0).trans (show (#[.slice A0 xs.length c0, .slice A1 xs2.length c1] : Array Value)[0]? = some (.slice A0 xs.length c0) from rfl)
            have hy1 := (blk_cell (blk_below BL1.out hd_) 1).trans (show (#[.slice A0 xs.length c0, .slice A1 xs2.length c1] : Array Value)[1]? = some (.slice A1 xs2.length c1) from rfl)
            go_simp
            with_reducible rfl
          rotate_left
          · simp only [Act.put, List.setIfInBounds_toArray, List.set_cons_zero, List.set_cons_succ, i64_w, i32_w]
            rfl
          refine one_ (i := 15) (N := some 97) #[true, true, true, true, true, true, true, true, true, true, true, true, true, true, true, true, false, false, false, false, false, false, false, false, false, false] rfl rfl (by kernel_rfl) (by decide) (fun K hK => ?_)
          refine goes_ Try.func13 (by kernel_rfl) rfl #[.agg #[.slice A0 xs.length c0, .slice A1 xs2.length c1], .agg #[.slice A0 xs.length c0, .slice A1 xs2.length c1]] (by rfl) rfl rfl (by (try simp only [List.map_toArray, List.map_cons, List.map_nil]); first | done | rfl) ?_
          with_reducible refine (below_t xs xs2 xs xs2 La0.out La1.out _ _ _ _ _ _ _ _ _ _ Qaa.out (Kd.C_below (Kd.C_below Ha0.out XHB.out) E3.out) (Kd.C_below (Kd.C_below Ha1.out XHB.out) E3.out) (Kd.C_below (Kd.C_below Ha0.out XHB.out) E3.out) (Kd.C_below (Kd.C_below Ha1.out XHB.out) E3.out)).mono ?_
          rintro e W4 ⟨rfl, D4⟩
          refine ⟨_, rfl, ?_⟩
          have E4 := Aside0.mk (below_step E3.out D4)
          refine hK.out _ _ D4 (fun _ => behind_ D4 ?_)
          clear hK K
          refine norm_ (a' := ?_) ?_ ?_
          rotate_left
          · show Act.put _ (some 97) _ = _
            simp only [Act.put, List.setIfInBounds_toArray, List.set_cons_zero, List.set_cons_succ, i64_w, i32_w]
            rfl
          refine pure_ (i := 16) (N := some 98) (v := ?_) (a' := ?_) #[true, true, true, true, true, true, true, true, true, true, true, true, true, true, true, true, true, false, false, false, false, false, false, false, false, false] rfl rfl (by kernel_rfl) (fun _ _ _ h => h) (Or.inl ⟨by rfl, ?_⟩) ?_ ?_
          rotate_left
          · intro w'
            go_simp
            with_reducible rfl
          rotate_left
          · simp only [Act.put, List.setIfInBounds_toArray, List.set_cons_zero, List.set_cons_succ, i64_w, i32_w]
            rfl
          refine pure_ (i := 17) (N := some 99) (v := ?_) (a' := ?_) #[true, true, true, true, true, true, true, true, true, true, true, true, true, true, true, true, true, true, false, false, false, false, false, false, false, false] rfl rfl (by kernel_rfl) (fun _ _ _ h => h) (Or.inl ⟨by rfl, ?_⟩) ?_ ?_
          rotate_left
          · intro w'
            go_simp
            with_reducible rfl
          rotate_left
          · simp only [Act.put, List.setIfInBounds_toArray, List.set_cons_zero, List.set_cons_succ, i64_w, i32_w]
            rfl
          refine take_ (i := 18) (N := some 100) (v := ?_) (a' := ?_) #[true, true, true, true, true, true, true, true, true, true, true, true, true, true, true, true, true, true, true, false, false, false, false, false, false, false] rfl rfl (by kernel_rfl) (fun _ _ _ h => h) (Or.inl ⟨by rfl, ?_⟩) (Below.refl _ _) ?_ ?_
          rotate_left
          · intro w' hS
            have hd_ := below_step E4.out hS
            have hy0 := (blk_cell (blk_below BL1.out hd_) 0).trans (show (#[.slice A0 xs.length c0, .slice A1 xs2.length c1] : Array Value)[0]? = some (.slice A0 xs.length c0) from rfl)
            have hy1 := (blk_cell (blk_below BL1.out hd_) 1).trans (show (#[.slice A0 xs.length c0, .slice A1 xs2.length c1] : Array Value)[1]? = some (.slice A1 xs2.length c1) from rfl)
            go_simp
            with_reducible rfl
          rotate_left
          · simp only [Act.put, List.setIfInBounds_toArray, List.set_cons_zero, List.set_cons_succ, i64_w, i32_w]
            rfl
          refine take_ (i := 19) (N := some 101) (v := ?_) (a' := ?_) #[true, true, true, true, true, true, true, true, true, true, true, true, true, true, true, true, true, true, true, true, false, false, false, false, false, false] rfl rfl (by kernel_rfl) (fun _ _ _ h => h) (Or.inl ⟨by rfl, ?_⟩) (Below.refl _ _) ?_ ?_
          rotate_left
          · intro w' hS
            have hd_ := below_step E4.out hS
            have hy0 := (blk_cell (blk_below BL1.out hd_) 0).trans (show (#[.slice A0 xs.length c0, .slice A1 xs2.length c1] : Array Value)[0]? = some (.slice A0 xs.length c0) from rfl)
            have hy1 := (blk_cell (blk_below BL1.out hd_) 1).trans (show (#[.slice A0 xs.length c0, .slice A1 xs2.length c1] : Array Value)[1]? = some (.slice A1 xs2.length c1) from rfl)
            go_simp
            with_reducible rfl
          rotate_left
          · simp only [Act.put, List.setIfInBounds_toArray, List.set_cons_zero, List.set_cons_succ, i64_w, i32_w]
            rfl
          refine one_ (i := 20) (N := some 102) #[true, true, true, true, true, true, true, true, true, true, true, true, true, true, true, true, true, true, true, true, true, false, false, false, false, false] rfl rfl (by kernel_rfl) (by decide) (fun K hK => ?_)
          refine goes_ Try.func15 (by kernel_rfl) rfl #[.agg #[.slice A0 xs.length c0, .slice A1 xs2.length c1], .agg #[.slice A0 xs.length c0, .slice A1 xs2.length c1]] (by rfl) rfl rfl (by (try simp only [List.map_toArray, List.map_cons, List.map_nil]); first | done | rfl) ?_
          with_reducible refine (same_t xs xs2 xs xs2 La0.out La1.out _ _ _ _ _ _ _ _ _ _ Saa.out (Kd.C_below (Kd.C_below Ha0.out XHB.out) E4.out) (Kd.C_below (Kd.C_below Ha1.out XHB.out) E4.out) (Kd.C_below (Kd.C_below Ha0.out XHB.out) E4.out) (Kd.C_below (Kd.C_below Ha1.out XHB.out) E4.out) Ka0.out Ka1.out Ka0.out Ka1.out).mono ?_
          rintro e W5 ⟨rfl, D5⟩
          refine ⟨_, rfl, ?_⟩
          have E5 := Aside0.mk (below_step E4.out D5)
          refine hK.out _ _ D5 (fun _ => behind_ D5 ?_)
          clear hK K
          refine norm_ (a' := ?_) ?_ ?_
          rotate_left
          · show Act.put _ (some 102) _ = _
            simp only [Act.put, List.setIfInBounds_toArray, List.set_cons_zero, List.set_cons_succ, i64_w, i32_w]
            rfl
          refine pure_ (i := 21) (N := some 103) (v := ?_) (a' := ?_) #[true, true, true, true, true, true, true, true, true, true, true, true, true, true, true, true, true, true, true, true, true, true, false, false, false, false] rfl rfl (by kernel_rfl) (fun _ _ _ h => h) (Or.inl ⟨by rfl, ?_⟩) ?_ ?_
          rotate_left
          · intro w'
            go_simp
            with_reducible rfl
          rotate_left
          · simp only [Act.put, List.setIfInBounds_toArray, List.set_cons_zero, List.set_cons_succ, i64_w, i32_w]
            rfl
          refine pure_ (i := 22) (N := some 104) (v := ?_) (a' := ?_) #[true, true, true, true, true, true, true, true, true, true, true, true, true, true, true, true, true, true, true, true, true, true, true, false, false, false] rfl rfl (by kernel_rfl) (fun _ _ _ h => h) (Or.inl ⟨by rfl, ?_⟩) ?_ ?_
          rotate_left
          · intro w'
            go_simp
            with_reducible rfl
          rotate_left
          · simp only [Act.put, List.setIfInBounds_toArray, List.set_cons_zero, List.set_cons_succ, i64_w, i32_w]
            rfl
          refine one_ (i := 23) (N := some 105) #[true, true, true, true, true, true, true, true, true, true, true, true, true, true, true, true, true, true, true, true, true, true, true, true, false, false] rfl rfl (by kernel_rfl) (by decide) (fun K hK => ?_)
          refine goes_ Try.func8 (by kernel_rfl) rfl #[] (by rfl) rfl rfl (by (try simp only [List.map_toArray, List.map_cons, List.map_nil]); first | done | rfl) ?_
          with_reducible refine (works_b _).mono ?_
          rintro e W6 ⟨rfl, D6⟩
          refine ⟨_, rfl, ?_⟩
          have E6 := Aside0.mk (below_step E5.out D6)
          refine hK.out _ _ D6 (fun _ => behind_ D6 ?_)
          clear hK K
          refine norm_ (a' := ?_) ?_ ?_
          rotate_left
          · show Act.put _ (some 105) _ = _
            simp only [Act.put, List.setIfInBounds_toArray, List.set_cons_zero, List.set_cons_succ, i64_w, i32_w]
            rfl
          refine pure_ (i := 24) (N := some 106) (v := ?_) (a' := ?_) #[true, true, true, true, true, true, true, true, true, true, true, true, true, true, true, true, true, true, true, true, true, true, true, true, true, false] rfl rfl (by kernel_rfl) (fun _ _ _ h => h) (Or.inl ⟨by rfl, ?_⟩) ?_ ?_
          rotate_left
          · intro w'
            go_simp
            with_reducible rfl
          rotate_left
          · simp only [Act.put, List.setIfInBounds_toArray, List.set_cons_zero, List.set_cons_succ, i64_w, i32_w]
            rfl
          refine pure_ (i := 25) (N := some 6) (v := ?_) (a' := ?_) #[true, true, true, true, true, true, true, true, true, true, true, true, true, true, true, true, true, true, true, true, true, true, true, true, true, true] rfl rfl (by kernel_rfl) (fun _ _ _ h => h) (Or.inl ⟨by rfl, ?_⟩) ?_ ?_
          rotate_left
          · intro w'
            go_simp
            with_reducible rfl
          rotate_left
          · simp only [Act.put, List.setIfInBounds_toArray, List.set_cons_zero, List.set_cons_succ, i64_w, i32_w]
            rfl
          refine done_ (by kernel_rfl) ?_
          go_wp2
          go_ret
          exact ⟨by first | rfl | (simp; done), below_step XHB.out E6.out⟩
        | true =>
          have SAB : Aside0 (sam xs xs2 ys ys2 = true) := ⟨Sab.out⟩
          clear Sab
          refine startB_ (n := 26) #[false, false, false, false, false, false, false, false, false, false, false, false, false, false, false, false, false, false, false, false, false, false, false, false, false, false] (by kernel_rfl) rfl rfl (fun W0 D0 => ?_)
          have E0 := Aside0.mk (Below.refl W0.heap.size W0)
          have BL1 := Aside0.mk (blk_below BK1.out D0)
          have BL2 := Aside0.mk (blk_below BK2.out D0)
          have BL3 := Aside0.mk (blk_below BK3.out D0)
          have XHB := Aside0.mk (below_step HB.out D0)
          refine take_ (i := 0) (N := some 82) (v := ?_) (a' := ?_) #[true, false, false, false, false, false, false, false, false, false, false, false, false, false, false, false, false, false, false, false, false, false, false, false, false, false] rfl rfl (by kernel_rfl) (fun _ _ _ h => h) (Or.inl ⟨by rfl, ?_⟩) (Below.refl _ _) ?_ ?_
          rotate_left
          · intro w' hS
            have hd_ := below_step E0.out hS
            have hy0 := (blk_cell (blk_below BL1.out hd_) 0).trans (show (#[.slice A0 xs.length c0, .slice A1 xs2.length c1] : Array Value)[0]? = some (.slice A0 xs.length c0) from rfl)
            have hy1 := (blk_cell (blk_below BL1.out hd_) 1).trans (show (#[.slice A0 xs.length c0, .slice A1 xs2.length c1] : Array Value)[1]? = some (.slice A1 xs2.length c1) from rfl)
            go_simp
            with_reducible rfl
          rotate_left
          · simp only [Act.put, List.setIfInBounds_toArray, List.set_cons_zero, List.set_cons_succ, i64_w, i32_w]
            rfl
          refine take_ (i := 1) (N := some 83) (v := ?_) (a' := ?_) #[true, true, false, false, false, false, false, false, false, false, false, false, false, false, false, false, false, false, false, false, false, false, false, false, false, false] rfl rfl (by kernel_rfl) (fun _ _ _ h => h) (Or.inl ⟨by rfl, ?_⟩) (Below.refl _ _) ?_ ?_
          rotate_left
          · intro w' hS
            have hd_ := below_step E0.out hS
            have hy0 := (blk_cell (blk_below BL2.out hd_) 0).trans (show (#[.slice B0 ys.length d0, .slice B1 ys2.length d1] : Array Value)[0]? = some (.slice B0 ys.length d0) from rfl)
            have hy1 := (blk_cell (blk_below BL2.out hd_) 1).trans (show (#[.slice B0 ys.length d0, .slice B1 ys2.length d1] : Array Value)[1]? = some (.slice B1 ys2.length d1) from rfl)
            go_simp
            with_reducible rfl
          rotate_left
          · simp only [Act.put, List.setIfInBounds_toArray, List.set_cons_zero, List.set_cons_succ, i64_w, i32_w]
            rfl
          refine take_ (i := 8) (N := some 90) (v := ?_) (a' := ?_) #[true, true, false, false, false, false, false, false, true, false, false, false, false, false, false, false, false, false, false, false, false, false, false, false, false, false] rfl rfl (by kernel_rfl) (fun _ _ _ h => h) (Or.inl ⟨by rfl, ?_⟩) (Below.refl _ _) ?_ ?_
          rotate_left
          · intro w' hS
            have hd_ := below_step E0.out hS
            have hy0 := (blk_cell (blk_below BL1.out hd_) 0).trans (show (#[.slice A0 xs.length c0, .slice A1 xs2.length c1] : Array Value)[0]? = some (.slice A0 xs.length c0) from rfl)
            have hy1 := (blk_cell (blk_below BL1.out hd_) 1).trans (show (#[.slice A0 xs.length c0, .slice A1 xs2.length c1] : Array Value)[1]? = some (.slice A1 xs2.length c1) from rfl)
            go_simp
            with_reducible rfl
          rotate_left
          · simp only [Act.put, List.setIfInBounds_toArray, List.set_cons_zero, List.set_cons_succ, i64_w, i32_w]
            rfl
          refine take_ (i := 9) (N := some 91) (v := ?_) (a' := ?_) #[true, true, false, false, false, false, false, false, true, true, false, false, false, false, false, false, false, false, false, false, false, false, false, false, false, false] rfl rfl (by kernel_rfl) (fun _ _ _ h => h) (Or.inl ⟨by rfl, ?_⟩) (Below.refl _ _) ?_ ?_
          rotate_left
          · intro w' hS
            have hd_ := below_step E0.out hS
            have hy0 := (blk_cell (blk_below BL2.out hd_) 0).trans (show (#[.slice B0 ys.length d0, .slice B1 ys2.length d1] : Array Value)[0]? = some (.slice B0 ys.length d0) from rfl)
            have hy1 := (blk_cell (blk_below BL2.out hd_) 1).trans (show (#[.slice B0 ys.length d0, .slice B1 ys2.length d1] : Array Value)[1]? = some (.slice B1 ys2.length d1) from rfl)
            go_simp
            with_reducible rfl
          rotate_left
          · simp only [Act.put, List.setIfInBounds_toArray, List.set_cons_zero, List.set_cons_succ, i64_w, i32_w]
            rfl
          refine one_ (i := 2) (N := some 84) #[true, true, true, false, false, false, false, false, true, true, false, false, false, false, false, false, false, false, false, false, false, false, false, false, false, false] rfl rfl (by kernel_rfl) (by decide) (fun K hK => ?_)
          refine goes_ Try.func13 (by kernel_rfl) rfl #[.agg #[.slice A0 xs.length c0, .slice A1 xs2.length c1], .agg #[.slice B0 ys.length d0, .slice B1 ys2.length d1]] (by rfl) rfl rfl (by (try simp only [List.map_toArray, List.map_cons, List.map_nil]); first | done | rfl) ?_
          with_reducible refine (below_t xs xs2 ys ys2 La0.out La1.out _ _ _ _ _ _ _ _ _ _ Qab.out (Kd.C_below (Kd.C_below Ha0.out XHB.out) E0.out) (Kd.C_below (Kd.C_below Ha1.out XHB.out) E0.out) (Kd.C_below (Kd.C_below Hb0.out XHB.out) E0.out) (Kd.C_below (Kd.C_below Hb1.out XHB.out) E0.out)).mono ?_
          rintro e W1 ⟨rfl, D1⟩
          refine ⟨_, rfl, ?_⟩
          have E1 := Aside0.mk (below_step E0.out D1)
          refine hK.out _ _ D1 (fun _ => behind_ D1 ?_)
          clear hK K
          refine norm_ (a' := ?_) ?_ ?_
          rotate_left
          · show Act.put _ (some 84) _ = _
            simp only [Act.put, List.setIfInBounds_toArray, List.set_cons_zero, List.set_cons_succ, i64_w, i32_w]
            rfl
          refine pure_ (i := 3) (N := some 85) (v := ?_) (a' := ?_) #[true, true, true, true, false, false, false, false, true, true, false, false, false, false, false, false, false, false, false, false, false, false, false, false, false, false] rfl rfl (by kernel_rfl) (fun _ _ _ h => h) (Or.inl ⟨by rfl, ?_⟩) ?_ ?_
          rotate_left
          · intro w'
            go_simp
            with_reducible rfl
          rotate_left
          · simp only [Act.put, List.setIfInBounds_toArray, List.set_cons_zero, List.set_cons_succ, i64_w, i32_w]
            rfl
          refine take_ (i := 4) (N := some 86) (v := ?_) (a' := ?_) #[true, true, true, true, true, false, false, false, true, true, false, false, false, false, false, false, false, false, false, false, false, false, false, false, false, false] rfl rfl (by kernel_rfl) (fun _ _ _ h => h) (Or.inl ⟨by rfl, ?_⟩) (Below.refl _ _) ?_ ?_
          rotate_left
          · intro w' hS
            have hd_ := below_step E1.out hS
            have hy0 := (blk_cell (blk_below BL2.out hd_) 0).trans (show (#[.slice B0 ys.length d0, .slice B1 ys2.length d1] : Array Value)[0]? = some (.slice B0 ys.length d0) from rfl)
            have hy1 := (blk_cell (blk_below BL2.out hd_) 1).trans (show (#[.slice B0 ys.length d0, .slice B1 ys2.length d1] : Array Value)[1]? = some (.slice B1 ys2.length d1) from rfl)
            go_simp
            with_reducible rfl
          rotate_left
          · simp only [Act.put, List.setIfInBounds_toArray, List.set_cons_zero, List.set_cons_succ, i64_w, i32_w]
            rfl
          refine take_ (i := 5) (N := some 87) (v := ?_) (a' := ?_) #[true, true, true, true, true, true, false, false, true, true, false, false, false, false, false, false, false, false, false, false, false, false, false, false, false, false] rfl rfl (by kernel_rfl) (fun _ _ _ h => h) (Or.inl ⟨by rfl, ?_⟩) (Below.refl _ _) ?_ ?_
          rotate_left
          · intro w' hS
            have hd_ := below_step E1.out hS
            have hy0 := (blk_cell (blk_below BL1.out hd_) 0).trans (show (#[.slice A0 xs.length c0, .slice A1 xs2.length c1] : Array Value)[0]? = some (.slice A0 xs.length c0) from rfl)
            have hy1 := (blk_cell (blk_below BL1.out hd_) 1).trans (show (#[.slice A0 xs.length c0, .slice A1 xs2.length c1] : Array Value)[1]? = some (.slice A1 xs2.length c1) from rfl)
            go_simp
            with_reducible rfl
          rotate_left
          · simp only [Act.put, List.setIfInBounds_toArray, List.set_cons_zero, List.set_cons_succ, i64_w, i32_w]
            rfl
          refine one_ (i := 6) (N := some 88) #[true, true, true, true, true, true, true, false, true, true, false, false, false, false, false, false, false, false, false, false, false, false, false, false, false, false] rfl rfl (by kernel_rfl) (by decide) (fun K hK => ?_)
          refine goes_ Try.func13 (by kernel_rfl) rfl #[.agg #[.slice B0 ys.length d0, .slice B1 ys2.length d1], .agg #[.slice A0 xs.length c0, .slice A1 xs2.length c1]] (by rfl) rfl rfl (by (try simp only [List.map_toArray, List.map_cons, List.map_nil]); first | done | rfl) ?_
          with_reducible refine (below_t ys ys2 xs xs2 Lb0.out Lb1.out _ _ _ _ _ _ _ _ _ _ Qba.out (Kd.C_below (Kd.C_below Hb0.out XHB.out) E1.out) (Kd.C_below (Kd.C_below Hb1.out XHB.out) E1.out) (Kd.C_below (Kd.C_below Ha0.out XHB.out) E1.out) (Kd.C_below (Kd.C_below Ha1.out XHB.out) E1.out)).mono ?_
          rintro e W2 ⟨rfl, D2⟩
          refine ⟨_, rfl, ?_⟩
          have E2 := Aside0.mk (below_step E1.out D2)
          refine hK.out _ _ D2 (fun _ => behind_ D2 ?_)
          clear hK K
          refine norm_ (a' := ?_) ?_ ?_
          rotate_left
          · show Act.put _ (some 88) _ = _
            simp only [Act.put, List.setIfInBounds_toArray, List.set_cons_zero, List.set_cons_succ, i64_w, i32_w]
            rfl
          refine pure_ (i := 7) (N := some 89) (v := ?_) (a' := ?_) #[true, true, true, true, true, true, true, true, true, true, false, false, false, false, false, false, false, false, false, false, false, false, false, false, false, false] rfl rfl (by kernel_rfl) (fun _ _ _ h => h) (Or.inl ⟨by rfl, ?_⟩) ?_ ?_
          rotate_left
          · intro w'
            go_simp
            with_reducible rfl
          rotate_left
          · simp only [Act.put, List.setIfInBounds_toArray, List.set_cons_zero, List.set_cons_succ, i64_w, i32_w]
            rfl
          refine one_ (i := 10) (N := some 92) #[true, true, true, true, true, true, true, true, true, true, true, false, false, false, false, false, false, false, false, false, false, false, false, false, false, false] rfl rfl (by kernel_rfl) (by decide) (fun K hK => ?_)
          refine goes_ Try.func15 (by kernel_rfl) rfl #[.agg #[.slice A0 xs.length c0, .slice A1 xs2.length c1], .agg #[.slice B0 ys.length d0, .slice B1 ys2.length d1]] (by rfl) rfl rfl (by (try simp only [List.map_toArray, List.map_cons, List.map_nil]); first | done | rfl) ?_
          with_reducible refine (same_t xs xs2 ys ys2 La0.out La1.out _ _ _ _ _ _ _ _ _ _ SAB.out (Kd.C_below (Kd.C_below Ha0.out XHB.out) E2.out) (Kd.C_below (Kd.C_below Ha1.out XHB.out) E2.out) (Kd.C_below (Kd.C_below Hb0.out XHB.out) E2.out) (Kd.C_below (Kd.C_below Hb1.out XHB.out) E2.out) Ka0.out Ka1.out Kb0.out Kb1.out).mono ?_
          rintro e W3 ⟨rfl, D3⟩
          refine ⟨_, rfl, ?_⟩
          have E3 := Aside0.mk (below_step E2.out D3)
          refine hK.out _ _ D3 (fun _ => behind_ D3 ?_)
          clear hK K
          refine norm_ (a' := ?_) ?_ ?_
          rotate_left
          · show Act.put _ (some 92) _ = _
            simp only [Act.put, List.setIfInBounds_toArray, List.set_cons_zero, List.set_cons_succ, i64_w, i32_w]
            rfl
          refine pure_ (i := 11) (N := some 93) (v := ?_) (a' := ?_) #[true, true, true, true, true, true, true, true, true, true, true, true, false, false, false, false, false, false, false, false, false, false, false, false, false, false] rfl rfl (by kernel_rfl) (fun _ _ _ h => h) (Or.inl ⟨by rfl, ?_⟩) ?_ ?_
          rotate_left
          · intro w'
            go_simp
            with_reducible rfl
          rotate_left
          · simp only [Act.put, List.setIfInBounds_toArray, List.set_cons_zero, List.set_cons_succ, i64_w, i32_w]
            rfl
          refine pure_ (i := 12) (N := some 94) (v := ?_) (a' := ?_) #[true, true, true, true, true, true, true, true, true, true, true, true, true, false, false, false, false, false, false, false, false, false, false, false, false, false] rfl rfl (by kernel_rfl) (fun _ _ _ h => h) (Or.inl ⟨by rfl, ?_⟩) ?_ ?_
          rotate_left
          · intro w'
            go_simp
            with_reducible rfl
          rotate_left
          · simp only [Act.put, List.setIfInBounds_toArray, List.set_cons_zero, List.set_cons_succ, i64_w, i32_w]
            rfl
          refine take_ (i := 13) (N := some 95) (v := ?_) (a' := ?_) #[true, true, true, true, true, true, true, true, true, true, true, true, true, true, false, false, false, false, false, false, false, false, false, false, false, false] rfl rfl (by kernel_rfl) (fun _ _ _ h => h) (Or.inl ⟨by rfl, ?_⟩) (Below.refl _ _) ?_ ?_
          rotate_left
          · intro w' hS
            have hd_ := below_step E3.out hS
            have hy0 := (blk_cell (blk_below BL1.out hd_) 0).trans (show (#[.slice A0 xs.length c0, .slice A1 xs2.length c1] : Array Value)[0]? = some (.slice A0 xs.length c0) from rfl)
            have hy1 := (blk_cell (blk_below BL1.out hd_) 1).trans (show (#[.slice A0 xs.length c0, .slice A1 xs2.length c1] : Array Value)[1]? = some (.slice A1 xs2.length c1) from rfl)
            go_simp
            with_reducible rfl
          rotate_left
          · simp only [Act.put, List.setIfInBounds_toArray, List.set_cons_zero, List.set_cons_succ, i64_w, i32_w]
            rfl
          refine take_ (i := 14) (N := some 96) (v := ?_) (a' := ?_) #[true, true, true, true, true, true, true, true, true, true, true, true, true, true, true, false, false, false, false, false, false, false, false, false, false, false] rfl rfl (by kernel_rfl) (fun _ _ _ h => h) (Or.inl ⟨by rfl, ?_⟩) (Below.refl _ _) ?_ ?_
          rotate_left
          · intro w' hS
            have hd_ := below_step E3.out hS
            have hy0 := (blk_cell (blk_below BL1.out hd_) 0).trans (show (#[.slice A0 xs.length c0, .slice A1 xs2.length c1] : Array Value)[0]? = some (.slice A0 xs.length c0) from rfl)
            have hy1 := (blk_cell (blk_below BL1.out hd_) 1).trans (show (#[.slice A0 xs.length c0, .slice A1 xs2.length c1] : Array Value)[1]? = some (.slice A1 xs2.length c1) from rfl)
            go_simp
            with_reducible rfl
          rotate_left
          · simp only [Act.put, List.setIfInBounds_toArray, List.set_cons_zero, List.set_cons_succ, i64_w, i32_w]
            rfl
          refine one_ (i := 15) (N := some 97) #[true, true, true, true, true, true, true, true, true, true, true, true, true, true, true, true, false, false, false, false, false, false, false, false, false, false] rfl rfl (by kernel_rfl) (by decide) (fun K hK => ?_)
          refine goes_ Try.func13 (by kernel_rfl) rfl #[.agg #[.slice A0 xs.length c0, .slice A1 xs2.length c1], .agg #[.slice A0 xs.length c0, .slice A1 xs2.length c1]] (by rfl) rfl rfl (by (try simp only [List.map_toArray, List.map_cons, List.map_nil]); first | done | rfl) ?_
          with_reducible refine (below_t xs xs2 xs xs2 La0.out La1.out _ _ _ _ _ _ _ _ _ _ Qaa.out (Kd.C_below (Kd.C_below Ha0.out XHB.out) E3.out) (Kd.C_below (Kd.C_below Ha1.out XHB.out) E3.out) (Kd.C_below (Kd.C_below Ha0.out XHB.out) E3.out) (Kd.C_below (Kd.C_below Ha1.out XHB.out) E3.out)).mono ?_
          rintro e W4 ⟨rfl, D4⟩
          refine ⟨_, rfl, ?_⟩
          have E4 := Aside0.mk (below_step E3.out D4)
          refine hK.out _ _ D4 (fun _ => behind_ D4 ?_)
          clear hK K
          refine norm_ (a' := ?_) ?_ ?_
          rotate_left
          · show Act.put _ (some 97) _ = _
            simp only [Act.put, List.setIfInBounds_toArray, List.set_cons_zero, List.set_cons_succ, i64_w, i32_w]
            rfl
          refine pure_ (i := 16) (N := some 98) (v := ?_) (a' := ?_) #[true, true, true, true, true, true, true, true, true, true, true, true, true, true, true, true, true, false, false, false, false, false, false, false, false, false] rfl rfl (by kernel_rfl) (fun _ _ _ h => h) (Or.inl ⟨by rfl, ?_⟩) ?_ ?_
          rotate_left
          · intro w'
            go_simp
            with_reducible rfl
          rotate_left
          · simp only [Act.put, List.setIfInBounds_toArray, List.set_cons_zero, List.set_cons_succ, i64_w, i32_w]
            rfl
          refine pure_ (i := 17) (N := some 99) (v := ?_) (a' := ?_) #[true, true, true, true, true, true, true, true, true, true, true, true, true, true, true, true, true, true, false, false, false, false, false, false, false, false] rfl rfl (by kernel_rfl) (fun _ _ _ h => h) (Or.inl ⟨by rfl, ?_⟩) ?_ ?_
          rotate_left
          · intro w'
            go_simp
            with_reducible rfl
          rotate_left
          · simp only [Act.put, List.setIfInBounds_toArray, List.set_cons_zero, List.set_cons_succ, i64_w, i32_w]
            rfl
          refine take_ (i := 18) (N := some 100) (v := ?_) (a' := ?_) #[true, true, true, true, true, true, true, true, true, true, true, true, true, true, true, true, true, true, true, false, false, false, false, false, false, false] rfl rfl (by kernel_rfl) (fun _ _ _ h => h) (Or.inl ⟨by rfl, ?_⟩) (Below.refl _ _) ?_ ?_
          rotate_left
          · intro w' hS
            have hd_ := below_step E4.out hS
            have hy0 := (blk_cell (blk_below BL1.out hd_) 0).trans (show (#[.slice A0 xs.length c0, .slice A1 xs2.length c1] : Array Value)[0]? = some (.slice A0 xs.length c0) from rfl)
            have hy1 := (blk_cell (blk_below BL1.out hd_) 1).trans (show (#[.slice A0 xs.length c0, .slice A1 xs2.length c1] : Array Value)[1]? = some (.slice A1 xs2.length c1) from rfl)
            go_simp
            with_reducible rfl
          rotate_left
          · simp only [Act.put, List.setIfInBounds_toArray, List.set_cons_zero, List.set_cons_succ, i64_w, i32_w]
            rfl
          refine take_ (i := 19) (N := some 101) (v := ?_) (a' := ?_) #[true, true, true, true, true, true, true, true, true, true, true, true, true, true, true, true, true, true, true, true, false, false, false, false, false, false] rfl rfl (by kernel_rfl) (fun _ _ _ h => h) (Or.inl ⟨by rfl, ?_⟩) (Below.refl _ _) ?_ ?_
          rotate_left
          · intro w' hS
            have hd_ := below_step E4.out hS
            have hy0 := (blk_cell (blk_below BL1.out hd_) 0).trans (show (#[.slice A0 xs.length c0, .slice A1 xs2.length c1] : Array Value)[0]? = some (.slice A0 xs.length c0) from rfl)
            have hy1 := (blk_cell (blk_below BL1.out hd_) 1).trans (show (#[.slice A0 xs.length c0, .slice A1 xs2.length c1] : Array Value)[1]? = some (.slice A1 xs2.length c1) from rfl)
            go_simp
            with_reducible rfl
          rotate_left
          · simp only [Act.put, List.setIfInBounds_toArray, List.set_cons_zero, List.set_cons_succ, i64_w, i32_w]
            rfl
          refine one_ (i := 20) (N := some 102) #[true, true, true, true, true, true, true, true, true, true, true, true, true, true, true, true, true, true, true, true, true, false, false, false, false, false] rfl rfl (by kernel_rfl) (by decide) (fun K hK => ?_)
          refine goes_ Try.func15 (by kernel_rfl) rfl #[.agg #[.slice A0 xs.length c0, .slice A1 xs2.length c1], .agg #[.slice A0 xs.length c0, .slice A1 xs2.length c1]] (by rfl) rfl rfl (by (try simp only [List.map_toArray, List.map_cons, List.map_nil]); first | done | rfl) ?_
          with_reducible refine (same_t xs xs2 xs xs2 La0.out La1.out _ _ _ _ _ _ _ _ _ _ Saa.out (Kd.C_below (Kd.C_below Ha0.out XHB.out) E4.out) (Kd.C_below (Kd.C_below Ha1.out XHB.out) E4.out) (Kd.C_below (Kd.C_below Ha0.out XHB.out) E4.out) (Kd.C_below (Kd.C_below Ha1.out XHB.out) E4.out) Ka0.out Ka1.out Ka0.out Ka1.out).mono ?_
          rintro e W5 ⟨rfl, D5⟩
          refine ⟨_, rfl, ?_⟩
          have E5 := Aside0.mk (below_step E4.out D5)
          refine hK.out _ _ D5 (fun _ => behind_ D5 ?_)
          clear hK K
          refine norm_ (a' := ?_) ?_ ?_
          rotate_left
          · show Act.put _ (some 102) _ = _
            simp only [Act.put, List.setIfInBounds_toArray, List.set_cons_zero, List.set_cons_succ, i64_w, i32_w]
            rfl
          refine pure_ (i := 21) (N := some 103) (v := ?_) (a' := ?_) #[true, true, true, true, true, true, true, true, true, true, true, true, true, true, true, true, true, true, true, true, true, true, false, false, false, false] rfl rfl (by kernel_rfl) (fun _ _ _ h => h) (Or.inl ⟨by rfl, ?_⟩) ?_ ?_
          rotate_left
          · intro w'
            go_simp
            with_reducible rfl
          rotate_left
          · simp only [Act.put, List.setIfInBounds_toArray, List.set_cons_zero, List.set_cons_succ, i64_w, i32_w]
            rfl
          refine pure_ (i := 22) (N := some 104) (v := ?_) (a' := ?_) #[true, true, true, true, true, true, true, true, true, true, true, true, true, true, true, true, true, true, true, true, true, true, true, false, false, false] rfl rfl (by kernel_rfl) (fun _ _ _ h => h) (Or.inl ⟨by rfl, ?_⟩) ?_ ?_
          rotate_left
          · intro w'
            go_simp
            with_reducible rfl
          rotate_left
          · simp only [Act.put, List.setIfInBounds_toArray, List.set_cons_zero, List.set_cons_succ, i64_w, i32_w]
            rfl
          refine one_ (i := 23) (N := some 105) #[true, true, true, true, true, true, true, true, true, true, true, true, true, true, true, true, true, true, true, true, true, true, true, true, false, false] rfl rfl (by kernel_rfl) (by decide) (fun K hK => ?_)
          refine goes_ Try.func8 (by kernel_rfl) rfl #[] (by rfl) rfl rfl (by (try simp only [List.map_toArray, List.map_cons, List.map_nil]); first | done | rfl) ?_
          with_reducible refine (works_b _).mono ?_
          rintro e W6 ⟨rfl, D6⟩
          refine ⟨_, rfl, ?_⟩
          have E6 := Aside0.mk (below_step E5.out D6)
          refine hK.out _ _ D6 (fun _ => behind_ D6 ?_)
          clear hK K
          refine norm_ (a' := ?_) ?_ ?_
          rotate_left
          · show Act.put _ (some 105) _ = _
            simp only [Act.put, List.setIfInBounds_toArray, List.set_cons_zero, List.set_cons_succ, i64_w, i32_w]
            rfl
          refine pure_ (i := 24) (N := some 106) (v := ?_) (a' := ?_) #[true, true, true, true, true, true, true, true, true, true, true, true, true, true, true, true, true, true, true, true, true, true, true, true, true, false] rfl rfl (by kernel_rfl) (fun _ _ _ h => h) (Or.inl ⟨by rfl, ?_⟩) ?_ ?_
          rotate_left
          · intro w'
            go_simp
            with_reducible rfl
          rotate_left
          · simp only [Act.put, List.setIfInBounds_toArray, List.set_cons_zero, List.set_cons_succ, i64_w, i32_w]
            rfl
          refine pure_ (i := 25) (N := some 6) (v := ?_) (a' := ?_) #[true, true, true, true, true, true, true, true, true, true, true, true, true, true, true, true, true, true, true, true, true, true, true, true, true, true] rfl rfl (by kernel_rfl) (fun _ _ _ h => h) (Or.inl ⟨by rfl, ?_⟩) ?_ ?_
          rotate_left
          · intro w'
            go_simp
            with_reducible rfl
          rotate_left
          · simp only [Act.put, List.setIfInBounds_toArray, List.set_cons_zero, List.set_cons_succ, i64_w, i32_w]
            rfl
          refine done_ (by kernel_rfl) ?_
          go_wp2
          go_ret
          exact ⟨by first | rfl | (simp; done), below_step XHB.out E6.out⟩

theorem walk (xs xs2 ys ys2 zs zs2 : List Int) (A0 A1 B0 B1 C0 C1 : Option Addr) (c0 c1 d0 d1 g0 g1 : Nat) (w : World) (ha0 : Rd w A0 xs) (ha1 : Rd w A1 xs2) (hb0 : Rd w B0 ys) (hb1 : Rd w B1 ys2) (hc0 : Rd w C0 zs) (hc1 : Rd w C1 zs2) (ka0 : xs.length ≤ c0) (ka1 : xs2.length ≤ c1) (kb0 : ys.length ≤ d0) (kb1 : ys2.length ≤ d1) (kc0 : zs.length ≤ g0) (kc1 : zs2.length ≤ g1) :
    Calls Try.prog 5 #[.agg #[.slice A0 xs.length c0, .slice A1 xs2.length c1], .agg #[.slice B0 ys.length d0, .slice B1 ys2.length d1], .agg #[.slice C0 zs.length g0, .slice C1 zs2.length g1]] w fun e w' => e = .returned (.bool true) ∧ Below w.heap.size w w' := by
  by_cases ga : (xs.length > 5000 ∨ xs2.length > 5000)
  · exact laws_large_a xs xs2 ys ys2 zs zs2 (decide_eq_true ga) A0 A1 B0 B1 C0 C1 c0 c1 d0 d1 g0 g1 w ha0 ha1 hb0 hb1 hc0 hc1 ka0 ka1 kb0 kb1 kc0 kc1
  by_cases gb : (ys.length > 5000 ∨ ys2.length > 5000)
  · exact laws_large_b xs xs2 ys ys2 zs zs2 (decide_eq_false ga) (decide_eq_true gb) A0 A1 B0 B1 C0 C1 c0 c1 d0 d1 g0 g1 w ha0 ha1 hb0 hb1 hc0 hc1 ka0 ka1 kb0 kb1 kc0 kc1
  by_cases gc : (zs.length > 5000 ∨ zs2.length > 5000)
  · exact laws_large_c xs xs2 ys ys2 zs zs2 (decide_eq_false ga) (decide_eq_false gb) (decide_eq_true gc) A0 A1 B0 B1 C0 C1 c0 c1 d0 d1 g0 g1 w ha0 ha1 hb0 hb1 hc0 hc1 ka0 ka1 kb0 kb1 kc0 kc1
  have la0 : xs.length ≤ 10000 := by omega
  have la1 : xs2.length ≤ 10000 := by omega
  have lb0 : ys.length ≤ 10000 := by omega
  have lb1 : ys2.length ≤ 10000 := by omega
  obtain ⟨m, m2, x, hab⟩ : ∃ m m2 x, mrg xs xs2 ys ys2 = (m, m2, x) := ⟨_, _, _, rfl⟩
  obtain ⟨u, u2, y, hbc⟩ : ∃ m m2 x, mrg ys ys2 zs zs2 = (m, m2, x) := ⟨_, _, _, rfl⟩
  obtain ⟨t, t2, k, hmc⟩ : ∃ t t2 k, mrg m m2 zs zs2 = (t, t2, k) := ⟨_, _, _, rfl⟩
  have lm := mrg_len xs xs2 ys ys2
  rw [hab] at lm
  have lt := mrg_len m m2 zs zs2
  rw [hmc] at lt
  exact laws_in xs xs2 ys ys2 zs zs2 m m2 u u2 t t2 x y k _ _ _ (decide_eq_false ga) (decide_eq_false gb) (decide_eq_false gc) la0 la1 lb0 lb1 (Nat.le_trans lm.1 la0) (Nat.le_trans lm.2 la1) (Nat.le_trans lt.1 (Nat.le_trans lm.1 la0)) (Nat.le_trans lt.2 (Nat.le_trans lm.2 la1)) (mrg_self _ _) hab ((mrg_comm _ _ _ _).trans hab) hbc (fun _ _ => hmc)
    (fun hx hy => by subst hx hy; exact (mrg_assoc hab hbc).trans hmc) (sam_self _ _) (sam_self _ _) (sam_self _ _) (bel_self _ _) rfl rfl rfl bel_trans (sam_bel _ _ _ _) A0 A1 B0 B1 C0 C1 c0 c1 d0 d1 g0 g1 w ha0 ha1 hb0 hb1 hc0 hc1 ka0 ka1 kb0 kb1 kc0 kc1

end Go.Proofs.Ytnjmheadmcjgcaa.WalkLatticeLaws
