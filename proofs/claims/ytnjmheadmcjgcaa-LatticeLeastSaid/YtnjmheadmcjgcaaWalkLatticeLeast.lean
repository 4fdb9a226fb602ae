/- The law Least, walked: the other ways, and all together. Under no conditions beyond the statement's own. -/
import Derived.Test.YtnjmheadmcjgcaaPLatticeTellsx3
import Derived.Test.YtnjmheadmcjgcaaSwitch
import Derived.Outline
import Derived.Deep.RegionWith
import Derived.Test.YtnjmheadmcjgcaaWalkPairs
import Derived.Test.YtnjmheadmcjgcaaWalkSlots
import Derived.Test.YtnjmheadmcjgcaaWalkMerge
import Derived.Test.YtnjmheadmcjgcaaWalkHeight
import Derived.Test.YtnjmheadmcjgcaaWalkBase
import Derived.Test.YtnjmheadmcjgcaaWalkWorks
import Derived.Test.YtnjmheadmcjgcaaWalkOf
import Derived.Test.YtnjmheadmcjgcaaWalkLatticeLeastA
import Derived.Test.YtnjmheadmcjgcaaPlain
set_option linter.unusedSimpArgs false
set_option linter.unusedVariables false
namespace Go.Proofs.Ytnjmheadmcjgcaa.WalkLatticeLeast
open Go.RowKit Go.Proofs.Ytnjmheadmcjgcaa.PLatticeTells Go.Proofs.YtnjmheadmcjgcaaW.PrintWords Go.Proofs.YtnjmheadmcjgcaaW.PrintLast Go.Proofs.YtnjmheadmcjgcaaW.PrintMore Go.Proofs.Ytnjmheadmcjgcaa.Switch
open Go.Proofs.Ytnjmheadmcjgcaa.WalkPairs
open Go.Proofs.Ytnjmheadmcjgcaa.WalkSlots
open Go.Proofs.Ytnjmheadmcjgcaa.WalkMerge
open Go.Proofs.Ytnjmheadmcjgcaa.WalkHeight (hgt height_c)
open Go.Proofs.Ytnjmheadmcjgcaa.WalkBase
open Go.Proofs.Ytnjmheadmcjgcaa.WalkWorks
open Go.Proofs.Ytnjmheadmcjgcaa.WalkOf
open Go.Proofs.Ytnjmheadmcjgcaa.WalkLatticeLeastA
open Go.Proofs.Ytnjmheadmcjgcaa.Plain
set_option maxHeartbeats 8000000 in
set_option maxRecDepth 100000 in
theorem least_10 (xs xs2 ys ys2 zs zs2 : List Int) (m m2 : List Int) (qa : decide (xs.length > 5000 ∨ xs2.length > 5000) = false) (qb : decide (ys.length > 5000 ∨ ys2.length > 5000) = false) (qc : decide (zs.length > 5000 ∨ zs2.length > 5000) = false) (la0 : xs.length ≤ 10000) (la1 : xs2.length ≤ 10000) (lb0 : ys.length ≤ 10000) (lb1 : ys2.length ≤ 10000) (lm0 : m.length ≤ 10000) (lm1 : m2.length ≤ 10000) (hm : mrg xs xs2 ys ys2 = (m, m2, true)) (qam : bel xs xs2 m m2 = true) (qbm : bel ys ys2 m m2 = true) (qac : bel xs xs2 zs zs2 = true) (qbc : bel ys ys2 zs zs2 = false) (sma : sam m m2 xs xs2 = false) (qba : bel ys ys2 xs xs2 = false) (r1 r2 : Int) (tm : ((hgt m + hgt m2 : Nat) : Int) = r1) (ta : ((hgt xs + hgt xs2 : Nat) : Int) = r2) (hr : decide (r1 < r2) = true) (A0 A1 B0 B1 C0 C1 : Option Addr) (c0 c1 d0 d1 g0 g1 : Nat) (w : World) (ha0 : Rd w A0 xs) (ha1 : Rd w A1 xs2) (hb0 : Rd w B0 ys) (hb1 : Rd w B1 ys2) (hc0 : Rd w C0 zs) (hc1 : Rd w C1 zs2) (ka0 : xs.length ≤ c0) (ka1 : xs2.length ≤ c1) (kb0 : ys.length ≤ d0) (kb1 : ys2.length ≤ d1) (kc0 : zs.length ≤ g0) (kc1 : zs2.length ≤ g1) :
    Calls Try.prog 4 #[.agg #[.slice A0 xs.length c0, .slice A1 xs2.length c1], .agg #[.slice B0 ys.length d0, .slice B1 ys2.length d1], .agg #[.slice C0 zs.length g0, .slice C1 zs2.length g1]] w fun e w' => e = .returned (.bool true) ∧ Below w.heap.size w w' := by
  have hu24 := Try.underlying24
  have Ha0 := Aside0.mk ha0
  have Ka0 := Aside0.mk ka0
  clear ha0 ka0
  have Ha1 := Aside0.mk ha1
  have Ka1 := Aside0.mk ka1
  clear ha1 ka1
  have Hb0 := Aside0.mk hb0
  have Kb0 := Aside0.mk kb0
  clear hb0 kb0
  have Hb1 := Aside0.mk hb1
  have Kb1 := Aside0.mk kb1
  clear hb1 kb1
  have Hc0 := Aside0.mk hc0
  have Kc0 := Aside0.mk kc0
  clear hc0 kc0
  have Hc1 := Aside0.mk hc1
  have Kc1 := Aside0.mk kc1
  clear hc1 kc1
  have HB := Aside0.mk (Below.refl w.heap.size w)
  have Ga := Aside0.mk qa
  clear qa
  have Gb := Aside0.mk qb
  clear qb
  have Gc := Aside0.mk qc
  clear qc
  have La0 := Aside0.mk la0
  clear la0
  have La1 := Aside0.mk la1
  clear la1
  have Lb0 := Aside0.mk lb0
  clear lb0
  have Lb1 := Aside0.mk lb1
  clear lb1
  have HM := Aside0.mk hm
  clear hm
  have Lm0 := Aside0.mk lm0
  clear lm0
  have Lm1 := Aside0.mk lm1
  clear lm1
  have Qam := Aside0.mk qam
  clear qam
  have Qbm := Aside0.mk qbm
  clear qbm
  have Qac := Aside0.mk qac
  clear qac
  have Qbc := Aside0.mk qbc
  clear qbc
  have Sma := Aside0.mk sma
  clear sma
  have Qba := Aside0.mk qba
  clear qba
  have Tm := Aside0.mk tm
  clear tm
  have Ta := Aside0.mk ta
  clear ta
  go_enter Try.func4, Try.ntmps4
  go_upto_region 4 with (first
    | ((with_reducible refine gate_dst (N := 3) rfl ?_); refine box_event ?hg (N := 3) ?hd (cs := #[.slice A0 xs.length c0, .slice A1 xs2.length c1]) (t := 24) ?hr ?_; (case hd => rfl); (case hg => rfl); (case hr => first | (go_simp; done) | (go_simp; rfl)); intro gb1 hg_ wb1 hbox hb_; have GE1 := Aside0.mk ((by rw [hg_]; exact (below_size (by repeat (first | (with_reducible first | exact HB.out | apply below_alloc | apply pw_below_drewN | apply below_drew1 | apply below_drew) | exact HB.out)))) : w.heap.size ≤ gb1); have tHB_ := Aside0.mk (below_step (by repeat (first | (with_reducible first | exact HB.out | apply below_alloc | apply pw_below_drewN | apply below_drew1 | apply below_drew) | exact HB.out)) hb_); clear HB; have HB := tHB_; clear tHB_; have BK1 := Aside0.mk hbox; have HG1 := Aside0.mk hg_; have DB1 := Aside0.mk hb_; clear hbox hg_ hb_)
    | ((with_reducible refine gate_dst (N := 4) rfl ?_); refine box_event ?hg (N := 4) ?hd (cs := #[.slice B0 ys.length d0, .slice B1 ys2.length d1]) (t := 24) ?hr ?_; (case hd => rfl); (case hg => rfl); (case hr => first | (go_simp; done) | (go_simp; rfl)); intro gb2 hg_ wb2 hbox hb_; have GE2 := Aside0.mk ((by rw [hg_]; exact (below_size (by repeat (first | (with_reducible first | exact HB.out | apply below_alloc | apply pw_below_drewN | apply below_drew1 | apply below_drew) | exact HB.out)))) : w.heap.size ≤ gb2); have tHB_ := Aside0.mk (below_step (by repeat (first | (with_reducible first | exact HB.out | apply below_alloc | apply pw_below_drewN | apply below_drew1 | apply below_drew) | exact HB.out)) hb_); have bk2_ := Aside0.mk (blk_below (g := gb1) (o := .cells #[.slice A0 xs.length c0, .slice A1 xs2.length c1] 24 (0, 0)) (by (with_reducible repeat (first | refine blk_drewN ?_ _ | refine blk_drew ?_ | refine blk_alloc ?_ _)); exact BK1.out) hb_); clear BK1; have BK1 := bk2_; clear bk2_; clear HB; have HB := tHB_; clear tHB_; have BK2 := Aside0.mk hbox; have HG2 := Aside0.mk hg_; have DB2 := Aside0.mk hb_; clear hbox hg_ hb_)
    | ((with_reducible refine gate_dst (N := 5) rfl ?_); refine box_event ?hg (N := 5) ?hd (cs := #[.slice C0 zs.length g0, .slice C1 zs2.length g1]) (t := 24) ?hr ?_; (case hd => rfl); (case hg => rfl); (case hr => first | (go_simp; done) | (go_simp; rfl)); intro gb3 hg_ wb3 hbox hb_; have GE3 := Aside0.mk ((by rw [hg_]; exact (below_size (by repeat (first | (with_reducible first | exact HB.out | apply below_alloc | apply pw_below_drewN | apply below_drew1 | apply below_drew) | exact HB.out)))) : w.heap.size ≤ gb3); have tHB_ := Aside0.mk (below_step (by repeat (first | (with_reducible first | exact HB.out | apply below_alloc | apply pw_below_drewN | apply below_drew1 | apply below_drew) | exact HB.out)) hb_); have bk2_ := Aside0.mk (blk_below (g := gb1) (o := .cells #[.slice A0 xs.length c0, .slice A1 xs2.length c1] 24 (0, 0)) (by (with_reducible repeat (first | refine blk_drewN ?_ _ | refine blk_drew ?_ | refine blk_alloc ?_ _)); exact BK1.out) hb_); clear BK1; have BK1 := bk2_; clear bk2_; have bk2_ := Aside0.mk (blk_below (g := gb2) (o := .cells #[.slice B0 ys.length d0, .slice B1 ys2.length d1] 24 (0, 0)) (by (with_reducible repeat (first | refine blk_drewN ?_ _ | refine blk_drew ?_ | refine blk_alloc ?_ _)); exact BK2.out) hb_); clear BK2; have BK2 := bk2_; clear bk2_; clear HB; have HB := tHB_; clear tHB_; have BK3 := Aside0.mk hbox; have HG3 := Aside0.mk hg_; have DB3 := Aside0.mk hb_; clear hbox hg_ hb_; have hcz1_0 := (blk_cell BK1.out 0).trans (show (#[.slice A0 xs.length c0, .slice A1 xs2.length c1] : Array Value)[0]? = some (.slice A0 xs.length c0) from rfl); have hcz1_1 := (blk_cell BK1.out 1).trans (show (#[.slice A0 xs.length c0, .slice A1 xs2.length c1] : Array Value)[1]? = some (.slice A1 xs2.length c1) from rfl); have hcz2_0 := (blk_cell BK2.out 0).trans (show (#[.slice B0 ys.length d0, .slice B1 ys2.length d1] : Array Value)[0]? = some (.slice B0 ys.length d0) from rfl); have hcz2_1 := (blk_cell BK2.out 1).trans (show (#[.slice B0 ys.length d0, .slice B1 ys2.length d1] : Array Value)[1]? = some (.slice B1 ys2.length d1) from rfl); have hcz3_0 := (blk_cell BK3.out 0).trans (show (#[.slice C0 zs.length g0, .slice C1 zs2.length g1] : Array Value)[0]? = some (.slice C0 zs.length g0) from rfl); have hcz3_1 := (blk_cell BK3.out 1).trans (show (#[.slice C0 zs.length g0, .slice C1 zs2.length g1] : Array Value)[1]? = some (.slice C1 zs2.length g1) from rfl))
    | (go_at_call 7; (with_reducible refine (large_t xs xs2 _ _ _ _ _ _ Ga.out (by repeat (first | exact (Kd.C_below Ha0.out HB.out) | (with_reducible refine Kd.C_alloc ?_ _) | (with_reducible refine Kd.C_drewN ?_ _) | (with_reducible refine Kd.C_drew ?_))) (by repeat (first | exact (Kd.C_below Ha1.out HB.out) | (with_reducible refine Kd.C_alloc ?_ _) | (with_reducible refine Kd.C_drewN ?_ _) | (with_reducible refine Kd.C_drew ?_))) Ka0.out Ka1.out).mono ?_); rintro e wc ⟨rfl, hb_⟩; have tHB_ := Aside0.mk (below_step (by repeat (first | (with_reducible first | exact HB.out | apply below_alloc | apply pw_below_drewN | apply below_drew1 | apply below_drew) | exact HB.out)) hb_); have bk2_ := Aside0.mk (blk_below (g := gb1) (o := .cells #[.slice A0 xs.length c0, .slice A1 xs2.length c1] 24 (0, 0)) (by (with_reducible repeat (first | refine blk_drewN ?_ _ | refine blk_drew ?_ | refine blk_alloc ?_ _)); exact BK1.out) hb_); clear BK1; have BK1 := bk2_; clear bk2_; have bk2_ := Aside0.mk (blk_below (g := gb2) (o := .cells #[.slice B0 ys.length d0, .slice B1 ys2.length d1] 24 (0, 0)) (by (with_reducible repeat (first | refine blk_drewN ?_ _ | refine blk_drew ?_ | refine blk_alloc ?_ _)); exact BK2.out) hb_); clear BK2; have BK2 := bk2_; clear bk2_; have bk2_ := Aside0.mk (blk_below (g := gb3) (o := .cells #[.slice C0 zs.length g0, .slice C1 zs2.length g1] 24 (0, 0)) (by (with_reducible repeat (first | refine blk_drewN ?_ _ | refine blk_drew ?_ | refine blk_alloc ?_ _)); exact BK3.out) hb_); clear BK3; have BK3 := bk2_; clear bk2_; clear HB; have HB := tHB_; clear tHB_; (try clear hcz1_0 hcz1_1 hcz2_0 hcz2_1 hcz3_0 hcz3_1); have hcz1_0 := (blk_cell BK1.out 0).trans (show (#[.slice A0 xs.length c0, .slice A1 xs2.length c1] : Array Value)[0]? = some (.slice A0 xs.length c0) from rfl); have hcz1_1 := (blk_cell BK1.out 1).trans (show (#[.slice A0 xs.length c0, .slice A1 xs2.length c1] : Array Value)[1]? = some (.slice A1 xs2.length c1) from rfl); have hcz2_0 := (blk_cell BK2.out 0).trans (show (#[.slice B0 ys.length d0, .slice B1 ys2.length d1] : Array Value)[0]? = some (.slice B0 ys.length d0) from rfl); have hcz2_1 := (blk_cell BK2.out 1).trans (show (#[.slice B0 ys.length d0, .slice B1 ys2.length d1] : Array Value)[1]? = some (.slice B1 ys2.length d1) from rfl); have hcz3_0 := (blk_cell BK3.out 0).trans (show (#[.slice C0 zs.length g0, .slice C1 zs2.length g1] : Array Value)[0]? = some (.slice C0 zs.length g0) from rfl); have hcz3_1 := (blk_cell BK3.out 1).trans (show (#[.slice C0 zs.length g0, .slice C1 zs2.length g1] : Array Value)[1]? = some (.slice C1 zs2.length g1) from rfl); (try clear hb_))
    | (go_at_call 7; (with_reducible refine (large_t ys ys2 _ _ _ _ _ _ Gb.out (by repeat (first | exact (Kd.C_below Hb0.out HB.out) | (with_reducible refine Kd.C_alloc ?_ _) | (with_reducible refine Kd.C_drewN ?_ _) | (with_reducible refine Kd.C_drew ?_))) (by repeat (first | exact (Kd.C_below Hb1.out HB.out) | (with_reducible refine Kd.C_alloc ?_ _) | (with_reducible refine Kd.C_drewN ?_ _) | (with_reducible refine Kd.C_drew ?_))) Kb0.out Kb1.out).mono ?_); rintro e wc ⟨rfl, hb_⟩; have tHB_ := Aside0.mk (below_step (by repeat (first | (with_reducible first | exact HB.out | apply below_alloc | apply pw_below_drewN | apply below_drew1 | apply below_drew) | exact HB.out)) hb_); have bk2_ := Aside0.mk (blk_below (g := gb1) (o := .cells #[.slice A0 xs.length c0, .slice A1 xs2.length c1] 24 (0, 0)) (by (with_reducible repeat (first | refine blk_drewN ?_ _ | refine blk_drew ?_ | refine blk_alloc ?_ _)); exact BK1.out) hb_); clear BK1; have BK1 := bk2_; clear bk2_; have bk2_ := Aside0.mk (blk_below (g := gb2) (o := .cells #[.slice B0 ys.length d0, .slice B1 ys2.length d1] 24 (0, 0)) (by (with_reducible repeat (first | refine blk_drewN ?_ _ | refine blk_drew ?_ | refine blk_alloc ?_ _)); exact BK2.out) hb_); clear BK2; have BK2 := bk2_; clear bk2_; have bk2_ := Aside0.mk (blk_below (g := gb3) (o := .cells #[.slice C0 zs.length g0, .slice C1 zs2.length g1] 24 (0, 0)) (by (with_reducible repeat (first | refine blk_drewN ?_ _ | refine blk_drew ?_ | refine blk_alloc ?_ _)); exact BK3.out) hb_); clear BK3; have BK3 := bk2_; clear bk2_; clear HB; have HB := tHB_; clear tHB_; (try clear hcz1_0 hcz1_1 hcz2_0 hcz2_1 hcz3_0 hcz3_1); have hcz1_0 := (blk_cell BK1.out 0).trans (show (#[.slice A0 xs.length c0, .slice A1 xs2.length c1] : Array Value)[0]? = some (.slice A0 xs.length c0) from rfl); have hcz1_1 := (blk_cell BK1.out 1).trans (show (#[.slice A0 xs.length c0, .slice A1 xs2.length c1] : Array Value)[1]? = some (.slice A1 xs2.length c1) from rfl); have hcz2_0 := (blk_cell BK2.out 0).trans (show (#[.slice B0 ys.length d0, .slice B1 ys2.length d1] : Array Value)[0]? = some (.slice B0 ys.length d0) from rfl); have hcz2_1 := (blk_cell BK2.out 1).trans (show (#[.slice B0 ys.length d0, .slice B1 ys2.length d1] : Array Value)[1]? = some (.slice B1 ys2.length d1) from rfl); have hcz3_0 := (blk_cell BK3.out 0).trans (show (#[.slice C0 zs.length g0, .slice C1 zs2.length g1] : Array Value)[0]? = some (.slice C0 zs.length g0) from rfl); have hcz3_1 := (blk_cell BK3.out 1).trans (show (#[.slice C0 zs.length g0, .slice C1 zs2.length g1] : Array Value)[1]? = some (.slice C1 zs2.length g1) from rfl); (try clear hb_))
    | (go_at_call 7; (with_reducible refine (large_t zs zs2 _ _ _ _ _ _ Gc.out (by repeat (first | exact (Kd.C_below Hc0.out HB.out) | (with_reducible refine Kd.C_alloc ?_ _) | (with_reducible refine Kd.C_drewN ?_ _) | (with_reducible refine Kd.C_drew ?_))) (by repeat (first | exact (Kd.C_below Hc1.out HB.out) | (with_reducible refine Kd.C_alloc ?_ _) | (with_reducible refine Kd.C_drewN ?_ _) | (with_reducible refine Kd.C_drew ?_))) Kc0.out Kc1.out).mono ?_); rintro e wc ⟨rfl, hb_⟩; have tHB_ := Aside0.mk (below_step (by repeat (first | (with_reducible first | exact HB.out | apply below_alloc | apply pw_below_drewN | apply below_drew1 | apply below_drew) | exact HB.out)) hb_); have bk2_ := Aside0.mk (blk_below (g := gb1) (o := .cells #[.slice A0 xs.length c0, .slice A1 xs2.length c1] 24 (0, 0)) (by (with_reducible repeat (first | refine blk_drewN ?_ _ | refine blk_drew ?_ | refine blk_alloc ?_ _)); exact BK1.out) hb_); clear BK1; have BK1 := bk2_; clear bk2_; have bk2_ := Aside0.mk (blk_below (g := gb2) (o := .cells #[.slice B0 ys.length d0, .slice B1 ys2.length d1] 24 (0, 0)) (by (with_reducible repeat (first | refine blk_drewN ?_ _ | refine blk_drew ?_ | refine blk_alloc ?_ _)); exact BK2.out) hb_); clear BK2; have BK2 := bk2_; clear bk2_; have bk2_ := Aside0.mk (blk_below (g := gb3) (o := .cells #[.slice C0 zs.length g0, .slice C1 zs2.length g1] 24 (0, 0)) (by (with_reducible repeat (first | refine blk_drewN ?_ _ | refine blk_drew ?_ | refine blk_alloc ?_ _)); exact BK3.out) hb_); clear BK3; have BK3 := bk2_; clear bk2_; clear HB; have HB := tHB_; clear tHB_; (try clear hcz1_0 hcz1_1 hcz2_0 hcz2_1 hcz3_0 hcz3_1); have hcz1_0 := (blk_cell BK1.out 0).trans (show (#[.slice A0 xs.length c0, .slice A1 xs2.length c1] : Array Value)[0]? = some (.slice A0 xs.length c0) from rfl); have hcz1_1 := (blk_cell BK1.out 1).trans (show (#[.slice A0 xs.length c0, .slice A1 xs2.length c1] : Array Value)[1]? = some (.slice A1 xs2.length c1) from rfl); have hcz2_0 := (blk_cell BK2.out 0).trans (show (#[.slice B0 ys.length d0, .slice B1 ys2.length d1] : Array Value)[0]? = some (.slice B0 ys.length d0) from rfl); have hcz2_1 := (blk_cell BK2.out 1).trans (show (#[.slice B0 ys.length d0, .slice B1 ys2.length d1] : Array Value)[1]? = some (.slice B1 ys2.length d1) from rfl); have hcz3_0 := (blk_cell BK3.out 0).trans (show (#[.slice C0 zs.length g0, .slice C1 zs2.length g1] : Array Value)[0]? = some (.slice C0 zs.length g0) from rfl); have hcz3_1 := (blk_cell BK3.out 1).trans (show (#[.slice C0 zs.length g0, .slice C1 zs2.length g1] : Array Value)[1]? = some (.slice C1 zs2.length g1) from rfl); (try clear hb_))
    | (go_at_call 11; (with_reducible refine (merge_t m m2 true xs xs2 ys ys2 La0.out La1.out HM.out _ _ _ _ _ _ _ _ _ (by repeat (first | exact (Kd.C_below Ha0.out HB.out) | (with_reducible refine Kd.C_alloc ?_ _) | (with_reducible refine Kd.C_drewN ?_ _) | (with_reducible refine Kd.C_drew ?_))) (by repeat (first | exact (Kd.C_below Ha1.out HB.out) | (with_reducible refine Kd.C_alloc ?_ _) | (with_reducible refine Kd.C_drewN ?_ _) | (with_reducible refine Kd.C_drew ?_))) (by repeat (first | exact (Kd.C_below Hb0.out HB.out) | (with_reducible refine Kd.C_alloc ?_ _) | (with_reducible refine Kd.C_drewN ?_ _) | (with_reducible refine Kd.C_drew ?_))) (by repeat (first | exact (Kd.C_below Hb1.out HB.out) | (with_reducible refine Kd.C_alloc ?_ _) | (with_reducible refine Kd.C_drewN ?_ _) | (with_reducible refine Kd.C_drew ?_)))).mono ?_); rintro e wA ⟨F0, F1, f0, f1, rfl, k0, k1, r0, r1, hb_, R0, R1⟩; have tHB_ := Aside0.mk (below_step (by repeat (first | (with_reducible first | exact HB.out | apply below_alloc | apply pw_below_drewN | apply below_drew1 | apply below_drew) | exact HB.out)) hb_); have bk2_ := Aside0.mk (blk_below (g := gb1) (o := .cells #[.slice A0 xs.length c0, .slice A1 xs2.length c1] 24 (0, 0)) (by (with_reducible repeat (first | refine blk_drewN ?_ _ | refine blk_drew ?_ | refine blk_alloc ?_ _)); exact BK1.out) hb_); clear BK1; have BK1 := bk2_; clear bk2_; have bk2_ := Aside0.mk (blk_below (g := gb2) (o := .cells #[.slice B0 ys.length d0, .slice B1 ys2.length d1] 24 (0, 0)) (by (with_reducible repeat (first | refine blk_drewN ?_ _ | refine blk_drew ?_ | refine blk_alloc ?_ _)); exact BK2.out) hb_); clear BK2; have BK2 := bk2_; clear bk2_; have bk2_ := Aside0.mk (blk_below (g := gb3) (o := .cells #[.slice C0 zs.length g0, .slice C1 zs2.length g1] 24 (0, 0)) (by (with_reducible repeat (first | refine blk_drewN ?_ _ | refine blk_drew ?_ | refine blk_alloc ?_ _)); exact BK3.out) hb_); clear BK3; have BK3 := bk2_; clear bk2_; clear HB; have HB := tHB_; clear tHB_; (try clear hcz1_0 hcz1_1 hcz2_0 hcz2_1 hcz3_0 hcz3_1); (try clear hb_); clear R0 R1)
    | ((with_reducible refine gate_dst (N := 7) rfl ?_); have HLT1 := Aside0.mk (blk_lt BK1.out); have HLT2 := Aside0.mk (blk_lt BK2.out); have HLT3 := Aside0.mk (blk_lt BK3.out); refine box_event ?hg (N := 7) ?hd (cs := #[.slice none 0 0, .slice none 0 0]) (t := 24) ?hr ?_; (case hd => rfl); (case hg => rfl); (case hr => first | (go_simp; done) | (go_simp; rfl)); intro gb4 hg_ wb4 hbox hb_; have GE4 := Aside0.mk ((by rw [hg_]; exact (below_size (by repeat (first | (with_reducible first | exact HB.out | apply below_alloc | apply pw_below_drewN | apply below_drew1 | apply below_drew) | exact HB.out)))) : w.heap.size ≤ gb4); have tHB_ := Aside0.mk (below_step (by repeat (first | (with_reducible first | exact HB.out | apply below_alloc | apply pw_below_drewN | apply below_drew1 | apply below_drew) | exact HB.out)) hb_); have bk2_ := Aside0.mk (blk_below (g := gb1) (o := .cells #[.slice A0 xs.length c0, .slice A1 xs2.length c1] 24 (0, 0)) (by (with_reducible repeat (first | refine blk_drewN ?_ _ | refine blk_drew ?_ | refine blk_alloc ?_ _)); exact BK1.out) hb_); clear BK1; have BK1 := bk2_; clear bk2_; have bk2_ := Aside0.mk (blk_below (g := gb2) (o := .cells #[.slice B0 ys.length d0, .slice B1 ys2.length d1] 24 (0, 0)) (by (with_reducible repeat (first | refine blk_drewN ?_ _ | refine blk_drew ?_ | refine blk_alloc ?_ _)); exact BK2.out) hb_); clear BK2; have BK2 := bk2_; clear bk2_; have bk2_ := Aside0.mk (blk_below (g := gb3) (o := .cells #[.slice C0 zs.length g0, .slice C1 zs2.length g1] 24 (0, 0)) (by (with_reducible repeat (first | refine blk_drewN ?_ _ | refine blk_drew ?_ | refine blk_alloc ?_ _)); exact BK3.out) hb_); clear BK3; have BK3 := bk2_; clear bk2_; clear HB; have HB := tHB_; clear tHB_; have BK4 := Aside0.mk hbox; have HG4 := Aside0.mk hg_; have DB4 := Aside0.mk hb_; clear hbox hg_ hb_; have hcz1_0 := (blk_cell BK1.out 0).trans (show (#[.slice A0 xs.length c0, .slice A1 xs2.length c1] : Array Value)[0]? = some (.slice A0 xs.length c0) from rfl); have hfz1_0 := blk_frozen BK1.out 0; have hcz1_1 := (blk_cell BK1.out 1).trans (show (#[.slice A0 xs.length c0, .slice A1 xs2.length c1] : Array Value)[1]? = some (.slice A1 xs2.length c1) from rfl); have hfz1_1 := blk_frozen BK1.out 1; have hcz2_0 := (blk_cell BK2.out 0).trans (show (#[.slice B0 ys.length d0, .slice B1 ys2.length d1] : Array Value)[0]? = some (.slice B0 ys.length d0) from rfl); have hfz2_0 := blk_frozen BK2.out 0; have hcz2_1 := (blk_cell BK2.out 1).trans (show (#[.slice B0 ys.length d0, .slice B1 ys2.length d1] : Array Value)[1]? = some (.slice B1 ys2.length d1) from rfl); have hfz2_1 := blk_frozen BK2.out 1; have hcz3_0 := (blk_cell BK3.out 0).trans (show (#[.slice C0 zs.length g0, .slice C1 zs2.length g1] : Array Value)[0]? = some (.slice C0 zs.length g0) from rfl); have hfz3_0 := blk_frozen BK3.out 0; have hcz3_1 := (blk_cell BK3.out 1).trans (show (#[.slice C0 zs.length g0, .slice C1 zs2.length g1] : Array Value)[1]? = some (.slice C1 zs2.length g1) from rfl); have hfz3_1 := blk_frozen BK3.out 1; have hcz4_0 := (blk_cell BK4.out 0).trans (show (#[.slice none 0 0, .slice none 0 0] : Array Value)[0]? = some (.slice none 0 0) from rfl); have hfz4_0 := blk_frozen BK4.out 0; have hcz4_1 := (blk_cell BK4.out 1).trans (show (#[.slice none 0 0, .slice none 0 0] : Array Value)[1]? = some (.slice none 0 0) from rfl); have hfz4_1 := blk_frozen BK4.out 1))
  have bk := blk_put (cs' := #[.slice F0 m.length f0, .slice F1 m2.length f1]) (blk_put (cs' := #[.slice F0 m.length f0, .slice none 0 0]) BK4.out 0 (.slice F0 m.length f0) rfl) 1 (.slice F1 m2.length f1) rfl
  have hne1 : gb1 ≠ gb4 := by rw [HG4.out]; exact Nat.ne_of_lt (HLT1.out)
  have bk1 := blk_far (p := ⟨gb4, 1, none⟩) (blk_far (p := ⟨gb4, 0, none⟩) BK1.out hne1 (.slice F0 m.length f0)) hne1 (.slice F1 m2.length f1)
  have hne2 : gb2 ≠ gb4 := by rw [HG4.out]; exact Nat.ne_of_lt (HLT2.out)
  have bk2 := blk_far (p := ⟨gb4, 1, none⟩) (blk_far (p := ⟨gb4, 0, none⟩) BK2.out hne2 (.slice F0 m.length f0)) hne2 (.slice F1 m2.length f1)
  have hne3 : gb3 ≠ gb4 := by rw [HG4.out]; exact Nat.ne_of_lt (HLT3.out)
  have bk3 := blk_far (p := ⟨gb4, 1, none⟩) (blk_far (p := ⟨gb4, 0, none⟩) BK3.out hne3 (.slice F0 m.length f0)) hne3 (.slice F1 m2.length f1)
  have D := below_set (g := gb4) (j := 1) (v := .slice F1 m2.length f1) (below_set (g := gb4) (j := 0) (v := .slice F0 m.length f0) DB4.out (Nat.le_of_eq HG4.out.symm)) (Nat.le_of_eq HG4.out.symm)
  have HV := Aside0.mk (below_set (g := gb4) (j := 1) (v := .slice F1 m2.length f1) (below_set (g := gb4) (j := 0) (v := .slice F0 m.length f0) HB.out GE4.out) GE4.out)
  have q0 := Kd.C_below r0 D
  have q1 := Kd.C_below r1 D
  clear r0 r1
  clear HB D DB4 HG4 BK4 GE4 HLT1 HLT2 HLT3 hne1 hne2 hne3 BK1 BK2 BK3 GE1 GE2 GE3 HG1 HG2 HG3 DB1 DB2 DB3
  (try clear hcz1_0 hcz1_1 hcz2_0 hcz2_1 hcz3_0 hcz3_1 hcz4_0 hcz4_1 hfz1_0 hfz1_1 hfz2_0 hfz2_1 hfz3_0 hfz3_1 hfz4_0 hfz4_1)
  generalize (wb4.setCell ⟨gb4, 0, none⟩ (.slice F0 m.length f0)).setCell ⟨gb4, 1, none⟩ (.slice F1 m2.length f1) = V at *
  have HB := HV
  clear HV
  have BK4 := Aside0.mk bk
  clear bk
  have BK1 := Aside0.mk bk1
  clear bk1
  have BK2 := Aside0.mk bk2
  clear bk2
  have BK3 := Aside0.mk bk3
  clear bk3
  have Hm0 := Aside0.mk q0
  clear q0
  have Hm1 := Aside0.mk q1
  clear q1
  have Km0 := Aside0.mk k0
  clear k0
  have Km1 := Aside0.mk k1
  clear k1
  have HV := Aside0.mk (Below.refl V.heap.size V)
  have hcz1_0 := (blk_cell BK1.out 0).trans (show (#[.slice A0 xs.length c0, .slice A1 xs2.length c1] : Array Value)[0]? = some (.slice A0 xs.length c0) from rfl)
  have hcz1_1 := (blk_cell BK1.out 1).trans (show (#[.slice A0 xs.length c0, .slice A1 xs2.length c1] : Array Value)[1]? = some (.slice A1 xs2.length c1) from rfl)
  have hcz2_0 := (blk_cell BK2.out 0).trans (show (#[.slice B0 ys.length d0, .slice B1 ys2.length d1] : Array Value)[0]? = some (.slice B0 ys.length d0) from rfl)
  have hcz2_1 := (blk_cell BK2.out 1).trans (show (#[.slice B0 ys.length d0, .slice B1 ys2.length d1] : Array Value)[1]? = some (.slice B1 ys2.length d1) from rfl)
  have hcz3_0 := (blk_cell BK3.out 0).trans (show (#[.slice C0 zs.length g0, .slice C1 zs2.length g1] : Array Value)[0]? = some (.slice C0 zs.length g0) from rfl)
  have hcz3_1 := (blk_cell BK3.out 1).trans (show (#[.slice C0 zs.length g0, .slice C1 zs2.length g1] : Array Value)[1]? = some (.slice C1 zs2.length g1) from rfl)
  have hcz4_0 := (blk_cell BK4.out 0).trans (show (#[.slice F0 m.length f0, .slice F1 m2.length f1] : Array Value)[0]? = some (.slice F0 m.length f0) from rfl)
  have hcz4_1 := (blk_cell BK4.out 1).trans (show (#[.slice F0 m.length f0, .slice F1 m2.length f1] : Array Value)[1]? = some (.slice F1 m2.length f1) from rfl)
  go_wp2_with (first
    | (go_at_call 13; (with_reducible refine (below_t xs xs2 m m2 La0.out La1.out _ _ _ _ _ _ _ _ _ _ Qam.out (by repeat (first | exact (Kd.C_below Ha0.out HB.out) | (with_reducible refine Kd.C_alloc ?_ _) | (with_reducible refine Kd.C_drewN ?_ _) | (with_reducible refine Kd.C_drew ?_))) (by repeat (first | exact (Kd.C_below Ha1.out HB.out) | (with_reducible refine Kd.C_alloc ?_ _) | (with_reducible refine Kd.C_drewN ?_ _) | (with_reducible refine Kd.C_drew ?_))) (by repeat (first | exact (Kd.C_below Hm0.out HV.out) | (with_reducible refine Kd.C_alloc ?_ _) | (with_reducible refine Kd.C_drewN ?_ _) | (with_reducible refine Kd.C_drew ?_))) (by repeat (first | exact (Kd.C_below Hm1.out HV.out) | (with_reducible refine Kd.C_alloc ?_ _) | (with_reducible refine Kd.C_drewN ?_ _) | (with_reducible refine Kd.C_drew ?_)))).mono ?_); rintro e wc ⟨rfl, hb_⟩; have tHB_ := Aside0.mk (below_step (by repeat (first | (with_reducible first | exact HB.out | apply below_alloc | apply pw_below_drewN | apply below_drew1 | apply below_drew) | exact HB.out)) hb_); have tHV_ := Aside0.mk (below_step (by repeat (first | (with_reducible first | exact HV.out | apply below_alloc | apply pw_below_drewN | apply below_drew1 | apply below_drew) | exact HV.out)) hb_); have bk2_ := Aside0.mk (blk_below (g := gb1) (o := .cells #[.slice A0 xs.length c0, .slice A1 xs2.length c1] 24 (0, 0)) (by (with_reducible repeat (first | refine blk_drewN ?_ _ | refine blk_drew ?_ | refine blk_alloc ?_ _)); exact BK1.out) hb_); clear BK1; have BK1 := bk2_; clear bk2_; have bk2_ := Aside0.mk (blk_below (g := gb2) (o := .cells #[.slice B0 ys.length d0, .slice B1 ys2.length d1] 24 (0, 0)) (by (with_reducible repeat (first | refine blk_drewN ?_ _ | refine blk_drew ?_ | refine blk_alloc ?_ _)); exact BK2.out) hb_); clear BK2; have BK2 := bk2_; clear bk2_; have bk2_ := Aside0.mk (blk_below (g := gb3) (o := .cells #[.slice C0 zs.length g0, .slice C1 zs2.length g1] 24 (0, 0)) (by (with_reducible repeat (first | refine blk_drewN ?_ _ | refine blk_drew ?_ | refine blk_alloc ?_ _)); exact BK3.out) hb_); clear BK3; have BK3 := bk2_; clear bk2_; have bk2_ := Aside0.mk (blk_below (g := gb4) (o := .cells #[.slice F0 m.length f0, .slice F1 m2.length f1] 24 (0, 0)) (by (with_reducible repeat (first | refine blk_drewN ?_ _ | refine blk_drew ?_ | refine blk_alloc ?_ _)); exact BK4.out) hb_); clear BK4; have BK4 := bk2_; clear bk2_; clear HB; have HB := tHB_; clear tHB_; clear HV; have HV := tHV_; clear tHV_; (try clear hcz1_0 hcz1_1 hcz2_0 hcz2_1 hcz3_0 hcz3_1 hcz4_0 hcz4_1); have hcz1_0 := (blk_cell BK1.out 0).trans (show (#[.slice A0 xs.length c0, .slice A1 xs2.length c1] : Array Value)[0]? = some (.slice A0 xs.length c0) from rfl); have hcz1_1 := (blk_cell BK1.out 1).trans (show (#[.slice A0 xs.length c0, .slice A1 xs2.length c1] : Array Value)[1]? = some (.slice A1 xs2.length c1) from rfl); have hcz2_0 := (blk_cell BK2.out 0).trans (show (#[.slice B0 ys.length d0, .slice B1 ys2.length d1] : Array Value)[0]? = some (.slice B0 ys.length d0) from rfl); have hcz2_1 := (blk_cell BK2.out 1).trans (show (#[.slice B0 ys.length d0, .slice B1 ys2.length d1] : Array Value)[1]? = some (.slice B1 ys2.length d1) from rfl); have hcz3_0 := (blk_cell BK3.out 0).trans (show (#[.slice C0 zs.length g0, .slice C1 zs2.length g1] : Array Value)[0]? = some (.slice C0 zs.length g0) from rfl); have hcz3_1 := (blk_cell BK3.out 1).trans (show (#[.slice C0 zs.length g0, .slice C1 zs2.length g1] : Array Value)[1]? = some (.slice C1 zs2.length g1) from rfl); have hcz4_0 := (blk_cell BK4.out 0).trans (show (#[.slice F0 m.length f0, .slice F1 m2.length f1] : Array Value)[0]? = some (.slice F0 m.length f0) from rfl); have hcz4_1 := (blk_cell BK4.out 1).trans (show (#[.slice F0 m.length f0, .slice F1 m2.length f1] : Array Value)[1]? = some (.slice F1 m2.length f1) from rfl); (try clear hb_))
    | (go_at_call 13; (with_reducible refine (below_t ys ys2 m m2 Lb0.out Lb1.out _ _ _ _ _ _ _ _ _ _ Qbm.out (by repeat (first | exact (Kd.C_below Hb0.out HB.out) | (with_reducible refine Kd.C_alloc ?_ _) | (with_reducible refine Kd.C_drewN ?_ _) | (with_reducible refine Kd.C_drew ?_))) (by repeat (first | exact (Kd.C_below Hb1.out HB.out) | (with_reducible refine Kd.C_alloc ?_ _) | (with_reducible refine Kd.C_drewN ?_ _) | (with_reducible refine Kd.C_drew ?_))) (by repeat (first | exact (Kd.C_below Hm0.out HV.out) | (with_reducible refine Kd.C_alloc ?_ _) | (with_reducible refine Kd.C_drewN ?_ _) | (with_reducible refine Kd.C_drew ?_))) (by repeat (first | exact (Kd.C_below Hm1.out HV.out) | (with_reducible refine Kd.C_alloc ?_ _) | (with_reducible refine Kd.C_drewN ?_ _) | (with_reducible refine Kd.C_drew ?_)))).mono ?_); rintro e wc ⟨rfl, hb_⟩; have tHB_ := Aside0.mk (below_step (by repeat (first | (with_reducible first | exact HB.out | apply below_alloc | apply pw_below_drewN | apply below_drew1 | apply below_drew) | exact HB.out)) hb_); have tHV_ := Aside0.mk (below_step (by repeat (first | (with_reducible first | exact HV.out | apply below_alloc | apply pw_below_drewN | apply below_drew1 | apply below_drew) | exact HV.out)) hb_); have bk2_ := Aside0.mk (blk_below (g := gb1) (o := .cells #[.slice A0 xs.length c0, .slice A1 xs2.length c1] 24 (0, 0)) (by (with_reducible repeat (first | refine blk_drewN ?_ _ | refine blk_drew ?_ | refine blk_alloc ?_ _)); exact BK1.out) hb_); clear BK1; have BK1 := bk2_; clear bk2_; have bk2_ := Aside0.mk (blk_below (g := gb2) (o := .cells #[.slice B0 ys.length d0, .slice B1 ys2.length d1] 24 (0, 0)) (by (with_reducible repeat (first | refine blk_drewN ?_ _ | refine blk_drew ?_ | refine blk_alloc ?_ _)); exact BK2.out) hb_); clear BK2; have BK2 := bk2_; clear bk2_; have bk2_ := Aside0.mk (blk_below (g := gb3) (o := .cells #[.slice C0 zs.length g0, .slice C1 zs2.length g1] 24 (0, 0)) (by (with_reducible repeat (first | refine blk_drewN ?_ _ | refine blk_drew ?_ | refine blk_alloc ?_ _)); exact BK3.out) hb_); clear BK3; have BK3 := bk2_; clear bk2_; have bk2_ := Aside0.mk (blk_below (g := gb4) (o := .cells #[.slice F0 m.length f0, .slice F1 m2.length f1] 24 (0, 0)) (by (with_reducible repeat (first | refine blk_drewN ?_ _ | refine blk_drew ?_ | refine blk_alloc ?_ _)); exact BK4.out) hb_); clear BK4; have BK4 := bk2_; clear bk2_; clear HB; have HB := tHB_; clear tHB_; clear HV; have HV := tHV_; clear tHV_; (try clear hcz1_0 hcz1_1 hcz2_0 hcz2_1 hcz3_0 hcz3_1 hcz4_0 hcz4_1); have hcz1_0 := (blk_cell BK1.out 0).trans (show (#[.slice A0 xs.length c0, .slice A1 xs2.length c1] : Array Value)[0]? = some (.slice A0 xs.length c0) from rfl); have hcz1_1 := (blk_cell BK1.out 1).trans (show (#[.slice A0 xs.length c0, .slice A1 xs2.length c1] : Array Value)[1]? = some (.slice A1 xs2.length c1) from rfl); have hcz2_0 := (blk_cell BK2.out 0).trans (show (#[.slice B0 ys.length d0, .slice B1 ys2.length d1] : Array Value)[0]? = some (.slice B0 ys.length d0) from rfl); have hcz2_1 := (blk_cell BK2.out 1).trans (show (#[.slice B0 ys.length d0, .slice B1 ys2.length d1] : Array Value)[1]? = some (.slice B1 ys2.length d1) from rfl); have hcz3_0 := (blk_cell BK3.out 0).trans (show (#[.slice C0 zs.length g0, .slice C1 zs2.length g1] : Array Value)[0]? = some (.slice C0 zs.length g0) from rfl); have hcz3_1 := (blk_cell BK3.out 1).trans (show (#[.slice C0 zs.length g0, .slice C1 zs2.length g1] : Array Value)[1]? = some (.slice C1 zs2.length g1) from rfl); have hcz4_0 := (blk_cell BK4.out 0).trans (show (#[.slice F0 m.length f0, .slice F1 m2.length f1] : Array Value)[0]? = some (.slice F0 m.length f0) from rfl); have hcz4_1 := (blk_cell BK4.out 1).trans (show (#[.slice F0 m.length f0, .slice F1 m2.length f1] : Array Value)[1]? = some (.slice F1 m2.length f1) from rfl); (try clear hb_))
    | (go_at_call 13; (with_reducible refine (below_t xs xs2 zs zs2 La0.out La1.out _ _ _ _ _ _ _ _ _ _ Qac.out (by repeat (first | exact (Kd.C_below Ha0.out HB.out) | (with_reducible refine Kd.C_alloc ?_ _) | (with_reducible refine Kd.C_drewN ?_ _) | (with_reducible refine Kd.C_drew ?_))) (by repeat (first | exact (Kd.C_below Ha1.out HB.out) | (with_reducible refine Kd.C_alloc ?_ _) | (with_reducible refine Kd.C_drewN ?_ _) | (with_reducible refine Kd.C_drew ?_))) (by repeat (first | exact (Kd.C_below Hc0.out HB.out) | (with_reducible refine Kd.C_alloc ?_ _) | (with_reducible refine Kd.C_drewN ?_ _) | (with_reducible refine Kd.C_drew ?_))) (by repeat (first | exact (Kd.C_below Hc1.out HB.out) | (with_reducible refine Kd.C_alloc ?_ _) | (with_reducible refine Kd.C_drewN ?_ _) | (with_reducible refine Kd.C_drew ?_)))).mono ?_); rintro e wc ⟨rfl, hb_⟩; have tHB_ := Aside0.mk (below_step (by repeat (first | (with_reducible first | exact HB.out | apply below_alloc | apply pw_below_drewN | apply below_drew1 | apply below_drew) | exact HB.out)) hb_); have tHV_ := Aside0.mk (below_step (by repeat (first | (with_reducible first | exact HV.out | apply below_alloc | apply pw_below_drewN | apply below_drew1 | apply below_drew) | exact HV.out)) hb_); have bk2_ := Aside0.mk (blk_below (g := gb1) (o := .cells #[.slice A0 xs.length c0, .slice A1 xs2.length c1] 24 (0, 0)) (by (with_reducible repeat (first | refine blk_drewN ?_ _ | refine blk_drew ?_ | refine blk_alloc ?_ _)); exact BK1.out) hb_); clear BK1; have BK1 := bk2_; clear bk2_; have bk2_ := Aside0.mk (blk_below (g := gb2) (o := .cells #[.slice B0 ys.length d0, .slice B1 ys2.length d1] 24 (0, 0)) (by (with_reducible repeat (first | refine blk_drewN ?_ _ | refine blk_drew ?_ | refine blk_alloc ?_ _)); exact BK2.out) hb_); clear BK2; have BK2 := bk2_; clear bk2_; have bk2_ := Aside0.mk (blk_below (g := gb3) (o := .cells #[.slice C0 zs.length g0, .slice C1 zs2.length g1] 24 (0, 0)) (by (with_reducible repeat (first | refine blk_drewN ?_ _ | refine blk_drew ?_ | refine blk_alloc ?_ _)); exact BK3.out) hb_); clear BK3; have BK3 := bk2_; clear bk2_; have bk2_ := Aside0.mk (blk_below (g := gb4) (o := .cells #[.slice F0 m.length f0, .slice F1 m2.length f1] 24 (0, 0)) (by (with_reducible repeat (first | refine blk_drewN ?_ _ | refine blk_drew ?_ | refine blk_alloc ?_ _)); exact BK4.out) hb_); clear BK4; have BK4 := bk2_; clear bk2_; clear HB; have HB := tHB_; clear tHB_; clear HV; have HV := tHV_; clear tHV_; (try clear hcz1_0 hcz1_1 hcz2_0 hcz2_1 hcz3_0 hcz3_1 hcz4_0 hcz4_1); have hcz1_0 := (blk_cell BK1.out 0).trans (show (#[.slice A0 xs.length c0, .slice A1 xs2.length c1] : Array Value)[0]? = some (.slice A0 xs.length c0) from rfl); have hcz1_1 := (blk_cell BK1.out 1).trans (show (#[.slice A0 xs.length c0, .slice A1 xs2.length c1] : Array Value)[1]? = some (.slice A1 xs2.length c1) from rfl); have hcz2_0 := (blk_cell BK2.out 0).trans (show (#[.slice B0 ys.length d0, .slice B1 ys2.length d1] : Array Value)[0]? = some (.slice B0 ys.length d0) from rfl); have hcz2_1 := (blk_cell BK2.out 1).trans (show (#[.slice B0 ys.length d0, .slice B1 ys2.length d1] : Array Value)[1]? = some (.slice B1 ys2.length d1) from rfl); have hcz3_0 := (blk_cell BK3.out 0).trans (show (#[.slice C0 zs.length g0, .slice C1 zs2.length g1] : Array Value)[0]? = some (.slice C0 zs.length g0) from rfl); have hcz3_1 := (blk_cell BK3.out 1).trans (show (#[.slice C0 zs.length g0, .slice C1 zs2.length g1] : Array Value)[1]? = some (.slice C1 zs2.length g1) from rfl); have hcz4_0 := (blk_cell BK4.out 0).trans (show (#[.slice F0 m.length f0, .slice F1 m2.length f1] : Array Value)[0]? = some (.slice F0 m.length f0) from rfl); have hcz4_1 := (blk_cell BK4.out 1).trans (show (#[.slice F0 m.length f0, .slice F1 m2.length f1] : Array Value)[1]? = some (.slice F1 m2.length f1) from rfl); (try clear hb_))
    | (go_at_call 13; (with_reducible refine (below_t ys ys2 zs zs2 Lb0.out Lb1.out _ _ _ _ _ _ _ _ _ _ Qbc.out (by repeat (first | exact (Kd.C_below Hb0.out HB.out) | (with_reducible refine Kd.C_alloc ?_ _) | (with_reducible refine Kd.C_drewN ?_ _) | (with_reducible refine Kd.C_drew ?_))) (by repeat (first | exact (Kd.C_below Hb1.out HB.out) | (with_reducible refine Kd.C_alloc ?_ _) | (with_reducible refine Kd.C_drewN ?_ _) | (with_reducible refine Kd.C_drew ?_))) (by repeat (first | exact (Kd.C_below Hc0.out HB.out) | (with_reducible refine Kd.C_alloc ?_ _) | (with_reducible refine Kd.C_drewN ?_ _) | (with_reducible refine Kd.C_drew ?_))) (by repeat (first | exact (Kd.C_below Hc1.out HB.out) | (with_reducible refine Kd.C_alloc ?_ _) | (with_reducible refine Kd.C_drewN ?_ _) | (with_reducible refine Kd.C_drew ?_)))).mono ?_); rintro e wc ⟨rfl, hb_⟩; have tHB_ := Aside0.mk (below_step (by repeat (first | (with_reducible first | exact HB.out | apply below_alloc | apply pw_below_drewN | apply below_drew1 | apply below_drew) | exact HB.out)) hb_); have tHV_ := Aside0.mk (below_step (by repeat (first | (with_reducible first | exact HV.out | apply below_alloc | apply pw_below_drewN | apply below_drew1 | apply below_drew) | exact HV.out)) hb_); have bk2_ := Aside0.mk (blk_below (g := gb1) (o := .cells #[.slice A0 xs.length c0, .slice A1 xs2.length c1] 24 (0, 0)) (by (with_reducible repeat (first | refine blk_drewN ?_ _ | refine blk_drew ?_ | refine blk_alloc ?_ _)); exact BK1.out) hb_); clear BK1; have BK1 := bk2_; clear bk2_; have bk2_ := Aside0.mk (blk_below (g := gb2) (o := .cells #[.slice B0 ys.length d0, .slice B1 ys2.length d1] 24 (0, 0)) (by (with_reducible repeat (first | refine blk_drewN ?_ _ | refine blk_drew ?_ | refine blk_alloc ?_ _)); exact BK2.out) hb_); clear BK2; have BK2 := bk2_; clear bk2_; have bk2_ := Aside0.mk (blk_below (g := gb3) (o := .cells #[.slice C0 zs.length g0, .slice C1 zs2.length g1] 24 (0, 0)) (by (with_reducible repeat (first | refine blk_drewN ?_ _ | refine blk_drew ?_ | refine blk_alloc ?_ _)); exact BK3.out) hb_); clear BK3; have BK3 := bk2_; clear bk2_; have bk2_ := Aside0.mk (blk_below (g := gb4) (o := .cells #[.slice F0 m.length f0, .slice F1 m2.length f1] 24 (0, 0)) (by (with_reducible repeat (first | refine blk_drewN ?_ _ | refine blk_drew ?_ | refine blk_alloc ?_ _)); exact BK4.out) hb_); clear BK4; have BK4 := bk2_; clear bk2_; clear HB; have HB := tHB_; clear tHB_; clear HV; have HV := tHV_; clear tHV_; (try clear hcz1_0 hcz1_1 hcz2_0 hcz2_1 hcz3_0 hcz3_1 hcz4_0 hcz4_1); have hcz1_0 := (blk_cell BK1.out 0).trans (show (#[.slice A0 xs.length c0, .slice A1 xs2.length c1] : Array Value)[0]? = some (.slice A0 xs.length c0) from rfl); have hcz1_1 := (blk_cell BK1.out 1).trans (show (#[.slice A0 xs.length c0, .slice A1 xs2.length c1] : Array Value)[1]? = some (.slice A1 xs2.length c1) from rfl); have hcz2_0 := (blk_cell BK2.out 0).trans (show (#[.slice B0 ys.length d0, .slice B1 ys2.length d1] : Array Value)[0]? = some (.slice B0 ys.length d0) from rfl); have hcz2_1 := (blk_cell BK2.out 1).trans (show (#[.slice B0 ys.length d0, .slice B1 ys2.length d1] : Array Value)[1]? = some (.slice B1 ys2.length d1) from rfl); have hcz3_0 := (blk_cell BK3.out 0).trans (show (#[.slice C0 zs.length g0, .slice C1 zs2.length g1] : Array Value)[0]? = some (.slice C0 zs.length g0) from rfl); have hcz3_1 := (blk_cell BK3.out 1).trans (show (#[.slice C0 zs.length g0, .slice C1 zs2.length g1] : Array Value)[1]? = some (.slice C1 zs2.length g1) from rfl); have hcz4_0 := (blk_cell BK4.out 0).trans (show (#[.slice F0 m.length f0, .slice F1 m2.length f1] : Array Value)[0]? = some (.slice F0 m.length f0) from rfl); have hcz4_1 := (blk_cell BK4.out 1).trans (show (#[.slice F0 m.length f0, .slice F1 m2.length f1] : Array Value)[1]? = some (.slice F1 m2.length f1) from rfl); (try clear hb_))
    | (go_at_call 15; (with_reducible refine (same_t m m2 xs xs2 Lm0.out Lm1.out _ _ _ _ _ _ _ _ _ _ Sma.out (by repeat (first | exact (Kd.C_below Hm0.out HV.out) | (with_reducible refine Kd.C_alloc ?_ _) | (with_reducible refine Kd.C_drewN ?_ _) | (with_reducible refine Kd.C_drew ?_))) (by repeat (first | exact (Kd.C_below Hm1.out HV.out) | (with_reducible refine Kd.C_alloc ?_ _) | (with_reducible refine Kd.C_drewN ?_ _) | (with_reducible refine Kd.C_drew ?_))) (by repeat (first | exact (Kd.C_below Ha0.out HB.out) | (with_reducible refine Kd.C_alloc ?_ _) | (with_reducible refine Kd.C_drewN ?_ _) | (with_reducible refine Kd.C_drew ?_))) (by repeat (first | exact (Kd.C_below Ha1.out HB.out) | (with_reducible refine Kd.C_alloc ?_ _) | (with_reducible refine Kd.C_drewN ?_ _) | (with_reducible refine Kd.C_drew ?_))) Km0.out Km1.out Ka0.out Ka1.out).mono ?_); rintro e wc ⟨rfl, hb_⟩; have tHB_ := Aside0.mk (below_step (by repeat (first | (with_reducible first | exact HB.out | apply below_alloc | apply pw_below_drewN | apply below_drew1 | apply below_drew) | exact HB.out)) hb_); have tHV_ := Aside0.mk (below_step (by repeat (first | (with_reducible first | exact HV.out | apply below_alloc | apply pw_below_drewN | apply below_drew1 | apply below_drew) | exact HV.out)) hb_); have bk2_ := Aside0.mk (blk_below (g := gb1) (o := .cells #[.slice A0 xs.length c0, .slice A1 xs2.length c1] 24 (0, 0)) (by (with_reducible repeat (first | refine blk_drewN ?_ _ | refine blk_drew ?_ | refine blk_alloc ?_ _)); exact BK1.out) hb_); clear BK1; have BK1 := bk2_; clear bk2_; have bk2_ := Aside0.mk (blk_below (g := gb2) (o := .cells #[.slice B0 ys.length d0, .slice B1 ys2.length d1] 24 (0, 0)) (by (with_reducible repeat (first | refine blk_drewN ?_ _ | refine blk_drew ?_ | refine blk_alloc ?_ _)); exact BK2.out) hb_); clear BK2; have BK2 := bk2_; clear bk2_; have bk2_ := Aside0.mk (blk_below (g := gb3) (o := .cells #[.slice C0 zs.length g0, .slice C1 zs2.length g1] 24 (0, 0)) (by (with_reducible repeat (first | refine blk_drewN ?_ _ | refine blk_drew ?_ | refine blk_alloc ?_ _)); exact BK3.out) hb_); clear BK3; have BK3 := bk2_; clear bk2_; have bk2_ := Aside0.mk (blk_below (g := gb4) (o := .cells #[.slice F0 m.length f0, .slice F1 m2.length f1] 24 (0, 0)) (by (with_reducible repeat (first | refine blk_drewN ?_ _ | refine blk_drew ?_ | refine blk_alloc ?_ _)); exact BK4.out) hb_); clear BK4; have BK4 := bk2_; clear bk2_; clear HB; have HB := tHB_; clear tHB_; clear HV; have HV := tHV_; clear tHV_; (try clear hcz1_0 hcz1_1 hcz2_0 hcz2_1 hcz3_0 hcz3_1 hcz4_0 hcz4_1); have hcz1_0 := (blk_cell BK1.out 0).trans (show (#[.slice A0 xs.length c0, .slice A1 xs2.length c1] : Array Value)[0]? = some (.slice A0 xs.length c0) from rfl); have hcz1_1 := (blk_cell BK1.out 1).trans (show (#[.slice A0 xs.length c0, .slice A1 xs2.length c1] : Array Value)[1]? = some (.slice A1 xs2.length c1) from rfl); have hcz2_0 := (blk_cell BK2.out 0).trans (show (#[.slice B0 ys.length d0, .slice B1 ys2.length d1] : Array Value)[0]? = some (.slice B0 ys.length d0) from rfl); have hcz2_1 := (blk_cell BK2.out 1).trans (show (#[.slice B0 ys.length d0, .slice B1 ys2.length d1] : Array Value)[1]? = some (.slice B1 ys2.length d1) from rfl); have hcz3_0 := (blk_cell BK3.out 0).trans (show (#[.slice C0 zs.length g0, .slice C1 zs2.length g1] : Array Value)[0]? = some (.slice C0 zs.length g0) from rfl); have hcz3_1 := (blk_cell BK3.out 1).trans (show (#[.slice C0 zs.length g0, .slice C1 zs2.length g1] : Array Value)[1]? = some (.slice C1 zs2.length g1) from rfl); have hcz4_0 := (blk_cell BK4.out 0).trans (show (#[.slice F0 m.length f0, .slice F1 m2.length f1] : Array Value)[0]? = some (.slice F0 m.length f0) from rfl); have hcz4_1 := (blk_cell BK4.out 1).trans (show (#[.slice F0 m.length f0, .slice F1 m2.length f1] : Array Value)[1]? = some (.slice F1 m2.length f1) from rfl); (try clear hb_)))
  (try clear hcz1_0 hcz1_1 hcz2_0 hcz2_1 hcz3_0 hcz3_1 hcz4_0 hcz4_1)
  refine startB_ (n := 15) #[false, false, false, false, false, false, false, false, false, false, false, false, false, false, false] (by kernel_rfl) rfl rfl (fun W0 D0 => ?_)
  have E0 := Aside0.mk (Below.refl W0.heap.size W0)
  have BL1 := Aside0.mk (blk_below BK1.out D0)
  have BL2 := Aside0.mk (blk_below BK2.out D0)
  have BL3 := Aside0.mk (blk_below BK3.out D0)
  have BL4 := Aside0.mk (blk_below BK4.out D0)
  have XHB := Aside0.mk (below_step HB.out D0)
  have XHV := Aside0.mk (below_step HV.out D0)
  refine take_ (i := 0) (N := some 95) (v := ?_) (a' := ?_) #[true, false, false, false, false, false, false, false, false, false, false, false, false, false, false] rfl rfl (by kernel_rfl) (fun _ _ _ h => h) (Or.inl ⟨by rfl, ?_⟩) (Below.refl _ _) ?_ ?_
  rotate_left
  · intro w' hS
    have hd_ := below_step E0.out hS
    have hy0 := (blk_cell (blk_below BL4.out hd_) 0).trans (show (#[.slice F0 m.length f0, .slice F1 m2.length f1] : Array Value)[0]? = some (.slice F0 m.length f0) from rfl)
    have hy1 := (blk_cell (blk_below BL4.out hd_) 1).trans (show (#[.slice F0 m.length f0, .slice F1 m2.length f1] : Array Value)[1]? = some (.slice F1 m2.length f1) from rfl)
    go_simp
    with_reducible rfl
  rotate_left
  · simp only [Act.put, List.setIfInBounds_toArray, List.set_cons_zero, List.set_cons_succ, i64_w, i32_w]
    rfl
  refine take_ (i := 2) (N := some 97) (v := ?_) (a' := ?_) #[true, false, true, false, false, false, false, false, false, false, false, false, false, false, false] rfl rfl (by kernel_rfl) (fun _ _ _ h => h) (Or.inl ⟨by rfl, ?_⟩) (Below.refl _ _) ?_ ?_
  rotate_left
  · intro w' hS
    have hd_ := below_step E0.out hS
    have hy0 := (blk_cell (blk_below BL1.out hd_) 0).trans (show (#[.slice A0 xs.length c0, .slice A1 xs2.length c1] : Array Value)[0]? = some (.slice A0 xs.length c0) from rfl)
    have hy1 := (blk_cell (blk_below BL1.out hd_) 1).trans (show (#[.slice A0 xs.length c0, .slice A1 xs2.length c1] : Array Value)[1]? = some (.slice A1 xs2.length c1) from rfl)
    go_simp
    with_reducible rfl
  rotate_left
  · simp only [Act.put, List.setIfInBounds_toArray, List.set_cons_zero, List.set_cons_succ, i64_w, i32_w]
    rfl
  refine one_ (i := 1) (N := some 96) #[true, true, true, false, false, false, false, false, false, false, false, false, false, false, false] rfl rfl (by kernel_rfl) (by decide) (fun K hK => ?_)
  refine goes_ Try.func17 (by kernel_rfl) rfl #[.agg #[.slice F0 m.length f0, .slice F1 m2.length f1]] (by rfl) rfl rfl (by (try simp only [List.map_toArray, List.map_cons, List.map_nil]); first | done | rfl) ?_
  with_reducible refine (height_t m m2 Lm0.out Lm1.out _ _ _ _ _ _ Tm.out (Kd.C_below (Kd.C_below Hm0.out XHV.out) E0.out) (Kd.C_below (Kd.C_below Hm1.out XHV.out) E0.out)).mono ?_
  rintro e W1 ⟨rfl, D1⟩
  refine ⟨_, rfl, ?_⟩
  have E1 := Aside0.mk (below_step E0.out D1)
  refine hK.out _ _ D1 (fun _ => behind_ D1 ?_)
  clear hK K
  refine norm_ (a' := ?_) ?_ ?_
  rotate_left
  · show Act.put _ (some 96) _ = _
    simp only [Act.put, List.setIfInBounds_toArray, List.set_cons_zero, List.set_cons_succ, i64_w, i32_w]
    rfl
  refine one_ (i := 3) (N := some 98) #[true, true, true, true, false, false, false, false, false, false, false, false, false, false, false] rfl rfl (by kernel_rfl) (by decide) (fun K hK => ?_)
  refine goes_ Try.func17 (by kernel_rfl) rfl #[.agg #[.slice A0 xs.length c0, .slice A1 xs2.length c1]] (by rfl) rfl rfl (by (try simp only [List.map_toArray, List.map_cons, List.map_nil]); first | done | rfl) ?_
  with_reducible refine (height_t xs xs2 La0.out La1.out _ _ _ _ _ _ Ta.out (Kd.C_below (Kd.C_below Ha0.out XHB.out) E1.out) (Kd.C_below (Kd.C_below Ha1.out XHB.out) E1.out)).mono ?_
  rintro e W2 ⟨rfl, D2⟩
  refine ⟨_, rfl, ?_⟩
  have E2 := Aside0.mk (below_step E1.out D2)
  refine hK.out _ _ D2 (fun _ => behind_ D2 ?_)
  clear hK K
  refine norm_ (a' := ?_) ?_ ?_
  rotate_left
  · show Act.put _ (some 98) _ = _
    simp only [Act.put, List.setIfInBounds_toArray, List.set_cons_zero, List.set_cons_succ, i64_w, i32_w]
    rfl
  refine pure_ (i := 4) (N := some 99) (v := ?_) (a' := ?_) #[true, true, true, true, true, false, false, false, false, false, false, false, false, false, false] rfl rfl (by kernel_rfl) (fun _ _ _ h => h) (Or.inl ⟨by rfl, ?_⟩) ?_ ?_
  rotate_left
  · intro w'
    go_simp
    with_reducible rfl
  rotate_left
  · simp only [Act.put, List.setIfInBounds_toArray, List.set_cons_zero, List.set_cons_succ, i64_w, i32_w]
    rfl
  refine pure_ (i := 5) (N := some 100) (v := ?_) (a' := ?_) #[true, true, true, true, true, true, false, false, false, false, false, false, false, false, false] rfl rfl (by kernel_rfl) (fun _ _ _ h => h) (Or.inl ⟨by rfl, ?_⟩) ?_ ?_
  rotate_left
  · intro w'
    go_simp
    with_reducible rfl
  rotate_left
  · simp only [Act.put, List.setIfInBounds_toArray, List.set_cons_zero, List.set_cons_succ, i64_w, i32_w]
    rfl
  refine take_ (i := 6) (N := some 101) (v := ?_) (a' := ?_) #[true, true, true, true, true, true, true, false, false, false, false, false, false, false, false] rfl rfl (by kernel_rfl) (fun _ _ _ h => h) (Or.inl ⟨by rfl, ?_⟩) (Below.refl _ _) ?_ ?_
  rotate_left
  · intro w' hS
    have hd_ := below_step E2.out hS
    have hy0 := (blk_cell (blk_below BL2.out hd_) 0).trans (show (#[.slice B0 ys.length d0, .slice B1 ys2.length d1] : Array Value)[0]? = some (.slice B0 ys.length d0) from rfl)
    have hy1 := (blk_cell (blk_below BL2.out hd_) 1).trans (show (#[.slice B0 ys.length d0, .slice B1 ys2.length d1] : Array Value)[1]? = some (.slice B1 ys2.length d1) from rfl)
    go_simp
    with_reducible rfl
  rotate_left
  · simp only [Act.put, List.setIfInBounds_toArray, List.set_cons_zero, List.set_cons_succ, i64_w, i32_w]
    rfl
  refine take_ (i := 7) (N := some 102) (v := ?_) (a' := ?_) #[true, true, true, true, true, true, true, true, false, false, false, false, false, false, false] rfl rfl (by kernel_rfl) (fun _ _ _ h => h) (Or.inl ⟨by rfl, ?_⟩) (Below.refl _ _) ?_ ?_
  rotate_left
  · intro w' hS
    have hd_ := below_step E2.out hS
    have hy0 := (blk_cell (blk_below BL1.out hd_) 0).trans (show (#[.slice A0 xs.length c0, .slice A1 xs2.length c1] : Array Value)[0]? = some (.slice A0 xs.length c0) from rfl)
    have hy1 := (blk_cell (blk_below BL1.out hd_) 1).trans (show (#[.slice A0 xs.length c0, .slice A1 xs2.length c1] : Array Value)[1]? = some (.slice A1 xs2.length c1) from rfl)
    go_simp
    with_reducible rfl
  rotate_left
  · simp only [Act.put, List.setIfInBounds_toArray, List.set_cons_zero, List.set_cons_succ, i64_w, i32_w]
    rfl
  refine one_ (i := 8) (N := some 103) #[true, true, true, true, true, true, true, true, true, false, false, false, false, false, false] rfl rfl (by kernel_rfl) (by decide) (fun K hK => ?_)
  refine goes_ Try.func13 (by kernel_rfl) rfl #[.agg #[.slice B0 ys.length d0, .slice B1 ys2.length d1], .agg #[.slice A0 xs.length c0, .slice A1 xs2.length c1]] (by rfl) rfl rfl (by (try simp only [List.map_toArray, List.map_cons, List.map_nil]); first | done | rfl) ?_
  with_reducible refine (below_t ys ys2 xs xs2 Lb0.out Lb1.out _ _ _ _ _ _ _ _ _ _ Qba.out (Kd.C_below (Kd.C_below Hb0.out XHB.out) E2.out) (Kd.C_below (Kd.C_below Hb1.out XHB.out) E2.out) (Kd.C_below (Kd.C_below Ha0.out XHB.out) E2.out) (Kd.C_below (Kd.C_below Ha1.out XHB.out) E2.out)).mono ?_
  rintro e W3 ⟨rfl, D3⟩
  refine ⟨_, rfl, ?_⟩
  have E3 := Aside0.mk (below_step E2.out D3)
  refine hK.out _ _ D3 (fun _ => behind_ D3 ?_)
  clear hK K
  refine norm_ (a' := ?_) ?_ ?_
  rotate_left
  · show Act.put _ (some 103) _ = _
    simp only [Act.put, List.setIfInBounds_toArray, List.set_cons_zero, List.set_cons_succ, i64_w, i32_w]
    rfl
  refine pure_ (i := 9) (N := some 104) (v := ?_) (a' := ?_) #[true, true, true, true, true, true, true, true, true, true, false, false, false, false, false] rfl rfl (by kernel_rfl) (fun _ _ _ h => h) (Or.inl ⟨by rfl, ?_⟩) ?_ ?_
  rotate_left
  · intro w'
    go_simp
    with_reducible rfl
  rotate_left
  · simp only [Act.put, List.setIfInBounds_toArray, List.set_cons_zero, List.set_cons_succ, i64_w, i32_w]
    rfl
  refine pure_ (i := 10) (N := some 105) (v := ?_) (a' := ?_) #[true, true, true, true, true, true, true, true, true, true, true, false, false, false, false] rfl rfl (by kernel_rfl) (fun _ _ _ h => h) (Or.inl ⟨by rfl, ?_⟩) ?_ ?_
  rotate_left
  · intro w'
    go_simp
    with_reducible rfl
  rotate_left
  · simp only [Act.put, List.setIfInBounds_toArray, List.set_cons_zero, List.set_cons_succ, i64_w, i32_w]
    rfl
  refine pure_ (i := 11) (N := some 106) (v := ?_) (a' := ?_) #[true, true, true, true, true, true, true, true, true, true, true, true, false, false, false] rfl rfl (by kernel_rfl) (fun _ _ _ h => h) (Or.inl ⟨by rfl, ?_⟩) ?_ ?_
  rotate_left
  · intro w'
    go_simp
    with_reducible rfl
  rotate_left
  · simp only [Act.put, List.setIfInBounds_toArray, List.set_cons_zero, List.set_cons_succ, i64_w, i32_w]
    rfl
  refine one_ (i := 12) (N := some 107) #[true, true, true, true, true, true, true, true, true, true, true, true, true, false, false] rfl rfl (by kernel_rfl) (by decide) (fun K hK => ?_)
  refine goes_ Try.func8 (by kernel_rfl) rfl #[] (by rfl) rfl rfl (by (try simp only [List.map_toArray, List.map_cons, List.map_nil]); first | done | rfl) ?_
  with_reducible refine (works_b _).mono ?_
  rintro e W4 ⟨rfl, D4⟩
  refine ⟨_, rfl, ?_⟩
  have E4 := Aside0.mk (below_step E3.out D4)
  refine hK.out _ _ D4 (fun _ => behind_ D4 ?_)
  clear hK K
  refine norm_ (a' := ?_) ?_ ?_
  rotate_left
  · show Act.put _ (some 107) _ = _
    simp only [Act.put, List.setIfInBounds_toArray, List.set_cons_zero, List.set_cons_succ, i64_w, i32_w]
    rfl
  refine pure_ (i := 13) (N := some 108) (v := ?_) (a' := ?_) #[true, true, true, true, true, true, true, true, true, true, true, true, true, true, false] rfl rfl (by kernel_rfl) (fun _ _ _ h => h) (Or.inl ⟨by rfl, ?_⟩) ?_ ?_
  rotate_left
  · intro w'
    go_simp
    with_reducible rfl
  rotate_left
  · simp only [Act.put, List.setIfInBounds_toArray, List.set_cons_zero, List.set_cons_succ, i64_w, i32_w]
    rfl
  refine pure_ (i := 14) (N := some 6) (v := ?_) (a' := ?_) #[true, true, true, true, true, true, true, true, true, true, true, true, true, true, true] rfl rfl (by kernel_rfl) (fun _ _ _ h => h) (Or.inl ⟨by rfl, ?_⟩) ?_ ?_
  rotate_left
  · intro w'
    go_simp
    with_reducible rfl
  rotate_left
  · simp only [Act.put, List.setIfInBounds_toArray, List.set_cons_zero, List.set_cons_succ, i64_w, i32_w]
    rfl
  refine done_ (by kernel_rfl) ?_
  go_wp2
  go_ret
  exact ⟨by first | rfl | (simp; done), below_step XHB.out E4.out⟩

set_option maxHeartbeats 8000000 in
set_option maxRecDepth 100000 in
theorem least_11 (xs xs2 ys ys2 zs zs2 : List Int) (m m2 : List Int) (qa : decide (xs.length > 5000 ∨ xs2.length > 5000) = false) (qb : decide (ys.length > 5000 ∨ ys2.length > 5000) = false) (qc : decide (zs.length > 5000 ∨ zs2.length > 5000) = false) (la0 : xs.length ≤ 10000) (la1 : xs2.length ≤ 10000) (lb0 : ys.length ≤ 10000) (lb1 : ys2.length ≤ 10000) (lm0 : m.length ≤ 10000) (lm1 : m2.length ≤ 10000) (hm : mrg xs xs2 ys ys2 = (m, m2, true)) (qam : bel xs xs2 m m2 = true) (qbm : bel ys ys2 m m2 = true) (qac : bel xs xs2 zs zs2 = true) (qbc : bel ys ys2 zs zs2 = false) (sma : sam m m2 xs xs2 = true) (qba : bel ys ys2 xs xs2 = true) (r1 r2 : Int) (tm : ((hgt m + hgt m2 : Nat) : Int) = r1) (ta : ((hgt xs + hgt xs2 : Nat) : Int) = r2) (hr : (r1 == r2) = true) (A0 A1 B0 B1 C0 C1 : Option Addr) (c0 c1 d0 d1 g0 g1 : Nat) (w : World) (ha0 : Rd w A0 xs) (ha1 : Rd w A1 xs2) (hb0 : Rd w B0 ys) (hb1 : Rd w B1 ys2) (hc0 : Rd w C0 zs) (hc1 : Rd w C1 zs2) (ka0 : xs.length ≤ c0) (ka1 : xs2.length ≤ c1) (kb0 : ys.length ≤ d0) (kb1 : ys2.length ≤ d1) (kc0 : zs.length ≤ g0) (kc1 : zs2.length ≤ g1) :
    Calls Try.prog 4 #[.agg #[.slice A0 xs.length c0, .slice A1 xs2.length c1], .agg #[.slice B0 ys.length d0, .slice B1 ys2.length d1], .agg #[.slice C0 zs.length g0, .slice C1 zs2.length g1]] w fun e w' => e = .returned (.bool true) ∧ Below w.heap.size w w' := by
  have hu24 := Try.underlying24
  have Ha0 := Aside0.mk ha0
  have Ka0 := Aside0.mk ka0
  clear ha0 ka0
  have Ha1 := Aside0.mk ha1
  have Ka1 := Aside0.mk ka1
  clear ha1 ka1
  have Hb0 := Aside0.mk hb0
  have Kb0 := Aside0.mk kb0
  clear hb0 kb0
  have Hb1 := Aside0.mk hb1
  have Kb1 := Aside0.mk kb1
  clear hb1 kb1
  have Hc0 := Aside0.mk hc0
  have Kc0 := Aside0.mk kc0
  clear hc0 kc0
  have Hc1 := Aside0.mk hc1
  have Kc1 := Aside0.mk kc1
  clear hc1 kc1
  have HB := Aside0.mk (Below.refl w.heap.size w)
  have Ga := Aside0.mk qa
  clear qa
  have Gb := Aside0.mk qb
  clear qb
  have Gc := Aside0.mk qc
  clear qc
  have La0 := Aside0.mk la0
  clear la0
  have La1 := Aside0.mk la1
  clear la1
  have Lb0 := Aside0.mk lb0
  clear lb0
  have Lb1 := Aside0.mk lb1
  clear lb1
  have HM := Aside0.mk hm
  clear hm
  have Lm0 := Aside0.mk lm0
  clear lm0
  have Lm1 := Aside0.mk lm1
  clear lm1
  have Qam := Aside0.mk qam
  clear qam
  have Qbm := Aside0.mk qbm
  clear qbm
  have Qac := Aside0.mk qac
  clear qac
  have Qbc := Aside0.mk qbc
  clear qbc
  have Sma := Aside0.mk sma
  clear sma
  have Qba := Aside0.mk qba
  clear qba
  have Tm := Aside0.mk tm
  clear tm
  have Ta := Aside0.mk ta
  clear ta
  go_enter Try.func4, Try.ntmps4
  go_upto_region 4 with (first
    | ((with_reducible refine gate_dst (N := 3) rfl ?_); refine box_event ?hg (N := 3) ?hd (cs := #[.slice A0 xs.length c0, .slice A1 xs2.length c1]) (t := 24) ?hr ?_; (case hd => rfl); (case hg => rfl); (case hr => first | (go_simp; done) | (go_simp; rfl)); intro gb1 hg_ wb1 hbox hb_; have GE1 := Aside0.mk ((by rw [hg_]; exact (below_size (by repeat (first | (with_reducible first | exact HB.out | apply below_alloc | apply pw_below_drewN | apply below_drew1 | apply below_drew) | exact HB.out)))) : w.heap.size ≤ gb1); have tHB_ := Aside0.mk (below_step (by repeat (first | (with_reducible first | exact HB.out | apply below_alloc | apply pw_below_drewN | apply below_drew1 | apply below_drew) | exact HB.out)) hb_); clear HB; have HB := tHB_; clear tHB_; have BK1 := Aside0.mk hbox; have HG1 := Aside0.mk hg_; have DB1 := Aside0.mk hb_; clear hbox hg_ hb_)
    | ((with_reducible refine gate_dst (N := 4) rfl ?_); refine box_event ?hg (N := 4) ?hd (cs := #[.slice B0 ys.length d0, .slice B1 ys2.length d1]) (t := 24) ?hr ?_; (case hd => rfl); (case hg => rfl); (case hr => first | (go_simp; done) | (go_simp; rfl)); intro gb2 hg_ wb2 hbox hb_; have GE2 := Aside0.mk ((by rw [hg_]; exact (below_size (by repeat (first | (with_reducible first | exact HB.out | apply below_alloc | apply pw_below_drewN | apply below_drew1 | apply below_drew) | exact HB.out)))) : w.heap.size ≤ gb2); have tHB_ := Aside0.mk (below_step (by repeat (first | (with_reducible first | exact HB.out | apply below_alloc | apply pw_below_drewN | apply below_drew1 | apply below_drew) | exact HB.out)) hb_); have bk2_ := Aside0.mk (blk_below (g := gb1) (o := .cells #[.slice A0 xs.length c0, .slice A1 xs2.length c1] 24 (0, 0)) (by (with_reducible repeat (first | refine blk_drewN ?_ _ | refine blk_drew ?_ | refine blk_alloc ?_ _)); exact BK1.out) hb_); clear BK1; have BK1 := bk2_; clear bk2_; clear HB; have HB := tHB_; clear tHB_; have BK2 := Aside0.mk hbox; have HG2 := Aside0.mk hg_; have DB2 := Aside0.mk hb_; clear hbox hg_ hb_)
    | ((with_reducible refine gate_dst (N := 5) rfl ?_); refine box_event ?hg (N := 5) ?hd (cs := #[.slice C0 zs.length g0, .slice C1 zs2.length g1]) (t := 24) ?hr ?_; (case hd => rfl); (case hg => rfl); (case hr => first | (go_simp; done) | (go_simp; rfl)); intro gb3 hg_ wb3 hbox hb_; have GE3 := Aside0.mk ((by rw [hg_]; exact (below_size (by repeat (first | (with_reducible first | exact HB.out | apply below_alloc | apply pw_below_drewN | apply below_drew1 | apply below_drew) | exact HB.out)))) : w.heap.size ≤ gb3); have tHB_ := Aside0.mk (below_step (by repeat (first | (with_reducible first | exact HB.out | apply below_alloc | apply pw_below_drewN | apply below_drew1 | apply below_drew) | exact HB.out)) hb_); have bk2_ := Aside0.mk (blk_below (g := gb1) (o := .cells #[.slice A0 xs.length c0, .slice A1 xs2.length c1] 24 (0, 0)) (by (with_reducible repeat (first | refine blk_drewN ?_ _ | refine blk_drew ?_ | refine blk_alloc ?_ _)); exact BK1.out) hb_); clear BK1; have BK1 := bk2_; clear bk2_; have bk2_ := Aside0.mk (blk_below (g := gb2) (o := .cells #[.slice B0 ys.length d0, .slice B1 ys2.length d1] 24 (0, 0)) (by (with_reducible repeat (first | refine blk_drewN ?_ _ | refine blk_drew ?_ | refine blk_alloc ?_ _)); exact BK2.out) hb_); clear BK2; have BK2 := bk2_; clear bk2_; clear HB; have HB := tHB_; clear tHB_; have BK3 := Aside0.mk hbox; have HG3 := Aside0.mk hg_; have DB3 := Aside0.mk hb_; clear hbox hg_ hb_; have hcz1_0 := (blk_cell BK1.out 0).trans (show (#[.slice A0 xs.length c0, .slice A1 xs2.length c1] : Array Value)[0]? = some (.slice A0 xs.length c0) from rfl); have hcz1_1 := (blk_cell BK1.out 1).trans (show (#[.slice A0 xs.length c0, .slice A1 xs2.length c1] : Array Value)[1]? = some (.slice A1 xs2.length c1) from rfl); have hcz2_0 := (blk_cell BK2.out 0).trans (show (#[.slice B0 ys.length d0, .slice B1 ys2.length d1] : Array Value)[0]? = some (.slice B0 ys.length d0) from rfl); have hcz2_1 := (blk_cell BK2.out 1).trans (show (#[.slice B0 ys.length d0, .slice B1 ys2.length d1] : Array Value)[1]? = some (.slice B1 ys2.length d1) from rfl); have hcz3_0 := (blk_cell BK3.out 0).trans (show (#[.slice C0 zs.length g0, .slice C1 zs2.length g1] : Array Value)[0]? = some (.slice C0 zs.length g0) from rfl); have hcz3_1 := (blk_cell BK3.out 1).trans (show (#[.slice C0 zs.length g0, .slice C1 zs2.length g1] : Array Value)[1]? = some (.slice C1 zs2.length g1) from rfl))
    | (go_at_call 7; (with_reducible refine (large_t xs xs2 _ _ _ _ _ _ Ga.out (by repeat (first | exact (Kd.C_below Ha0.out HB.out) | (with_reducible refine Kd.C_alloc ?_ _) | (with_reducible refine Kd.C_drewN ?_ _) | (with_reducible refine Kd.C_drew ?_))) (by repeat (first | exact (Kd.C_below Ha1.out HB.out) | (with_reducible refine Kd.C_alloc ?_ _) | (with_reducible refine Kd.C_drewN ?_ _) | (with_reducible refine Kd.C_drew ?_))) Ka0.out Ka1.out).mono ?_); rintro e wc ⟨rfl, hb_⟩; have tHB_ := Aside0.mk (below_step (by repeat (first | (with_reducible first | exact HB.out | apply below_alloc | apply pw_below_drewN | apply below_drew1 | apply below_drew) | exact HB.out)) hb_); have bk2_ := Aside0.mk (blk_below (g := gb1) (o := .cells #[.slice A0 xs.length c0, .slice A1 xs2.length c1] 24 (0, 0)) (by (with_reducible repeat (first | refine blk_drewN ?_ _ | refine blk_drew ?_ | refine blk_alloc ?_ _)); exact BK1.out) hb_); clear BK1; have BK1 := bk2_; clear bk2_; have bk2_ := Aside0.mk (blk_below (g := gb2) (o := .cells #[.slice B0 ys.length d0, .slice B1 ys2.length d1] 24 (0, 0)) (by (with_reducible repeat (first | refine blk_drewN ?_ _ | refine blk_drew ?_ | refine blk_alloc ?_ _)); exact BK2.out) hb_); clear BK2; have BK2 := bk2_; clear bk2_; have bk2_ := Aside0.mk (blk_below (g := gb3) (o := .cells #[.slice C0 zs.length g0, .slice C1 zs2.length g1] 24 (0, 0)) (by (with_reducible repeat (first | refine blk_drewN ?_ _ | refine blk_drew ?_ | refine blk_alloc ?_ _)); exact BK3.out) hb_); clear BK3; have BK3 := bk2_; clear bk2_; clear HB; have HB := tHB_; clear tHB_; (try clear hcz1_0 hcz1_1 hcz2_0 hcz2_1 hcz3_0 hcz3_1); have hcz1_0 := (blk_cell BK1.out 0).trans (show (#[.slice A0 xs.length c0, .slice A1 xs2.length c1] : Array Value)[0]? = some (.slice A0 xs.length c0) from rfl); have hcz1_1 := (blk_cell BK1.out 1).trans (show (#[.slice A0 xs.length c0, .slice A1 xs2.length c1] : Array Value)[1]? = some (.slice A1 xs2.length c1) from rfl); have hcz2_0 := (blk_cell BK2.out 0).trans (show (#[.slice B0 ys.length d0, .slice B1 ys2.length d1] : Array Value)[0]? = some (.slice B0 ys.length d0) from rfl); have hcz2_1 := (blk_cell BK2.out 1).trans (show (#[.slice B0 ys.length d0, .slice B1 ys2.length d1] : Array Value)[1]? = some (.slice B1 ys2.length d1) from rfl); have hcz3_0 := (blk_cell BK3.out 0).trans (show (#[.slice C0 zs.length g0, .slice C1 zs2.length g1] : Array Value)[0]? = some (.slice C0 zs.length g0) from rfl); have hcz3_1 := (blk_cell BK3.out 1).trans (show (#[.slice C0 zs.length g0, .slice C1 zs2.length g1] : Array Value)[1]? = some (.slice C1 zs2.length g1) from rfl); (try clear hb_))
    | (go_at_call 7; (with_reducible refine (large_t ys ys2 _ _ _ _ _ _ Gb.out (by repeat (first | exact (Kd.C_below Hb0.out HB.out) | (with_reducible refine Kd.C_alloc ?_ _) | (with_reducible refine Kd.C_drewN ?_ _) | (with_reducible refine Kd.C_drew ?_))) (by repeat (first | exact (Kd.C_below Hb1.out HB.out) | (with_reducible refine Kd.C_alloc ?_ _) | (with_reducible refine Kd.C_drewN ?_ _) | (with_reducible refine Kd.C_drew ?_))) Kb0.out Kb1.out).mono ?_); rintro e wc ⟨rfl, hb_⟩; have tHB_ := Aside0.mk (below_step (by repeat (first | (with_reducible first | exact HB.out | apply below_alloc | apply pw_below_drewN | apply below_drew1 | apply below_drew) | exact HB.out)) hb_); have bk2_ := Aside0.mk (blk_below (g := gb1) (o := .cells #[.slice A0 xs.length c0, .slice A1 xs2.length c1] 24 (0, 0)) (by (with_reducible repeat (first | refine blk_drewN ?_ _ | refine blk_drew ?_ | refine blk_alloc ?_ _)); exact BK1.out) hb_); clear BK1; have BK1 := bk2_; clear bk2_; have bk2_ := Aside0.mk (blk_below (g := gb2) (o := .cells #[.slice B0 ys.length d0, .slice B1 ys2.length d1] 24 (0, 0)) (by (with_reducible repeat (first | refine blk_drewN ?_ _ | refine blk_drew ?_ | refine blk_alloc ?_ _)); exact BK2.out) hb_); clear BK2; have BK2 := bk2_; clear bk2_; have bk2_ := Aside0.mk (blk_below (g := gb3) (o := .cells #[.slice C0 zs.length g0, .slice C1 zs2.length g1] 24 (0, 0)) (by (with_reducible repeat (first | refine blk_drewN ?_ _ | refine blk_drew ?_ | refine blk_alloc ?_ _)); exact BK3.out) hb_); clear BK3; have BK3 := bk2_; clear bk2_; clear HB; have HB := tHB_; clear tHB_; (try clear hcz1_0 hcz1_1 hcz2_0 hcz2_1 hcz3_0 hcz3_1); have hcz1_0 := (blk_cell BK1.out 0).trans (show (#[.slice A0 xs.length c0, .slice A1 xs2.length c1] : Array Value)[0]? = some (.slice A0 xs.length c0) from rfl); have hcz1_1 := (blk_cell BK1.out 1).trans (show (#[.slice A0 xs.length c0, .slice A1 xs2.length c1] : Array Value)[1]? = some (.slice A1 xs2.length c1) from rfl); have hcz2_0 := (blk_cell BK2.out 0).trans (show (#[.slice B0 ys.length d0, .slice B1 ys2.length d1] : Array Value)[0]? = some (.slice B0 ys.length d0) from rfl); have hcz2_1 := (blk_cell BK2.out 1).trans (show (#[.slice B0 ys.length d0, .slice B1 ys2.length d1] : Array Value)[1]? = some (.slice B1 ys2.length d1) from rfl); have hcz3_0 := (blk_cell BK3.out 0).trans (show (#[.slice C0 zs.length g0, .slice C1 zs2.length g1] : Array Value)[0]? = some (.slice C0 zs.length g0) from rfl); have hcz3_1 := (blk_cell BK3.out 1).trans (show (#[.slice C0 zs.length g0, .slice C1 zs2.length g1] : Array Value)[1]? = some (.slice C1 zs2.length g1) from rfl); (try clear hb_))
    | (go_at_call 7; (with_reducible refine (large_t zs zs2 _ _ _ _ _ _ Gc.out (by repeat (first | exact (Kd.C_below Hc0.out HB.out) | (with_reducible refine Kd.C_alloc ?_ _) | (with_reducible refine Kd.C_drewN ?_ _) | (with_reducible refine Kd.C_drew ?_))) (by repeat (first | exact (Kd.C_below Hc1.out HB.out) | (with_reducible refine Kd.C_alloc ?_ _) | (with_reducible refine Kd.C_drewN ?_ _) | (with_reducible refine Kd.C_drew ?_))) Kc0.out Kc1.out).mono ?_); rintro e wc ⟨rfl, hb_⟩; have tHB_ := Aside0.mk (below_step (by repeat (first | (with_reducible first | exact HB.out | apply below_alloc | apply pw_below_drewN | apply below_drew1 | apply below_drew) | exact HB.out)) hb_); have bk2_ := Aside0.mk (blk_below (g := gb1) (o := .cells #[.slice A0 xs.length c0, .slice A1 xs2.length c1] 24 (0, 0)) (by (with_reducible repeat (first | refine blk_drewN ?_ _ | refine blk_drew ?_ | refine blk_alloc ?_ _)); exact BK1.out) hb_); clear BK1; have BK1 := bk2_; clear bk2_; have bk2_ := Aside0.mk (blk_below (g := gb2) (o := .cells #[.slice B0 ys.length d0, .slice B1 ys2.length d1] 24 (0, 0)) (by (with_reducible repeat (first | refine blk_drewN ?_ _ | refine blk_drew ?_ | refine blk_alloc ?_ _)); exact BK2.out) hb_); clear BK2; have BK2 := bk2_; clear bk2_; have bk2_ := Aside0.mk (blk_below (g := gb3) (o := .cells #[.slice C0 zs.length g0, .slice C1 zs2.length g1] 24 (0, 0)) (by (with_reducible repeat (first | refine blk_drewN ?_ _ | refine blk_drew ?_ | refine blk_alloc ?_ _)); exact BK3.out) hb_); clear BK3; have BK3 := bk2_; clear bk2_; clear HB; have HB := tHB_; clear tHB_; (try clear hcz1_0 hcz1_1 hcz2_0 hcz2_1 hcz3_0 hcz3_1); have hcz1_0 := (blk_cell BK1.out 0).trans (show (#[.slice A0 xs.length c0, .slice A1 xs2.length c1] : Array Value)[0]? = some (.slice A0 xs.length c0) from rfl); have hcz1_1 := (blk_cell BK1.out 1).trans (show (#[.slice A0 xs.length c0, .slice A1 xs2.length c1] : Array Value)[1]? = some (.slice A1 xs2.length c1) from rfl); have hcz2_0 := (blk_cell BK2.out 0).trans (show (#[.slice B0 ys.length d0, .slice B1 ys2.length d1] : Array Value)[0]? = some (.slice B0 ys.length d0) from rfl); have hcz2_1 := (blk_cell BK2.out 1).trans (show (#[.slice B0 ys.length d0, .slice B1 ys2.length d1] : Array Value)[1]? = some (.slice B1 ys2.length d1) from rfl); have hcz3_0 := (blk_cell BK3.out 0).trans (show (#[.slice C0 zs.length g0, .slice C1 zs2.length g1] : Array Value)[0]? = some (.slice C0 zs.length g0) from rfl); have hcz3_1 := (blk_cell BK3.out 1).trans (show (#[.slice C0 zs.length g0, .slice C1 zs2.length g1] : Array Value)[1]? = some (.slice C1 zs2.length g1) from rfl); (try clear hb_))
    | (go_at_call 11; (with_reducible refine (merge_t m m2 true xs xs2 ys ys2 La0.out La1.out HM.out _ _ _ _ _ _ _ _ _ (by repeat (first | exact (Kd.C_below Ha0.out HB.out) | (with_reducible refine Kd.C_alloc ?_ _) | (with_reducible refine Kd.C_drewN ?_ _) | (with_reducible refine Kd.C_drew ?_))) (by repeat (first | exact (Kd.C_below Ha1.out HB.out) | (with_reducible refine Kd.C_alloc ?_ _) | (with_reducible refine Kd.C_drewN ?_ _) | (with_reducible refine Kd.C_drew ?_))) (by repeat (first | exact (Kd.C_below Hb0.out HB.out) | (with_reducible refine Kd.C_alloc ?_ _) | (with_reducible refine Kd.C_drewN ?_ _) | (with_reducible refine Kd.C_drew ?_))) (by repeat (first | exact (Kd.C_below Hb1.out HB.out) | (with_reducible refine Kd.C_alloc ?_ _) | (with_reducible refine Kd.C_drewN ?_ _) | (with_reducible refine Kd.C_drew ?_)))).mono ?_); rintro e wA ⟨F0, F1, f0, f1, rfl, k0, k1, r0, r1, hb_, R0, R1⟩; have tHB_ := Aside0.mk (below_step (by repeat (first | (with_reducible first | exact HB.out | apply below_alloc | apply pw_below_drewN | apply below_drew1 | apply below_drew) | exact HB.out)) hb_); have bk2_ := Aside0.mk (blk_below (g := gb1) (o := .cells #[.slice A0 xs.length c0, .slice A1 xs2.length c1] 24 (0, 0)) (by (with_reducible repeat (first | refine blk_drewN ?_ _ | refine blk_drew ?_ | refine blk_alloc ?_ _)); exact BK1.out) hb_); clear BK1; have BK1 := bk2_; clear bk2_; have bk2_ := Aside0.mk (blk_below (g := gb2) (o := .cells #[.slice B0 ys.length d0, .slice B1 ys2.length d1] 24 (0, 0)) (by (with_reducible repeat (first | refine blk_drewN ?_ _ | refine blk_drew ?_ | refine blk_alloc ?_ _)); exact BK2.out) hb_); clear BK2; have BK2 := bk2_; clear bk2_; have bk2_ := Aside0.mk (blk_below (g := gb3) (o := .cells #[.slice C0 zs.length g0, .slice C1 zs2.length g1] 24 (0, 0)) (by (with_reducible repeat (first | refine blk_drewN ?_ _ | refine blk_drew ?_ | refine blk_alloc ?_ _)); exact BK3.out) hb_); clear BK3; have BK3 := bk2_; clear bk2_; clear HB; have HB := tHB_; clear tHB_; (try clear hcz1_0 hcz1_1 hcz2_0 hcz2_1 hcz3_0 hcz3_1); (try clear hb_); clear R0 R1)
    | ((with_reducible refine gate_dst (N := 7) rfl ?_); have HLT1 := Aside0.mk (blk_lt BK1.out); have HLT2 := Aside0.mk (blk_lt BK2.out); have HLT3 := Aside0.mk (blk_lt BK3.out); refine box_event ?hg (N := 7) ?hd (cs := #[.slice none 0 0, .slice none 0 0]) (t := 24) ?hr ?_; (case hd => rfl); (case hg => rfl); (case hr => first | (go_simp; done) | (go_simp; rfl)); intro gb4 hg_ wb4 hbox hb_; have GE4 := Aside0.mk ((by rw [hg_]; exact (below_size (by repeat (first | (with_reducible first | exact HB.out | apply below_alloc | apply pw_below_drewN | apply below_drew1 | apply below_drew) | exact HB.out)))) : w.heap.size ≤ gb4); have tHB_ := Aside0.mk (below_step (by repeat (first | (with_reducible first | exact HB.out | apply below_alloc | apply pw_below_drewN | apply below_drew1 | apply below_drew) | exact HB.out)) hb_); have bk2_ := Aside0.mk (blk_below (g := gb1) (o := .cells #[.slice A0 xs.length c0, .slice A1 xs2.length c1] 24 (0, 0)) (by (with_reducible repeat (first | refine blk_drewN ?_ _ | refine blk_drew ?_ | refine blk_alloc ?_ _)); exact BK1.out) hb_); clear BK1; have BK1 := bk2_; clear bk2_; have bk2_ := Aside0.mk (blk_below (g := gb2) (o := .cells #[.slice B0 ys.length d0, .slice B1 ys2.length d1] 24 (0, 0)) (by (with_reducible repeat (first | refine blk_drewN ?_ _ | refine blk_drew ?_ | refine blk_alloc ?_ _)); exact BK2.out) hb_); clear BK2; have BK2 := bk2_; clear bk2_; have bk2_ := Aside0.mk (blk_below (g := gb3) (o := .cells #[.slice C0 zs.length g0, .slice C1 zs2.length g1] 24 (0, 0)) (by (with_reducible repeat (first | refine blk_drewN ?_ _ | refine blk_drew ?_ | refine blk_alloc ?_ _)); exact BK3.out) hb_); clear BK3; have BK3 := bk2_; clear bk2_; clear HB; have HB := tHB_; clear tHB_; have BK4 := Aside0.mk hbox; have HG4 := Aside0.mk hg_; have DB4 := Aside0.mk hb_; clear hbox hg_ hb_; have hcz1_0 := (blk_cell BK1.out 0).trans (show (#[.slice A0 xs.length c0, .slice A1 xs2.length c1] : Array Value)[0]? = some (.slice A0 xs.length c0) from rfl); have hfz1_0 := blk_frozen BK1.out 0; have hcz1_1 := (blk_cell BK1.out 1).trans (show (#[.slice A0 xs.length c0, .slice A1 xs2.length c1] : Array Value)[1]? = some (.slice A1 xs2.length c1) from rfl); have hfz1_1 := blk_frozen BK1.out 1; have hcz2_0 := (blk_cell BK2.out 0).trans (show (#[.slice B0 ys.length d0, .slice B1 ys2.length d1] : Array Value)[0]? = some (.slice B0 ys.length d0) from rfl); have hfz2_0 := blk_frozen BK2.out 0; have hcz2_1 := (blk_cell BK2.out 1).trans (show (#[.slice B0 ys.length d0, .slice B1 ys2.length d1] : Array Value)[1]? = some (.slice B1 ys2.length d1) from rfl); have hfz2_1 := blk_frozen BK2.out 1; have hcz3_0 := (blk_cell BK3.out 0).trans (show (#[.slice C0 zs.length g0, .slice C1 zs2.length g1] : Array Value)[0]? = some (.slice C0 zs.length g0) from rfl); have hfz3_0 := blk_frozen BK3.out 0; have hcz3_1 := (blk_cell BK3.out 1).trans (show (#[.slice C0 zs.length g0, .slice C1 zs2.length g1] : Array Value)[1]? = some (.slice C1 zs2.length g1) from rfl); have hfz3_1 := blk_frozen BK3.out 1; have hcz4_0 := (blk_cell BK4.out 0).trans (show (#[.slice none 0 0, .slice none 0 0] : Array Value)[0]? = some (.slice none 0 0) from rfl); have hfz4_0 := blk_frozen BK4.out 0; have hcz4_1 := (blk_cell BK4.out 1).trans (show (#[.slice none 0 0, .slice none 0 0] : Array Value)[1]? = some (.slice none 0 0) from rfl); have hfz4_1 := blk_frozen BK4.out 1))
  have bk := blk_put (cs' := #[.slice F0 m.length f0, .slice F1 m2.length f1]) (blk_put (cs' := #[.slice F0 m.length f0, .slice none 0 0]) BK4.out 0 (.slice F0 m.length f0) rfl) 1 (.slice F1 m2.length f1) rfl
  have hne1 : gb1 ≠ gb4 := by rw [HG4.out]; exact Nat.ne_of_lt (HLT1.out)
  have bk1 := blk_far (p := ⟨gb4, 1, none⟩) (blk_far (p := ⟨gb4, 0, none⟩) BK1.out hne1 (.slice F0 m.length f0)) hne1 (.slice F1 m2.length f1)
  have hne2 : gb2 ≠ gb4 := by rw [HG4.out]; exact Nat.ne_of_lt (HLT2.out)
  have bk2 := blk_far (p := ⟨gb4, 1, none⟩) (blk_far (p := ⟨gb4, 0, none⟩) BK2.out hne2 (.slice F0 m.length f0)) hne2 (.slice F1 m2.length f1)
  have hne3 : gb3 ≠ gb4 := by rw [HG4.out]; exact Nat.ne_of_lt (HLT3.out)
  have bk3 := blk_far (p := ⟨gb4, 1, none⟩) (blk_far (p := ⟨gb4, 0, none⟩) BK3.out hne3 (.slice F0 m.length f0)) hne3 (.slice F1 m2.length f1)
  have D := below_set (g := gb4) (j := 1) (v := .slice F1 m2.length f1) (below_set (g := gb4) (j := 0) (v := .slice F0 m.length f0) DB4.out (Nat.le_of_eq HG4.out.symm)) (Nat.le_of_eq HG4.out.symm)
  have HV := Aside0.mk (below_set (g := gb4) (j := 1) (v := .slice F1 m2.length f1) (below_set (g := gb4) (j := 0) (v := .slice F0 m.length f0) HB.out GE4.out) GE4.out)
  have q0 := Kd.C_below r0 D
  have q1 := Kd.C_below r1 D
  clear r0 r1
  clear HB D DB4 HG4 BK4 GE4 HLT1 HLT2 HLT3 hne1 hne2 hne3 BK1 BK2 BK3 GE1 GE2 GE3 HG1 HG2 HG3 DB1 DB2 DB3
  (try clear hcz1_0 hcz1_1 hcz2_0 hcz2_1 hcz3_0 hcz3_1 hcz4_0 hcz4_1 hfz1_0 hfz1_1 hfz2_0 hfz2_1 hfz3_0 hfz3_1 hfz4_0 hfz4_1)
  generalize (wb4.setCell ⟨gb4, 0, none⟩ (.slice F0 m.length f0)).setCell ⟨gb4, 1, none⟩ (.slice F1 m2.length f1) = V at *
  have HB := HV
  clear HV
  have BK4 := Aside0.mk bk
  clear bk
  have BK1 := Aside0.mk bk1
  clear bk1
  have BK2 := Aside0.mk bk2
  clear bk2
  have BK3 := Aside0.mk bk3
  clear bk3
  have Hm0 := Aside0.mk q0
  clear q0
  have Hm1 := Aside0.mk q1
  clear q1
  have Km0 := Aside0.mk k0
  clear k0
  have Km1 := Aside0.mk k1
  clear k1
  have HV := Aside0.mk (Below.refl V.heap.size V)
  have hcz1_0 := (blk_cell BK1.out 0).trans (show (#[.slice A0 xs.length c0, .slice A1 xs2.length c1] : Array Value)[0]? = some (.slice A0 xs.length c0) from rfl)
  have hcz1_1 := (blk_cell BK1.out 1).trans (show (#[.slice A0 xs.length c0, .slice A1 xs2.length c1] : Array Value)[1]? = some (.slice A1 xs2.length c1) from rfl)
  have hcz2_0 := (blk_cell BK2.out 0).trans (show (#[.slice B0 ys.length d0, .slice B1 ys2.length d1] : Array Value)[0]? = some (.slice B0 ys.length d0) from rfl)
  have hcz2_1 := (blk_cell BK2.out 1).trans (show (#[.slice B0 ys.length d0, .slice B1 ys2.length d1] : Array Value)[1]? = some (.slice B1 ys2.length d1) from rfl)
  have hcz3_0 := (blk_cell BK3.out 0).trans (show (#[.slice C0 zs.length g0, .slice C1 zs2.length g1] : Array Value)[0]? = some (.slice C0 zs.length g0) from rfl)
  have hcz3_1 := (blk_cell BK3.out 1).trans (show (#[.slice C0 zs.length g0, .slice C1 zs2.length g1] : Array Value)[1]? = some (.slice C1 zs2.length g1) from rfl)
  have hcz4_0 := (blk_cell BK4.out 0).trans (show (#[.slice F0 m.length f0, .slice F1 m2.length f1] : Array Value)[0]? = some (.slice F0 m.length f0) from rfl)
  have hcz4_1 := (blk_cell BK4.out 1).trans (show (#[.slice F0 m.length f0, .slice F1 m2.length f1] : Array Value)[1]? = some (.slice F1 m2.length f1) from rfl)
  go_wp2_with (first
    | (go_at_call 13; (with_reducible refine (below_t xs xs2 m m2 La0.out La1.out _ _ _ _ _ _ _ _ _ _ Qam.out (by repeat (first | exact (Kd.C_below Ha0.out HB.out) | (with_reducible refine Kd.C_alloc ?_ _) | (with_reducible refine Kd.C_drewN ?_ _) | (with_reducible refine Kd.C_drew ?_))) (by repeat (first | exact (Kd.C_below Ha1.out HB.out) | (with_reducible refine Kd.C_alloc ?_ _) | (with_reducible refine Kd.C_drewN ?_ _) | (with_reducible refine Kd.C_drew ?_))) (by repeat (first | exact (Kd.C_below Hm0.out HV.out) | (with_reducible refine Kd.C_alloc ?_ _) | (with_reducible refine Kd.C_drewN ?_ _) | (with_reducible refine Kd.C_drew ?_))) (by repeat (first | exact (Kd.C_below Hm1.out HV.out) | (with_reducible refine Kd.C_alloc ?_ _) | (with_reducible refine Kd.C_drewN ?_ _) | (with_reducible refine Kd.C_drew ?_)))).mono ?_); rintro e wc ⟨rfl, hb_⟩; have tHB_ := Aside0.mk (below_step (by repeat (first | (with_reducible first | exact HB.out | apply below_alloc | apply pw_below_drewN | apply below_drew1 | apply below_drew) | exact HB.out)) hb_); have tHV_ := Aside0.mk (below_step (by repeat (first | (with_reducible first | exact HV.out | apply below_alloc | apply pw_below_drewN | apply below_drew1 | apply below_drew) | exact HV.out)) hb_); have bk2_ := Aside0.mk (blk_below (g := gb1) (o := .cells #[.slice A0 xs.length c0, .slice A1 xs2.length c1] 24 (0, 0)) (by (with_reducible repeat (first | refine blk_drewN ?_ _ | refine blk_drew ?_ | refine blk_alloc ?_ _)); exact BK1.out) hb_); clear BK1; have BK1 := bk2_; clear bk2_; have bk2_ := Aside0.mk (blk_below (g := gb2) (o := .cells #[.slice B0 ys.length d0, .slice B1 ys2.length d1] 24 (0, 0)) (by (with_reducible repeat (first | refine blk_drewN ?_ _ | refine blk_drew ?_ | refine blk_alloc ?_ _)); exact BK2.out) hb_); clear BK2; have BK2 := bk2_; clear bk2_; have bk2_ := Aside0.mk (blk_below (g := gb3) (o := .cells #[.slice C0 zs.length g0, .slice C1 zs2.length g1] 24 (0, 0)) (by (with_reducible repeat (first | refine blk_drewN ?_ _ | refine blk_drew ?_ | refine blk_alloc ?_ _)); exact BK3.out) hb_); clear BK3; have BK3 := bk2_; clear bk2_; have bk2_ := Aside0.mk (blk_below (g := gb4) (o := .cells #[.slice F0 m.length f0, .slice F1 m2.length f1] 24 (0, 0)) (by (with_reducible repeat (first | refine blk_drewN ?_ _ | refine blk_drew ?_ | refine blk_alloc ?_ _)); exact BK4.out) hb_); clear BK4; have BK4 := bk2_; clear bk2_; clear HB; have HB := tHB_; clear tHB_; clear HV; have HV := tHV_; clear tHV_; (try clear hcz1_0 hcz1_1 hcz2_0 hcz2_1 hcz3_0 hcz3_1 hcz4_0 hcz4_1); have hcz1_0 := (blk_cell BK1.out 0).trans (show (#[.slice A0 xs.length c0, .slice A1 xs2.length c1] : Array Value)[0]? = some (.slice A0 xs.length c0) from rfl); have hcz1_1 := (blk_cell BK1.out 1).trans (show (#[.slice A0 xs.length c0, .slice A1 xs2.length c1] : Array Value)[1]? = some (.slice A1 xs2.length c1) from rfl); have hcz2_0 := (blk_cell BK2.out 0).trans (show (#[.slice B0 ys.length d0, .slice B1 ys2.length d1] : Array Value)[0]? = some (.slice B0 ys.length d0) from rfl); have hcz2_1 := (blk_cell BK2.out 1).trans (show (#[.slice B0 ys.length d0, .slice B1 ys2.length d1] : Array Value)[1]? = some (.slice B1 ys2.length d1) from rfl); have hcz3_0 := (blk_cell BK3.out 0).trans (show (#[.slice C0 zs.length g0, .slice C1 zs2.length g1] : Array Value)[0]? = some (.slice C0 zs.length g0) from rfl); have hcz3_1 := (blk_cell BK3.out 1).trans (show (#[.slice C0 zs.length g0, .slice C1 zs2.length g1] : Array Value)[1]? = some (.slice C1 zs2.length g1) from rfl); have hcz4_0 := (blk_cell BK4.out 0).trans (show (#[.slice F0 m.length f0, .slice F1 m2.length f1] : Array Value)[0]? = some (.slice F0 m.length f0) from rfl); have hcz4_1 := (blk_cell BK4.out 1).trans (show (#[.slice F0 m.length f0, .slice F1 m2.length f1] : Array Value)[1]? = some (.slice F1 m2.length f1) from rfl); (try clear hb_))
    | (go_at_call 13; (with_reducible refine (below_t ys ys2 m m2 Lb0.out Lb1.out _ _ _ _ _ _ _ _ _ _ Qbm.out (by repeat (first | exact (Kd.C_below Hb0.out HB.out) | (with_reducible refine Kd.C_alloc ?_ _) | (with_reducible refine Kd.C_drewN ?_ _) | (with_reducible refine Kd.C_drew ?_))) (by repeat (first | exact (Kd.C_below Hb1.out HB.out) | (with_reducible refine Kd.C_alloc ?_ _) | (with_reducible refine Kd.C_drewN ?_ _) | (with_reducible refine Kd.C_drew ?_))) (by repeat (first | exact (Kd.C_below Hm0.out HV.out) | (with_reducible refine Kd.C_alloc ?_ _) | (with_reducible refine Kd.C_drewN ?_ _) | (with_reducible refine Kd.C_drew ?_))) (by repeat (first | exact (Kd.C_below Hm1.out HV.out) | (with_reducible refine Kd.C_alloc ?_ _) | (with_reducible refine Kd.C_drewN ?_ _) | (with_reducible refine Kd.C_drew ?_)))).mono ?_); rintro e wc ⟨rfl, hb_⟩; have tHB_ := Aside0.mk (below_step (by repeat (first | (with_reducible first | exact HB.out | apply below_alloc | apply pw_below_drewN | apply below_drew1 | apply below_drew) | exact HB.out)) hb_); have tHV_ := Aside0.mk (below_step (by repeat (first | (with_reducible first | exact HV.out | apply below_alloc | apply pw_below_drewN | apply below_drew1 | apply below_drew) | exact HV.out)) hb_); have bk2_ := Aside0.mk (blk_below (g := gb1) (o := .cells #[.slice A0 xs.length c0, .slice A1 xs2.length c1] 24 (0, 0)) (by (with_reducible repeat (first | refine blk_drewN ?_ _ | refine blk_drew ?_ | refine blk_alloc ?_ _)); exact BK1.out) hb_); clear BK1; have BK1 := bk2_; clear bk2_; have bk2_ := Aside0.mk (blk_below (g := gb2) (o := .cells #[.slice B0 ys.length d0, .slice B1 ys2.length d1] 24 (0, 0)) (by (with_reducible repeat (first | refine blk_drewN ?_ _ | refine blk_drew ?_ | refine blk_alloc ?_ _)); exact BK2.out) hb_); clear BK2; have BK2 := bk2_; clear bk2_; have bk2_ := Aside0.mk (blk_below (g := gb3) (o := .cells #[.slice C0 zs.length g0, .slice C1 zs2.length g1] 24 (0, 0)) (by (with_reducible repeat (first | refine blk_drewN ?_ _ | refine blk_drew ?_ | refine blk_alloc ?_ _)); exact BK3.out) hb_); clear BK3; have BK3 := bk2_; clear bk2_; have bk2_ := Aside0.mk (blk_below (g := gb4) (o := .cells #[.slice F0 m.length f0, .slice F1 m2.length f1] 24 (0, 0)) (by (with_reducible repeat (first | refine blk_drewN ?_ _ | refine blk_drew ?_ | refine blk_alloc ?_ _)); exact BK4.out) hb_); clear BK4; have BK4 := bk2_; clear bk2_; clear HB; have HB := tHB_; clear tHB_; clear HV; have HV := tHV_; clear tHV_; (try clear hcz1_0 hcz1_1 hcz2_0 hcz2_1 hcz3_0 hcz3_1 hcz4_0 hcz4_1); have hcz1_0 := (blk_cell BK1.out 0).trans (show (#[.slice A0 xs.length c0, .slice A1 xs2.length c1] : Array Value)[0]? = some (.slice A0 xs.length c0) from rfl); have hcz1_1 := (blk_cell BK1.out 1).trans (show (#[.slice A0 xs.length c0, .slice A1 xs2.length c1] : Array Value)[1]? = some (.slice A1 xs2.length c1) from rfl); have hcz2_0 := (blk_cell BK2.out 0).trans (show (#[.slice B0 ys.length d0, .slice B1 ys2.length d1] : Array Value)[0]? = some (.slice B0 ys.length d0) from rfl); have hcz2_1 := (blk_cell BK2.out 1).trans (show (#[.slice B0 ys.length d0, .slice B1 ys2.length d1] : Array Value)[1]? = some (.slice B1 ys2.length d1) from rfl); have hcz3_0 := (blk_cell BK3.out 0).trans (show (#[.slice C0 zs.length g0, .slice C1 zs2.length g1] : Array Value)[0]? = some (.slice C0 zs.length g0) from rfl); have hcz3_1 := (blk_cell BK3.out 1).trans (show (#[.slice C0 zs.length g0, .slice C1 zs2.length g1] : Array Value)[1]? = some (.slice C1 zs2.length g1) from rfl); have hcz4_0 := (blk_cell BK4.out 0).trans (show (#[.slice F0 m.length f0, .slice F1 m2.length f1] : Array Value)[0]? = some (.slice F0 m.length f0) from rfl); have hcz4_1 := (blk_cell BK4.out 1).trans (show (#[.slice F0 m.length f0, .slice F1 m2.length f1] : Array Value)[1]? = some (.slice F1 m2.length f1) from rfl); (try clear hb_))
    | (go_at_call 13; (with_reducible refine (below_t xs xs2 zs zs2 La0.out La1.out _ _ _ _ _ _ _ _ _ _ Qac.out (by repeat (first | exact (Kd.C_below Ha0.out HB.out) | (with_reducible refine Kd.C_alloc ?_ _) | (with_reducible refine Kd.C_drewN ?_ _) | (with_reducible refine Kd.C_drew ?_))) (by repeat (first | exact (Kd.C_below Ha1.out HB.out) | (with_reducible refine Kd.C_alloc ?_ _) | (with_reducible refine Kd.C_drewN ?_ _) | (with_reducible refine Kd.C_drew ?_))) (by repeat (first | exact (Kd.C_below Hc0.out HB.out) | (with_reducible refine Kd.C_alloc ?_ _) | (with_reducible refine Kd.C_drewN ?_ _) | (with_reducible refine Kd.C_drew ?_))) (by repeat (first | exact (Kd.C_below Hc1.out HB.out) | (with_reducible refine Kd.C_alloc ?_ _) | (with_reducible refine Kd.C_drewN ?_ _) | (with_reducible refine Kd.C_drew ?_)))).mono ?_); rintro e wc ⟨rfl, hb_⟩; have tHB_ := Aside0.mk (below_step (by repeat (first | (with_reducible first | exact HB.out | apply below_alloc | apply pw_below_drewN | apply below_drew1 | apply below_drew) | exact HB.out)) hb_); have tHV_ := Aside0.mk (below_step (by repeat (first | (with_reducible first | exact HV.out | apply below_alloc | apply pw_below_drewN | apply below_drew1 | apply below_drew) | exact HV.out)) hb_); have bk2_ := Aside0.mk (blk_below (g := gb1) (o := .cells #[.slice A0 xs.length c0, .slice A1 xs2.length c1] 24 (0, 0)) (by (with_reducible repeat (first | refine blk_drewN ?_ _ | refine blk_drew ?_ | refine blk_alloc ?_ _)); exact BK1.out) hb_); clear BK1; have BK1 := bk2_; clear bk2_; have bk2_ := Aside0.mk (blk_below (g := gb2) (o := .cells #[.slice B0 ys.length d0, .slice B1 ys2.length d1] 24 (0, 0)) (by (with_reducible repeat (first | refine blk_drewN ?_ _ | refine blk_drew ?_ | refine blk_alloc ?_ _)); exact BK2.out) hb_); clear BK2; have BK2 := bk2_; clear bk2_; have bk2_ := Aside0.mk (blk_below (g := gb3) (o := .cells #[.slice C0 zs.length g0, .slice C1 zs2.length g1] 24 (0, 0)) (by (with_reducible repeat (first | refine blk_drewN ?_ _ | refine blk_drew ?_ | refine blk_alloc ?_ _)); exact BK3.out) hb_); clear BK3; have BK3 := bk2_; clear bk2_; have bk2_ := Aside0.mk (blk_below (g := gb4) (o := .cells #[.slice F0 m.length f0, .slice F1 m2.length f1] 24 (0, 0)) (by (with_reducible repeat (first | refine blk_drewN ?_ _ | refine blk_drew ?_ | refine blk_alloc ?_ _)); exact BK4.out) hb_); clear BK4; have BK4 := bk2_; clear bk2_; clear HB; have HB := tHB_; clear tHB_; clear HV; have HV := tHV_; clear tHV_; (try clear hcz1_0 hcz1_1 hcz2_0 hcz2_1 hcz3_0 hcz3_1 hcz4_0 hcz4_1); have hcz1_0 := (blk_cell BK1.out 0).trans (show (#[.slice A0 xs.length c0, .slice A1 xs2.length c1] : Array Value)[0]? = some (.slice A0 xs.length c0) from rfl); have hcz1_1 := (blk_cell BK1.out 1).trans (show (#[.slice A0 xs.length c0, .slice A1 xs2.length c1] : Array Value)[1]? = some (.slice A1 xs2.length c1) from rfl); have hcz2_0 := (blk_cell BK2.out 0).trans (show (#[.slice B0 ys.length d0, .slice B1 ys2.length d1] : Array Value)[0]? = some (.slice B0 ys.length d0) from rfl); have hcz2_1 := (blk_cell BK2.out 1).trans (show (#[.slice B0 ys.length d0, .slice B1 ys2.length d1] : Array Value)[1]? = some (.slice B1 ys2.length d1) from rfl); have hcz3_0 := (blk_cell BK3.out 0).trans (show (#[.slice C0 zs.length g0, .slice C1 zs2.length g1] : Array Value)[0]? = some (.slice C0 zs.length g0) from rfl); have hcz3_1 := (blk_cell BK3.out 1).trans (show (#[.slice C0 zs.length g0, .slice C1 zs2.length g1] : Array Value)[1]? = some (.slice C1 zs2.length g1) from rfl); have hcz4_0 := (blk_cell BK4.out 0).trans (show (#[.slice F0 m.length f0, .slice F1 m2.length f1] : Array Value)[0]? = some (.slice F0 m.length f0) from rfl); have hcz4_1 := (blk_cell BK4.out 1).trans (show (#[.slice F0 m.length f0, .slice F1 m2.length f1] : Array Value)[1]? = some (.slice F1 m2.length f1) from rfl); (try clear hb_))
    | (go_at_call 13; (with_reducible refine (below_t ys ys2 zs zs2 Lb0.out Lb1.out _ _ _ _ _ _ _ _ _ _ Qbc.out (by repeat (first | exact (Kd.C_below Hb0.out HB.out) | (with_reducible refine Kd.C_alloc ?_ _) | (with_reducible refine Kd.C_drewN ?_ _) | (with_reducible refine Kd.C_drew ?_))) (by repeat (first | exact (Kd.C_below Hb1.out HB.out) | (with_reducible refine Kd.C_alloc ?_ _) | (with_reducible refine Kd.C_drewN ?_ _) | (with_reducible refine Kd.C_drew ?_))) (by repeat (first | exact (Kd.C_below Hc0.out HB.out) | (with_reducible refine Kd.C_alloc ?_ _) | (with_reducible refine Kd.C_drewN ?_ _) | (with_reducible refine Kd.C_drew ?_))) (by repeat (first | exact (Kd.C_below Hc1.out HB.out) | (with_reducible refine Kd.C_alloc ?_ _) | (with_reducible refine Kd.C_drewN ?_ _) | (with_reducible refine Kd.C_drew ?_)))).mono ?_); rintro e wc ⟨rfl, hb_⟩; have tHB_ := Aside0.mk (below_step (by repeat (first | (with_reducible first | exact HB.out | apply below_alloc | apply pw_below_drewN | apply below_drew1 | apply below_drew) | exact HB.out)) hb_); have tHV_ := Aside0.mk (below_step (by repeat (first | (with_reducible first | exact HV.out | apply below_alloc | apply pw_below_drewN | apply below_drew1 | apply below_drew) | exact HV.out)) hb_); have bk2_ := Aside0.mk (blk_below (g := gb1) (o := .cells #[.slice A0 xs.length c0, .slice A1 xs2.length c1] 24 (0, 0)) (by (with_reducible repeat (first | refine blk_drewN ?_ _ | refine blk_drew ?_ | refine blk_alloc ?_ _)); exact BK1.out) hb_); clear BK1; have BK1 := bk2_; clear bk2_; have bk2_ := Aside0.mk (blk_below (g := gb2) (o := .cells #[.slice B0 ys.length d0, .slice B1 ys2.length d1] 24 (0, 0)) (by (with_reducible repeat (first | refine blk_drewN ?_ _ | refine blk_drew ?_ | refine blk_alloc ?_ _)); exact BK2.out) hb_); clear BK2; have BK2 := bk2_; clear bk2_; have bk2_ := Aside0.mk (blk_below (g := gb3) (o := .cells #[.slice C0 zs.length g0, .slice C1 zs2.length g1] 24 (0, 0)) (by (with_reducible repeat (first | refine blk_drewN ?_ _ | refine blk_drew ?_ | refine blk_alloc ?_ _)); exact BK3.out) hb_); clear BK3; have BK3 := bk2_; clear bk2_; have bk2_ := Aside0.mk (blk_below (g := gb4) (o := .cells #[.slice F0 m.length f0, .slice F1 m2.length f1] 24 (0, 0)) (by (with_reducible repeat (first | refine blk_drewN ?_ _ | refine blk_drew ?_ | refine blk_alloc ?_ _)); exact BK4.out) hb_); clear BK4; have BK4 := bk2_; clear bk2_; clear HB; have HB := tHB_; clear tHB_; clear HV; have HV := tHV_; clear tHV_; (try clear hcz1_0 hcz1_1 hcz2_0 hcz2_1 hcz3_0 hcz3_1 hcz4_0 hcz4_1); have hcz1_0 := (blk_cell BK1.out 0).trans (show (#[.slice A0 xs.length c0, .slice A1 xs2.length c1] : Array Value)[0]? = some (.slice A0 xs.length c0) from rfl); have hcz1_1 := (blk_cell BK1.out 1).trans (show (#[.slice A0 xs.length c0, .slice A1 xs2.length c1] : Array Value)[1]? = some (.slice A1 xs2.length c1) from rfl); have hcz2_0 := (blk_cell BK2.out 0).trans (show (#[.slice B0 ys.length d0, .slice B1 ys2.length d1] : Array Value)[0]? = some (.slice B0 ys.length d0) from rfl); have hcz2_1 := (blk_cell BK2.out 1).trans (show (#[.slice B0 ys.length d0, .slice B1 ys2.length d1] : Array Value)[1]? = some (.slice B1 ys2.length d1) from rfl); have hcz3_0 := (blk_cell BK3.out 0).trans (show (#[.slice C0 zs.length g0, .slice C1 zs2.length g1] : Array Value)[0]? = some (.slice C0 zs.length g0) from rfl); have hcz3_1 := (blk_cell BK3.out 1).trans (show (#[.slice C0 zs.length g0, .slice C1 zs2.length g1] : Array Value)[1]? = some (.slice C1 zs2.length g1) from rfl); have hcz4_0 := (blk_cell BK4.out 0).trans (show (#[.slice F0 m.length f0, .slice F1 m2.length f1] : Array Value)[0]? = some (.slice F0 m.length f0) from rfl); have hcz4_1 := (blk_cell BK4.out 1).trans (show (#[.slice F0 m.length f0, .slice F1 m2.length f1] : Array Value)[1]? = some (.slice F1 m2.length f1) from rfl); (try clear hb_))
    | (go_at_call 15; (with_reducible refine (same_t m m2 xs xs2 Lm0.out Lm1.out _ _ _ _ _ _ _ _ _ _ Sma.out (by repeat (first | exact (Kd.C_below Hm0.out HV.out) | (with_reducible refine Kd.C_alloc ?_ _) | (with_reducible refine Kd.C_drewN ?_ _) | (with_reducible refine Kd.C_drew ?_))) (by repeat (first | exact (Kd.C_below Hm1.out HV.out) | (with_reducible refine Kd.C_alloc ?_ _) | (with_reducible refine Kd.C_drewN ?_ _) | (with_reducible refine Kd.C_drew ?_))) (by repeat (first | exact (Kd.C_below Ha0.out HB.out) | (with_reducible refine Kd.C_alloc ?_ _) | (with_reducible refine Kd.C_drewN ?_ _) | (with_reducible refine Kd.C_drew ?_))) (by repeat (first | exact (Kd.C_below Ha1.out HB.out) | (with_reducible refine Kd.C_alloc ?_ _) | (with_reducible refine Kd.C_drewN ?_ _) | (with_reducible refine Kd.C_drew ?_))) Km0.out Km1.out Ka0.out Ka1.out).mono ?_); rintro e wc ⟨rfl, hb_⟩; have tHB_ := Aside0.mk (below_step (by repeat (first | (with_reducible first | exact HB.out | apply below_alloc | apply pw_below_drewN | apply below_drew1 | apply below_drew) | exact HB.out)) hb_); have tHV_ := Aside0.mk (below_step (by repeat (first | (with_reducible first | exact HV.out | apply below_alloc | apply pw_below_drewN | apply below_drew1 | apply below_drew) | exact HV.out)) hb_); have bk2_ := Aside0.mk (blk_below (g := gb1) (o := .cells #[.slice A0 xs.length c0, .slice A1 xs2.length c1] 24 (0, 0)) (by (with_reducible repeat (first | refine blk_drewN ?_ _ | refine blk_drew ?_ | refine blk_alloc ?_ _)); exact BK1.out) hb_); clear BK1; have BK1 := bk2_; clear bk2_; have bk2_ := Aside0.mk (blk_below (g := gb2) (o := .cells #[.slice B0 ys.length d0, .slice B1 ys2.length d1] 24 (0, 0)) (by (with_reducible repeat (first | refine blk_drewN ?_ _ | refine blk_drew ?_ | refine blk_alloc ?_ _)); exact BK2.out) hb_); clear BK2; have BK2 := bk2_; clear bk2_; have bk2_ := Aside0.mk (blk_below (g := gb3) (o := .cells #[.slice C0 zs.length g0, .slice C1 zs2.length g1] 24 (0, 0)) (by (with_reducible repeat (first | refine blk_drewN ?_ _ | refine blk_drew ?_ | refine blk_alloc ?_ _)); exact BK3.out) hb_); clear BK3; have BK3 := bk2_; clear bk2_; have bk2_ := Aside0.mk (blk_below (g := gb4) (o := .cells #[.slice F0 m.length f0, .slice F1 m2.length f1] 24 (0, 0)) (by (with_reducible repeat (first | refine blk_drewN ?_ _ | refine blk_drew ?_ | refine blk_alloc ?_ _)); exact BK4.out) hb_); clear BK4; have BK4 := bk2_; clear bk2_; clear HB; have HB := tHB_; clear tHB_; clear HV; have HV := tHV_; clear tHV_; (try clear hcz1_0 hcz1_1 hcz2_0 hcz2_1 hcz3_0 hcz3_1 hcz4_0 hcz4_1); have hcz1_0 := (blk_cell BK1.out 0).trans (show (#[.slice A0 xs.length c0, .slice A1 xs2.length c1] : Array Value)[0]? = some (.slice A0 xs.length c0) from rfl); have hcz1_1 := (blk_cell BK1.out 1).trans (show (#[.slice A0 xs.length c0, .slice A1 xs2.length c1] : Array Value)[1]? = some (.slice A1 xs2.length c1) from rfl); have hcz2_0 := (blk_cell BK2.out 0).trans (show (#[.slice B0 ys.length d0, .slice B1 ys2.length d1] : Array Value)[0]? = some (.slice B0 ys.length d0) from rfl); have hcz2_1 := (blk_cell BK2.out 1).trans (show (#[.slice B0 ys.length d0, .slice B1 ys2.length d1] : Array Value)[1]? = some (.slice B1 ys2.length d1) from rfl); have hcz3_0 := (blk_cell BK3.out 0).trans (show (#[.slice C0 zs.length g0, .slice C1 zs2.length g1] : Array Value)[0]? = some (.slice C0 zs.length g0) from rfl); have hcz3_1 := (blk_cell BK3.out 1).trans (show (#[.slice C0 zs.length g0, .slice C1 zs2.length g1] : Array Value)[1]? = some (.slice C1 zs2.length g1) from rfl); have hcz4_0 := (blk_cell BK4.out 0).trans (show (#[.slice F0 m.length f0, .slice F1 m2.length f1] : Array Value)[0]? = some (.slice F0 m.length f0) from rfl); have hcz4_1 := (blk_cell BK4.out 1).trans (show (#[.slice F0 m.length f0, .slice F1 m2.length f1] : Array Value)[1]? = some (.slice F1 m2.length f1) from rfl); (try clear hb_)))
  (try clear hcz1_0 hcz1_1 hcz2_0 hcz2_1 hcz3_0 hcz3_1 hcz4_0 hcz4_1)
  refine startB_ (n := 14) #[false, false, false, false, false, false, false, false, false, false, false, false, false, false] (by kernel_rfl) rfl rfl (fun W0 D0 => ?_)
  have E0 := Aside0.mk (Below.refl W0.heap.size W0)
  have BL1 := Aside0.mk (blk_below BK1.out D0)
  have BL2 := Aside0.mk (blk_below BK2.out D0)
  have BL3 := Aside0.mk (blk_below BK3.out D0)
  have BL4 := Aside0.mk (blk_below BK4.out D0)
  have XHB := Aside0.mk (below_step HB.out D0)
  have XHV := Aside0.mk (below_step HV.out D0)
  refine take_ (i := 0) (N := some 82) (v := ?_) (a' := ?_) #[true, false, false, false, false, false, false, false, false, false, false, false, false, false] rfl rfl (by kernel_rfl) (fun _ _ _ h => h) (Or.inl ⟨by rfl, ?_⟩) (Below.refl _ _) ?_ ?_
  rotate_left
  · intro w' hS
    have hd_ := below_step E0.out hS
    have hy0 := (blk_cell (blk_below BL4.out hd_) 0).trans (show (#[.slice F0 m.length f0, .slice F1 m2.length f1] : Array Value)[0]? = some (.slice F0 m.length f0) from rfl)
    have hy1 := (blk_cell (blk_below BL4.out hd_) 1).trans (show (#[.slice F0 m.length f0, .slice F1 m2.length f1] : Array Value)[1]? = some (.slice F1 m2.length f1) from rfl)
    go_simp
    with_reducible rfl
  rotate_left
  · simp only [Act.put, List.setIfInBounds_toArray, List.set_cons_zero, List.set_cons_succ, i64_w, i32_w]
    rfl
  refine take_ (i := 2) (N := some 84) (v := ?_) (a' := ?_) #[true, false, true, false, false, false, false, false, false, false, false, false, false, false] rfl rfl (by kernel_rfl) (fun _ _ _ h => h) (Or.inl ⟨by rfl, ?_⟩) (Below.refl _ _) ?_ ?_
  rotate_left
  · intro w' hS
    have hd_ := below_step E0.out hS
    have hy0 := (blk_cell (blk_below BL1.out hd_) 0).trans (show (#[.slice A0 xs.length c0, .slice A1 xs2.length c1] : Array Value)[0]? = some (.slice A0 xs.length c0) from rfl)
    have hy1 := (blk_cell (blk_below BL1.out hd_) 1).trans (show (#[.slice A0 xs.length c0, .slice A1 xs2.length c1] : Array Value)[1]? = some (.slice A1 xs2.length c1) from rfl)
    go_simp
    with_reducible rfl
  rotate_left
  · simp only [Act.put, List.setIfInBounds_toArray, List.set_cons_zero, List.set_cons_succ, i64_w, i32_w]
    rfl
  refine one_ (i := 1) (N := some 83) #[true, true, true, false, false, false, false, false, false, false, false, false, false, false] rfl rfl (by kernel_rfl) (by decide) (fun K hK => ?_)
  refine goes_ Try.func17 (by kernel_rfl) rfl #[.agg #[.slice F0 m.length f0, .slice F1 m2.length f1]] (by rfl) rfl rfl (by (try simp only [List.map_toArray, List.map_cons, List.map_nil]); first | done | rfl) ?_
  with_reducible refine (height_t m m2 Lm0.out Lm1.out _ _ _ _ _ _ Tm.out (Kd.C_below (Kd.C_below Hm0.out XHV.out) E0.out) (Kd.C_below (Kd.C_below Hm1.out XHV.out) E0.out)).mono ?_
  rintro e W1 ⟨rfl, D1⟩
  refine ⟨_, rfl, ?_⟩
  have E1 := Aside0.mk (below_step E0.out D1)
  refine hK.out _ _ D1 (fun _ => behind_ D1 ?_)
  clear hK K
  refine norm_ (a' := ?_) ?_ ?_
  rotate_left
  · show Act.put _ (some 83) _ = _
    simp only [Act.put, List.setIfInBounds_toArray, List.set_cons_zero, List.set_cons_succ, i64_w, i32_w]
    rfl
  refine one_ (i := 3) (N := some 85) #[true, true, true, true, false, false, false, false, false, false, false, false, false, false] rfl rfl (by kernel_rfl) (by decide) (fun K hK => ?_)
  refine goes_ Try.func17 (by kernel_rfl) rfl #[.agg #[.slice A0 xs.length c0, .slice A1 xs2.length c1]] (by rfl) rfl rfl (by (try simp only [List.map_toArray, List.map_cons, List.map_nil]); first | done | rfl) ?_
  with_reducible refine (height_t xs xs2 La0.out La1.out _ _ _ _ _ _ Ta.out (Kd.C_below (Kd.C_below Ha0.out XHB.out) E1.out) (Kd.C_below (Kd.C_below Ha1.out XHB.out) E1.out)).mono ?_
  rintro e W2 ⟨rfl, D2⟩
  refine ⟨_, rfl, ?_⟩
  have E2 := Aside0.mk (below_step E1.out D2)
  refine hK.out _ _ D2 (fun _ => behind_ D2 ?_)
  clear hK K
  refine norm_ (a' := ?_) ?_ ?_
  rotate_left
  · show Act.put _ (some 85) _ = _
    simp only [Act.put, List.setIfInBounds_toArray, List.set_cons_zero, List.set_cons_succ, i64_w, i32_w]
    rfl
  refine pure_ (i := 4) (N := some 86) (v := ?_) (a' := ?_) #[true, true, true, true, true, false, false, false, false, false, false, false, false, false] rfl rfl (by kernel_rfl) (fun _ _ _ h => h) (Or.inl ⟨by rfl, ?_⟩) ?_ ?_
  rotate_left
  · intro w'
    go_simp
    with_reducible rfl
  rotate_left
  · simp only [Act.put, List.setIfInBounds_toArray, List.set_cons_zero, List.set_cons_succ, i64_w, i32_w]
    rfl
  refine pure_ (i := 5) (N := some 87) (v := ?_) (a' := ?_) #[true, true, true, true, true, true, false, false, false, false, false, false, false, false] rfl rfl (by kernel_rfl) (fun _ _ _ h => h) (Or.inl ⟨by rfl, ?_⟩) ?_ ?_
  rotate_left
  · intro w'
    go_simp
    with_reducible rfl
  rotate_left
  · simp only [Act.put, List.setIfInBounds_toArray, List.set_cons_zero, List.set_cons_succ, i64_w, i32_w]
    rfl
  refine take_ (i := 6) (N := some 88) (v := ?_) (a' := ?_) #[true, true, true, true, true, true, true, false, false, false, false, false, false, false] rfl rfl (by kernel_rfl) (fun _ _ _ h => h) (Or.inl ⟨by rfl, ?_⟩) (Below.refl _ _) ?_ ?_
  rotate_left
  · intro w' hS
    have hd_ := below_step E2.out hS
    have hy0 := (blk_cell (blk_below BL2.out hd_) 0).trans (show (#[.slice B0 ys.length d0, .slice B1 ys2.length d1] : Array Value)[0]? = some (.slice B0 ys.length d0) from rfl)
    have hy1 := (blk_cell (blk_below BL2.out hd_) 1).trans (show (#[.slice B0 ys.length d0, .slice B1 ys2.length d1] : Array Value)[1]? = some (.slice B1 ys2.length d1) from rfl)
    go_simp
    with_reducible rfl
  rotate_left
  · simp only [Act.put, List.setIfInBounds_toArray, List.set_cons_zero, List.set_cons_succ, i64_w, i32_w]
    rfl
  refine take_ (i := 7) (N := some 89) (v := ?_) (a' := ?_) #[true, true, true, true, true, true, true, true, false, false, false, false, false, false] rfl rfl (by kernel_rfl) (fun _ _ _ h => h) (Or.inl ⟨by rfl, ?_⟩) (Below.refl _ _) ?_ ?_
  rotate_left
  · intro w' hS
    have hd_ := below_step E2.out hS
    have hy0 := (blk_cell (blk_below BL1.out hd_) 0).trans (show (#[.slice A0 xs.length c0, .slice A1 xs2.length c1] : Array Value)[0]? = some (.slice A0 xs.length c0) from rfl)
    have hy1 := (blk_cell (blk_below BL1.out hd_) 1).trans (show (#[.slice A0 xs.length c0, .slice A1 xs2.length c1] : Array Value)[1]? = some (.slice A1 xs2.length c1) from rfl)
    go_simp
    with_reducible rfl
  rotate_left
  · simp only [Act.put, List.setIfInBounds_toArray, List.set_cons_zero, List.set_cons_succ, i64_w, i32_w]
    rfl
  refine one_ (i := 8) (N := some 90) #[true, true, true, true, true, true, true, true, true, false, false, false, false, false] rfl rfl (by kernel_rfl) (by decide) (fun K hK => ?_)
  refine goes_ Try.func13 (by kernel_rfl) rfl #[.agg #[.slice B0 ys.length d0, .slice B1 ys2.length d1], .agg #[.slice A0 xs.length c0, .slice A1 xs2.length c1]] (by rfl) rfl rfl (by (try simp only [List.map_toArray, List.map_cons, List.map_nil]); first | done | rfl) ?_
  with_reducible refine (below_t ys ys2 xs xs2 Lb0.out Lb1.out _ _ _ _ _ _ _ _ _ _ Qba.out (Kd.C_below (Kd.C_below Hb0.out XHB.out) E2.out) (Kd.C_below (Kd.C_below Hb1.out XHB.out) E2.out) (Kd.C_below (Kd.C_below Ha0.out XHB.out) E2.out) (Kd.C_below (Kd.C_below Ha1.out XHB.out) E2.out)).mono ?_
  rintro e W3 ⟨rfl, D3⟩
  refine ⟨_, rfl, ?_⟩
  have E3 := Aside0.mk (below_step E2.out D3)
  refine hK.out _ _ D3 (fun _ => behind_ D3 ?_)
  clear hK K
  refine norm_ (a' := ?_) ?_ ?_
  rotate_left
  · show Act.put _ (some 90) _ = _
    simp only [Act.put, List.setIfInBounds_toArray, List.set_cons_zero, List.set_cons_succ, i64_w, i32_w]
    rfl
  refine pure_ (i := 9) (N := some 91) (v := ?_) (a' := ?_) #[true, true, true, true, true, true, true, true, true, true, false, false, false, false] rfl rfl (by kernel_rfl) (fun _ _ _ h => h) (Or.inl ⟨by rfl, ?_⟩) ?_ ?_
  rotate_left
  · intro w'
    go_simp
    with_reducible rfl
  rotate_left
  · simp only [Act.put, List.setIfInBounds_toArray, List.set_cons_zero, List.set_cons_succ, i64_w, i32_w]
    rfl
  refine pure_ (i := 10) (N := some 92) (v := ?_) (a' := ?_) #[true, true, true, true, true, true, true, true, true, true, true, false, false, false] rfl rfl (by kernel_rfl) (fun _ _ _ h => h) (Or.inl ⟨by rfl, ?_⟩) ?_ ?_
  rotate_left
  · intro w'
    go_simp
    with_reducible rfl
  rotate_left
  · simp only [Act.put, List.setIfInBounds_toArray, List.set_cons_zero, List.set_cons_succ, i64_w, i32_w]
    rfl
  refine one_ (i := 11) (N := some 93) #[true, true, true, true, true, true, true, true, true, true, true, true, false, false] rfl rfl (by kernel_rfl) (by decide) (fun K hK => ?_)
  refine goes_ Try.func8 (by kernel_rfl) rfl #[] (by rfl) rfl rfl (by (try simp only [List.map_toArray, List.map_cons, List.map_nil]); first | done | rfl) ?_
  with_reducible refine (works_b _).mono ?_
  rintro e W4 ⟨rfl, D4⟩
  refine ⟨_, rfl, ?_⟩
  have E4 := Aside0.mk (below_step E3.out D4)
  refine hK.out _ _ D4 (fun _ => behind_ D4 ?_)
  clear hK K
  refine norm_ (a' := ?_) ?_ ?_
  rotate_left
  · show Act.put _ (some 93) _ = _
    simp only [Act.put, List.setIfInBounds_toArray, List.set_cons_zero, List.set_cons_succ, i64_w, i32_w]
    rfl
  refine pure_ (i := 12) (N := some 94) (v := ?_) (a' := ?_) #[true, true, true, true, true, true, true, true, true, true, true, true, true, false] rfl rfl (by kernel_rfl) (fun _ _ _ h => h) (Or.inl ⟨by rfl, ?_⟩) ?_ ?_
  rotate_left
  · intro w'
    go_simp
    with_reducible rfl
  rotate_left
  · simp only [Act.put, List.setIfInBounds_toArray, List.set_cons_zero, List.set_cons_succ, i64_w, i32_w]
    rfl
  refine pure_ (i := 13) (N := some 6) (v := ?_) (a' := ?_) #[true, true, true, true, true, true, true, true, true, true, true, true, true, true] rfl rfl (by kernel_rfl) (fun _ _ _ h => h) (Or.inl ⟨by rfl, ?_⟩) ?_ ?_
  rotate_left
  · intro w'
    go_simp
    with_reducible rfl
  rotate_left
  · simp only [Act.put, List.setIfInBounds_toArray, List.set_cons_zero, List.set_cons_succ, i64_w, i32_w]
    rfl
  refine done_ (by kernel_rfl) ?_
  go_wp2
  go_ret
  exact ⟨by first | rfl | (simp; done), below_step XHB.out E4.out⟩

set_option maxHeartbeats 8000000 in
set_option maxRecDepth 100000 in
theorem least_20 (xs xs2 ys ys2 zs zs2 : List Int) (m m2 : List Int) (qa : decide (xs.length > 5000 ∨ xs2.length > 5000) = false) (qb : decide (ys.length > 5000 ∨ ys2.length > 5000) = false) (qc : decide (zs.length > 5000 ∨ zs2.length > 5000) = false) (la0 : xs.length ≤ 10000) (la1 : xs2.length ≤ 10000) (lb0 : ys.length ≤ 10000) (lb1 : ys2.length ≤ 10000) (lm0 : m.length ≤ 10000) (lm1 : m2.length ≤ 10000) (hm : mrg xs xs2 ys ys2 = (m, m2, true)) (qam : bel xs xs2 m m2 = true) (qbm : bel ys ys2 m m2 = true) (qac : bel xs xs2 zs zs2 = true) (qbc : bel ys ys2 zs zs2 = true) (qmc : bel m m2 zs zs2 = true) (sma : sam m m2 xs xs2 = false) (qba : bel ys ys2 xs xs2 = false) (r1 r2 : Int) (tm : ((hgt m + hgt m2 : Nat) : Int) = r1) (ta : ((hgt xs + hgt xs2 : Nat) : Int) = r2) (hr : decide (r1 < r2) = true) (A0 A1 B0 B1 C0 C1 : Option Addr) (c0 c1 d0 d1 g0 g1 : Nat) (w : World) (ha0 : Rd w A0 xs) (ha1 : Rd w A1 xs2) (hb0 : Rd w B0 ys) (hb1 : Rd w B1 ys2) (hc0 : Rd w C0 zs) (hc1 : Rd w C1 zs2) (ka0 : xs.length ≤ c0) (ka1 : xs2.length ≤ c1) (kb0 : ys.length ≤ d0) (kb1 : ys2.length ≤ d1) (kc0 : zs.length ≤ g0) (kc1 : zs2.length ≤ g1) :
    Calls Try.prog 4 #[.agg #[.slice A0 xs.length c0, .slice A1 xs2.length c1], .agg #[.slice B0 ys.length d0, .slice B1 ys2.length d1], .agg #[.slice C0 zs.length g0, .slice C1 zs2.length g1]] w fun e w' => e = .returned (.bool true) ∧ Below w.heap.size w w' := by
  have hu24 := Try.underlying24
  have Ha0 := Aside0.mk ha0
  have Ka0 := Aside0.mk ka0
  clear ha0 ka0
  have Ha1 := Aside0.mk ha1
  have Ka1 := Aside0.mk ka1
  clear ha1 ka1
  have Hb0 := Aside0.mk hb0
  have Kb0 := Aside0.mk kb0
  clear hb0 kb0
  have Hb1 := Aside0.mk hb1
  have Kb1 := Aside0.mk kb1
  clear hb1 kb1
  have Hc0 := Aside0.mk hc0
  have Kc0 := Aside0.mk kc0
  clear hc0 kc0
  have Hc1 := Aside0.mk hc1
  have Kc1 := Aside0.mk kc1
  clear hc1 kc1
  have HB := Aside0.mk (Below.refl w.heap.size w)
  have Ga := Aside0.mk qa
  clear qa
  have Gb := Aside0.mk qb
  clear qb
  have Gc := Aside0.mk qc
  clear qc
  have La0 := Aside0.mk la0
  clear la0
  have La1 := Aside0.mk la1
  clear la1
  have Lb0 := Aside0.mk lb0
  clear lb0
  have Lb1 := Aside0.mk lb1
  clear lb1
  have HM := Aside0.mk hm
  clear hm
  have Lm0 := Aside0.mk lm0
  clear lm0
  have Lm1 := Aside0.mk lm1
  clear lm1
  have Qam := Aside0.mk qam
  clear qam
  have Qbm := Aside0.mk qbm
  clear qbm
  have Qac := Aside0.mk qac
  clear qac
  have Qbc := Aside0.mk qbc
  clear qbc
  have Qmc := Aside0.mk qmc
  clear qmc
  have Sma := Aside0.mk sma
  clear sma
  have Qba := Aside0.mk qba
  clear qba
  have Tm := Aside0.mk tm
  clear tm
  have Ta := Aside0.mk ta
  clear ta
  go_enter Try.func4, Try.ntmps4
  go_upto_region 4 with (first
    | ((with_reducible refine gate_dst (N := 3) rfl ?_); refine box_event ?hg (N := 3) ?hd (cs := #[.slice A0 xs.length c0, .slice A1 xs2.length c1]) (t := 24) ?hr ?_; (case hd => rfl); (case hg => rfl); (case hr => first | (go_simp; done) | (go_simp; rfl)); intro gb1 hg_ wb1 hbox hb_; have GE1 := Aside0.mk ((by rw [hg_]; exact (below_size (by repeat (first | (with_reducible first | exact HB.out | apply below_alloc | apply pw_below_drewN | apply below_drew1 | apply below_drew) | exact HB.out)))) : w.heap.size ≤ gb1); have tHB_ := Aside0.mk (below_step (by repeat (first | (with_reducible first | exact HB.out | apply below_alloc | apply pw_below_drewN | apply below_drew1 | apply below_drew) | exact HB.out)) hb_); clear HB; have HB := tHB_; clear tHB_; have BK1 := Aside0.mk hbox; have HG1 := Aside0.mk hg_; have DB1 := Aside0.mk hb_; clear hbox hg_ hb_)
    | ((with_reducible refine gate_dst (N := 4) rfl ?_); refine box_event ?hg (N := 4) ?hd (cs := #[.slice B0 ys.length d0, .slice B1 ys2.length d1]) (t := 24) ?hr ?_; (case hd => rfl); (case hg => rfl); (case hr => first | (go_simp; done) | (go_simp; rfl)); intro gb2 hg_ wb2 hbox hb_; have GE2 := Aside0.mk ((by rw [hg_]; exact (below_size (by repeat (first | (with_reducible first | exact HB.out | apply below_alloc | apply pw_below_drewN | apply below_drew1 | apply below_drew) | exact HB.out)))) : w.heap.size ≤ gb2); have tHB_ := Aside0.mk (below_step (by repeat (first | (with_reducible first | exact HB.out | apply below_alloc | apply pw_below_drewN | apply below_drew1 | apply below_drew) | exact HB.out)) hb_); have bk2_ := Aside0.mk (blk_below (g := gb1) (o := .cells #[.slice A0 xs.length c0, .slice A1 xs2.length c1] 24 (0, 0)) (by (with_reducible repeat (first | refine blk_drewN ?_ _ | refine blk_drew ?_ | refine blk_alloc ?_ _)); exact BK1.out) hb_); clear BK1; have BK1 := bk2_; clear bk2_; clear HB; have HB := tHB_; clear tHB_; have BK2 := Aside0.mk hbox; have HG2 := Aside0.mk hg_; have DB2 := Aside0.mk hb_; clear hbox hg_ hb_)
    | ((with_reducible refine gate_dst (N := 5) rfl ?_); refine box_event ?hg (N := 5) ?hd (cs := #[.slice C0 zs.length g0, .slice C1 zs2.length g1]) (t := 24) ?hr ?_; (case hd => rfl); (case hg => rfl); (case hr => first | (go_simp; done) | (go_simp; rfl)); intro gb3 hg_ wb3 hbox hb_; have GE3 := Aside0.mk ((by rw [hg_]; exact (below_size (by repeat (first | (with_reducible first | exact HB.out | apply below_alloc | apply pw_below_drewN | apply below_drew1 | apply below_drew) | exact HB.out)))) : w.heap.size ≤ gb3); have tHB_ := Aside0.mk (below_step (by repeat (first | (with_reducible first | exact HB.out | apply below_alloc | apply pw_below_drewN | apply below_drew1 | apply below_drew) | exact HB.out)) hb_); have bk2_ := Aside0.mk (blk_below (g := gb1) (o := .cells #[.slice A0 xs.length c0, .slice A1 xs2.length c1] 24 (0, 0)) (by (with_reducible repeat (first | refine blk_drewN ?_ _ | refine blk_drew ?_ | refine blk_alloc ?_ _)); exact BK1.out) hb_); clear BK1; have BK1 := bk2_; clear bk2_; have bk2_ := Aside0.mk (blk_below (g := gb2) (o := .cells #[.slice B0 ys.length d0, .slice B1 ys2.length d1] 24 (0, 0)) (by (with_reducible repeat (first | refine blk_drewN ?_ _ | refine blk_drew ?_ | refine blk_alloc ?_ _)); exact BK2.out) hb_); clear BK2; have BK2 := bk2_; clear bk2_; clear HB; have HB := tHB_; clear tHB_; have BK3 := Aside0.mk hbox; have HG3 := Aside0.mk hg_; have DB3 := Aside0.mk hb_; clear hbox hg_ hb_; have hcz1_0 := (blk_cell BK1.out 0).trans (show (#[.slice A0 xs.length c0, .slice A1 xs2.length c1] : Array Value)[0]? = some (.slice A0 xs.length c0) from rfl); have hcz1_1 := (blk_cell BK1.out 1).trans (show (#[.slice A0 xs.length c0, .slice A1 xs2.length c1] : Array Value)[1]? = some (.slice A1 xs2.length c1) from rfl); have hcz2_0 := (blk_cell BK2.out 0).trans (show (#[.slice B0 ys.length d0, .slice B1 ys2.length d1] : Array Value)[0]? = some (.slice B0 ys.length d0) from rfl); have hcz2_1 := (blk_cell BK2.out 1).trans (show (#[.slice B0 ys.length d0, .slice B1 ys2.length d1] : Array Value)[1]? = some (.slice B1 ys2.length d1) from rfl); have hcz3_0 := (blk_cell BK3.out 0).trans (show (#[.slice C0 zs.length g0, .slice C1 zs2.length g1] : Array Value)[0]? = some (.slice C0 zs.length g0) from rfl); have hcz3_1 := (blk_cell BK3.out 1).trans (show (#[.slice C0 zs.length g0, .slice C1 zs2.length g1] : Array Value)[1]? = some (.slice C1 zs2.length g1) from rfl))
    | (go_at_call 7; (with_reducible refine (large_t xs xs2 _ _ _ _ _ _ Ga.out (by repeat (first | exact (Kd.C_below Ha0.out HB.out) | (with_reducible refine Kd.C_alloc ?_ _) | (with_reducible refine Kd.C_drewN ?_ _) | (with_reducible refine Kd.C_drew ?_))) (by repeat (first | exact (Kd.C_below Ha1.out HB.out) | (with_reducible refine Kd.C_alloc ?_ _) | (with_reducible refine Kd.C_drewN ?_ _) | (with_reducible refine Kd.C_drew ?_))) Ka0.out Ka1.out).mono ?_); rintro e wc ⟨rfl, hb_⟩; have tHB_ := Aside0.mk (below_step (by repeat (first | (with_reducible first | exact HB.out | apply below_alloc | apply pw_below_drewN | apply below_drew1 | apply below_drew) | exact HB.out)) hb_); have bk2_ := Aside0.mk (blk_below (g := gb1) (o := .cells #[.slice A0 xs.length c0, .slice A1 xs2.length c1] 24 (0, 0)) (by (with_reducible repeat (first | refine blk_drewN ?_ _ | refine blk_drew ?_ | refine blk_alloc ?_ _)); exact BK1.out) hb_); clear BK1; have BK1 := bk2_; clear bk2_; have bk2_ := Aside0.mk (blk_below (g := gb2) (o := .cells #[.slice B0 ys.length d0, .slice B1 ys2.length d1] 24 (0, 0)) (by (with_reducible repeat (first | refine blk_drewN ?_ _ | refine blk_drew ?_ | refine blk_alloc ?_ _)); exact BK2.out) hb_); clear BK2; have BK2 := bk2_; clear bk2_; have bk2_ := Aside0.mk (blk_below (g := gb3) (o := .cells #[.slice C0 zs.length g0, .slice C1 zs2.length g1] 24 (0, 0)) (by (with_reducible repeat (first | refine blk_drewN ?_ _ | refine blk_drew ?_ | refine blk_alloc ?_ _)); exact BK3.out) hb_); clear BK3; have BK3 := bk2_; clear bk2_; clear HB; have HB := tHB_; clear tHB_; (try clear hcz1_0 hcz1_1 hcz2_0 hcz2_1 hcz3_0 hcz3_1); have hcz1_0 := (blk_cell BK1.out 0).trans (show (#[.slice A0 xs.length c0, .slice A1 xs2.length c1] : Array Value)[0]? = some (.slice A0 xs.length c0) from rfl); have hcz1_1 := (blk_cell BK1.out 1).trans (show (#[.slice A0 xs.length c0, .slice A1 xs2.length c1] : Array Value)[1]? = some (.slice A1 xs2.length c1) from rfl); have hcz2_0 := (blk_cell BK2.out 0).trans (show (#[.slice B0 ys.length d0, .slice B1 ys2.length d1] : Array Value)[0]? = some (.slice B0 ys.length d0) from rfl); have hcz2_1 := (blk_cell BK2.out 1).trans (show (#[.slice B0 ys.length d0, .slice B1 ys2.length d1] : Array Value)[1]? = some (.slice B1 ys2.length d1) from rfl); have hcz3_0 := (blk_cell BK3.out 0).trans (show (#[.slice C0 zs.length g0, .slice C1 zs2.length g1] : Array Value)[0]? = some (.slice C0 zs.length g0) from rfl); have hcz3_1 := (blk_cell BK3.out 1).trans (show (#[.slice C0 zs.length g0, .slice C1 zs2.length g1] : Array Value)[1]? = some (.slice C1 zs2.length g1) from rfl); (try clear hb_))
    | (go_at_call 7; (with_reducible refine (large_t ys ys2 _ _ _ _ _ _ Gb.out (by repeat (first | exact (Kd.C_below Hb0.out HB.out) | (with_reducible refine Kd.C_alloc ?_ _) | (with_reducible refine Kd.C_drewN ?_ _) | (with_reducible refine Kd.C_drew ?_))) (by repeat (first | exact (Kd.C_below Hb1.out HB.out) | (with_reducible refine Kd.C_alloc ?_ _) | (with_reducible refine Kd.C_drewN ?_ _) | (with_reducible refine Kd.C_drew ?_))) Kb0.out Kb1.out).mono ?_); rintro e wc ⟨rfl, hb_⟩; have tHB_ := Aside0.mk (below_step (by repeat (first | (with_reducible first | exact HB.out | apply below_alloc | apply pw_below_drewN | apply below_drew1 | apply below_drew) | exact HB.out)) hb_); have bk2_ := Aside0.mk (blk_below (g := gb1) (o := .cells #[.slice A0 xs.length c0, .slice A1 xs2.length c1] 24 (0, 0)) (by (with_reducible repeat (first | refine blk_drewN ?_ _ | refine blk_drew ?_ | refine blk_alloc ?_ _)); exact BK1.out) hb_); clear BK1; have BK1 := bk2_; clear bk2_; have bk2_ := Aside0.mk (blk_below (g := gb2) (o := .cells #[.slice B0 ys.length d0, .slice B1 ys2.length d1] 24 (0, 0)) (by (with_reducible repeat (first | refine blk_drewN ?_ _ | refine blk_drew ?_ | refine blk_alloc ?_ _)); exact BK2.out) hb_); clear BK2; have BK2 := bk2_; clear bk2_; have bk2_ := Aside0.mk (blk_below (g := gb3) (o := .cells #[.slice C0 zs.length g0, .slice C1 zs2.length g1] 24 (0, 0)) (by (with_reducible repeat (first | refine blk_drewN ?_ _ | refine blk_drew ?_ | refine blk_alloc ?_ _)); exact BK3.out) hb_); clear BK3; have BK3 := bk2_; clear bk2_; clear HB; have HB := tHB_; clear tHB_; (try clear hcz1_0 hcz1_1 hcz2_0 hcz2_1 hcz3_0 hcz3_1); have hcz1_0 := (blk_cell BK1.out 0).trans (show (#[.slice A0 xs.length c0, .slice A1 xs2.length c1] : Array Value)[0]? = some (.slice A0 xs.length c0) from rfl); have hcz1_1 := (blk_cell BK1.out 1).trans (show (#[.slice A0 xs.length c0, .slice A1 xs2.length c1] : Array Value)[1]? = some (.slice A1 xs2.length c1) from rfl); have hcz2_0 := (blk_cell BK2.out 0).trans (show (#[.slice B0 ys.length d0, .slice B1 ys2.length d1] : Array Value)[0]? = some (.slice B0 ys.length d0) from rfl); have hcz2_1 := (blk_cell BK2.out 1).trans (show (#[.slice B0 ys.length d0, .slice B1 ys2.length d1] : Array Value)[1]? = some (.slice B1 ys2.length d1) from rfl); have hcz3_0 := (blk_cell BK3.out 0).trans (show (#[.slice C0 zs.length g0, .slice C1 zs2.length g1] : Array Value)[0]? = some (.slice C0 zs.length g0) from rfl); have hcz3_1 := (blk_cell BK3.out 1).trans (show (#[.slice C0 zs.length g0, .slice C1 zs2.length g1] : Array Value)[1]? = some (.slice C1 zs2.length g1) from rfl); (try clear hb_))
    | (go_at_call 7; (with_reducible refine (large_t zs zs2 _ _ _ _ _ _ Gc.out (by repeat (first | exact (Kd.C_below Hc0.out HB.out) | (with_reducible refine Kd.C_alloc ?_ _) | (with_reducible refine Kd.C_drewN ?_ _) | (with_reducible refine Kd.C_drew ?_))) (by repeat (first | exact (Kd.C_below Hc1.out HB.out) | (with_reducible refine Kd.C_alloc ?_ _) | (with_reducible refine Kd.C_drewN ?_ _) | (with_reducible refine Kd.C_drew ?_))) Kc0.out Kc1.out).mono ?_); rintro e wc ⟨rfl, hb_⟩; have tHB_ := Aside0.mk (below_step (by repeat (first | (with_reducible first | exact HB.out | apply below_alloc | apply pw_below_drewN | apply below_drew1 | apply below_drew) | exact HB.out)) hb_); have bk2_ := Aside0.mk (blk_below (g := gb1) (o := .cells #[.slice A0 xs.length c0, .slice A1 xs2.length c1] 24 (0, 0)) (by (with_reducible repeat (first | refine blk_drewN ?_ _ | refine blk_drew ?_ | refine blk_alloc ?_ _)); exact BK1.out) hb_); clear BK1; have BK1 := bk2_; clear bk2_; have bk2_ := Aside0.mk (blk_below (g := gb2) (o := .cells #[.slice B0 ys.length d0, .slice B1 ys2.length d1] 24 (0, 0)) (by (with_reducible repeat (first | refine blk_drewN ?_ _ | refine blk_drew ?_ | refine blk_alloc ?_ _)); exact BK2.out) hb_); clear BK2; have BK2 := bk2_; clear bk2_; have bk2_ := Aside0.mk (blk_below (g := gb3) (o := .cells #[.slice C0 zs.length g0, .slice C1 zs2.length g1] 24 (0, 0)) (by (with_reducible repeat (first | refine blk_drewN ?_ _ | refine blk_drew ?_ | refine blk_alloc ?_ _)); exact BK3.out) hb_); clear BK3; have BK3 := bk2_; clear bk2_; clear HB; have HB := tHB_; clear tHB_; (try clear hcz1_0 hcz1_1 hcz2_0 hcz2_1 hcz3_0 hcz3_1); have hcz1_0 := (blk_cell BK1.out 0).trans (show (#[.slice A0 xs.length c0, .slice A1 xs2.length c1] : Array Value)[0]? = some (.slice A0 xs.length c0) from rfl); have hcz1_1 := (blk_cell BK1.out 1).trans (show (#[.slice A0 xs.length c0, .slice A1 xs2.length c1] : Array Value)[1]? = some (.slice A1 xs2.length c1) from rfl); have hcz2_0 := (blk_cell BK2.out 0).trans (show (#[.slice B0 ys.length d0, .slice B1 ys2.length d1] : Array Value)[0]? = some (.slice B0 ys.length d0) from rfl); have hcz2_1 := (blk_cell BK2.out 1).trans (show (#[.slice B0 ys.length d0, .slice B1 ys2.length d1] : Array Value)[1]? = some (.slice B1 ys2.length d1) from rfl); have hcz3_0 := (blk_cell BK3.out 0).trans (show (#[.slice C0 zs.length g0, .slice C1 zs2.length g1] : Array Value)[0]? = some (.slice C0 zs.length g0) from rfl); have hcz3_1 := (blk_cell BK3.out 1).trans (show (#[.slice C0 zs.length g0, .slice C1 zs2.length g1] : Array Value)[1]? = some (.slice C1 zs2.length g1) from rfl); (try clear hb_))
    | (go_at_call 11; (with_reducible refine (merge_t m m2 true xs xs2 ys ys2 La0.out La1.out HM.out _ _ _ _ _ _ _ _ _ (by repeat (first | exact (Kd.C_below Ha0.out HB.out) | (with_reducible refine Kd.C_alloc ?_ _) | (with_reducible refine Kd.C_drewN ?_ _) | (with_reducible refine Kd.C_drew ?_))) (by repeat (first | exact (Kd.C_below Ha1.out HB.out) | (with_reducible refine Kd.C_alloc ?_ _) | (with_reducible refine Kd.C_drewN ?_ _) | (with_reducible refine Kd.C_drew ?_))) (by repeat (first | exact (Kd.C_below Hb0.out HB.out) | (with_reducible refine Kd.C_alloc ?_ _) | (with_reducible refine Kd.C_drewN ?_ _) | (with_reducible refine Kd.C_drew ?_))) (by repeat (first | exact (Kd.C_below Hb1.out HB.out) | (with_reducible refine Kd.C_alloc ?_ _) | (with_reducible refine Kd.C_drewN ?_ _) | (with_reducible refine Kd.C_drew ?_)))).mono ?_); rintro e wA ⟨F0, F1, f0, f1, rfl, k0, k1, r0, r1, hb_, R0, R1⟩; have tHB_ := Aside0.mk (below_step (by repeat (first | (with_reducible first | exact HB.out | apply below_alloc | apply pw_below_drewN | apply below_drew1 | apply below_drew) | exact HB.out)) hb_); have bk2_ := Aside0.mk (blk_below (g := gb1) (o := .cells #[.slice A0 xs.length c0, .slice A1 xs2.length c1] 24 (0, 0)) (by (with_reducible repeat (first | refine blk_drewN ?_ _ | refine blk_drew ?_ | refine blk_alloc ?_ _)); exact BK1.out) hb_); clear BK1; have BK1 := bk2_; clear bk2_; have bk2_ := Aside0.mk (blk_below (g := gb2) (o := .cells #[.slice B0 ys.length d0, .slice B1 ys2.length d1] 24 (0, 0)) (by (with_reducible repeat (first | refine blk_drewN ?_ _ | refine blk_drew ?_ | refine blk_alloc ?_ _)); exact BK2.out) hb_); clear BK2; have BK2 := bk2_; clear bk2_; have bk2_ := Aside0.mk (blk_below (g := gb3) (o := .cells #[.slice C0 zs.length g0, .slice C1 zs2.length g1] 24 (0, 0)) (by (with_reducible repeat (first | refine blk_drewN ?_ _ | refine blk_drew ?_ | refine blk_alloc ?_ _)); exact BK3.out) hb_); clear BK3; have BK3 := bk2_; clear bk2_; clear HB; have HB := tHB_; clear tHB_; (try clear hcz1_0 hcz1_1 hcz2_0 hcz2_1 hcz3_0 hcz3_1); (try clear hb_); clear R0 R1)
    | ((with_reducible refine gate_dst (N := 7) rfl ?_); have HLT1 := Aside0.mk (blk_lt BK1.out); have HLT2 := Aside0.mk (blk_lt BK2.out); have HLT3 := Aside0.mk (blk_lt BK3.out); refine box_event ?hg (N := 7) ?hd (cs := #[.slice none 0 0, .slice none 0 0]) (t := 24) ?hr ?_; (case hd => rfl); (case hg => rfl); (case hr => first | (go_simp; done) | (go_simp; rfl)); intro gb4 hg_ wb4 hbox hb_; have GE4 := Aside0.mk ((by rw [hg_]; exact (below_size (by repeat (first | (with_reducible first | exact HB.out | apply below_alloc | apply pw_below_drewN | apply below_drew1 | apply below_drew) | exact HB.out)))) : w.heap.size ≤ gb4); have tHB_ := Aside0.mk (below_step (by repeat (first | (with_reducible first | exact HB.out | apply below_alloc | apply pw_below_drewN | apply below_drew1 | apply below_drew) | exact HB.out)) hb_); have bk2_ := Aside0.mk (blk_below (g := gb1) (o := .cells #[.slice A0 xs.length c0, .slice A1 xs2.length c1] 24 (0, 0)) (by (with_reducible repeat (first | refine blk_drewN ?_ _ | refine blk_drew ?_ | refine blk_alloc ?_ _)); exact BK1.out) hb_); clear BK1; have BK1 := bk2_; clear bk2_; have bk2_ := Aside0.mk (blk_below (g := gb2) (o := .cells #[.slice B0 ys.length d0, .slice B1 ys2.length d1] 24 (0, 0)) (by (with_reducible repeat (first | refine blk_drewN ?_ _ | refine blk_drew ?_ | refine blk_alloc ?_ _)); exact BK2.out) hb_); clear BK2; have BK2 := bk2_; clear bk2_; have bk2_ := Aside0.mk (blk_below (g := gb3) (o := .cells #[.slice C0 zs.length g0, .slice C1 zs2.length g1] 24 (0, 0)) (by (with_reducible repeat (first | refine blk_drewN ?_ _ | refine blk_drew ?_ | refine blk_alloc ?_ _)); exact BK3.out) hb_); clear BK3; have BK3 := bk2_; clear bk2_; clear HB; have HB := tHB_; clear tHB_; have BK4 := Aside0.mk hbox; have HG4 := Aside0.mk hg_; have DB4 := Aside0.mk hb_; clear hbox hg_ hb_; have hcz1_0 := (blk_cell BK1.out 0).trans (show (#[.slice A0 xs.length c0, .slice A1 xs2.length c1] : Array Value)[0]? = some (.slice A0 xs.length c0) from rfl); have hfz1_0 := blk_frozen BK1.out 0; have hcz1_1 := (blk_cell BK1.out 1).trans (show (#[.slice A0 xs.length c0, .slice A1 xs2.length c1] : Array Value)[1]? = some (.slice A1 xs2.length c1) from rfl); have hfz1_1 := blk_frozen BK1.out 1; have hcz2_0 := (blk_cell BK2.out 0).trans (show (#[.slice B0 ys.length d0, .slice B1 ys2.length d1] : Array Value)[0]? = some (.slice B0 ys.length d0) from rfl); have hfz2_0 := blk_frozen BK2.out 0; have hcz2_1 := (blk_cell BK2.out 1).trans (show (#[.slice B0 ys.length d0, .slice B1 ys2.length d1] : Array Value)[1]? = some (.slice B1 ys2.length d1) from rfl); have hfz2_1 := blk_frozen BK2.out 1; have hcz3_0 := (blk_cell BK3.out 0).trans (show (#[.slice C0 zs.length g0, .slice C1 zs2.length g1] : Array Value)[0]? = some (.slice C0 zs.length g0) from rfl); have hfz3_0 := blk_frozen BK3.out 0; have hcz3_1 := (blk_cell BK3.out 1).trans (show (#[.slice C0 zs.length g0, .slice C1 zs2.length g1] : Array Value)[1]? = some (.slice C1 zs2.length g1) from rfl); have hfz3_1 := blk_frozen BK3.out 1; have hcz4_0 := (blk_cell BK4.out 0).trans (show (#[.slice none 0 0, .slice none 0 0] : Array Value)[0]? = some (.slice none 0 0) from rfl); have hfz4_0 := blk_frozen BK4.out 0; have hcz4_1 := (blk_cell BK4.out 1).trans (show (#[.slice none 0 0, .slice none 0 0] : Array Value)[1]? = some (.slice none 0 0) from rfl); have hfz4_1 := blk_frozen BK4.out 1))
  have bk := blk_put (cs' := #[.slice F0 m.length f0, .slice F1 m2.length f1]) (blk_put (cs' := #[.slice F0 m.length f0, .slice none 0 0]) BK4.out 0 (.slice F0 m.length f0) rfl) 1 (.slice F1 m2.length f1) rfl
  have hne1 : gb1 ≠ gb4 := by rw [HG4.out]; exact Nat.ne_of_lt (HLT1.out)
  have bk1 := blk_far (p := ⟨gb4, 1, none⟩) (blk_far (p := ⟨gb4, 0, none⟩) BK1.out hne1 (.slice F0 m.length f0)) hne1 (.slice F1 m2.length f1)
  have hne2 : gb2 ≠ gb4 := by rw [HG4.out]; exact Nat.ne_of_lt (HLT2.out)
  have bk2 := blk_far (p := ⟨gb4, 1, none⟩) (blk_far (p := ⟨gb4, 0, none⟩) BK2.out hne2 (.slice F0 m.length f0)) hne2 (.slice F1 m2.length f1)
  have hne3 : gb3 ≠ gb4 := by rw [HG4.out]; exact Nat.ne_of_lt (HLT3.out)
  have bk3 := blk_far (p := ⟨gb4, 1, none⟩) (blk_far (p := ⟨gb4, 0, none⟩) BK3.out hne3 (.slice F0 m.length f0)) hne3 (.slice F1 m2.length f1)
  have D := below_set (g := gb4) (j := 1) (v := .slice F1 m2.length f1) (below_set (g := gb4) (j := 0) (v := .slice F0 m.length f0) DB4.out (Nat.le_of_eq HG4.out.symm)) (Nat.le_of_eq HG4.out.symm)
  have HV := Aside0.mk (below_set (g := gb4) (j := 1) (v := .slice F1 m2.length f1) (below_set (g := gb4) (j := 0) (v := .slice F0 m.length f0) HB.out GE4.out) GE4.out)
  have q0 := Kd.C_below r0 D
  have q1 := Kd.C_below r1 D
  clear r0 r1
  clear HB D DB4 HG4 BK4 GE4 HLT1 HLT2 HLT3 hne1 hne2 hne3 BK1 BK2 BK3 GE1 GE2 GE3 HG1 HG2 HG3 DB1 DB2 DB3
  (try clear hcz1_0 hcz1_1 hcz2_0 hcz2_1 hcz3_0 hcz3_1 hcz4_0 hcz4_1 hfz1_0 hfz1_1 hfz2_0 hfz2_1 hfz3_0 hfz3_1 hfz4_0 hfz4_1)
  generalize (wb4.setCell ⟨gb4, 0, none⟩ (.slice F0 m.length f0)).setCell ⟨gb4, 1, none⟩ (.slice F1 m2.length f1) = V at *
  have HB := HV
  clear HV
  have BK4 := Aside0.mk bk
  clear bk
  have BK1 := Aside0.mk bk1
  clear bk1
  have BK2 := Aside0.mk bk2
  clear bk2
  have BK3 := Aside0.mk bk3
  clear bk3
  have Hm0 := Aside0.mk q0
  clear q0
  have Hm1 := Aside0.mk q1
  clear q1
  have Km0 := Aside0.mk k0
  clear k0
  have Km1 := Aside0.mk k1
  clear k1
  have HV := Aside0.mk (Below.refl V.heap.size V)
  have hcz1_0 := (blk_cell BK1.out 0).trans (show (#[.slice A0 xs.length c0, .slice A1 xs2.length c1] : Array Value)[0]? = some (.slice A0 xs.length c0) from rfl)
  have hcz1_1 := (blk_cell BK1.out 1).trans (show (#[.slice A0 xs.length c0, .slice A1 xs2.length c1] : Array Value)[1]? = some (.slice A1 xs2.length c1) from rfl)
  have hcz2_0 := (blk_cell BK2.out 0).trans (show (#[.slice B0 ys.length d0, .slice B1 ys2.length d1] : Array Value)[0]? = some (.slice B0 ys.length d0) from rfl)
  have hcz2_1 := (blk_cell BK2.out 1).trans (show (#[.slice B0 ys.length d0, .slice B1 ys2.length d1] : Array Value)[1]? = some (.slice B1 ys2.length d1) from rfl)
  have hcz3_0 := (blk_cell BK3.out 0).trans (show (#[.slice C0 zs.length g0, .slice C1 zs2.length g1] : Array Value)[0]? = some (.slice C0 zs.length g0) from rfl)
  have hcz3_1 := (blk_cell BK3.out 1).trans (show (#[.slice C0 zs.length g0, .slice C1 zs2.length g1] : Array Value)[1]? = some (.slice C1 zs2.length g1) from rfl)
  have hcz4_0 := (blk_cell BK4.out 0).trans (show (#[.slice F0 m.length f0, .slice F1 m2.length f1] : Array Value)[0]? = some (.slice F0 m.length f0) from rfl)
  have hcz4_1 := (blk_cell BK4.out 1).trans (show (#[.slice F0 m.length f0, .slice F1 m2.length f1] : Array Value)[1]? = some (.slice F1 m2.length f1) from rfl)
  go_wp2_with (first
    | (go_at_call 13; (with_reducible refine (below_t xs xs2 m m2 La0.out La1.out _ _ _ _ _ _ _ _ _ _ Qam.out (by repeat (first | exact (Kd.C_below Ha0.out HB.out) | (with_reducible refine Kd.C_alloc ?_ _) | (with_reducible refine Kd.C_drewN ?_ _) | (with_reducible refine Kd.C_drew ?_))) (by repeat (first | exact (Kd.C_below Ha1.out HB.out) | (with_reducible refine Kd.C_alloc ?_ _) | (with_reducible refine Kd.C_drewN ?_ _) | (with_reducible refine Kd.C_drew ?_))) (by repeat (first | exact (Kd.C_below Hm0.out HV.out) | (with_reducible refine Kd.C_alloc ?_ _) | (with_reducible refine Kd.C_drewN ?_ _) | (with_reducible refine Kd.C_drew ?_))) (by repeat (first | exact (Kd.C_below Hm1.out HV.out) | (with_reducible refine Kd.C_alloc ?_ _) | (with_reducible refine Kd.C_drewN ?_ _) | (with_reducible refine Kd.C_drew ?_)))).mono ?_); rintro e wc ⟨rfl, hb_⟩; have tHB_ := Aside0.mk (below_step (by repeat (first | (with_reducible first | exact HB.out | apply below_alloc | apply pw_below_drewN | apply below_drew1 | apply below_drew) | exact HB.out)) hb_); have tHV_ := Aside0.mk (below_step (by repeat (first | (with_reducible first | exact HV.out | apply below_alloc | apply pw_below_drewN | apply below_drew1 | apply below_drew) | exact HV.out)) hb_); have bk2_ := Aside0.mk (blk_below (g := gb1) (o := .cells #[.slice A0 xs.length c0, .slice A1 xs2.length c1] 24 (0, 0)) (by (with_reducible repeat (first | refine blk_drewN ?_ _ | refine blk_drew ?_ | refine blk_alloc ?_ _)); exact BK1.out) hb_); clear BK1; have BK1 := bk2_; clear bk2_; have bk2_ := Aside0.mk (blk_below (g := gb2) (o := .cells #[.slice B0 ys.length d0, .slice B1 ys2.length d1] 24 (0, 0)) (by (with_reducible repeat (first | refine blk_drewN ?_ _ | refine blk_drew ?_ | refine blk_alloc ?_ _)); exact BK2.out) hb_); clear BK2; have BK2 := bk2_; clear bk2_; have bk2_ := Aside0.mk (blk_below (g := gb3) (o := .cells #[.slice C0 zs.length g0, .slice C1 zs2.length g1] 24 (0, 0)) (by (with_reducible repeat (first | refine blk_drewN ?_ _ | refine blk_drew ?_ | refine blk_alloc ?_ _)); exact BK3.out) hb_); clear BK3; have BK3 := bk2_; clear bk2_; have bk2_ := Aside0.mk (blk_below (g := gb4) (o := .cells #[.slice F0 m.length f0, .slice F1 m2.length f1] 24 (0, 0)) (by (with_reducible repeat (first | refine blk_drewN ?_ _ | refine blk_drew ?_ | refine blk_alloc ?_ _)); exact BK4.out) hb_); clear BK4; have BK4 := bk2_; clear bk2_; clear HB; have HB := tHB_; clear tHB_; clear HV; have HV := tHV_; clear tHV_; (try clear hcz1_0 hcz1_1 hcz2_0 hcz2_1 hcz3_0 hcz3_1 hcz4_0 hcz4_1); have hcz1_0 := (blk_cell BK1.out 0).trans (show (#[.slice A0 xs.length c0, .slice A1 xs2.length c1] : Array Value)[0]? = some (.slice A0 xs.length c0) from rfl); have hcz1_1 := (blk_cell BK1.out 1).trans (show (#[.slice A0 xs.length c0, .slice A1 xs2.length c1] : Array Value)[1]? = some (.slice A1 xs2.length c1) from rfl); have hcz2_0 := (blk_cell BK2.out 0).trans (show (#[.slice B0 ys.length d0, .slice B1 ys2.length d1] : Array Value)[0]? = some (.slice B0 ys.length d0) from rfl); have hcz2_1 := (blk_cell BK2.out 1).trans (show (#[.slice B0 ys.length d0, .slice B1 ys2.length d1] : Array Value)[1]? = some (.slice B1 ys2.length d1) from rfl); have hcz3_0 := (blk_cell BK3.out 0).trans (show (#[.slice C0 zs.length g0, .slice C1 zs2.length g1] : Array Value)[0]? = some (.slice C0 zs.length g0) from rfl); have hcz3_1 := (blk_cell BK3.out 1).trans (show (#[.slice C0 zs.length g0, .slice C1 zs2.length g1] : Array Value)[1]? = some (.slice C1 zs2.length g1) from rfl); have hcz4_0 := (blk_cell BK4.out 0).trans (show (#[.slice F0 m.length f0, .slice F1 m2.length f1] : Array Value)[0]? = some (.slice F0 m.length f0) from rfl); have hcz4_1 := (blk_cell BK4.out 1).trans (show (#[.slice F0 m.length f0, .slice F1 m2.length f1] : Array Value)[1]? = some (.slice F1 m2.length f1) from rfl); (try clear hb_))
    | (go_at_call 13; (with_reducible refine (below_t ys ys2 m m2 Lb0.out Lb1.out _ _ _ _ _ _ _ _ _ _ Qbm.out (by repeat (first | exact (Kd.C_below Hb0.out HB.out) | (with_reducible refine Kd.C_alloc ?_ _) | (with_reducible refine Kd.C_drewN ?_ _) | (with_reducible refine Kd.C_drew ?_))) (by repeat (first | exact (Kd.C_below Hb1.out HB.out) | (with_reducible refine Kd.C_alloc ?_ _) | (with_reducible refine Kd.C_drewN ?_ _) | (with_reducible refine Kd.C_drew ?_))) (by repeat (first | exact (Kd.C_below Hm0.out HV.out) | (with_reducible refine Kd.C_alloc ?_ _) | (with_reducible refine Kd.C_drewN ?_ _) | (with_reducible refine Kd.C_drew ?_))) (by repeat (first | exact (Kd.C_below Hm1.out HV.out) | (with_reducible refine Kd.C_alloc ?_ _) | (with_reducible refine Kd.C_drewN ?_ _) | (with_reducible refine Kd.C_drew ?_)))).mono ?_); rintro e wc ⟨rfl, hb_⟩; have tHB_ := Aside0.mk (below_step (by repeat (first | (with_reducible first | exact HB.out | apply below_alloc | apply pw_below_drewN | apply below_drew1 | apply below_drew) | exact HB.out)) hb_); have tHV_ := Aside0.mk (below_step (by repeat (first | (with_reducible first | exact HV.out | apply below_alloc | apply pw_below_drewN | apply below_drew1 | apply below_drew) | exact HV.out)) hb_); have bk2_ := Aside0.mk (blk_below (g := gb1) (o := .cells #[.slice A0 xs.length c0, .slice A1 xs2.length c1] 24 (0, 0)) (by (with_reducible repeat (first | refine blk_drewN ?_ _ | refine blk_drew ?_ | refine blk_alloc ?_ _)); exact BK1.out) hb_); clear BK1; have BK1 := bk2_; clear bk2_; have bk2_ := Aside0.mk (blk_below (g := gb2) (o := .cells #[.slice B0 ys.length d0, .slice B1 ys2.length d1] 24 (0, 0)) (by (with_reducible repeat (first | refine blk_drewN ?_ _ | refine blk_drew ?_ | refine blk_alloc ?_ _)); exact BK2.out) hb_); clear BK2; have BK2 := bk2_; clear bk2_; have bk2_ := Aside0.mk (blk_below (g := gb3) (o := .cells #[.slice C0 zs.length g0, .slice C1 zs2.length g1] 24 (0, 0)) (by (with_reducible repeat (first | refine blk_drewN ?_ _ | refine blk_drew ?_ | refine blk_alloc ?_ _)); exact BK3.out) hb_); clear BK3; have BK3 := bk2_; clear bk2_; have bk2_ := Aside0.mk (blk_below (g := gb4) (o := .cells #[.slice F0 m.length f0, .slice F1 m2.length f1] 24 (0, 0)) (by (with_reducible repeat (first | refine blk_drewN ?_ _ | refine blk_drew ?_ | refine blk_alloc ?_ _)); exact BK4.out) hb_); clear BK4; have BK4 := bk2_; clear bk2_; clear HB; have HB := tHB_; clear tHB_; clear HV; have HV := tHV_; clear tHV_; (try clear hcz1_0 hcz1_1 hcz2_0 hcz2_1 hcz3_0 hcz3_1 hcz4_0 hcz4_1); have hcz1_0 := (blk_cell BK1.out 0).trans (show (#[.slice A0 xs.length c0, .slice A1 xs2.length c1] : Array Value)[0]? = some (.slice A0 xs.length c0) from rfl); have hcz1_1 := (blk_cell BK1.out 1).trans (show (#[.slice A0 xs.length c0, .slice A1 xs2.length c1] : Array Value)[1]? = some (.slice A1 xs2.length c1) from rfl); have hcz2_0 := (blk_cell BK2.out 0).trans (show (#[.slice B0 ys.length d0, .slice B1 ys2.length d1] : Array Value)[0]? = some (.slice B0 ys.length d0) from rfl); have hcz2_1 := (blk_cell BK2.out 1).trans (show (#[.slice B0 ys.length d0, .slice B1 ys2.length d1] : Array Value)[1]? = some (.slice B1 ys2.length d1) from rfl); have hcz3_0 := (blk_cell BK3.out 0).trans (show (#[.slice C0 zs.length g0, .slice C1 zs2.length g1] : Array Value)[0]? = some (.slice C0 zs.length g0) from rfl); have hcz3_1 := (blk_cell BK3.out 1).trans (show (#[.slice C0 zs.length g0, .slice C1 zs2.length g1] : Array Value)[1]? = some (.slice C1 zs2.length g1) from rfl); have hcz4_0 := (blk_cell BK4.out 0).trans (show (#[.slice F0 m.length f0, .slice F1 m2.length f1] : Array Value)[0]? = some (.slice F0 m.length f0) from rfl); have hcz4_1 := (blk_cell BK4.out 1).trans (show (#[.slice F0 m.length f0, .slice F1 m2.length f1] : Array Value)[1]? = some (.slice F1 m2.length f1) from rfl); (try clear hb_))
    | (go_at_call 13; (with_reducible refine (below_t xs xs2 zs zs2 La0.out La1.out _ _ _ _ _ _ _ _ _ _ Qac.out (by repeat (first | exact (Kd.C_below Ha0.out HB.out) | (with_reducible refine Kd.C_alloc ?_ _) | (with_reducible refine Kd.C_drewN ?_ _) | (with_reducible refine Kd.C_drew ?_))) (by repeat (first | exact (Kd.C_below Ha1.out HB.out) | (with_reducible refine Kd.C_alloc ?_ _) | (with_reducible refine Kd.C_drewN ?_ _) | (with_reducible refine Kd.C_drew ?_))) (by repeat (first | exact (Kd.C_below Hc0.out HB.out) | (with_reducible refine Kd.C_alloc ?_ _) | (with_reducible refine Kd.C_drewN ?_ _) | (with_reducible refine Kd.C_drew ?_))) (by repeat (first | exact (Kd.C_below Hc1.out HB.out) | (with_reducible refine Kd.C_alloc ?_ _) | (with_reducible refine Kd.C_drewN ?_ _) | (with_reducible refine Kd.C_drew ?_)))).mono ?_); rintro e wc ⟨rfl, hb_⟩; have tHB_ := Aside0.mk (below_step (by repeat (first | (with_reducible first | exact HB.out | apply below_alloc | apply pw_below_drewN | apply below_drew1 | apply below_drew) | exact HB.out)) hb_); have tHV_ := Aside0.mk (below_step (by repeat (first | (with_reducible first | exact HV.out | apply below_alloc | apply pw_below_drewN | apply below_drew1 | apply below_drew) | exact HV.out)) hb_); have bk2_ := Aside0.mk (blk_below (g := gb1) (o := .cells #[.slice A0 xs.length c0, .slice A1 xs2.length c1] 24 (0, 0)) (by (with_reducible repeat (first | refine blk_drewN ?_ _ | refine blk_drew ?_ | refine blk_alloc ?_ _)); exact BK1.out) hb_); clear BK1; have BK1 := bk2_; clear bk2_; have bk2_ := Aside0.mk (blk_below (g := gb2) (o := .cells #[.slice B0 ys.length d0, .slice B1 ys2.length d1] 24 (0, 0)) (by (with_reducible repeat (first | refine blk_drewN ?_ _ | refine blk_drew ?_ | refine blk_alloc ?_ _)); exact BK2.out) hb_); clear BK2; have BK2 := bk2_; clear bk2_; have bk2_ := Aside0.mk (blk_below (g := gb3) (o := .cells #[.slice C0 zs.length g0, .slice C1 zs2.length g1] 24 (0, 0)) (by (with_reducible repeat (first | refine blk_drewN ?_ _ | refine blk_drew ?_ | refine blk_alloc ?_ _)); exact BK3.out) hb_); clear BK3; have BK3 := bk2_; clear bk2_; have bk2_ := Aside0.mk (blk_below (g := gb4) (o := .cells #[.slice F0 m.length f0, .slice F1 m2.length f1] 24 (0, 0)) (by (with_reducible repeat (first | refine blk_drewN ?_ _ | refine blk_drew ?_ | refine blk_alloc ?_ _)); exact BK4.out) hb_); clear BK4; have BK4 := bk2_; clear bk2_; clear HB; have HB := tHB_; clear tHB_; clear HV; have HV := tHV_; clear tHV_; (try clear hcz1_0 hcz1_1 hcz2_0 hcz2_1 hcz3_0 hcz3_1 hcz4_0 hcz4_1); have hcz1_0 := (blk_cell BK1.out 0).trans (show (#[.slice A0 xs.length c0, .slice A1 xs2.length c1] : Array Value)[0]? = some (.slice A0 xs.length c0) from rfl); have hcz1_1 := (blk_cell BK1.out 1).trans (show (#[.slice A0 xs.length c0, .slice A1 xs2.length c1] : Array Value)[1]? = some (.slice A1 xs2.length c1) from rfl); have hcz2_0 := (blk_cell BK2.out 0).trans (show (#[.slice B0 ys.length d0, .slice B1 ys2.length d1] : Array Value)[0]? = some (.slice B0 ys.length d0) from rfl); have hcz2_1 := (blk_cell BK2.out 1).trans (show (#[.slice B0 ys.length d0, .slice B1 ys2.length d1] : Array Value)[1]? = some (.slice B1 ys2.length d1) from rfl); have hcz3_0 := (blk_cell BK3.out 0).trans (show (#[.slice C0 zs.length g0, .slice C1 zs2.length g1] : Array Value)[0]? = some (.slice C0 zs.length g0) from rfl); have hcz3_1 := (blk_cell BK3.out 1).trans (show (#[.slice C0 zs.length g0, .slice C1 zs2.length g1] : Array Value)[1]? = some (.slice C1 zs2.length g1) from rfl); have hcz4_0 := (blk_cell BK4.out 0).trans (show (#[.slice F0 m.length f0, .slice F1 m2.length f1] : Array Value)[0]? = some (.slice F0 m.length f0) from rfl); have hcz4_1 := (blk_cell BK4.out 1).trans (show (#[.slice F0 m.length f0, .slice F1 m2.length f1] : Array Value)[1]? = some (.slice F1 m2.length f1) from rfl); (try clear hb_))
    | (go_at_call 13; (with_reducible refine (below_t ys ys2 zs zs2 Lb0.out Lb1.out _ _ _ _ _ _ _ _ _ _ Qbc.out (by repeat (first | exact (Kd.C_below Hb0.out HB.out) | (with_reducible refine Kd.C_alloc ?_ _) | (with_reducible refine Kd.C_drewN ?_ _) | (with_reducible refine Kd.C_drew ?_))) (by repeat (first | exact (Kd.C_below Hb1.out HB.out) | (with_reducible refine Kd.C_alloc ?_ _) | (with_reducible refine Kd.C_drewN ?_ _) | (with_reducible refine Kd.C_drew ?_))) (by repeat (first | exact (Kd.C_below Hc0.out HB.out) | (with_reducible refine Kd.C_alloc ?_ _) | (with_reducible refine Kd.C_drewN ?_ _) | (with_reducible refine Kd.C_drew ?_))) (by repeat (first | exact (Kd.C_below Hc1.out HB.out) | (with_reducible refine Kd.C_alloc ?_ _) | (with_reducible refine Kd.C_drewN ?_ _) | (with_reducible refine Kd.C_drew ?_)))).mono ?_); rintro e wc ⟨rfl, hb_⟩; have tHB_ := Aside0.mk (below_step (by repeat (first | (with_reducible first | exact HB.out | apply below_alloc | apply pw_below_drewN | apply below_drew1 | apply below_drew) | exact HB.out)) hb_); have tHV_ := Aside0.mk (below_step (by repeat (first | (with_reducible first | exact HV.out | apply below_alloc | apply pw_below_drewN | apply below_drew1 | apply below_drew) | exact HV.out)) hb_); have bk2_ := Aside0.mk (blk_below (g := gb1) (o := .cells #[.slice A0 xs.length c0, .slice A1 xs2.length c1] 24 (0, 0)) (by (with_reducible repeat (first | refine blk_drewN ?_ _ | refine blk_drew ?_ | refine blk_alloc ?_ _)); exact BK1.out) hb_); clear BK1; have BK1 := bk2_; clear bk2_; have bk2_ := Aside0.mk (blk_below (g := gb2) (o := .cells #[.slice B0 ys.length d0, .slice B1 ys2.length d1] 24 (0, 0)) (by (with_reducible repeat (first | refine blk_drewN ?_ _ | refine blk_drew ?_ | refine blk_alloc ?_ _)); exact BK2.out) hb_); clear BK2; have BK2 := bk2_; clear bk2_; have bk2_ := Aside0.mk (blk_below (g := gb3) (o := .cells #[.slice C0 zs.length g0, .slice C1 zs2.length g1] 24 (0, 0)) (by (with_reducible repeat (first | refine blk_drewN ?_ _ | refine blk_drew ?_ | refine blk_alloc ?_ _)); exact BK3.out) hb_); clear BK3; have BK3 := bk2_; clear bk2_; have bk2_ := Aside0.mk (blk_below (g := gb4) (o := .cells #[.slice F0 m.length f0, .slice F1 m2.length f1] 24 (0, 0)) (by (with_reducible repeat (first | refine blk_drewN ?_ _ | refine blk_drew ?_ | refine blk_alloc ?_ _)); exact BK4.out) hb_); clear BK4; have BK4 := bk2_; clear bk2_; clear HB; have HB := tHB_; clear tHB_; clear HV; have HV := tHV_; clear tHV_; (try clear hcz1_0 hcz1_1 hcz2_0 hcz2_1 hcz3_0 hcz3_1 hcz4_0 hcz4_1); have hcz1_0 := (blk_cell BK1.out 0).trans (show (#[.slice A0 xs.length c0, .slice A1 xs2.length c1] : Array Value)[0]? = some (.slice A0 xs.length c0) from rfl); have hcz1_1 := (blk_cell BK1.out 1).trans (show (#[.slice A0 xs.length c0, .slice A1 xs2.length c1] : Array Value)[1]? = some (.slice A1 xs2.length c1) from rfl); have hcz2_0 := (blk_cell BK2.out 0).trans (show (#[.slice B0 ys.length d0, .slice B1 ys2.length d1] : Array Value)[0]? = some (.slice B0 ys.length d0) from rfl); have hcz2_1 := (blk_cell BK2.out 1).trans (show (#[.slice B0 ys.length d0, .slice B1 ys2.length d1] : Array Value)[1]? = some (.slice B1 ys2.length d1) from rfl); have hcz3_0 := (blk_cell BK3.out 0).trans (show (#[.slice C0 zs.length g0, .slice C1 zs2.length g1] : Array Value)[0]? = some (.slice C0 zs.length g0) from rfl); have hcz3_1 := (blk_cell BK3.out 1).trans (show (#[.slice C0 zs.length g0, .slice C1 zs2.length g1] : Array Value)[1]? = some (.slice C1 zs2.length g1) from rfl); have hcz4_0 := (blk_cell BK4.out 0).trans (show (#[.slice F0 m.length f0, .slice F1 m2.length f1] : Array Value)[0]? = some (.slice F0 m.length f0) from rfl); have hcz4_1 := (blk_cell BK4.out 1).trans (show (#[.slice F0 m.length f0, .slice F1 m2.length f1] : Array Value)[1]? = some (.slice F1 m2.length f1) from rfl); (try clear hb_))
    | (go_at_call 13; (with_reducible refine (below_t m m2 zs zs2 Lm0.out Lm1.out _ _ _ _ _ _ _ _ _ _ Qmc.out (by repeat (first | exact (Kd.C_below Hm0.out HV.out) | (with_reducible refine Kd.C_alloc ?_ _) | (with_reducible refine Kd.C_drewN ?_ _) | (with_reducible refine Kd.C_drew ?_))) (by repeat (first | exact (Kd.C_below Hm1.out HV.out) | (with_reducible refine Kd.C_alloc ?_ _) | (with_reducible refine Kd.C_drewN ?_ _) | (with_reducible refine Kd.C_drew ?_))) (by repeat (first | exact (Kd.C_below Hc0.out HB.out) | (with_reducible refine Kd.C_alloc ?_ _) | (with_reducible refine Kd.C_drewN ?_ _) | (with_reducible refine Kd.C_drew ?_))) (by repeat (first | exact (Kd.C_below Hc1.out HB.out) | (with_reducible refine Kd.C_alloc ?_ _) | (with_reducible refine Kd.C_drewN ?_ _) | (with_reducible refine Kd.C_drew ?_)))).mono ?_); rintro e wc ⟨rfl, hb_⟩; have tHB_ := Aside0.mk (below_step (by repeat (first | (with_reducible first | exact HB.out | apply below_alloc | apply pw_below_drewN | apply below_drew1 | apply below_drew) | exact HB.out)) hb_); have tHV_ := Aside0.mk (below_step (by repeat (first | (with_reducible first | exact HV.out | apply below_alloc | apply pw_below_drewN | apply below_drew1 | apply below_drew) | exact HV.out)) hb_); have bk2_ := Aside0.mk (blk_below (g := gb1) (o := .cells #[.slice A0 xs.length c0, .slice A1 xs2.length c1] 24 (0, 0)) (by (with_reducible repeat (first | refine blk_drewN ?_ _ | refine blk_drew ?_ | refine blk_alloc ?_ _)); exact BK1.out) hb_); clear BK1; have BK1 := bk2_; clear bk2_; have bk2_ := Aside0.mk (blk_below (g := gb2) (o := .cells #[.slice B0 ys.length d0, .slice B1 ys2.length d1] 24 (0, 0)) (by (with_reducible repeat (first | refine blk_drewN ?_ _ | refine blk_drew ?_ | refine blk_alloc ?_ _)); exact BK2.out) hb_); clear BK2; have BK2 := bk2_; clear bk2_; have bk2_ := Aside0.mk (blk_below (g := gb3) (o := .cells #[.slice C0 zs.length g0, .slice C1 zs2.length g1] 24 (0, 0)) (by (with_reducible repeat (first | refine blk_drewN ?_ _ | refine blk_drew ?_ | refine blk_alloc ?_ _)); exact BK3.out) hb_); clear BK3; have BK3 := bk2_; clear bk2_; have bk2_ := Aside0.mk (blk_below (g := gb4) (o := .cells #[.slice F0 m.length f0, .slice F1 m2.length f1] 24 (0, 0)) (by (with_reducible repeat (first | refine blk_drewN ?_ _ | refine blk_drew ?_ | refine blk_alloc ?_ _)); exact BK4.out) hb_); clear BK4; have BK4 := bk2_; clear bk2_; clear HB; have HB := tHB_; clear tHB_; clear HV; have HV := tHV_; clear tHV_; (try clear hcz1_0 hcz1_1 hcz2_0 hcz2_1 hcz3_0 hcz3_1 hcz4_0 hcz4_1); have hcz1_0 := (blk_cell BK1.out 0).trans (show (#[.slice A0 xs.length c0, .slice A1 xs2.length c1] : Array Value)[0]? = some (.slice A0 xs.length c0) from rfl); have hcz1_1 := (blk_cell BK1.out 1).trans (show (#[.slice A0 xs.length c0, .slice A1 xs2.length c1] : Array Value)[1]? = some (.slice A1 xs2.length c1) from rfl); have hcz2_0 := (blk_cell BK2.out 0).trans (show (#[.slice B0 ys.length d0, .slice B1 ys2.length d1] : Array Value)[0]? = some (.slice B0 ys.length d0) from rfl); have hcz2_1 := (blk_cell BK2.out 1).trans (show (#[.slice B0 ys.length d0, .slice B1 ys2.length d1] : Array Value)[1]? = some (.slice B1 ys2.length d1) from rfl); have hcz3_0 := (blk_cell BK3.out 0).trans (show (#[.slice C0 zs.length g0, .slice C1 zs2.length g1] : Array Value)[0]? = some (.slice C0 zs.length g0) from rfl); have hcz3_1 := (blk_cell BK3.out 1).trans (show (#[.slice C0 zs.length g0, .slice C1 zs2.length g1] : Array Value)[1]? = some (.slice C1 zs2.length g1) from rfl); have hcz4_0 := (blk_cell BK4.out 0).trans (show (#[.slice F0 m.length f0, .slice F1 m2.length f1] : Array Value)[0]? = some (.slice F0 m.length f0) from rfl); have hcz4_1 := (blk_cell BK4.out 1).trans (show (#[.slice F0 m.length f0, .slice F1 m2.length f1] : Array Value)[1]? = some (.slice F1 m2.length f1) from rfl); (try clear hb_))
    | (go_at_call 15; (with_reducible refine (same_t m m2 xs xs2 Lm0.out Lm1.out _ _ _ _ _ _ _ _ _ _ Sma.out (by repeat (first | exact (Kd.C_below Hm0.out HV.out) | (with_reducible refine Kd.C_alloc ?_ _) | (with_reducible refine Kd.C_drewN ?_ _) | (with_reducible refine Kd.C_drew ?_))) (by repeat (first | exact (Kd.C_below Hm1.out HV.out) | (with_reducible refine Kd.C_alloc ?_ _) | (with_reducible refine Kd.C_drewN ?_ _) | (with_reducible refine Kd.C_drew ?_))) (by repeat (first | exact (Kd.C_below Ha0.out HB.out) | (with_reducible refine Kd.C_alloc ?_ _) | (with_reducible refine Kd.C_drewN ?_ _) | (with_reducible refine Kd.C_drew ?_))) (by repeat (first | exact (Kd.C_below Ha1.out HB.out) | (with_reducible refine Kd.C_alloc ?_ _) | (with_reducible refine Kd.C_drewN ?_ _) | (with_reducible refine Kd.C_drew ?_))) Km0.out Km1.out Ka0.out Ka1.out).mono ?_); rintro e wc ⟨rfl, hb_⟩; have tHB_ := Aside0.mk (below_step (by repeat (first | (with_reducible first | exact HB.out | apply below_alloc | apply pw_below_drewN | apply below_drew1 | apply below_drew) | exact HB.out)) hb_); have tHV_ := Aside0.mk (below_step (by repeat (first | (with_reducible first | exact HV.out | apply below_alloc | apply pw_below_drewN | apply below_drew1 | apply below_drew) | exact HV.out)) hb_); have bk2_ := Aside0.mk (blk_below (g := gb1) (o := .cells #[.slice A0 xs.length c0, .slice A1 xs2.length c1] 24 (0, 0)) (by (with_reducible repeat (first | refine blk_drewN ?_ _ | refine blk_drew ?_ | refine blk_alloc ?_ _)); exact BK1.out) hb_); clear BK1; have BK1 := bk2_; clear bk2_; have bk2_ := Aside0.mk (blk_below (g := gb2) (o := .cells #[.slice B0 ys.length d0, .slice B1 ys2.length d1] 24 (0, 0)) (by (with_reducible repeat (first | refine blk_drewN ?_ _ | refine blk_drew ?_ | refine blk_alloc ?_ _)); exact BK2.out) hb_); clear BK2; have BK2 := bk2_; clear bk2_; have bk2_ := Aside0.mk (blk_below (g := gb3) (o := .cells #[.slice C0 zs.length g0, .slice C1 zs2.length g1] 24 (0, 0)) (by (with_reducible repeat (first | refine blk_drewN ?_ _ | refine blk_drew ?_ | refine blk_alloc ?_ _)); exact BK3.out) hb_); clear BK3; have BK3 := bk2_; clear bk2_; have bk2_ := Aside0.mk (blk_below (g := gb4) (o := .cells #[.slice F0 m.length f0, .slice F1 m2.length f1] 24 (0, 0)) (by (with_reducible repeat (first | refine blk_drewN ?_ _ | refine blk_drew ?_ | refine blk_alloc ?_ _)); exact BK4.out) hb_); clear BK4; have BK4 := bk2_; clear bk2_; clear HB; have HB := tHB_; clear tHB_; clear HV; have HV := tHV_; clear tHV_; (try clear hcz1_0 hcz1_1 hcz2_0 hcz2_1 hcz3_0 hcz3_1 hcz4_0 hcz4_1); have hcz1_0 := (blk_cell BK1.out 0).trans (show (#[.slice A0 xs.length c0, .slice A1 xs2.length c1] : Array Value)[0]? = some (.slice A0 xs.length c0) from rfl); have hcz1_1 := (blk_cell BK1.out 1).trans (show (#[.slice A0 xs.length c0, .slice A1 xs2.length c1] : Array Value)[1]? = some (.slice A1 xs2.length c1) from rfl); have hcz2_0 := (blk_cell BK2.out 0).trans (show (#[.slice B0 ys.length d0, .slice B1 ys2.length d1] : Array Value)[0]? = some (.slice B0 ys.length d0) from rfl); have hcz2_1 := (blk_cell BK2.out 1).trans (show (#[.slice B0 ys.length d0, .slice B1 ys2.length d1] : Array Value)[1]? = some (.slice B1 ys2.length d1) from rfl); have hcz3_0 := (blk_cell BK3.out 0).trans (show (#[.slice C0 zs.length g0, .slice C1 zs2.length g1] : Array Value)[0]? = some (.slice C0 zs.length g0) from rfl); have hcz3_1 := (blk_cell BK3.out 1).trans (show (#[.slice C0 zs.length g0, .slice C1 zs2.length g1] : Array Value)[1]? = some (.slice C1 zs2.length g1) from rfl); have hcz4_0 := (blk_cell BK4.out 0).trans (show (#[.slice F0 m.length f0, .slice F1 m2.length f1] : Array Value)[0]? = some (.slice F0 m.length f0) from rfl); have hcz4_1 := (blk_cell BK4.out 1).trans (show (#[.slice F0 m.length f0, .slice F1 m2.length f1] : Array Value)[1]? = some (.slice F1 m2.length f1) from rfl); (try clear hb_)))
  (try clear hcz1_0 hcz1_1 hcz2_0 hcz2_1 hcz3_0 hcz3_1 hcz4_0 hcz4_1)
  refine startB_ (n := 15) #[false, false, false, false, false, false, false, false, false, false, false, false, false, false, false] (by kernel_rfl) rfl rfl (fun W0 D0 => ?_)
  have E0 := Aside0.mk (Below.refl W0.heap.size W0)
  have BL1 := Aside0.mk (blk_below BK1.out D0)
  have BL2 := Aside0.mk (blk_below BK2.out D0)
  have BL3 := Aside0.mk (blk_below BK3.out D0)
  have BL4 := Aside0.mk (blk_below BK4.out D0)
  have XHB := Aside0.mk (below_step HB.out D0)
  have XHV := Aside0.mk (below_step HV.out D0)
  refine take_ (i := 0) (N := some 95) (v := ?_) (a' := ?_) #[true, false, false, false, false, false, false, false, false, false, false, false, false, false, false] rfl rfl (by kernel_rfl) (fun _ _ _ h => h) (Or.inl ⟨by rfl, ?_⟩) (Below.refl _ _) ?_ ?_
  rotate_left
  · intro w' hS
    have hd_ := below_step E0.out hS
    have hy0 := (blk_cell (blk_below BL4.out hd_) 0).trans (show (#[.slice F0 m.length f0, .slice F1 m2.length f1] : Array Value)[0]? = some (.slice F0 m.length f0) from rfl)
    have hy1 := (blk_cell (blk_below BL4.out hd_) 1).trans (show (#[.slice F0 m.length f0, .slice F1 m2.length f1] : Array Value)[1]? = some (.slice F1 m2.length f1) from rfl)
    go_simp
    with_reducible rfl
  rotate_left
  · simp only [Act.put, List.setIfInBounds_toArray, List.set_cons_zero, List.set_cons_succ, i64_w, i32_w]
    rfl
  refine take_ (i := 2) (N := some 97) (v := ?_) (a' := ?_) #[true, false, true, false, false, false, false, false, false, false, false, false, false, false, false] rfl rfl (by kernel_rfl) (fun _ _ _ h => h) (Or.inl ⟨by rfl, ?_⟩) (Below.refl _ _) ?_ ?_
  rotate_left
  · intro w' hS
    have hd_ := below_step E0.out hS
    have hy0 := (blk_cell (blk_below BL1.out hd_) 0).trans (show (#[.slice A0 xs.length c0, .slice A1 xs2.length c1] : Array Value)[0]? = some (.slice A0 xs.length c0) from rfl)
    have hy1 := (blk_cell (blk_below BL1.out hd_) 1).trans (show (#[.slice A0 xs.length c0, .slice A1 xs2.length c1] : Array Value)[1]? = some (.slice A1 xs2.length c1) from rfl)
    go_simp
    with_reducible rfl
  rotate_left
  · simp only [Act.put, List.setIfInBounds_toArray, List.set_cons_zero, List.set_cons_succ, i64_w, i32_w]
    rfl
  refine one_ (i := 1) (N := some 96) #[true, true, true, false, false, false, false, false, false, false, false, false, false, false, false] rfl rfl (by kernel_rfl) (by decide) (fun K hK => ?_)
  refine goes_ Try.func17 (by kernel_rfl) rfl #[.agg #[.slice F0 m.length f0, .slice F1 m2.length f1]] (by rfl) rfl rfl (by (try simp only [List.map_toArray, List.map_cons, List.map_nil]); first | done | rfl) ?_
  with_reducible refine (height_t m m2 Lm0.out Lm1.out _ _ _ _ _ _ Tm.out (Kd.C_below (Kd.C_below Hm0.out XHV.out) E0.out) (Kd.C_below (Kd.C_below Hm1.out XHV.out) E0.out)).mono ?_
  rintro e W1 ⟨rfl, D1⟩
  refine ⟨_, rfl, ?_⟩
  have E1 := Aside0.mk (below_step E0.out D1)
  refine hK.out _ _ D1 (fun _ => behind_ D1 ?_)
  clear hK K
  refine norm_ (a' := ?_) ?_ ?_
  rotate_left
  · show Act.put _ (some 96) _ = _
    simp only [Act.put, List.setIfInBounds_toArray, List.set_cons_zero, List.set_cons_succ, i64_w, i32_w]
    rfl
  refine one_ (i := 3) (N := some 98) #[true, true, true, true, false, false, false, false, false, false, false, false, false, false, false] rfl rfl (by kernel_rfl) (by decide) (fun K hK => ?_)
  refine goes_ Try.func17 (by kernel_rfl) rfl #[.agg #[.slice A0 xs.length c0, .slice A1 xs2.length c1]] (by rfl) rfl rfl (by (try simp only [List.map_toArray, List.map_cons, List.map_nil]); first | done | rfl) ?_
  with_reducible refine (height_t xs xs2 La0.out La1.out _ _ _ _ _ _ Ta.out (Kd.C_below (Kd.C_below Ha0.out XHB.out) E1.out) (Kd.C_below (Kd.C_below Ha1.out XHB.out) E1.out)).mono ?_
  rintro e W2 ⟨rfl, D2⟩
  refine ⟨_, rfl, ?_⟩
  have E2 := Aside0.mk (below_step E1.out D2)
  refine hK.out _ _ D2 (fun _ => behind_ D2 ?_)
  clear hK K
  refine norm_ (a' := ?_) ?_ ?_
  rotate_left
  · show Act.put _ (some 98) _ = _
    simp only [Act.put, List.setIfInBounds_toArray, List.set_cons_zero, List.set_cons_succ, i64_w, i32_w]
    rfl
  refine pure_ (i := 4) (N := some 99) (v := ?_) (a' := ?_) #[true, true, true, true, true, false, false, false, false, false, false, false, false, false, false] rfl rfl (by kernel_rfl) (fun _ _ _ h => h) (Or.inl ⟨by rfl, ?_⟩) ?_ ?_
  rotate_left
  · intro w'
    go_simp
    with_reducible rfl
  rotate_left
  · simp only [Act.put, List.setIfInBounds_toArray, List.set_cons_zero, List.set_cons_succ, i64_w, i32_w]
    rfl
  refine pure_ (i := 5) (N := some 100) (v := ?_) (a' := ?_) #[true, true, true, true, true, true, false, false, false, false, false, false, false, false, false] rfl rfl (by kernel_rfl) (fun _ _ _ h => h) (Or.inl ⟨by rfl, ?_⟩) ?_ ?_
  rotate_left
  · intro w'
    go_simp
    with_reducible rfl
  rotate_left
  · simp only [Act.put, List.setIfInBounds_toArray, List.set_cons_zero, List.set_cons_succ, i64_w, i32_w]
    rfl
  refine take_ (i := 6) (N := some 101) (v := ?_) (a' := ?_) #[true, true, true, true, true, true, true, false, false, false, false, false, false, false, false] rfl rfl (by kernel_rfl) (fun _ _ _ h => h) (Or.inl ⟨by rfl, ?_⟩) (Below.refl _ _) ?_ ?_
  rotate_left
  · intro w' hS
    have hd_ := below_step E2.out hS
    have hy0 := (blk_cell (blk_below BL2.out hd_) 0).trans (show (#[.slice B0 ys.length d0, .slice B1 ys2.length d1] : Array Value)[0]? = some (.slice B0 ys.length d0) from rfl)
    have hy1 := (blk_cell (blk_below BL2.out hd_) 1).trans (show (#[.slice B0 ys.length d0, .slice B1 ys2.length d1] : Array Value)[1]? = some (.slice B1 ys2.length d1) from rfl)
    go_simp
    with_reducible rfl
  rotate_left
  · simp only [Act.put, List.setIfInBounds_toArray, List.set_cons_zero, List.set_cons_succ, i64_w, i32_w]
    rfl
  refine take_ (i := 7) (N := some 102) (v := ?_) (a' := ?_) #[true, true, true, true, true, true, true, true, false, false, false, false, false, false, false] rfl rfl (by kernel_rfl) (fun _ _ _ h => h) (Or.inl ⟨by rfl, ?_⟩) (Below.refl _ _) ?_ ?_
  rotate_left
  · intro w' hS
    have hd_ := below_step E2.out hS
    have hy0 := (blk_cell (blk_below BL1.out hd_) 0).trans (show (#[.slice A0 xs.length c0, .slice A1 xs2.length c1] : Array Value)[0]? = some (.slice A0 xs.length c0) from rfl)
    have hy1 := (blk_cell (blk_below BL1.out hd_) 1).trans (show (#[.slice A0 xs.length c0, .slice A1 xs2.length c1] : Array Value)[1]? = some (.slice A1 xs2.length c1) from rfl)
    go_simp
    with_reducible rfl
  rotate_left
  · simp only [Act.put, List.setIfInBounds_toArray, List.set_cons_zero, List.set_cons_succ, i64_w, i32_w]
    rfl
  refine one_ (i := 8) (N := some 103) #[true, true, true, true, true, true, true, true, true, false, false, false, false, false, false] rfl rfl (by kernel_rfl) (by decide) (fun K hK => ?_)
  refine goes_ Try.func13 (by kernel_rfl) rfl #[.agg #[.slice B0 ys.length d0, .slice B1 ys2.length d1], .agg #[.slice A0 xs.length c0, .slice A1 xs2.length c1]] (by rfl) rfl rfl (by (try simp only [List.map_toArray, List.map_cons, List.map_nil]); first | done | rfl) ?_
  with_reducible refine (below_t ys ys2 xs xs2 Lb0.out Lb1.out _ _ _ _ _ _ _ _ _ _ Qba.out (Kd.C_below (Kd.C_below Hb0.out XHB.out) E2.out) (Kd.C_below (Kd.C_below Hb1.out XHB.out) E2.out) (Kd.C_below (Kd.C_below Ha0.out XHB.out) E2.out) (Kd.C_below (Kd.C_below Ha1.out XHB.out) E2.out)).mono ?_
  rintro e W3 ⟨rfl, D3⟩
  refine ⟨_, rfl, ?_⟩
  have E3 := Aside0.mk (below_step E2.out D3)
  refine hK.out _ _ D3 (fun _ => behind_ D3 ?_)
  clear hK K
  refine norm_ (a' := ?_) ?_ ?_
  rotate_left
  · show Act.put _ (some 103) _ = _
    simp only [Act.put, List.setIfInBounds_toArray, List.set_cons_zero, List.set_cons_succ, i64_w, i32_w]
    rfl
  refine pure_ (i := 9) (N := some 104) (v := ?_) (a' := ?_) #[true, true, true, true, true, true, true, true, true, true, false, false, false, false, false] rfl rfl (by kernel_rfl) (fun _ _ _ h => h) (Or.inl ⟨by rfl, ?_⟩) ?_ ?_
  rotate_left
  · intro w'
    go_simp
    with_reducible rfl
  rotate_left
  · simp only [Act.put, List.setIfInBounds_toArray, List.set_cons_zero, List.set_cons_succ, i64_w, i32_w]
    rfl
  refine pure_ (i := 10) (N := some 105) (v := ?_) (a' := ?_) #[true, true, true, true, true, true, true, true, true, true, true, false, false, false, false] rfl rfl (by kernel_rfl) (fun _ _ _ h => h) (Or.inl ⟨by rfl, ?_⟩) ?_ ?_
  rotate_left
  · intro w'
    go_simp
    with_reducible rfl
  rotate_left
  · simp only [Act.put, List.setIfInBounds_toArray, List.set_cons_zero, List.set_cons_succ, i64_w, i32_w]
    rfl
  refine pure_ (i := 11) (N := some 106) (v := ?_) (a' := ?_) #[true, true, true, true, true, true, true, true, true, true, true, true, false, false, false] rfl rfl (by kernel_rfl) (fun _ _ _ h => h) (Or.inl ⟨by rfl, ?_⟩) ?_ ?_
  rotate_left
  · intro w'
    go_simp
    with_reducible rfl
  rotate_left
  · simp only [Act.put, List.setIfInBounds_toArray, List.set_cons_zero, List.set_cons_succ, i64_w, i32_w]
    rfl
  refine one_ (i := 12) (N := some 107) #[true, true, true, true, true, true, true, true, true, true, true, true, true, false, false] rfl rfl (by kernel_rfl) (by decide) (fun K hK => ?_)
  refine goes_ Try.func8 (by kernel_rfl) rfl #[] (by rfl) rfl rfl (by (try simp only [List.map_toArray, List.map_cons, List.map_nil]); first | done | rfl) ?_
  with_reducible refine (works_b _).mono ?_
  rintro e W4 ⟨rfl, D4⟩
  refine ⟨_, rfl, ?_⟩
  have E4 := Aside0.mk (below_step E3.out D4)
  refine hK.out _ _ D4 (fun _ => behind_ D4 ?_)
  clear hK K
  refine norm_ (a' := ?_) ?_ ?_
  rotate_left
  · show Act.put _ (some 107) _ = _
    simp only [Act.put, List.setIfInBounds_toArray, List.set_cons_zero, List.set_cons_succ, i64_w, i32_w]
    rfl
  refine pure_ (i := 13) (N := some 108) (v := ?_) (a' := ?_) #[true, true, true, true, true, true, true, true, true, true, true, true, true, true, false] rfl rfl (by kernel_rfl) (fun _ _ _ h => h) (Or.inl ⟨by rfl, ?_⟩) ?_ ?_
  rotate_left
  · intro w'
    go_simp
    with_reducible rfl
  rotate_left
  · simp only [Act.put, List.setIfInBounds_toArray, List.set_cons_zero, List.set_cons_succ, i64_w, i32_w]
    rfl
  refine pure_ (i := 14) (N := some 6) (v := ?_) (a' := ?_) #[true, true, true, true, true, true, true, true, true, true, true, true, true, true, true] rfl rfl (by kernel_rfl) (fun _ _ _ h => h) (Or.inl ⟨by rfl, ?_⟩) ?_ ?_
  rotate_left
  · intro w'
    go_simp
    with_reducible rfl
  rotate_left
  · simp only [Act.put, List.setIfInBounds_toArray, List.set_cons_zero, List.set_cons_succ, i64_w, i32_w]
    rfl
  refine done_ (by kernel_rfl) ?_
  go_wp2
  go_ret
  exact ⟨by first | rfl | (simp; done), below_step XHB.out E4.out⟩

set_option maxHeartbeats 8000000 in
set_option maxRecDepth 100000 in
theorem least_21 (xs xs2 ys ys2 zs zs2 : List Int) (m m2 : List Int) (qa : decide (xs.length > 5000 ∨ xs2.length > 5000) = false) (qb : decide (ys.length > 5000 ∨ ys2.length > 5000) = false) (qc : decide (zs.length > 5000 ∨ zs2.length > 5000) = false) (la0 : xs.length ≤ 10000) (la1 : xs2.length ≤ 10000) (lb0 : ys.length ≤ 10000) (lb1 : ys2.length ≤ 10000) (lm0 : m.length ≤ 10000) (lm1 : m2.length ≤ 10000) (hm : mrg xs xs2 ys ys2 = (m, m2, true)) (qam : bel xs xs2 m m2 = true) (qbm : bel ys ys2 m m2 = true) (qac : bel xs xs2 zs zs2 = true) (qbc : bel ys ys2 zs zs2 = true) (qmc : bel m m2 zs zs2 = true) (sma : sam m m2 xs xs2 = true) (qba : bel ys ys2 xs xs2 = true) (r1 r2 : Int) (tm : ((hgt m + hgt m2 : Nat) : Int) = r1) (ta : ((hgt xs + hgt xs2 : Nat) : Int) = r2) (hr : (r1 == r2) = true) (A0 A1 B0 B1 C0 C1 : Option Addr) (c0 c1 d0 d1 g0 g1 : Nat) (w : World) (ha0 : Rd w A0 xs) (ha1 : Rd w A1 xs2) (hb0 : Rd w B0 ys) (hb1 : Rd w B1 ys2) (hc0 : Rd w C0 zs) (hc1 : Rd w C1 zs2) (ka0 : xs.length ≤ c0) (ka1 : xs2.length ≤ c1) (kb0 : ys.length ≤ d0) (kb1 : ys2.length ≤ d1) (kc0 : zs.length ≤ g0) (kc1 : zs2.length ≤ g1) :
    Calls Try.prog 4 #[.agg #[.slice A0 xs.length c0, .slice A1 xs2.length c1], .agg #[.slice B0 ys.length d0, .slice B1 ys2.length d1], .agg #[.slice C0 zs.length g0, .slice C1 zs2.length g1]] w fun e w' => e = .returned (.bool true) ∧ Below w.heap.size w w' := by
  have hu24 := Try.underlying24
  have Ha0 := Aside0.mk ha0
  have Ka0 := Aside0.mk ka0
  clear ha0 ka0
  have Ha1 := Aside0.mk ha1
  have Ka1 := Aside0.mk ka1
  clear ha1 ka1
  have Hb0 := Aside0.mk hb0
  have Kb0 := Aside0.mk kb0
  clear hb0 kb0
  have Hb1 := Aside0.mk hb1
  have Kb1 := Aside0.mk kb1
  clear hb1 kb1
  have Hc0 := Aside0.mk hc0
  have Kc0 := Aside0.mk kc0
  clear hc0 kc0
  have Hc1 := Aside0.mk hc1
  have Kc1 := Aside0.mk kc1
  clear hc1 kc1
  have HB := Aside0.mk (Below.refl w.heap.size w)
  have Ga := Aside0.mk qa
  clear qa
  have Gb := Aside0.mk qb
  clear qb
  have Gc := Aside0.mk qc
  clear qc
  have La0 := Aside0.mk la0
  clear la0
  have La1 := Aside0.mk la1
  clear la1
  have Lb0 := Aside0.mk lb0
  clear lb0
  have Lb1 := Aside0.mk lb1
  clear lb1
  have HM := Aside0.mk hm
  clear hm
  have Lm0 := Aside0.mk lm0
  clear lm0
  have Lm1 := Aside0.mk lm1
  clear lm1
  have Qam := Aside0.mk qam
  clear qam
  have Qbm := Aside0.mk qbm
  clear qbm
  have Qac := Aside0.mk qac
  clear qac
  have Qbc := Aside0.mk qbc
  clear qbc
  have Qmc := Aside0.mk qmc
  clear qmc
  have Sma := Aside0.mk sma
  clear sma
  have Qba := Aside0.mk qba
  clear qba
  have Tm := Aside0.mk tm
  clear tm
  have Ta := Aside0.mk ta
  clear ta
  go_enter Try.func4, Try.ntmps4
  go_upto_region 4 with (first
    | ((with_reducible refine gate_dst (N := 3) rfl ?_); refine box_event ?hg (N := 3) ?hd (cs := #[.slice A0 xs.length c0, .slice A1 xs2.length c1]) (t := 24) ?hr ?_; (case hd => rfl); (case hg => rfl); (case hr => first | (go_simp; done) | (go_simp; rfl)); intro gb1 hg_ wb1 hbox hb_; have GE1 := Aside0.mk ((by rw [hg_]; exact (below_size (by repeat (first | (with_reducible first | exact HB.out | apply below_alloc | apply pw_below_drewN | apply below_drew1 | apply below_drew) | exact HB.out)))) : w.heap.size ≤ gb1); have tHB_ := Aside0.mk (below_step (by repeat (first | (with_reducible first | exact HB.out | apply below_alloc | apply pw_below_drewN | apply below_drew1 | apply below_drew) | exact HB.out)) hb_); clear HB; have HB := tHB_; clear tHB_; have BK1 := Aside0.mk hbox; have HG1 := Aside0.mk hg_; have DB1 := Aside0.mk hb_; clear hbox hg_ hb_)
    | ((with_reducible refine gate_dst (N := 4) rfl ?_); refine box_event ?hg (N := 4) ?hd (cs := #[.slice B0 ys.length d0, .slice B1 ys2.length d1]) (t := 24) ?hr ?_; (case hd => rfl); (case hg => rfl); (case hr => first | (go_simp; done) | (go_simp; rfl)); intro gb2 hg_ wb2 hbox hb_; have GE2 := Aside0.mk ((by rw [hg_]; exact (below_size (by repeat (first | (with_reducible first | exact HB.out | apply below_alloc | apply pw_below_drewN | apply below_drew1 | apply below_drew) | exact HB.out)))) : w.heap.size ≤ gb2); have tHB_ := Aside0.mk (below_step (by repeat (first | (with_reducible first | exact HB.out | apply below_alloc | apply pw_below_drewN | apply below_drew1 | apply below_drew) | exact HB.out)) hb_); have bk2_ := Aside0.mk (blk_below (g := gb1) (o := .cells #[.slice A0 xs.length c0, .slice A1 xs2.length c1] 24 (0, 0)) (by (with_reducible repeat (first | refine blk_drewN ?_ _ | refine blk_drew ?_ | refine blk_alloc ?_ _)); exact BK1.out) hb_); clear BK1; have BK1 := bk2_; clear bk2_; clear HB; have HB := tHB_; clear tHB_; have BK2 := Aside0.mk hbox; have HG2 := Aside0.mk hg_; have DB2 := Aside0.mk hb_; clear hbox hg_ hb_)
    | ((with_reducible refine gate_dst (N := 5) rfl ?_); refine box_event ?hg (N := 5) ?hd (cs := #[.slice C0 zs.length g0, .slice C1 zs2.length g1]) (t := 24) ?hr ?_; (case hd => rfl); (case hg => rfl); (case hr => first | (go_simp; done) | (go_simp; rfl)); intro gb3 hg_ wb3 hbox hb_; have GE3 := Aside0.mk ((by rw [hg_]; exact (below_size (by repeat (first | (with_reducible first | exact HB.out | apply below_alloc | apply pw_below_drewN | apply below_drew1 | apply below_drew) | exact HB.out)))) : w.heap.size ≤ gb3); have tHB_ := Aside0.mk (below_step (by repeat (first | (with_reducible first | exact HB.out | apply below_alloc | apply pw_below_drewN | apply below_drew1 | apply below_drew) | exact HB.out)) hb_); have bk2_ := Aside0.mk (blk_below (g := gb1) (o := .cells #[.slice A0 xs.length c0, .slice A1 xs2.length c1] 24 (0, 0)) (by (with_reducible repeat (first | refine blk_drewN ?_ _ | refine blk_drew ?_ | refine blk_alloc ?_ _)); exact BK1.out) hb_); clear BK1; have BK1 := bk2_; clear bk2_; have bk2_ := Aside0.mk (blk_below (g := gb2) (o := .cells #[.slice B0 ys.length d0, .slice B1 ys2.length d1] 24 (0, 0)) (by (with_reducible repeat (first | refine blk_drewN ?_ _ | refine blk_drew ?_ | refine blk_alloc ?_ _)); exact BK2.out) hb_); clear BK2; have BK2 := bk2_; clear bk2_; clear HB; have HB := tHB_; clear tHB_; have BK3 := Aside0.mk hbox; have HG3 := Aside0.mk hg_; have DB3 := Aside0.mk hb_; clear hbox hg_ hb_; have hcz1_0 := (blk_cell BK1.out 0).trans (show (#[.slice A0 xs.length c0, .slice A1 xs2.length c1] : Array Value)[0]? = some (.slice A0 xs.length c0) from rfl); have hcz1_1 := (blk_cell BK1.out 1).trans (show (#[.slice A0 xs.length c0, .slice A1 xs2.length c1] : Array Value)[1]? = some (.slice A1 xs2.length c1) from rfl); have hcz2_0 := (blk_cell BK2.out 0).trans (show (#[.slice B0 ys.length d0, .slice B1 ys2.length d1] : Array Value)[0]? = some (.slice B0 ys.length d0) from rfl); have hcz2_1 := (blk_cell BK2.out 1).trans (show (#[.slice B0 ys.length d0, .slice B1 ys2.length d1] : Array Value)[1]? = some (.slice B1 ys2.length d1) from rfl); have hcz3_0 := (blk_cell BK3.out 0).trans (show (#[.slice C0 zs.length g0, .slice C1 zs2.length g1] : Array Value)[0]? = some (.slice C0 zs.length g0) from rfl); have hcz3_1 := (blk_cell BK3.out 1).trans (show (#[.slice C0 zs.length g0, .slice C1 zs2.length g1] : Array Value)[1]? = some (.slice C1 zs2.length g1) from rfl))
    | (go_at_call 7; (with_reducible refine (large_t xs xs2 _ _ _ _ _ _ Ga.out (by repeat (first | exact (Kd.C_below Ha0.out HB.out) | (with_reducible refine Kd.C_alloc ?_ _) | (with_reducible refine Kd.C_drewN ?_ _) | (with_reducible refine Kd.C_drew ?_))) (by repeat (first | exact (Kd.C_below Ha1.out HB.out) | (with_reducible refine Kd.C_alloc ?_ _) | (with_reducible refine Kd.C_drewN ?_ _) | (with_reducible refine Kd.C_drew ?_))) Ka0.out Ka1.out).mono ?_); rintro e wc ⟨rfl, hb_⟩; have tHB_ := Aside0.mk (below_step (by repeat (first | (with_reducible first | exact HB.out | apply below_alloc | apply pw_below_drewN | apply below_drew1 | apply below_drew) | exact HB.out)) hb_); have bk2_ := Aside0.mk (blk_below (g := gb1) (o := .cells #[.slice A0 xs.length c0, .slice A1 xs2.length c1] 24 (0, 0)) (by (with_reducible repeat (first | refine blk_drewN ?_ _ | refine blk_drew ?_ | refine blk_alloc ?_ _)); exact BK1.out) hb_); clear BK1; have BK1 := bk2_; clear bk2_; have bk2_ := Aside0.mk (blk_below (g := gb2) (o := .cells #[.slice B0 ys.length d0, .slice B1 ys2.length d1] 24 (0, 0)) (by (with_reducible repeat (first | refine blk_drewN ?_ _ | refine blk_drew ?_ | refine blk_alloc ?_ _)); exact BK2.out) hb_); clear BK2; have BK2 := bk2_; clear bk2_; have bk2_ := Aside0.mk (blk_below (g := gb3) (o := .cells #[.slice C0 zs.length g0, .slice C1 zs2.length g1] 24 (0, 0)) (by (with_reducible repeat (first | refine blk_drewN ?_ _ | refine blk_drew ?_ | refine blk_alloc ?_ _)); exact BK3.out) hb_); clear BK3; have BK3 := bk2_; clear bk2_; clear HB; have HB := tHB_; clear tHB_; (try clear hcz1_0 hcz1_1 hcz2_0 hcz2_1 hcz3_0 hcz3_1); have hcz1_0 := (blk_cell BK1.out 0).trans (show (#[.slice A0 xs.length c0, .slice A1 xs2.length c1] : Array Value)[0]? = some (.slice A0 xs.length c0) from rfl); have hcz1_1 := (blk_cell BK1.out 1).trans (show (#[.slice A0 xs.length c0, .slice A1 xs2.length c1] : Array Value)[1]? = some (.slice A1 xs2.length c1) from rfl); have hcz2_0 := (blk_cell BK2.out 0).trans (show (#[.slice B0 ys.length d0, .slice B1 ys2.length d1] : Array Value)[0]? = some (.slice B0 ys.length d0) from rfl); have hcz2_1 := (blk_cell BK2.out 1).trans (show (#[.slice B0 ys.length d0, .slice B1 ys2.length d1] : Array Value)[1]? = some (.slice B1 ys2.length d1) from rfl); have hcz3_0 := (blk_cell BK3.out 0).trans (show (#[.slice C0 zs.length g0, .slice C1 zs2.length g1] : Array Value)[0]? = some (.slice C0 zs.length g0) from rfl); have hcz3_1 := (blk_cell BK3.out 1).trans (show (#[.slice C0 zs.length g0, .slice C1 zs2.length g1] : Array Value)[1]? = some (.slice C1 zs2.length g1) from rfl); (try clear hb_))
    | (go_at_call 7; (with_reducible refine (large_t ys ys2 _ _ _ _ _ _ Gb.out (by repeat (first | exact (Kd.C_below Hb0.out HB.out) | (with_reducible refine Kd.C_alloc ?_ _) | (with_reducible refine Kd.C_drewN ?_ _) | (with_reducible refine Kd.C_drew ?_))) (by repeat (first | exact (Kd.C_below Hb1.out HB.out) | (with_reducible refine Kd.C_alloc ?_ _) | (with_reducible refine Kd.C_drewN ?_ _) | (with_reducible refine Kd.C_drew ?_))) Kb0.out Kb1.out).mono ?_); rintro e wc ⟨rfl, hb_⟩; have tHB_ := Aside0.mk (below_step (by repeat (first | (with_reducible first | exact HB.out | apply below_alloc | apply pw_below_drewN | apply below_drew1 | apply below_drew) | exact HB.out)) hb_); have bk2_ := Aside0.mk (blk_below (g := gb1) (o := .cells #[.slice A0 xs.length c0, .slice A1 xs2.length c1] 24 (0, 0)) (by (with_reducible repeat (first | refine blk_drewN ?_ _ | refine blk_drew ?_ | refine blk_alloc ?_ _)); exact BK1.out) hb_); clear BK1; have BK1 := bk2_; clear bk2_; have bk2_ := Aside0.mk (blk_below (g := gb2) (o := .cells #[.slice B0 ys.length d0, .slice B1 ys2.length d1] 24 (0, 0)) (by (with_reducible repeat (first | refine blk_drewN ?_ _ | refine blk_drew ?_ | refine blk_alloc ?_ _)); exact BK2.out) hb_); clear BK2; have BK2 := bk2_; clear bk2_; have bk2_ := Aside0.mk (blk_below (g := gb3) (o := .cells #[.slice C0 zs.length g0, .slice C1 zs2.length g1] 24 (0, 0)) (by (with_reducible repeat (first | refine blk_drewN ?_ _ | refine blk_drew ?_ | refine blk_alloc ?_ _)); exact BK3.out) hb_); clear BK3; have BK3 := bk2_; clear bk2_; clear HB; have HB := tHB_; clear tHB_; (try clear hcz1_0 hcz1_1 hcz2_0 hcz2_1 hcz3_0 hcz3_1); have hcz1_0 := (blk_cell BK1.out 0).trans (show (#[.slice A0 xs.length c0, .slice A1 xs2.length c1] : Array Value)[0]? = some (.slice A0 xs.length c0) from rfl); have hcz1_1 := (blk_cell BK1.out 1).trans (show (#[.slice A0 xs.length c0, .slice A1 xs2.length c1] : Array Value)[1]? = some (.slice A1 xs2.length c1) from rfl); have hcz2_0 := (blk_cell BK2.out 0).trans (show (#[.slice B0 ys.length d0, .slice B1 ys2.length d1] : Array Value)[0]? = some (.slice B0 ys.length d0) from rfl); have hcz2_1 := (blk_cell BK2.out 1).trans (show (#[.slice B0 ys.length d0, .slice B1 ys2.length d1] : Array Value)[1]? = some (.slice B1 ys2.length d1) from rfl); have hcz3_0 := (blk_cell BK3.out 0).trans (show (#[.slice C0 zs.length g0, .slice C1 zs2.length g1] : Array Value)[0]? = some (.slice C0 zs.length g0) from rfl); have hcz3_1 := (blk_cell BK3.out 1).trans (show (#[.slice C0 zs.length g0, .slice C1 zs2.length g1] : Array Value)[1]? = some (.slice C1 zs2.length g1) from rfl); (try clear hb_))
    | (go_at_call 7; (with_reducible refine (large_t zs zs2 _ _ _ _ _ _ Gc.out (by repeat (first | exact (Kd.C_below Hc0.out HB.out) | (with_reducible refine Kd.C_alloc ?_ _) | (with_reducible refine Kd.C_drewN ?_ _) | (with_reducible refine Kd.C_drew ?_))) (by repeat (first | exact (Kd.C_below Hc1.out HB.out) | (with_reducible refine Kd.C_alloc ?_ _) | (with_reducible refine Kd.C_drewN ?_ _) | (with_reducible refine Kd.C_drew ?_))) Kc0.out Kc1.out).mono ?_); rintro e wc ⟨rfl, hb_⟩; have tHB_ := Aside0.mk (below_step (by repeat (first | (with_reducible first | exact HB.out | apply below_alloc | apply pw_below_drewN | apply below_drew1 | apply below_drew) | exact HB.out)) hb_); have bk2_ := Aside0.mk (blk_below (g := gb1) (o := .cells #[.slice A0 xs.length c0, .slice A1 xs2.length c1] 24 (0, 0)) (by (with_reducible repeat (first | refine blk_drewN ?_ _ | refine blk_drew ?_ | refine blk_alloc ?_ _)); exact BK1.out) hb_); clear BK1; have BK1 := bk2_; clear bk2_; have bk2_ := Aside0.mk (blk_below (g := gb2) (o := .cells #[.slice B0 ys.length d0, .slice B1 ys2.length d1] 24 (0, 0)) (by (with_reducible repeat (first | refine blk_drewN ?_ _ | refine blk_drew ?_ | refine blk_alloc ?_ _)); exact BK2.out) hb_); clear BK2; have BK2 := bk2_; clear bk2_; have bk2_ := Aside0.mk (blk_below (g := gb3) (o := .cells #[.slice C0 zs.length g0, .slice C1 zs2.length g1] 24 (0, 0)) (by (with_reducible repeat (first | refine blk_drewN ?_ _ | refine blk_drew ?_ | refine blk_alloc ?_ _)); exact BK3.out) hb_); clear BK3; have BK3 := bk2_; clear bk2_; clear HB; have HB := tHB_; clear tHB_; (try clear hcz1_0 hcz1_1 hcz2_0 hcz2_1 hcz3_0 hcz3_1); have hcz1_0 := (blk_cell BK1.out 0).trans (show (#[.slice A0 xs.length c0, .slice A1 xs2.length c1] : Array Value)[0]? = some (.slice A0 xs.length c0) from rfl); have hcz1_1 := (blk_cell BK1.out 1).trans (show (#[.slice A0 xs.length c0, .slice A1 xs2.length c1] : Array Value)[1]? = some (.slice A1 xs2.length c1) from rfl); have hcz2_0 := (blk_cell BK2.out 0).trans (show (#[.slice B0 ys.length d0, .slice B1 ys2.length d1] : Array Value)[0]? = some (.slice B0 ys.length d0) from rfl); have hcz2_1 := (blk_cell BK2.out 1).trans (show (#[.slice B0 ys.length d0, .slice B1 ys2.length d1] : Array Value)[1]? = some (.slice B1 ys2.length d1) from rfl); have hcz3_0 := (blk_cell BK3.out 0).trans (show (#[.slice C0 zs.length g0, .slice C1 zs2.length g1] : Array Value)[0]? = some (.slice C0 zs.length g0) from rfl); have hcz3_1 := (blk_cell BK3.out 1).trans (show (#[.slice C0 zs.length g0, .slice C1 zs2.length g1] : Array Value)[1]? = some (.slice C1 zs2.length g1) from rfl); (try clear hb_))
    | (go_at_call 11; (with_reducible refine (merge_t m m2 true xs xs2 ys ys2 La0.out La1.out HM.out _ _ _ _ _ _ _ _ _ (by repeat (first | exact (Kd.C_below Ha0.out HB.out) | (with_reducible refine Kd.C_alloc ?_ _) | (with_reducible refine Kd.C_drewN ?_ _) | (with_reducible refine Kd.C_drew ?_))) (by repeat (first | exact (Kd.C_below Ha1.out HB.out) | (with_reducible refine Kd.C_alloc ?_ _) | (with_reducible refine Kd.C_drewN ?_ _) | (with_reducible refine Kd.C_drew ?_))) (by repeat (first | exact (Kd.C_below Hb0.out HB.out) | (with_reducible refine Kd.C_alloc ?_ _) | (with_reducible refine Kd.C_drewN ?_ _) | (with_reducible refine Kd.C_drew ?_))) (by repeat (first | exact (Kd.C_below Hb1.out HB.out) | (with_reducible refine Kd.C_alloc ?_ _) | (with_reducible refine Kd.C_drewN ?_ _) | (with_reducible refine Kd.C_drew ?_)))).mono ?_); rintro e wA ⟨F0, F1, f0, f1, rfl, k0, k1, r0, r1, hb_, R0, R1⟩; have tHB_ := Aside0.mk (below_step (by repeat (first | (with_reducible first | exact HB.out | apply below_alloc | apply pw_below_drewN | apply below_drew1 | apply below_drew) | exact HB.out)) hb_); have bk2_ := Aside0.mk (blk_below (g := gb1) (o := .cells #[.slice A0 xs.length c0, .slice A1 xs2.length c1] 24 (0, 0)) (by (with_reducible repeat (first | refine blk_drewN ?_ _ | refine blk_drew ?_ | refine blk_alloc ?_ _)); exact BK1.out) hb_); clear BK1; have BK1 := bk2_; clear bk2_; have bk2_ := Aside0.mk (blk_below (g := gb2) (o := .cells #[.slice B0 ys.length d0, .slice B1 ys2.length d1] 24 (0, 0)) (by (with_reducible repeat (first | refine blk_drewN ?_ _ | refine blk_drew ?_ | refine blk_alloc ?_ _)); exact BK2.out) hb_); clear BK2; have BK2 := bk2_; clear bk2_; have bk2_ := Aside0.mk (blk_below (g := gb3) (o := .cells #[.slice C0 zs.length g0, .slice C1 zs2.length g1] 24 (0, 0)) (by (with_reducible repeat (first | refine blk_drewN ?_ _ | refine blk_drew ?_ | refine blk_alloc ?_ _)); exact BK3.out) hb_); clear BK3; have BK3 := bk2_; clear bk2_; clear HB; have HB := tHB_; clear tHB_; (try clear hcz1_0 hcz1_1 hcz2_0 hcz2_1 hcz3_0 hcz3_1); (try clear hb_); clear R0 R1)
    | ((with_reducible refine gate_dst (N := 7) rfl ?_); have HLT1 := Aside0.mk (blk_lt BK1.out); have HLT2 := Aside0.mk (blk_lt BK2.out); have HLT3 := Aside0.mk (blk_lt BK3.out); refine box_event ?hg (N := 7) ?hd (cs := #[.slice none 0 0, .slice none 0 0]) (t := 24) ?hr ?_; (case hd => rfl); (case hg => rfl); (case hr => first | (go_simp; done) | (go_simp; rfl)); intro gb4 hg_ wb4 hbox hb_; have GE4 := Aside0.mk ((by rw [hg_]; exact (below_size (by repeat (first | (with_reducible first | exact HB.out | apply below_alloc | apply pw_below_drewN | apply below_drew1 | apply below_drew) | exact HB.out)))) : w.heap.size ≤ gb4); have tHB_ := Aside0.mk (below_step (by repeat (first | (with_reducible first | exact HB.out | apply below_alloc | apply pw_below_drewN | apply below_drew1 | apply below_drew) | exact HB.out)) hb_); have bk2_ := Aside0.mk (blk_below (g := gb1) (o := .cells #[.slice A0 xs.length c0, .slice A1 xs2.length c1] 24 (0, 0)) (by (with_reducible repeat (first | refine blk_drewN ?_ _ | refine blk_drew ?_ | refine blk_alloc ?_ _)); exact BK1.out) hb_); clear BK1; have BK1 := bk2_; clear bk2_; have bk2_ := Aside0.mk (blk_below (g := gb2) (o := .cells #[.slice B0 ys.length d0, .slice B1 ys2.length d1] 24 (0, 0)) (by (with_reducible repeat (first | refine blk_drewN ?_ _ | refine blk_drew ?_ | refine blk_alloc ?_ _)); exact BK2.out) hb_); clear BK2; have BK2 := bk2_; clear bk2_; have bk2_ := Aside0.mk (blk_below (g := gb3) (o := .cells #[.slice C0 zs.length g0, .slice C1 zs2.length g1] 24 (0, 0)) (by (with_reducible repeat (first | refine blk_drewN ?_ _ | refine blk_drew ?_ | refine blk_alloc ?_ _)); exact BK3.out) hb_); clear BK3; have BK3 := bk2_; clear bk2_; clear HB; have HB := tHB_; clear tHB_; have BK4 := Aside0.mk hbox; have HG4 := Aside0.mk hg_; have DB4 := Aside0.mk hb_; clear hbox hg_ hb_; have hcz1_0 := (blk_cell BK1.out 0).trans (show (#[.slice A0 xs.length c0, .slice A1 xs2.length c1] : Array Value)[0]? = some (.slice A0 xs.length c0) from rfl); have hfz1_0 := blk_frozen BK1.out 0; have hcz1_1 := (blk_cell BK1.out 1).trans (show (#[.slice A0 xs.length c0, .slice A1 xs2.length c1] : Array Value)[1]? = some (.slice A1 xs2.length c1) from rfl); have hfz1_1 := blk_frozen BK1.out 1; have hcz2_0 := (blk_cell BK2.out 0).trans (show (#[.slice B0 ys.length d0, .slice B1 ys2.length d1] : Array Value)[0]? = some (.slice B0 ys.length d0) from rfl); have hfz2_0 := blk_frozen BK2.out 0; have hcz2_1 := (blk_cell BK2.out 1).trans (show (#[.slice B0 ys.length d0, .slice B1 ys2.length d1] : Array Value)[1]? = some (.slice B1 ys2.length d1) from rfl); have hfz2_1 := blk_frozen BK2.out 1; have hcz3_0 := (blk_cell BK3.out 0).trans (show (#[.slice C0 zs.length g0, .slice C1 zs2.length g1] : Array Value)[0]? = some (.slice C0 zs.length g0) from rfl); have hfz3_0 := blk_frozen BK3.out 0; have hcz3_1 := (blk_cell BK3.out 1).trans (show (#[.slice C0 zs.length g0, .slice C1 zs2.length g1] : Array Value)[1]? = some (.slice C1 zs2.length g1) from rfl); have hfz3_1 := blk_frozen BK3.out 1; have hcz4_0 := (blk_cell BK4.out 0).trans (show (#[.slice none 0 0, .slice none 0 0] : Array Value)[0]? = some (.slice none 0 0) from rfl); have hfz4_0 := blk_frozen BK4.out 0; have hcz4_1 := (blk_cell BK4.out 1).trans (show (#[.slice none 0 0, .slice none 0 0] : Array Value)[1]? = some (.slice none 0 0) from rfl); have hfz4_1 := blk_frozen BK4.out 1))
  have bk := blk_put (cs' := #[.slice F0 m.length f0, .slice F1 m2.length f1]) (blk_put (cs' := #[.slice F0 m.length f0, .slice none 0 0]) BK4.out 0 (.slice F0 m.length f0) rfl) 1 (.slice F1 m2.length f1) rfl
  have hne1 : gb1 ≠ gb4 := by rw [HG4.out]; exact Nat.ne_of_lt (HLT1.out)
  have bk1 := blk_far (p := ⟨gb4, 1, none⟩) (blk_far (p := ⟨gb4, 0, none⟩) BK1.out hne1 (.slice F0 m.length f0)) hne1 (.slice F1 m2.length f1)
  have hne2 : gb2 ≠ gb4 := by rw [HG4.out]; exact Nat.ne_of_lt (HLT2.out)
  have bk2 := blk_far (p := ⟨gb4, 1, none⟩) (blk_far (p := ⟨gb4, 0, none⟩) BK2.out hne2 (.slice F0 m.length f0)) hne2 (.slice F1 m2.length f1)
  have hne3 : gb3 ≠ gb4 := by rw [HG4.out]; exact Nat.ne_of_lt (HLT3.out)
  have bk3 := blk_far (p := ⟨gb4, 1, none⟩) (blk_far (p := ⟨gb4, 0, none⟩) BK3.out hne3 (.slice F0 m.length f0)) hne3 (.slice F1 m2.length f1)
  have D := below_set (g := gb4) (j := 1) (v := .slice F1 m2.length f1) (below_set (g := gb4) (j := 0) (v := .slice F0 m.length f0) DB4.out (Nat.le_of_eq HG4.out.symm)) (Nat.le_of_eq HG4.out.symm)
  have HV := Aside0.mk (below_set (g := gb4) (j := 1) (v := .slice F1 m2.length f1) (below_set (g := gb4) (j := 0) (v := .slice F0 m.length f0) HB.out GE4.out) GE4.out)
  have q0 := Kd.C_below r0 D
  have q1 := Kd.C_below r1 D
  clear r0 r1
  clear HB D DB4 HG4 BK4 GE4 HLT1 HLT2 HLT3 hne1 hne2 hne3 BK1 BK2 BK3 GE1 GE2 GE3 HG1 HG2 HG3 DB1 DB2 DB3
  (try clear hcz1_0 hcz1_1 hcz2_0 hcz2_1 hcz3_0 hcz3_1 hcz4_0 hcz4_1 hfz1_0 hfz1_1 hfz2_0 hfz2_1 hfz3_0 hfz3_1 hfz4_0 hfz4_1)
  generalize (wb4.setCell ⟨gb4, 0, none⟩ (.slice F0 m.length f0)).setCell ⟨gb4, 1, none⟩ (.slice F1 m2.length f1) = V at *
  have HB := HV
  clear HV
  have BK4 := Aside0.mk bk
  clear bk
  have BK1 := Aside0.mk bk1
  clear bk1
  have BK2 := Aside0.mk bk2
  clear bk2
  have BK3 := Aside0.mk bk3
  clear bk3
  have Hm0 := Aside0.mk q0
  clear q0
  have Hm1 := Aside0.mk q1
  clear q1
  have Km0 := Aside0.mk k0
  clear k0
  have Km1 := Aside0.mk k1
  clear k1
  have HV := Aside0.mk (Below.refl V.heap.size V)
  have hcz1_0 := (blk_cell BK1.out 0).trans (show (#[.slice A0 xs.length c0, .slice A1 xs2.length c1] : Array Value)[0]? = some (.slice A0 xs.length c0) from rfl)
  have hcz1_1 := (blk_cell BK1.out 1).trans (show (#[.slice A0 xs.length c0, .slice A1 xs2.length c1] : Array Value)[1]? = some (.slice A1 xs2.length c1) from rfl)
  have hcz2_0 := (blk_cell BK2.out 0).trans (show (#[.slice B0 ys.length d0, .slice B1 ys2.length d1] : Array Value)[0]? = some (.slice B0 ys.length d0) from rfl)
  have hcz2_1 := (blk_cell BK2.out 1).trans (show (#[.slice B0 ys.length d0, .slice B1 ys2.length d1] : Array Value)[1]? = some (.slice B1 ys2.length d1) from rfl)
  have hcz3_0 := (blk_cell BK3.out 0).trans (show (#[.slice C0 zs.length g0, .slice C1 zs2.length g1] : Array Value)[0]? = some (.slice C0 zs.length g0) from rfl)
  have hcz3_1 := (blk_cell BK3.out 1).trans (show (#[.slice C0 zs.length g0, .slice C1 zs2.length g1] : Array Value)[1]? = some (.slice C1 zs2.length g1) from rfl)
  have hcz4_0 := (blk_cell BK4.out 0).trans (show (#[.slice F0 m.length f0, .slice F1 m2.length f1] : Array Value)[0]? = some (.slice F0 m.length f0) from rfl)
  have hcz4_1 := (blk_cell BK4.out 1).trans (show (#[.slice F0 m.length f0, .slice F1 m2.length f1] : Array Value)[1]? = some (.slice F1 m2.length f1) from rfl)
  go_wp2_with (first
    | (go_at_call 13; (with_reducible refine (below_t xs xs2 m m2 La0.out La1.out _ _ _ _ _ _ _ _ _ _ Qam.out (by repeat (first | exact (Kd.C_below Ha0.out HB.out) | (with_reducible refine Kd.C_alloc ?_ _) | (with_reducible refine Kd.C_drewN ?_ _) | (with_reducible refine Kd.C_drew ?_))) (by repeat (first | exact (Kd.C_below Ha1.out HB.out) | (with_reducible refine Kd.C_alloc ?_ _) | (with_reducible refine Kd.C_drewN ?_ _) | (with_reducible refine Kd.C_drew ?_))) (by repeat (first | exact (Kd.C_below Hm0.out HV.out) | (with_reducible refine Kd.C_alloc ?_ _) | (with_reducible refine Kd.C_drewN ?_ _) | (with_reducible refine Kd.C_drew ?_))) (by repeat (first | exact (Kd.C_below Hm1.out HV.out) | (with_reducible refine Kd.C_alloc ?_ _) | (with_reducible refine Kd.C_drewN ?_ _) | (with_reducible refine Kd.C_drew ?_)))).mono ?_); rintro e wc ⟨rfl, hb_⟩; have tHB_ := Aside0.mk (below_step (by repeat (first | (with_reducible first | exact HB.out | apply below_alloc | apply pw_below_drewN | apply below_drew1 | apply below_drew) | exact HB.out)) hb_); have tHV_ := Aside0.mk (below_step (by repeat (first | (with_reducible first | exact HV.out | apply below_alloc | apply pw_below_drewN | apply below_drew1 | apply below_drew) | exact HV.out)) hb_); have bk2_ := Aside0.mk (blk_below (g := gb1) (o := .cells #[.slice A0 xs.length c0, .slice A1 xs2.length c1] 24 (0, 0)) (by (with_reducible repeat (first | refine blk_drewN ?_ _ | refine blk_drew ?_ | refine blk_alloc ?_ _)); exact BK1.out) hb_); clear BK1; have BK1 := bk2_; clear bk2_; have bk2_ := Aside0.mk (blk_below (g := gb2) (o := .cells #[.slice B0 ys.length d0, .slice B1 ys2.length d1] 24 (0, 0)) (by (with_reducible repeat (first | refine blk_drewN ?_ _ | refine blk_drew ?_ | refine blk_alloc ?_ _)); exact BK2.out) hb_); clear BK2; have BK2 := bk2_; clear bk2_; have bk2_ := Aside0.mk (blk_below (g := gb3) (o := .cells #[.slice C0 zs.length g0, .slice C1 zs2.length g1] 24 (0, 0)) (by (with_reducible repeat (first | refine blk_drewN ?_ _ | refine blk_drew ?_ | refine blk_alloc ?_ _)); exact BK3.out) hb_); clear BK3; have BK3 := bk2_; clear bk2_; have bk2_ := Aside0.mk (blk_below (g := gb4) (o := .cells #[.slice F0 m.length f0, .slice F1 m2.length f1] 24 (0, 0)) (by (with_reducible repeat (first | refine blk_drewN ?_ _ | refine blk_drew ?_ | refine blk_alloc ?_ _)); exact BK4.out) hb_); clear BK4; have BK4 := bk2_; clear bk2_; clear HB; have HB := tHB_; clear tHB_; clear HV; have HV := tHV_; clear tHV_; (try clear hcz1_0 hcz1_1 hcz2_0 hcz2_1 hcz3_0 hcz3_1 hcz4_0 hcz4_1); have hcz1_0 := (blk_cell BK1.out 0).trans (show (#[.slice A0 xs.length c0, .slice A1 xs2.length c1] : Array Value)[0]? = some (.slice A0 xs.length c0) from rfl); have hcz1_1 := (blk_cell BK1.out 1).trans (show (#[.slice A0 xs.length c0, .slice A1 xs2.length c1] : Array Value)[1]? = some (.slice A1 xs2.length c1) from rfl); have hcz2_0 := (blk_cell BK2.out 0).trans (show (#[.slice B0 ys.length d0, .slice B1 ys2.length d1] : Array Value)[0]? = some (.slice B0 ys.length d0) from rfl); have hcz2_1 := (blk_cell BK2.out 1).trans (show (#[.slice B0 ys.length d0, .slice B1 ys2.length d1] : Array Value)[1]? = some (.slice B1 ys2.length d1) from rfl); have hcz3_0 := (blk_cell BK3.out 0).trans (show (#[.slice C0 zs.length g0, .slice C1 zs2.length g1] : Array Value)[0]? = some (.slice C0 zs.length g0) from rfl); have hcz3_1 := (blk_cell BK3.out 1).trans (show (#[.slice C0 zs.length g0, .slice C1 zs2.length g1] : Array Value)[1]? = some (.slice C1 zs2.length g1) from rfl); have hcz4_0 := (blk_cell BK4.out 0).trans (show (#[.slice F0 m.length f0, .slice F1 m2.length f1] : Array Value)[0]? = some (.slice F0 m.length f0) from rfl); have hcz4_1 := (blk_cell BK4.out 1).trans (show (#[.slice F0 m.length f0, .slice F1 m2.length f1] : Array Value)[1]? = some (.slice F1 m2.length f1) from rfl); (try clear hb_))
    | (go_at_call 13; (with_reducible refine (below_t ys ys2 m m2 Lb0.out Lb1.out _ _ _ _ _ _ _ _ _ _ Qbm.out (by repeat (first | exact (Kd.C_below Hb0.out HB.out) | (with_reducible refine Kd.C_alloc ?_ _) | (with_reducible refine Kd.C_drewN ?_ _) | (with_reducible refine Kd.C_drew ?_))) (by repeat (first | exact (Kd.C_below Hb1.out HB.out) | (with_reducible refine Kd.C_alloc ?_ _) | (with_reducible refine Kd.C_drewN ?_ _) | (with_reducible refine Kd.C_drew ?_))) (by repeat (first | exact (Kd.C_below Hm0.out HV.out) | (with_reducible refine Kd.C_alloc ?_ _) | (with_reducible refine Kd.C_drewN ?_ _) | (with_reducible refine Kd.C_drew ?_))) (by repeat (first | exact (Kd.C_below Hm1.out HV.out) | (with_reducible refine Kd.C_alloc ?_ _) | (with_reducible refine Kd.C_drewN ?_ _) | (with_reducible refine Kd.C_drew ?_)))).mono ?_); rintro e wc ⟨rfl, hb_⟩; have tHB_ := Aside0.mk (below_step (by repeat (first | (with_reducible first | exact HB.out | apply below_alloc | apply pw_below_drewN | apply below_drew1 | apply below_drew) | exact HB.out)) hb_); have tHV_ := Aside0.mk (below_step (by repeat (first | (with_reducible first | exact HV.out | apply below_alloc | apply pw_below_drewN | apply below_drew1 | apply below_drew) | exact HV.out)) hb_); have bk2_ := Aside0.mk (blk_below (g := gb1) (o := .cells #[.slice A0 xs.length c0, .slice A1 xs2.length c1] 24 (0, 0)) (by (with_reducible repeat (first | refine blk_drewN ?_ _ | refine blk_drew ?_ | refine blk_alloc ?_ _)); exact BK1.out) hb_); clear BK1; have BK1 := bk2_; clear bk2_; have bk2_ := Aside0.mk (blk_below (g := gb2) (o := .cells #[.slice B0 ys.length d0, .slice B1 ys2.length d1] 24 (0, 0)) (by (with_reducible repeat (first | refine blk_drewN ?_ _ | refine blk_drew ?_ | refine blk_alloc ?_ _)); exact BK2.out) hb_); clear BK2; have BK2 := bk2_; clear bk2_; have bk2_ := Aside0.mk (blk_below (g := gb3) (o := .cells #[.slice C0 zs.length g0, .slice C1 zs2.length g1] 24 (0, 0)) (by (with_reducible repeat (first | refine blk_drewN ?_ _ | refine blk_drew ?_ | refine blk_alloc ?_ _)); exact BK3.out) hb_); clear BK3; have BK3 := bk2_; clear bk2_; have bk2_ := Aside0.mk (blk_below (g := gb4) (o := .cells #[.slice F0 m.length f0, .slice F1 m2.length f1] 24 (0, 0)) (by (with_reducible repeat (first | refine blk_drewN ?_ _ | refine blk_drew ?_ | refine blk_alloc ?_ _)); exact BK4.out) hb_); clear BK4; have BK4 := bk2_; clear bk2_; clear HB; have HB := tHB_; clear tHB_; clear HV; have HV := tHV_; clear tHV_; (try clear hcz1_0 hcz1_1 hcz2_0 hcz2_1 hcz3_0 hcz3_1 hcz4_0 hcz4_1); have hcz1_0 := (blk_cell BK1.out 0).trans (show (#[.slice A0 xs.length c0, .slice A1 xs2.length c1] : Array Value)[0]? = some (.slice A0 xs.length c0) from rfl); have hcz1_1 := (blk_cell BK1.out 1).trans (show (#[.slice A0 xs.length c0, .slice A1 xs2.length c1] : Array Value)[1]? = some (.slice A1 xs2.length c1) from rfl); have hcz2_0 := (blk_cell BK2.out 0).trans (show (#[.slice B0 ys.length d0, .slice B1 ys2.length d1] : Array Value)[0]? = some (.slice B0 ys.length d0) from rfl); have hcz2_1 := (blk_cell BK2.out 1).trans (show (#[.slice B0 ys.length d0, .slice B1 ys2.length d1] : Array Value)[1]? = some (.slice B1 ys2.length d1) from rfl); have hcz3_0 := (blk_cell BK3.out 0).trans (show (#[.slice C0 zs.length g0, .slice C1 zs2.length g1] : Array Value)[0]? = some (.slice C0 zs.length g0) from rfl); have hcz3_1 := (blk_cell BK3.out 1).trans (show (#[.slice C0 zs.length g0, .slice C1 zs2.length g1] : Array Value)[1]? = some (.slice C1 zs2.length g1) from rfl); have hcz4_0 := (blk_cell BK4.out 0).trans (show (#[.slice F0 m.length f0, .slice F1 m2.length f1] : Array Value)[0]? = some (.slice F0 m.length f0) from rfl); have hcz4_1 := (blk_cell BK4.out 1).trans (show (#[.slice F0 m.length f0, .slice F1 m2.length f1] : Array Value)[1]? = some (.slice F1 m2.length f1) from rfl); (try clear hb_))
    | (go_at_call 13; (with_reducible refine (below_t xs xs2 zs zs2 La0.out La1.out _ _ _ _ _ _ _ _ _ _ Qac.out (by repeat (first | exact (Kd.C_below Ha0.out HB.out) | (with_reducible refine Kd.C_alloc ?_ _) | (with_reducible refine Kd.C_drewN ?_ _) | (with_reducible refine Kd.C_drew ?_))) (by repeat (first | exact (Kd.C_below Ha1.out HB.out) | (with_reducible refine Kd.C_alloc ?_ _) | (with_reducible refine Kd.C_drewN ?_ _) | (with_reducible refine Kd.C_drew ?_))) (by repeat (first | exact (Kd.C_below Hc0.out HB.out) | (with_reducible refine Kd.C_alloc ?_ _) | (with_reducible refine Kd.C_drewN ?_ _) | (with_reducible refine Kd.C_drew ?_))) (by repeat (first | exact (Kd.C_below Hc1.out HB.out) | (with_reducible refine Kd.C_alloc ?_ _) | (with_reducible refine Kd.C_drewN ?_ _) | (with_reducible refine Kd.C_drew ?_)))).mono ?_); rintro e wc ⟨rfl, hb_⟩; have tHB_ := Aside0.mk (below_step (by repeat (first | (with_reducible first | exact HB.out | apply below_alloc | apply pw_below_drewN | apply below_drew1 | apply below_drew) | exact HB.out)) hb_); have tHV_ := Aside0.mk (below_step (by repeat (first | (with_reducible first | exact HV.out | apply below_alloc | apply pw_below_drewN | apply below_drew1 | apply below_drew) | exact HV.out)) hb_); have bk2_ := Aside0.mk (blk_below (g := gb1) (o := .cells #[.slice A0 xs.length c0, .slice A1 xs2.length c1] 24 (0, 0)) (by (with_reducible repeat (first | refine blk_drewN ?_ _ | refine blk_drew ?_ | refine blk_alloc ?_ _)); exact BK1.out) hb_); clear BK1; have BK1 := bk2_; clear bk2_; have bk2_ := Aside0.mk (blk_below (g := gb2) (o := .cells #[.slice B0 ys.length d0, .slice B1 ys2.length d1] 24 (0, 0)) (by (with_reducible repeat (first | refine blk_drewN ?_ _ | refine blk_drew ?_ | refine blk_alloc ?_ _)); exact BK2.out) hb_); clear BK2; have BK2 := bk2_; clear bk2_; have bk2_ := Aside0.mk (blk_below (g := gb3) (o := .cells #[.slice C0 zs.length g0, .slice C1 zs2.length g1] 24 (0, 0)) (by (with_reducible repeat (first | refine blk_drewN ?_ _ | refine blk_drew ?_ | refine blk_alloc ?_ _)); exact BK3.out) hb_); clear BK3; have BK3 := bk2_; clear bk2_; have bk2_ := Aside0.mk (blk_below (g := gb4) (o := .cells #[.slice F0 m.length f0, .slice F1 m2.length f1] 24 (0, 0)) (by (with_reducible repeat (first | refine blk_drewN ?_ _ | refine blk_drew ?_ | refine blk_alloc ?_ _)); exact BK4.out) hb_); clear BK4; have BK4 := bk2_; clear bk2_; clear HB; have HB := tHB_; clear tHB_; clear HV; have HV := tHV_; clear tHV_; (try clear hcz1_0 hcz1_1 hcz2_0 hcz2_1 hcz3_0 hcz3_1 hcz4_0 hcz4_1); have hcz1_0 := (blk_cell BK1.out 0).trans (show (#[.slice A0 xs.length c0, .slice A1 xs2.length c1] : Array Value)[0]? = some (.slice A0 xs.length c0) from rfl); have hcz1_1 := (blk_cell BK1.out 1).trans (show (#[.slice A0 xs.length c0, .slice A1 xs2.length c1] : Array Value)[1]? = some (.slice A1 xs2.length c1) from rfl); have hcz2_0 := (blk_cell BK2.out 0).trans (show (#[.slice B0 ys.length d0, .slice B1 ys2.length d1] : Array Value)[0]? = some (.slice B0 ys.length d0) from rfl); have hcz2_1 := (blk_cell BK2.out 1).trans (show (#[.slice B0 ys.length d0, .slice B1 ys2.length d1] : Array Value)[1]? = some (.slice B1 ys2.length d1) from rfl); have hcz3_0 := (blk_cell BK3.out 0).trans (show (#[.slice C0 zs.length g0, .slice C1 zs2.length g1] : Array Value)[0]? = some (.slice C0 zs.length g0) from rfl); have hcz3_1 := (blk_cell BK3.out 1).trans (show (#[.slice C0 zs.length g0, .slice C1 zs2.length g1] : Array Value)[1]? = some (.slice C1 zs2.length g1) from rfl); have hcz4_0 := (blk_cell BK4.out 0).trans (show (#[.slice F0 m.length f0, .slice F1 m2.length f1] : Array Value)[0]? = some (.slice F0 m.length f0) from rfl); have hcz4_1 := (blk_cell BK4.out 1).trans (show (#[.slice F0 m.length f0, .slice F1 m2.length f1] : Array Value)[1]? = some (.slice F1 m2.length f1) from rfl); (try clear hb_))
    | (go_at_call 13; (with_reducible refine (below_t ys ys2 zs zs2 Lb0.out Lb1.out _ _ _ _ _ _ _ _ _ _ Qbc.out (by repeat (first | exact (Kd.C_below Hb0.out HB.out) | (with_reducible refine Kd.C_alloc ?_ _) | (with_reducible refine Kd.C_drewN ?_ _) | (with_reducible refine Kd.C_drew ?_))) (by repeat (first | exact (Kd.C_below Hb1.out HB.out) | (with_reducible refine Kd.C_alloc ?_ _) | (with_reducible refine Kd.C_drewN ?_ _) | (with_reducible refine Kd.C_drew ?_))) (by repeat (first | exact (Kd.C_below Hc0.out HB.out) | (with_reducible refine Kd.C_alloc ?_ _) | (with_reducible refine Kd.C_drewN ?_ _) | (with_reducible refine Kd.C_drew ?_))) (by repeat (first | exact (Kd.C_below Hc1.out HB.out) | (with_reducible refine Kd.C_alloc ?_ _) | (with_reducible refine Kd.C_drewN ?_ _) | (with_reducible refine Kd.C_drew ?_)))).mono ?_); rintro e wc ⟨rfl, hb_⟩; have tHB_ := Aside0.mk (below_step (by repeat (first | (with_reducible first | exact HB.out | apply below_alloc | apply pw_below_drewN | apply below_drew1 | apply below_drew) | exact HB.out)) hb_); have tHV_ := Aside0.mk (below_step (by repeat (first | (with_reducible first | exact HV.out | apply below_alloc | apply pw_below_drewN | apply below_drew1 | apply below_drew) | exact HV.out)) hb_); have bk2_ := Aside0.mk (blk_below (g := gb1) (o := .cells #[.slice A0 xs.length c0, .slice A1 xs2.length c1] 24 (0, 0)) (by (with_reducible repeat (first | refine blk_drewN ?_ _ | refine blk_drew ?_ | refine blk_alloc ?_ _)); exact BK1.out) hb_); clear BK1; have BK1 := bk2_; clear bk2_; have bk2_ := Aside0.mk (blk_below (g := gb2) (o := .cells #[.slice B0 ys.length d0, .slice B1 ys2.length d1] 24 (0, 0)) (by (with_reducible repeat (first | refine blk_drewN ?_ _ | refine blk_drew ?_ | refine blk_alloc ?_ _)); exact BK2.out) hb_); clear BK2; have BK2 := bk2_; clear bk2_; have bk2_ := Aside0.mk (blk_below (g := gb3) (o := .cells #[.slice C0 zs.length g0, .slice C1 zs2.length g1] 24 (0, 0)) (by (with_reducible repeat (first | refine blk_drewN ?_ _ | refine blk_drew ?_ | refine blk_alloc ?_ _)); exact BK3.out) hb_); clear BK3; have BK3 := bk2_; clear bk2_; have bk2_ := Aside0.mk (blk_below (g := gb4) (o := .cells #[.slice F0 m.length f0, .slice F1 m2.length f1] 24 (0, 0)) (by (with_reducible repeat (first | refine blk_drewN ?_ _ | refine blk_drew ?_ | refine blk_alloc ?_ _)); exact BK4.out) hb_); clear BK4; have BK4 := bk2_; clear bk2_; clear HB; have HB := tHB_; clear tHB_; clear HV; have HV := tHV_; clear tHV_; (try clear hcz1_0 hcz1_1 hcz2_0 hcz2_1 hcz3_0 hcz3_1 hcz4_0 hcz4_1); have hcz1_0 := (blk_cell BK1.out 0).trans (show (#[.slice A0 xs.length c0, .slice A1 xs2.length c1] : Array Value)[0]? = some (.slice A0 xs.length c0) from rfl); have hcz1_1 := (blk_cell BK1.out 1).trans (show (#[.slice A0 xs.length c0, .slice A1 xs2.length c1] : Array Value)[1]? = some (.slice A1 xs2.length c1) from rfl); have hcz2_0 := (blk_cell BK2.out 0).trans (show (#[.slice B0 ys.length d0, .slice B1 ys2.length d1] : Array Value)[0]? = some (.slice B0 ys.length d0) from rfl); have hcz2_1 := (blk_cell BK2.out 1).trans (show (#[.slice B0 ys.length d0, .slice B1 ys2.length d1] : Array Value)[1]? = some (.slice B1 ys2.length d1) from rfl); have hcz3_0 := (blk_cell BK3.out 0).trans (show (#[.slice C0 zs.length g0, .slice C1 zs2.length g1] : Array Value)[0]? = some (.slice C0 zs.length g0) from rfl); have hcz3_1 := (blk_cell BK3.out 1).trans (show (#[.slice C0 zs.length g0, .slice C1 zs2.length g1] : Array Value)[1]? = some (.slice C1 zs2.length g1) from rfl); have hcz4_0 := (blk_cell BK4.out 0).trans (show (#[.slice F0 m.length f0, .slice F1 m2.length f1] : Array Value)[0]? = some (.slice F0 m.length f0) from rfl); have hcz4_1 := (blk_cell BK4.out 1).trans (show (#[.slice F0 m.length f0, .slice F1 m2.length f1] : Array Value)[1]? = some (.slice F1 m2.length f1) from rfl); (try clear hb_))
    | (go_at_call 13; (with_reducible refine (below_t m m2 zs zs2 Lm0.out Lm1.out _ _ _ _ _ _ _ _ _ _ Qmc.out (by repeat (first | exact (Kd.C_below Hm0.out HV.out) | (with_reducible refine Kd.C_alloc ?_ _) | (with_reducible refine Kd.C_drewN ?_ _) | (with_reducible refine Kd.C_drew ?_))) (by repeat (first | exact (Kd.C_below Hm1.out HV.out) | (with_reducible refine Kd.C_alloc ?_ _) | (with_reducible refine Kd.C_drewN ?_ _) | (with_reducible refine Kd.C_drew ?_))) (by repeat (first | exact (Kd.C_below Hc0.out HB.out) | (with_reducible refine Kd.C_alloc ?_ _) | (with_reducible refine Kd.C_drewN ?_ _) | (with_reducible refine Kd.C_drew ?_))) (by repeat (first | exact (Kd.C_below Hc1.out HB.out) | (with_reducible refine Kd.C_alloc ?_ _) | (with_reducible refine Kd.C_drewN ?_ _) | (with_reducible refine Kd.C_drew ?_)))).mono ?_); rintro e wc ⟨rfl, hb_⟩; have tHB_ := Aside0.mk (below_step (by repeat (first | (with_reducible first | exact HB.out | apply below_alloc | apply pw_below_drewN | apply below_drew1 | apply below_drew) | exact HB.out)) hb_); have tHV_ := Aside0.mk (below_step (by repeat (first | (with_reducible first | exact HV.out | apply below_alloc | apply pw_below_drewN | apply below_drew1 | apply below_drew) | exact HV.out)) hb_); have bk2_ := Aside0.mk (blk_below (g := gb1) (o := .cells #[.slice A0 xs.length c0, .slice A1 xs2.length c1] 24 (0, 0)) (by (with_reducible repeat (first | refine blk_drewN ?_ _ | refine blk_drew ?_ | refine blk_alloc ?_ _)); exact BK1.out) hb_); clear BK1; have BK1 := bk2_; clear bk2_; have bk2_ := Aside0.mk (blk_below (g := gb2) (o := .cells #[.slice B0 ys.length d0, .slice B1 ys2.length d1] 24 (0, 0)) (by (with_reducible repeat (first | refine blk_drewN ?_ _ | refine blk_drew ?_ | refine blk_alloc ?_ _)); exact BK2.out) hb_); clear BK2; have BK2 := bk2_; clear bk2_; have bk2_ := Aside0.mk (blk_below (g := gb3) (o := .cells #[.slice C0 zs.length g0, .slice C1 zs2.length g1] 24 (0, 0)) (by (with_reducible repeat (first | refine blk_drewN ?_ _ | refine blk_drew ?_ | refine blk_alloc ?_ _)); exact BK3.out) hb_); clear BK3; have BK3 := bk2_; clear bk2_; have bk2_ := Aside0.mk (blk_below (g := gb4) (o := .cells #[.slice F0 m.length f0, .slice F1 m2.length f1] 24 (0, 0)) (by (with_reducible repeat (first | refine blk_drewN ?_ _ | refine blk_drew ?_ | refine blk_alloc ?_ _)); exact BK4.out) hb_); clear BK4; have BK4 := bk2_; clear bk2_; clear HB; have HB := tHB_; clear tHB_; clear HV; have HV := tHV_; clear tHV_; (try clear hcz1_0 hcz1_1 hcz2_0 hcz2_1 hcz3_0 hcz3_1 hcz4_0 hcz4_1); have hcz1_0 := (blk_cell BK1.out 0).trans (show (#[.slice A0 xs.length c0, .slice A1 xs2.length c1] : Array Value)[0]? = some (.slice A0 xs.length c0) from rfl); have hcz1_1 := (blk_cell BK1.out 1).trans (show (#[.slice A0 xs.length c0, .slice A1 xs2.length c1] : Array Value)[1]? = some (.slice A1 xs2.length c1) from rfl); have hcz2_0 := (blk_cell BK2.out 0).trans (show (#[.slice B0 ys.length d0, .slice B1 ys2.length d1] : Array Value)[0]? = some (.slice B0 ys.length d0) from rfl); have hcz2_1 := (blk_cell BK2.out 1).trans (show (#[.slice B0 ys.length d0, .slice B1 ys2.length d1] : Array Value)[1]? = some (.slice B1 ys2.length d1) from rfl); have hcz3_0 := (blk_cell BK3.out 0).trans (show (#[.slice C0 zs.length g0, .slice C1 zs2.length g1] : Array Value)[0]? = some (.slice C0 zs.length g0) from rfl); have hcz3_1 := (blk_cell BK3.out 1).trans (show (#[.slice C0 zs.length g0, .slice C1 zs2.length g1] : Array Value)[1]? = some (.slice C1 zs2.length g1) from rfl); have hcz4_0 := (blk_cell BK4.out 0).trans (show (#[.slice F0 m.length f0, .slice F1 m2.length f1] : Array Value)[0]? = some (.slice F0 m.length f0) from rfl); have hcz4_1 := (blk_cell BK4.out 1).trans (show (#[.slice F0 m.length f0, .slice F1 m2.length f1] : Array Value)[1]? = some (.slice F1 m2.length f1) from rfl); (try clear hb_))
    | (go_at_call 15; (with_reducible refine (same_t m m2 xs xs2 Lm0.out Lm1.out _ _ _ _ _ _ _ _ _ _ Sma.out (by repeat (first | exact (Kd.C_below Hm0.out HV.out) | (with_reducible refine Kd.C_alloc ?_ _) | (with_reducible refine Kd.C_drewN ?_ _) | (with_reducible refine Kd.C_drew ?_))) (by repeat (first | exact (Kd.C_below Hm1.out HV.out) | (with_reducible refine Kd.C_alloc ?_ _) | (with_reducible refine Kd.C_drewN ?_ _) | (with_reducible refine Kd.C_drew ?_))) (by repeat (first | exact (Kd.C_below Ha0.out HB.out) | (with_reducible refine Kd.C_alloc ?_ _) | (with_reducible refine Kd.C_drewN ?_ _) | (with_reducible refine Kd.C_drew ?_))) (by repeat (first | exact (Kd.C_below Ha1.out HB.out) | (with_reducible refine Kd.C_alloc ?_ _) | (with_reducible refine Kd.C_drewN ?_ _) | (with_reducible refine Kd.C_drew ?_))) Km0.out Km1.out Ka0.out Ka1.out).mono ?_); rintro e wc ⟨rfl, hb_⟩; have tHB_ := Aside0.mk (below_step (by repeat (first | (with_reducible first | exact HB.out | apply below_alloc | apply pw_below_drewN | apply below_drew1 | apply below_drew) | exact HB.out)) hb_); have tHV_ := Aside0.mk (below_step (by repeat (first | (with_reducible first | exact HV.out | apply below_alloc | apply pw_below_drewN | apply below_drew1 | apply below_drew) | exact HV.out)) hb_); have bk2_ := Aside0.mk (blk_below (g := gb1) (o := .cells #[.slice A0 xs.length c0, .slice A1 xs2.length c1] 24 (0, 0)) (by (with_reducible repeat (first | refine blk_drewN ?_ _ | refine blk_drew ?_ | refine blk_alloc ?_ _)); exact BK1.out) hb_); clear BK1; have BK1 := bk2_; clear bk2_; have bk2_ := Aside0.mk (blk_below (g := gb2) (o := .cells #[.slice B0 ys.length d0, .slice B1 ys2.length d1] 24 (0, 0)) (by (with_reducible repeat (first | refine blk_drewN ?_ _ | refine blk_drew ?_ | refine blk_alloc ?_ _)); exact BK2.out) hb_); clear BK2; have BK2 := bk2_; clear bk2_; have bk2_ := Aside0.mk (blk_below (g := gb3) (o := .cells #[.slice C0 zs.length g0, .slice C1 zs2.length g1] 24 (0, 0)) (by (with_reducible repeat (first | refine blk_drewN ?_ _ | refine blk_drew ?_ | refine blk_alloc ?_ _)); exact BK3.out) hb_); clear BK3; have BK3 := bk2_; clear bk2_; have bk2_ := Aside0.mk (blk_below (g := gb4) (o := .cells #[.slice F0 m.length f0, .slice F1 m2.length f1] 24 (0, 0)) (by (with_reducible repeat (first | refine blk_drewN ?_ _ | refine blk_drew ?_ | refine blk_alloc ?_ _)); exact BK4.out) hb_); clear BK4; have BK4 := bk2_; clear bk2_; clear HB; have HB := tHB_; clear tHB_; clear HV; have HV := tHV_; clear tHV_; (try clear hcz1_0 hcz1_1 hcz2_0 hcz2_1 hcz3_0 hcz3_1 hcz4_0 hcz4_1); have hcz1_0 := (blk_cell BK1.out 0).trans (show (#[.slice A0 xs.length c0, .slice A1 xs2.length c1] : Array Value)[0]? = some (.slice A0 xs.length c0) from rfl); have hcz1_1 := (blk_cell BK1.out 1).trans (show (#[.slice A0 xs.length c0, .slice A1 xs2.length c1] : Array Value)[1]? = some (.slice A1 xs2.length c1) from rfl); have hcz2_0 := (blk_cell BK2.out 0).trans (show (#[.slice B0 ys.length d0, .slice B1 ys2.length d1] : Array Value)[0]? = some (.slice B0 ys.length d0) from rfl); have hcz2_1 := (blk_cell BK2.out 1).trans (show (#[.slice B0 ys.length d0, .slice B1 ys2.length d1] : Array Value)[1]? = some (.slice B1 ys2.length d1) from rfl); have hcz3_0 := (blk_cell BK3.out 0).trans (show (#[.slice C0 zs.length g0, .slice C1 zs2.length g1] : Array Value)[0]? = some (.slice C0 zs.length g0) from rfl); have hcz3_1 := (blk_cell BK3.out 1).trans (show (#[.slice C0 zs.length g0, .slice C1 zs2.length g1] : Array Value)[1]? = some (.slice C1 zs2.length g1) from rfl); have hcz4_0 := (blk_cell BK4.out 0).trans (show (#[.slice F0 m.length f0, .slice F1 m2.length f1] : Array Value)[0]? = some (.slice F0 m.length f0) from rfl); have hcz4_1 := (blk_cell BK4.out 1).trans (show (#[.slice F0 m.length f0, .slice F1 m2.length f1] : Array Value)[1]? = some (.slice F1 m2.length f1) from rfl); (try clear hb_)))
  (try clear hcz1_0 hcz1_1 hcz2_0 hcz2_1 hcz3_0 hcz3_1 hcz4_0 hcz4_1)
  refine startB_ (n := 14) #[false, false, false, false, false, false, false, false, false, false, false, false, false, false] (by kernel_rfl) rfl rfl (fun W0 D0 => ?_)
  have E0 := Aside0.mk (Below.refl W0.heap.size W0)
  have BL1 := Aside0.mk (blk_below BK1.out D0)
  have BL2 := Aside0.mk (blk_below BK2.out D0)
  have BL3 := Aside0.mk (blk_below BK3.out D0)
  have BL4 := Aside0.mk (blk_below BK4.out D0)
  have XHB := Aside0.mk (below_step HB.out D0)
  have XHV := Aside0.mk (below_step HV.out D0)
  refine take_ (i := 0) (N := some 82) (v := ?_) (a' := ?_) #[true, false, false, false, false, false, false, false, false, false, false, false, false, false] rfl rfl (by kernel_rfl) (fun _ _ _ h => h) (Or.inl ⟨by rfl, ?_⟩) (Below.refl _ _) ?_ ?_
  rotate_left
  · intro w' hS
    have hd_ := below_step E0.out hS
    have hy0 := (blk_cell (blk_below BL4.out hd_) 0).trans (show (#[.slice F0 m.length f0, .slice F1 m2.length f1] : Array Value)[0]? = some (.slice F0 m.length f0) from rfl)
    have hy1 := (blk_cell (blk_below BL4.out hd_) 1).trans (show (#[.slice F0 m.length f0, .slice F1 m2.length f1] : Array Value)[1]? = some (.slice F1 m2.length f1) from rfl)
    go_simp
    with_reducible rfl
  rotate_left
  · simp only [Act.put, List.setIfInBounds_toArray, List.set_cons_zero, List.set_cons_succ, i64_w, i32_w]
    rfl
  refine take_ (i := 2) (N := some 84) (v := ?_) (a' := ?_) #[true, false, true, false, false, false, false, false, false, false, false, false, false, false] rfl rfl (by kernel_rfl) (fun _ _ _ h => h) (Or.inl ⟨by rfl, ?_⟩) (Below.refl _ _) ?_ ?_
  rotate_left
  · intro w' hS
    have hd_ := below_step E0.out hS
    have hy0 := (blk_cell (blk_below BL1.out hd_) 0).trans (show (#[.slice A0 xs.length c0, .slice A1 xs2.length c1] : Array Value)[0]? = some (.slice A0 xs.length c0) from rfl)
    have hy1 := (blk_cell (blk_below BL1.out hd_) 1).trans (show (#[.slice A0 xs.length c0, .slice A1 xs2.length c1] : Array Value)[1]? = some (.slice A1 xs2.length c1) from rfl)
    go_simp
    with_reducible rfl
  rotate_left
  · simp only [Act.put, List.setIfInBounds_toArray, List.set_cons_zero, List.set_cons_succ, i64_w, i32_w]
    rfl
  refine one_ (i := 1) (N := some 83) #[true, true, true, false, false, false, false, false, false, false, false, false, false, false] rfl rfl (by kernel_rfl) (by decide) (fun K hK => ?_)
  refine goes_ Try.func17 (by kernel_rfl) rfl #[.agg #[.slice F0 m.length f0, .slice F1 m2.length f1]] (by rfl) rfl rfl (by (try simp only [List.map_toArray, List.map_cons, List.map_nil]); first | done | rfl) ?_
  with_reducible refine (height_t m m2 Lm0.out Lm1.out _ _ _ _ _ _ Tm.out (Kd.C_below (Kd.C_below Hm0.out XHV.out) E0.out) (Kd.C_below (Kd.C_below Hm1.out XHV.out) E0.out)).mono ?_
  rintro e W1 ⟨rfl, D1⟩
  refine ⟨_, rfl, ?_⟩
  have E1 := Aside0.mk (below_step E0.out D1)
  refine hK.out _ _ D1 (fun _ => behind_ D1 ?_)
  clear hK K
  refine norm_ (a' := ?_) ?_ ?_
  rotate_left
  · show Act.put _ (some 83) _ = _
    simp only [Act.put, List.setIfInBounds_toArray, List.set_cons_zero, List.set_cons_succ, i64_w, i32_w]
    rfl
  refine one_ (i := 3) (N := some 85) #[true, true, true, true, false, false, false, false, false, false, false, false, false, false] rfl rfl (by kernel_rfl) (by decide) (fun K hK => ?_)
  refine goes_ Try.func17 (by kernel_rfl) rfl #[.agg #[.slice A0 xs.length c0, .slice A1 xs2.length c1]] (by rfl) rfl rfl (by (try simp only [List.map_toArray, List.map_cons, List.map_nil]); first | done | rfl) ?_
  with_reducible refine (height_t xs xs2 La0.out La1.out _ _ _ _ _ _ Ta.out (Kd.C_below (Kd.C_below Ha0.out XHB.out) E1.out) (Kd.C_below (Kd.C_below Ha1.out XHB.out) E1.out)).mono ?_
  rintro e W2 ⟨rfl, D2⟩
  refine ⟨_, rfl, ?_⟩
  have E2 := Aside0.mk (below_step E1.out D2)
  refine hK.out _ _ D2 (fun _ => behind_ D2 ?_)
  clear hK K
  refine norm_ (a' := ?_) ?_ ?_
  rotate_left
  · show Act.put _ (some 85) _ = _
    simp only [Act.put, List.setIfInBounds_toArray, List.set_cons_zero, List.set_cons_succ, i64_w, i32_w]
    rfl
  refine pure_ (i := 4) (N := some 86) (v := ?_) (a' := ?_) #[true, true, true, true, true, false, false, false, false, false, false, false, false, false] rfl rfl (by kernel_rfl) (fun _ _ _ h => h) (Or.inl ⟨by rfl, ?_⟩) ?_ ?_
  rotate_left
  · intro w'
    go_simp
    with_reducible rfl
  rotate_left
  · simp only [Act.put, List.setIfInBounds_toArray, List.set_cons_zero, List.set_cons_succ, i64_w, i32_w]
    rfl
  refine pure_ (i := 5) (N := some 87) (v := ?_) (a' := ?_) #[true, true, true, true, true, true, false, false, false, false, false, false, false, false] rfl rfl (by kernel_rfl) (fun _ _ _ h => h) (Or.inl ⟨by rfl, ?_⟩) ?_ ?_
  rotate_left
  · intro w'
    go_simp
    with_reducible rfl
  rotate_left
  · simp only [Act.put, List.setIfInBounds_toArray, List.set_cons_zero, List.set_cons_succ, i64_w, i32_w]
    rfl
  refine take_ (i := 6) (N := some 88) (v := ?_) (a' := ?_) #[true, true, true, true, true, true, true, false, false, false, false, false, false, false] rfl rfl (by kernel_rfl) (fun _ _ _ h => h) (Or.inl ⟨by rfl, ?_⟩) (Below.refl _ _) ?_ ?_
  rotate_left
  · intro w' hS
    have hd_ := below_step E2.out hS
    have hy0 := (blk_cell (blk_below BL2.out hd_) 0).trans (show (#[.slice B0 ys.length d0, .slice B1 ys2.length d1] : Array Value)[0]? = some (.slice B0 ys.length d0) from rfl)
    have hy1 := (blk_cell (blk_below BL2.out hd_) 1).trans (show (#[.slice B0 ys.length d0, .slice B1 ys2.length d1] : Array Value)[1]? = some (.slice B1 ys2.length d1) from rfl)
    go_simp
    with_reducible rfl
  rotate_left
  · simp only [Act.put, List.setIfInBounds_toArray, List.set_cons_zero, List.set_cons_succ, i64_w, i32_w]
    rfl
  refine take_ (i := 7) (N := some 89) (v := ?_) (a' := ?_) #[true, true, true, true, true, true, true, true, false, false, false, false, false, false] rfl rfl (by kernel_rfl) (fun _ _ _ h => h) (Or.inl ⟨by rfl, ?_⟩) (Below.refl _ _) ?_ ?_
  rotate_left
  · intro w' hS
    have hd_ := below_step E2.out hS
    have hy0 := (blk_cell (blk_below BL1.out hd_) 0).trans (show (#[.slice A0 xs.length c0, .slice A1 xs2.length c1] : Array Value)[0]? = some (.slice A0 xs.length c0) from rfl)
    have hy1 := (blk_cell (blk_below BL1.out hd_) 1).trans (show (#[.slice A0 xs.length c0, .slice A1 xs2.length c1] : Array Value)[1]? = some (.slice A1 xs2.length c1) from rfl)
    go_simp
    with_reducible rfl
  rotate_left
  · simp only [Act.put, List.setIfInBounds_toArray, List.set_cons_zero, List.set_cons_succ, i64_w, i32_w]
    rfl
  refine one_ (i := 8) (N := some 90) #[true, true, true, true, true, true, true, true, true, false, false, false, false, false] rfl rfl (by kernel_rfl) (by decide) (fun K hK => ?_)
  refine goes_ Try.func13 (by kernel_rfl) rfl #[.agg #[.slice B0 ys.length d0, .slice B1 ys2.length d1], .agg #[.slice A0 xs.length c0, .slice A1 xs2.length c1]] (by rfl) rfl rfl (by (try simp only [List.map_toArray, List.map_cons, List.map_nil]); first | done | rfl) ?_
  with_reducible refine (below_t ys ys2 xs xs2 Lb0.out Lb1.out _ _ _ _ _ _ _ _ _ _ Qba.out (Kd.C_below (Kd.C_below Hb0.out XHB.out) E2.out) (Kd.C_below (Kd.C_below Hb1.out XHB.out) E2.out) (Kd.C_below (Kd.C_below Ha0.out XHB.out) E2.out) (Kd.C_below (Kd.C_below Ha1.out XHB.out) E2.out)).mono ?_
  rintro e W3 ⟨rfl, D3⟩
  refine ⟨_, rfl, ?_⟩
  have E3 := Aside0.mk (below_step E2.out D3)
  refine hK.out _ _ D3 (fun _ => behind_ D3 ?_)
  clear hK K
  refine norm_ (a' := ?_) ?_ ?_
  rotate_left
  · show Act.put _ (some 90) _ = _
    simp only [Act.put, List.setIfInBounds_toArray, List.set_cons_zero, List.set_cons_succ, i64_w, i32_w]
    rfl
  refine pure_ (i := 9) (N := some 91) (v := ?_) (a' := ?_) #[true, true, true, true, true, true, true, true, true, true, false, false, false, false] rfl rfl (by kernel_rfl) (fun _ _ _ h => h) (Or.inl ⟨by rfl, ?_⟩) ?_ ?_
  rotate_left
  · intro w'
    go_simp
    with_reducible rfl
  rotate_left
  · simp only [Act.put, List.setIfInBounds_toArray, List.set_cons_zero, List.set_cons_succ, i64_w, i32_w]
    rfl
  refine pure_ (i := 10) (N := some 92) (v := ?_) (a' := ?_) #[true, true, true, true, true, true, true, true, true, true, true, false, false, false] rfl rfl (by kernel_rfl) (fun _ _ _ h => h) (Or.inl ⟨by rfl, ?_⟩) ?_ ?_
  rotate_left
  · intro w'
    go_simp
    with_reducible rfl
  rotate_left
  · simp only [Act.put, List.setIfInBounds_toArray, List.set_cons_zero, List.set_cons_succ, i64_w, i32_w]
    rfl
  refine one_ (i := 11) (N := some 93) #[true, true, true, true, true, true, true, true, true, true, true, true, false, false] rfl rfl (by kernel_rfl) (by decide) (fun K hK => ?_)
  refine goes_ Try.func8 (by kernel_rfl) rfl #[] (by rfl) rfl rfl (by (try simp only [List.map_toArray, List.map_cons, List.map_nil]); first | done | rfl) ?_
  with_reducible refine (works_b _).mono ?_
  rintro e W4 ⟨rfl, D4⟩
  refine ⟨_, rfl, ?_⟩
  have E4 := Aside0.mk (below_step E3.out D4)
  refine hK.out _ _ D4 (fun _ => behind_ D4 ?_)
  clear hK K
  refine norm_ (a' := ?_) ?_ ?_
  rotate_left
  · show Act.put _ (some 93) _ = _
    simp only [Act.put, List.setIfInBounds_toArray, List.set_cons_zero, List.set_cons_succ, i64_w, i32_w]
    rfl
  refine pure_ (i := 12) (N := some 94) (v := ?_) (a' := ?_) #[true, true, true, true, true, true, true, true, true, true, true, true, true, false] rfl rfl (by kernel_rfl) (fun _ _ _ h => h) (Or.inl ⟨by rfl, ?_⟩) ?_ ?_
  rotate_left
  · intro w'
    go_simp
    with_reducible rfl
  rotate_left
  · simp only [Act.put, List.setIfInBounds_toArray, List.set_cons_zero, List.set_cons_succ, i64_w, i32_w]
    rfl
  refine pure_ (i := 13) (N := some 6) (v := ?_) (a' := ?_) #[true, true, true, true, true, true, true, true, true, true, true, true, true, true] rfl rfl (by kernel_rfl) (fun _ _ _ h => h) (Or.inl ⟨by rfl, ?_⟩) ?_ ?_
  rotate_left
  · intro w'
    go_simp
    with_reducible rfl
  rotate_left
  · simp only [Act.put, List.setIfInBounds_toArray, List.set_cons_zero, List.set_cons_succ, i64_w, i32_w]
    rfl
  refine done_ (by kernel_rfl) ?_
  go_wp2
  go_ret
  exact ⟨by first | rfl | (simp; done), below_step XHB.out E4.out⟩

theorem walk (xs xs2 ys ys2 zs zs2 : List Int) (A0 A1 B0 B1 C0 C1 : Option Addr) (c0 c1 d0 d1 g0 g1 : Nat) (w : World) (ha0 : Rd w A0 xs) (ha1 : Rd w A1 xs2) (hb0 : Rd w B0 ys) (hb1 : Rd w B1 ys2) (hc0 : Rd w C0 zs) (hc1 : Rd w C1 zs2) (ka0 : xs.length ≤ c0) (ka1 : xs2.length ≤ c1) (kb0 : ys.length ≤ d0) (kb1 : ys2.length ≤ d1) (kc0 : zs.length ≤ g0) (kc1 : zs2.length ≤ g1) :
    Calls Try.prog 4 #[.agg #[.slice A0 xs.length c0, .slice A1 xs2.length c1], .agg #[.slice B0 ys.length d0, .slice B1 ys2.length d1], .agg #[.slice C0 zs.length g0, .slice C1 zs2.length g1]] w fun e w' => e = .returned (.bool true) ∧ Below w.heap.size w w' := by
  by_cases ga : (xs.length > 5000 ∨ xs2.length > 5000)
  · exact least_large_a xs xs2 ys ys2 zs zs2 (decide_eq_true ga) A0 A1 B0 B1 C0 C1 c0 c1 d0 d1 g0 g1 w ha0 ha1 hb0 hb1 hc0 hc1 ka0 ka1 kb0 kb1 kc0 kc1
  by_cases gb : (ys.length > 5000 ∨ ys2.length > 5000)
  · exact least_large_b xs xs2 ys ys2 zs zs2 (decide_eq_false ga) (decide_eq_true gb) A0 A1 B0 B1 C0 C1 c0 c1 d0 d1 g0 g1 w ha0 ha1 hb0 hb1 hc0 hc1 ka0 ka1 kb0 kb1 kc0 kc1
  by_cases gc : (zs.length > 5000 ∨ zs2.length > 5000)
  · exact least_large_c xs xs2 ys ys2 zs zs2 (decide_eq_false ga) (decide_eq_false gb) (decide_eq_true gc) A0 A1 B0 B1 C0 C1 c0 c1 d0 d1 g0 g1 w ha0 ha1 hb0 hb1 hc0 hc1 ka0 ka1 kb0 kb1 kc0 kc1
  have la0 : xs.length ≤ 10000 := by omega
  have la1 : xs2.length ≤ 10000 := by omega
  have lb0 : ys.length ≤ 10000 := by omega
  have lb1 : ys2.length ≤ 10000 := by omega
  have qa := decide_eq_false ga
  have qb := decide_eq_false gb
  have qc := decide_eq_false gc
  by_cases hm : ys.length = xs.length ∧ ys2.length = xs2.length
  · obtain ⟨h1, h2⟩ := hm
    have em : mrg xs xs2 ys ys2 = (zm xs ys, zm xs2 ys2, true) := if_pos ⟨h1, h2⟩
    have lm0 : (zm xs ys).length = xs.length := by simp [zm, h1]
    have lm1 : (zm xs2 ys2).length = xs2.length := by simp [zm, h2]
    have qam := (bel_iff xs xs2 (zm xs ys) (zm xs2 ys2)).2 ⟨zm_left h1, zm_left h2⟩
    have qbm := (bel_iff ys ys2 (zm xs ys) (zm xs2 ys2)).2 ⟨zm_right h1, zm_right h2⟩
    have hg1 := hgt_mono (zm_left h1)
    have hg2 := hgt_mono (zm_left h2)
    have key : ∀ sma, sam (zm xs ys) (zm xs2 ys2) xs xs2 = sma → bel ys ys2 xs xs2 = sma ∧ (sma = true → (((hgt (zm xs ys) + hgt (zm xs2 ys2) : Nat) : Int) == ((hgt xs + hgt xs2 : Nat) : Int)) = true) ∧ (sma = false → decide (((hgt (zm xs ys) + hgt (zm xs2 ys2) : Nat) : Int) < ((hgt xs + hgt xs2 : Nat) : Int)) = true) := by
      intro sma hs
      cases sma with
      | true =>
        obtain ⟨e1, e2⟩ := (sam_iff _ _ _ _).1 hs
        exact ⟨(bel_iff _ _ _ _).2 ⟨(zm_same h1).1 e1, (zm_same h2).1 e2⟩, fun _ => by rw [e1, e2]; simp, fun h => by cases h⟩
      | false =>
        have hne : ¬ (zm xs ys = xs ∧ zm xs2 ys2 = xs2) := fun h => by rw [(sam_iff _ _ _ _).2 h] at hs; cases hs
        refine ⟨bel_no fun h => hne ⟨(zm_same h1).2 h.1, (zm_same h2).2 h.2⟩, fun h => by (cases h), fun _ => decide_eq_true ?_⟩
        by_cases e1 : zm xs ys = xs
        · have := hg2.2 (fun e2 => hne ⟨e1, e2⟩)
          have := hg1.1
          omega
        · have := hg1.2 e1
          have := hg2.1
          omega
    have hmc : bel xs xs2 zs zs2 = true → bel ys ys2 zs zs2 = true → bel (zm xs ys) (zm xs2 ys2) zs zs2 = true := fun h k => (bel_iff _ _ _ _).2 ⟨zm_least ((bel_iff _ _ _ _).1 h).1 ((bel_iff _ _ _ _).1 k).1, zm_least ((bel_iff _ _ _ _).1 h).2 ((bel_iff _ _ _ _).1 k).2⟩
    generalize zm xs ys = m at *
    generalize zm xs2 ys2 = m2 at *
    have lm0' : m.length ≤ 10000 := by omega
    have lm1' : m2.length ≤ 10000 := by omega
    cases hs : sam m m2 xs xs2 with
    | true =>
      obtain ⟨kb, kr, _⟩ := key _ hs
      cases qac : bel xs xs2 zs zs2 with
      | false => exact least_01 xs xs2 ys ys2 zs zs2 m m2 qa qb qc la0 la1 lb0 lb1 lm0' lm1' em qam qbm qac hs kb _ _ rfl rfl (kr rfl) A0 A1 B0 B1 C0 C1 c0 c1 d0 d1 g0 g1 w ha0 ha1 hb0 hb1 hc0 hc1 ka0 ka1 kb0 kb1 kc0 kc1
      | true =>
        cases qbc : bel ys ys2 zs zs2 with
        | false => exact least_11 xs xs2 ys ys2 zs zs2 m m2 qa qb qc la0 la1 lb0 lb1 lm0' lm1' em qam qbm qac qbc hs kb _ _ rfl rfl (kr rfl) A0 A1 B0 B1 C0 C1 c0 c1 d0 d1 g0 g1 w ha0 ha1 hb0 hb1 hc0 hc1 ka0 ka1 kb0 kb1 kc0 kc1
        | true => exact least_21 xs xs2 ys ys2 zs zs2 m m2 qa qb qc la0 la1 lb0 lb1 lm0' lm1' em qam qbm qac qbc (hmc qac qbc) hs kb _ _ rfl rfl (kr rfl) A0 A1 B0 B1 C0 C1 c0 c1 d0 d1 g0 g1 w ha0 ha1 hb0 hb1 hc0 hc1 ka0 ka1 kb0 kb1 kc0 kc1
    | false =>
      obtain ⟨kb, _, kr⟩ := key _ hs
      cases qac : bel xs xs2 zs zs2 with
      | false => exact least_00 xs xs2 ys ys2 zs zs2 m m2 qa qb qc la0 la1 lb0 lb1 lm0' lm1' em qam qbm qac hs kb _ _ rfl rfl (kr rfl) A0 A1 B0 B1 C0 C1 c0 c1 d0 d1 g0 g1 w ha0 ha1 hb0 hb1 hc0 hc1 ka0 ka1 kb0 kb1 kc0 kc1
      | true =>
        cases qbc : bel ys ys2 zs zs2 with
        | false => exact least_10 xs xs2 ys ys2 zs zs2 m m2 qa qb qc la0 la1 lb0 lb1 lm0' lm1' em qam qbm qac qbc hs kb _ _ rfl rfl (kr rfl) A0 A1 B0 B1 C0 C1 c0 c1 d0 d1 g0 g1 w ha0 ha1 hb0 hb1 hc0 hc1 ka0 ka1 kb0 kb1 kc0 kc1
        | true => exact least_20 xs xs2 ys ys2 zs zs2 m m2 qa qb qc la0 la1 lb0 lb1 lm0' lm1' em qam qbm qac qbc (hmc qac qbc) hs kb _ _ rfl rfl (kr rfl) A0 A1 B0 B1 C0 C1 c0 c1 d0 d1 g0 g1 w ha0 ha1 hb0 hb1 hc0 hc1 ka0 ka1 kb0 kb1 kc0 kc1
  · refine least_no xs xs2 ys ys2 zs zs2 qa qb qc la0 la1 lb0 lb1 hm (bel_no fun h => hm ⟨un_len h.1, un_len h.2⟩) ?_ A0 A1 B0 B1 C0 C1 c0 c1 d0 d1 g0 g1 w ha0 ha1 hb0 hb1 hc0 hc1 ka0 ka1 kb0 kb1 kc0 kc1
    cases e : sam xs xs2 ys ys2 with
    | false => rfl
    | true =>
      obtain ⟨e1, e2⟩ := (sam_iff _ _ _ _).1 e
      exact absurd ⟨by rw [e1], by rw [e2]⟩ hm

end Go.Proofs.Ytnjmheadmcjgcaa.WalkLatticeLeast
