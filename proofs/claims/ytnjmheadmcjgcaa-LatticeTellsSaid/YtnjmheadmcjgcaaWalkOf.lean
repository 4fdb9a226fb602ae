/- of, by what it answers. Under no conditions beyond the statement's own. -/
import Derived.Test.YtnjmheadmcjgcaaPLatticeTellsx3
import Derived.Test.YtnjmheadmcjgcaaSwitch
import Derived.Outline
import Derived.Deep.RegionWith
import Derived.Test.YtnjmheadmcjgcaaWalkPairs
import Derived.Test.YtnjmheadmcjgcaaWalkSlots
import Derived.Test.YtnjmheadmcjgcaaWalkMerge
import Derived.Test.YtnjmheadmcjgcaaWalkBase
set_option linter.unusedSimpArgs false
set_option linter.unusedVariables false
namespace Go.Proofs.Ytnjmheadmcjgcaa.WalkOf
open Go.RowKit Go.Proofs.Ytnjmheadmcjgcaa.PLatticeTells Go.Proofs.YtnjmheadmcjgcaaW.PrintWords Go.Proofs.YtnjmheadmcjgcaaW.PrintLast Go.Proofs.YtnjmheadmcjgcaaW.PrintMore Go.Proofs.Ytnjmheadmcjgcaa.Switch
open Go.Proofs.Ytnjmheadmcjgcaa.WalkPairs
open Go.Proofs.Ytnjmheadmcjgcaa.WalkSlots
open Go.Proofs.Ytnjmheadmcjgcaa.WalkMerge
open Go.Proofs.Ytnjmheadmcjgcaa.WalkBase
theorem merge_t (m m2 : List Int) (ok : Bool) (xs xs2 ys ys2 : List Int) (hl : xs.length ≤ 10000) (hl2 : xs2.length ≤ 10000) (hm : mrg xs xs2 ys ys2 = (m, m2, ok)) (A0 A1 B0 B1 : Option Addr) (c0 c1 d0 d1 : Nat) (w : World) (h0 : Rd w A0 xs) (h1 : Rd w A1 xs2) (h2 : Rd w B0 ys) (h3 : Rd w B1 ys2) :
    Calls Try.prog 11 #[.agg #[.slice A0 xs.length c0, .slice A1 xs2.length c1], .agg #[.slice B0 ys.length d0, .slice B1 ys2.length d1]] w fun e w' => ∃ F0 F1 f0 f1, e = .returned (.tuple #[.agg #[.slice F0 m.length f0, .slice F1 m2.length f1], .bool ok]) ∧ m.length ≤ f0 ∧ m2.length ≤ f1 ∧ Rd w' F0 m ∧ Rd w' F1 m2 ∧ Below w.heap.size w w' ∧ Kd.R (Kd.int .i64) 3 w' w.heap.size (fun _ => True) (.slice F0 m.length f0) m ∧ Kd.R (Kd.int .i64) 3 w' w.heap.size (fun _ => True) (.slice F1 m2.length f1) m2 := by
  have := merge_b xs xs2 ys ys2 hl hl2 A0 A1 B0 B1 c0 c1 d0 d1 w h0 h1 h2 h3
  rw [hm] at this
  exact this
set_option maxHeartbeats 4000000 in
set_option maxRecDepth 100000 in
theorem of_t (m m2 : List Int) (ok : Bool) (xs xs2 ys ys2 : List Int) (hl : xs.length ≤ 10000) (hl2 : xs2.length ≤ 10000) (hm : mrg xs xs2 ys ys2 = (m, m2, ok)) (A0 A1 B0 B1 : Option Addr) (c0 c1 d0 d1 : Nat) (w : World) (h0 : Rd w A0 xs) (h1 : Rd w A1 xs2) (h2 : Rd w B0 ys) (h3 : Rd w B1 ys2) :
    Calls Try.prog 21 #[.agg #[.slice A0 xs.length c0, .slice A1 xs2.length c1], .agg #[.slice B0 ys.length d0, .slice B1 ys2.length d1]] w fun e w' => ∃ F0 F1 f0 f1, e = .returned (.agg #[.slice F0 m.length f0, .slice F1 m2.length f1]) ∧ m.length ≤ f0 ∧ m2.length ≤ f1 ∧ Rd w' F0 m ∧ Rd w' F1 m2 ∧ Below w.heap.size w w' := by
  have hu24 := Try.underlying24
  have HR0 := Aside0.mk h0
  have HR1 := Aside0.mk h1
  have HR2 := Aside0.mk h2
  have HR3 := Aside0.mk h3
  have HB := Aside0.mk (Below.refl w.heap.size w)
  have HL := Aside0.mk hl
  have HL2 := Aside0.mk hl2
  have HM := Aside0.mk hm
  clear h0 h1 h2 h3 hl hl2 hm
  go_enter Try.func21, Try.ntmps21
  go_upto_region 2 with (first
    | ((with_reducible refine gate_dst (N := 2) rfl ?_); refine box_event ?hg (N := 2) ?hd (cs := #[.slice A0 xs.length c0, .slice A1 xs2.length c1]) (t := 24) ?hr ?_; (case hd => rfl); (case hg => rfl); (case hr => first | (go_simp; done) | (go_simp; rfl)); intro gb1 hg_ wb1 hbox hb_; have GE1 := Aside0.mk ((by rw [hg_]; exact (below_size (by repeat (first | (with_reducible first | exact HB.out | apply below_alloc | apply pw_below_drewN | apply below_drew1 | apply below_drew) | exact HB.out)))) : w.heap.size ≤ gb1); have hb2_ := Aside0.mk (below_step (by repeat (first | (with_reducible first | exact HB.out | apply below_alloc | apply pw_below_drewN | apply below_drew1 | apply below_drew) | exact HB.out)) hb_); clear HB; have HB := hb2_; clear hb2_; have BK1 := Aside0.mk hbox; have HG1 := Aside0.mk hg_; have DB1 := Aside0.mk hb_; clear hbox hg_; clear hb_)
    | ((with_reducible refine gate_dst (N := 3) rfl ?_); refine box_event ?hg (N := 3) ?hd (cs := #[.slice B0 ys.length d0, .slice B1 ys2.length d1]) (t := 24) ?hr ?_; (case hd => rfl); (case hg => rfl); (case hr => first | (go_simp; done) | (go_simp; rfl)); intro gb2 hg_ wb2 hbox hb_; have GE2 := Aside0.mk ((by rw [hg_]; exact (below_size (by repeat (first | (with_reducible first | exact HB.out | apply below_alloc | apply pw_below_drewN | apply below_drew1 | apply below_drew) | exact HB.out)))) : w.heap.size ≤ gb2); have hb2_ := Aside0.mk (below_step (by repeat (first | (with_reducible first | exact HB.out | apply below_alloc | apply pw_below_drewN | apply below_drew1 | apply below_drew) | exact HB.out)) hb_); have bk2_ := Aside0.mk (blk_below (g := gb1) (o := .cells #[.slice A0 xs.length c0, .slice A1 xs2.length c1] 24 (0, 0)) (by (with_reducible repeat (first | refine blk_drewN ?_ _ | refine blk_drew ?_ | refine blk_alloc ?_ _)); exact BK1.out) hb_); clear BK1; have BK1 := bk2_; clear bk2_; clear HB; have HB := hb2_; clear hb2_; have BK2 := Aside0.mk hbox; have HG2 := Aside0.mk hg_; have DB2 := Aside0.mk hb_; clear hbox hg_; have hcz1_0 := (blk_cell BK1.out 0).trans (show (#[.slice A0 xs.length c0, .slice A1 xs2.length c1] : Array Value)[0]? = some (.slice A0 xs.length c0) from rfl); have hfz1_0 := blk_frozen BK1.out 0; have hcz1_1 := (blk_cell BK1.out 1).trans (show (#[.slice A0 xs.length c0, .slice A1 xs2.length c1] : Array Value)[1]? = some (.slice A1 xs2.length c1) from rfl); have hfz1_1 := blk_frozen BK1.out 1; have hcz2_0 := (blk_cell BK2.out 0).trans (show (#[.slice B0 ys.length d0, .slice B1 ys2.length d1] : Array Value)[0]? = some (.slice B0 ys.length d0) from rfl); have hfz2_0 := blk_frozen BK2.out 0; have hcz2_1 := (blk_cell BK2.out 1).trans (show (#[.slice B0 ys.length d0, .slice B1 ys2.length d1] : Array Value)[1]? = some (.slice B1 ys2.length d1) from rfl); have hfz2_1 := blk_frozen BK2.out 1; clear hb_)
    | ((with_reducible refine gate_dst (N := 4) rfl ?_); refine box_event ?hg (N := 4) ?hd (cs := #[.slice none 0 0, .slice none 0 0]) (t := 24) ?hr ?_; (case hd => rfl); (case hg => rfl); (case hr => first | (go_simp; done) | (go_simp; rfl)); intro gb3 hg_ wb3 hbox hb_; have GE3 := Aside0.mk ((by rw [hg_]; exact (below_size (by repeat (first | (with_reducible first | exact HB.out | apply below_alloc | apply pw_below_drewN | apply below_drew1 | apply below_drew) | exact HB.out)))) : w.heap.size ≤ gb3); have hb2_ := Aside0.mk (below_step (by repeat (first | (with_reducible first | exact HB.out | apply below_alloc | apply pw_below_drewN | apply below_drew1 | apply below_drew) | exact HB.out)) hb_); have bk2_ := Aside0.mk (blk_below (g := gb1) (o := .cells #[.slice A0 xs.length c0, .slice A1 xs2.length c1] 24 (0, 0)) (by (with_reducible repeat (first | refine blk_drewN ?_ _ | refine blk_drew ?_ | refine blk_alloc ?_ _)); exact BK1.out) hb_); clear BK1; have BK1 := bk2_; clear bk2_; have bk2_ := Aside0.mk (blk_below (g := gb2) (o := .cells #[.slice B0 ys.length d0, .slice B1 ys2.length d1] 24 (0, 0)) (by (with_reducible repeat (first | refine blk_drewN ?_ _ | refine blk_drew ?_ | refine blk_alloc ?_ _)); exact BK2.out) hb_); clear BK2; have BK2 := bk2_; clear bk2_; clear HB; have HB := hb2_; clear hb2_; have BK3 := Aside0.mk hbox; have HG3 := Aside0.mk hg_; have DB3 := Aside0.mk hb_; clear hbox hg_; have hcz1_0 := (blk_cell BK1.out 0).trans (show (#[.slice A0 xs.length c0, .slice A1 xs2.length c1] : Array Value)[0]? = some (.slice A0 xs.length c0) from rfl); have hfz1_0 := blk_frozen BK1.out 0; have hcz1_1 := (blk_cell BK1.out 1).trans (show (#[.slice A0 xs.length c0, .slice A1 xs2.length c1] : Array Value)[1]? = some (.slice A1 xs2.length c1) from rfl); have hfz1_1 := blk_frozen BK1.out 1; have hcz2_0 := (blk_cell BK2.out 0).trans (show (#[.slice B0 ys.length d0, .slice B1 ys2.length d1] : Array Value)[0]? = some (.slice B0 ys.length d0) from rfl); have hfz2_0 := blk_frozen BK2.out 0; have hcz2_1 := (blk_cell BK2.out 1).trans (show (#[.slice B0 ys.length d0, .slice B1 ys2.length d1] : Array Value)[1]? = some (.slice B1 ys2.length d1) from rfl); have hfz2_1 := blk_frozen BK2.out 1; clear hb_)
    | ((with_reducible refine gate_dst (N := 5) rfl ?_); have HLT := Aside0.mk (blk_lt BK3.out); refine box_event ?hg (N := 5) ?hd (cs := #[.slice none 0 0, .slice none 0 0]) (t := 24) ?hr ?_; (case hd => rfl); (case hg => rfl); (case hr => first | (go_simp; done) | (go_simp; rfl)); intro gb4 hg_ wb4 hbox hb_; have GE4 := Aside0.mk ((by rw [hg_]; exact (below_size (by repeat (first | (with_reducible first | exact HB.out | apply below_alloc | apply pw_below_drewN | apply below_drew1 | apply below_drew) | exact HB.out)))) : w.heap.size ≤ gb4); have hb2_ := Aside0.mk (below_step (by repeat (first | (with_reducible first | exact HB.out | apply below_alloc | apply pw_below_drewN | apply below_drew1 | apply below_drew) | exact HB.out)) hb_); have bk2_ := Aside0.mk (blk_below (g := gb3) (o := .cells #[.slice none 0 0, .slice none 0 0] 24 (0, 0)) (by (with_reducible repeat (first | refine blk_drewN ?_ _ | refine blk_drew ?_ | refine blk_alloc ?_ _)); exact BK3.out) hb_); clear BK3; have BK3 := bk2_; clear bk2_; clear HB; have HB := hb2_; clear hb2_; have BK4 := Aside0.mk hbox; have HG4 := Aside0.mk hg_; have DB4 := Aside0.mk hb_; clear hbox hg_; have hcz4_0 := (blk_cell BK4.out 0).trans (show (#[.slice none 0 0, .slice none 0 0] : Array Value)[0]? = some (.slice none 0 0) from rfl); have hfz4_0 := blk_frozen BK4.out 0; have hcz4_1 := (blk_cell BK4.out 1).trans (show (#[.slice none 0 0, .slice none 0 0] : Array Value)[1]? = some (.slice none 0 0) from rfl); have hfz4_1 := blk_frozen BK4.out 1; have hcz3_0 := (blk_cell BK3.out 0).trans (show (#[.slice none 0 0, .slice none 0 0] : Array Value)[0]? = some (.slice none 0 0) from rfl); have hfz3_0 := blk_frozen BK3.out 0; have hcz3_1 := (blk_cell BK3.out 1).trans (show (#[.slice none 0 0, .slice none 0 0] : Array Value)[1]? = some (.slice none 0 0) from rfl); have hfz3_1 := blk_frozen BK3.out 1; clear hb_)
    | (go_at_call 11; (with_reducible refine (merge_t m m2 ok xs xs2 ys ys2 HL.out HL2.out HM.out _ _ _ _ _ _ _ _ _ (by repeat (first | exact (Kd.C_below HR0.out HB.out) | (with_reducible refine Kd.C_alloc ?_ _) | (with_reducible refine Kd.C_drewN ?_ _) | (with_reducible refine Kd.C_drew ?_))) (by repeat (first | exact (Kd.C_below HR1.out HB.out) | (with_reducible refine Kd.C_alloc ?_ _) | (with_reducible refine Kd.C_drewN ?_ _) | (with_reducible refine Kd.C_drew ?_))) (by repeat (first | exact (Kd.C_below HR2.out HB.out) | (with_reducible refine Kd.C_alloc ?_ _) | (with_reducible refine Kd.C_drewN ?_ _) | (with_reducible refine Kd.C_drew ?_))) (by repeat (first | exact (Kd.C_below HR3.out HB.out) | (with_reducible refine Kd.C_alloc ?_ _) | (with_reducible refine Kd.C_drewN ?_ _) | (with_reducible refine Kd.C_drew ?_)))).mono ?_); rintro e wA ⟨F0, F1, f0, f1, rfl, k0, k1, r0, r1, hb_, R0, R1⟩; have hb2_ := Aside0.mk (below_step (by repeat (first | (with_reducible first | exact HB.out | apply below_alloc | apply pw_below_drewN | apply below_drew1 | apply below_drew) | exact HB.out)) hb_); have bk2_ := Aside0.mk (blk_below (g := gb3) (o := .cells #[.slice none 0 0, .slice none 0 0] 24 (0, 0)) (by (with_reducible repeat (first | refine blk_drewN ?_ _ | refine blk_drew ?_ | refine blk_alloc ?_ _)); exact BK3.out) hb_); clear BK3; have BK3 := bk2_; clear bk2_; clear HB; have HB := hb2_; clear hb2_; clear hb_))
  have bk := blk_put (cs' := #[.slice F0 m.length f0, .slice F1 m2.length f1]) (blk_put (cs' := #[.slice F0 m.length f0, .slice none 0 0]) BK4.out 0 (.slice F0 m.length f0) rfl) 1 (.slice F1 m2.length f1) rfl
  have hne : gb3 ≠ gb4 := by rw [HG4.out]; exact Nat.ne_of_lt (HLT.out)
  have bk3 := blk_far (p := ⟨gb4, 1, none⟩) (blk_far (p := ⟨gb4, 0, none⟩) BK3.out hne (.slice F0 m.length f0)) hne (.slice F1 m2.length f1)
  have D := below_set (g := gb4) (j := 1) (v := .slice F1 m2.length f1) (below_set (g := gb4) (j := 0) (v := .slice F0 m.length f0) DB4.out (Nat.le_of_eq HG4.out.symm)) (Nat.le_of_eq HG4.out.symm)
  have HV := Aside0.mk (below_set (g := gb4) (j := 1) (v := .slice F1 m2.length f1) (below_set (g := gb4) (j := 0) (v := .slice F0 m.length f0) HB.out GE4.out) GE4.out)
  have G3 := GE3.out
  have q0 := Kd.R_below R0 D
  have q1 := Kd.R_below R1 D
  clear R0 R1 HB D DB4 HG4 BK4 GE4 BK3 GE3 r0 r1 hcz4_0 hcz4_1 hfz4_0 hfz4_1 hcz3_0 hcz3_1 hfz3_0 hfz3_1 HLT
  generalize (wb4.setCell ⟨gb4, 0, none⟩ (.slice F0 m.length f0)).setCell ⟨gb4, 1, none⟩ (.slice F1 m2.length f1) = V at *
  have ha0 := (blk_cell bk 0).trans (show (#[.slice F0 m.length f0, .slice F1 m2.length f1] : Array Value)[0]? = some (.slice F0 m.length f0) from rfl)
  have ha1 := (blk_cell bk 1).trans (show (#[.slice F0 m.length f0, .slice F1 m2.length f1] : Array Value)[1]? = some (.slice F1 m2.length f1) from rfl)
  have hb0 := (blk_cell bk3 0).trans (show (#[.slice none 0 0, .slice none 0 0] : Array Value)[0]? = some (.slice none 0 0) from rfl)
  have hb1 := (blk_cell bk3 1).trans (show (#[.slice none 0 0, .slice none 0 0] : Array Value)[1]? = some (.slice none 0 0) from rfl)
  have hz0 := blk_frozen bk3 0
  have hz1 := blk_frozen bk3 1
  have BK := Aside0.mk bk3
  have Q0 := Aside0.mk q0
  have Q1 := Aside0.mk q1
  have P0 := Aside0.mk (Kd.R_types q0 bk3 (by decide))
  have P1 := Aside0.mk (Kd.R_types q1 bk3 (by decide))
  clear bk bk3 q0 q1 Q0 Q1
  go_wp2
  refine bodyPost_ret (results_cell_row rfl _ _ gb3 24 #[.slice F0 m.length f0, .slice F1 m2.length f1] (0, 0) _ rfl (by (with_reducible repeat (first | refine blk_drewN ?_ _ | refine blk_drew ?_ | refine blk_alloc ?_ _)); refine blk_put (cs := #[.slice F0 m.length f0, .slice none 0 0]) ?_ 1 _ rfl; (with_reducible repeat (first | refine blk_drewN ?_ _ | refine blk_drew ?_ | refine blk_alloc ?_ _)); refine blk_put (cs := #[.slice none 0 0, .slice none 0 0]) ?_ 0 _ rfl; (with_reducible repeat (first | refine blk_drewN ?_ _ | refine blk_drew ?_ | refine blk_alloc ?_ _)); exact BK.out) Try.underlying24 rfl (by kernel_rfl)) rfl ?_
  have z0 := Kd.R_far (p := ⟨gb3, 1, none⟩) (Kd.R_far (p := ⟨gb3, 0, none⟩) P0.out (fun _ hk => hk.2) (.slice F0 m.length f0)) (fun _ hk => hk.2) (.slice F1 m2.length f1)
  have z1 := Kd.R_far (p := ⟨gb3, 1, none⟩) (Kd.R_far (p := ⟨gb3, 0, none⟩) P1.out (fun _ hk => hk.2) (.slice F0 m.length f0)) (fun _ hk => hk.2) (.slice F1 m2.length f1)
  exact ⟨F0, F1, f0, f1, rfl, k0, k1, (Kd.R_reads' z0).2.2, (Kd.R_reads' z1).2.2, below_set (below_set HV.out G3) G3⟩

end Go.Proofs.Ytnjmheadmcjgcaa.WalkOf
