/- works. Under no conditions beyond the statement's own. -/
import Derived.Test.YtnjmheadmcjgcaaPLatticeTellsx3
import Derived.Test.YtnjmheadmcjgcaaSwitch
import Derived.Outline
import Derived.Deep.RegionWith
import Derived.Test.YtnjmheadmcjgcaaWalkPairs
import Derived.Test.YtnjmheadmcjgcaaWalkSlots
import Derived.Test.YtnjmheadmcjgcaaWalkMerge
import Derived.Test.YtnjmheadmcjgcaaWalkHeight
import Derived.Test.YtnjmheadmcjgcaaWalkBase
set_option linter.unusedSimpArgs false
set_option linter.unusedVariables false
namespace Go.Proofs.Ytnjmheadmcjgcaa.WalkWorks
open Go.RowKit Go.Proofs.Ytnjmheadmcjgcaa.PLatticeTells Go.Proofs.YtnjmheadmcjgcaaW.PrintWords Go.Proofs.YtnjmheadmcjgcaaW.PrintLast Go.Proofs.YtnjmheadmcjgcaaW.PrintMore Go.Proofs.Ytnjmheadmcjgcaa.Switch
open Go.Proofs.Ytnjmheadmcjgcaa.WalkPairs
open Go.Proofs.Ytnjmheadmcjgcaa.WalkSlots
open Go.Proofs.Ytnjmheadmcjgcaa.WalkMerge
open Go.Proofs.Ytnjmheadmcjgcaa.WalkHeight (hgt height_c)
open Go.Proofs.Ytnjmheadmcjgcaa.WalkBase
theorem rd_lit (W : World) (xs : List Int) (h : xs.length ≤ 1000) : Rd (W.alloc (.cells (nums .i64 xs).toArray 3)) (some ⟨W.heap.size, 0, none⟩) xs := by
  refine Kd.C_of_reads (d := (0 : Int)) (h1 := fun _ => rfl) ⟨rfl, by omega, fun _ => ⟨_, rfl, fun j hj => ?_⟩⟩
  rw [add_plain, World.cell?_alloc_mark]
  simp [nums, List.getD_eq_getElem?_getD, hj]
theorem lits (W : World) (b1 b2 b3 : Nat) (h1 : b1 = W.heap.size + 1) (h2 : b2 = W.heap.size + 1 + 1) (h3 : b3 = W.heap.size + 1 + 1 + 1) :
    Calls Try.prog 11 #[.agg #[.slice (some ⟨W.heap.size, 0, none⟩) 2 2, .slice (some ⟨b1, 0, none⟩) 1 1], .agg #[.slice (some ⟨b2, 0, none⟩) 2 2, .slice (some ⟨b3, 0, none⟩) 1 1]]
      ((((W.alloc (.cells #[.int .i64 1, .int .i64 5] 3)).alloc (.cells #[.int .i64 2] 3)).alloc (.cells #[.int .i64 1, .int .i64 4] 3)).alloc (.cells #[.int .i64 2] 3)) fun e w' => ∃ F0 F1 f0 f1, e = .returned (.tuple #[.agg #[.slice F0 2 f0, .slice F1 1 f1], .bool true]) ∧ 2 ≤ f0 ∧ 1 ≤ f1 ∧ Rd w' F0 [1, 0] ∧ Rd w' F1 [2] ∧ Below W.heap.size W w' := by
  subst h1 h2 h3
  have s1 : (W.alloc (.cells #[.int .i64 1, .int .i64 5] 3)).heap.size = W.heap.size + 1 := by simp only [World.alloc, Array.size_push]
  have s2 : ((W.alloc (.cells #[.int .i64 1, .int .i64 5] 3)).alloc (.cells #[.int .i64 2] 3)).heap.size = W.heap.size + 1 + 1 := by simp only [World.alloc, Array.size_push]
  have s3 : (((W.alloc (.cells #[.int .i64 1, .int .i64 5] 3)).alloc (.cells #[.int .i64 2] 3)).alloc (.cells #[.int .i64 1, .int .i64 4] 3)).heap.size = W.heap.size + 1 + 1 + 1 := by simp only [World.alloc, Array.size_push]
  have r0 := rd_lit W [1, 5] (by decide)
  have r1 := rd_lit (W.alloc (.cells #[.int .i64 1, .int .i64 5] 3)) [2] (by decide)
  have r2 := rd_lit ((W.alloc (.cells #[.int .i64 1, .int .i64 5] 3)).alloc (.cells #[.int .i64 2] 3)) [1, 4] (by decide)
  have r3 := rd_lit (((W.alloc (.cells #[.int .i64 1, .int .i64 5] 3)).alloc (.cells #[.int .i64 2] 3)).alloc (.cells #[.int .i64 1, .int .i64 4] 3)) [2] (by decide)
  rw [s1] at r1
  rw [s2] at r2
  rw [s3] at r3
  refine (merge_b [1, 5] [2] [1, 4] [2] (by decide) (by decide) _ _ _ _ 2 1 2 1 _ (Kd.C_alloc (Kd.C_alloc (Kd.C_alloc r0 _) _) _) (Kd.C_alloc (Kd.C_alloc r1 _) _) (Kd.C_alloc r2 _) r3).mono ?_
  rw [show mrg [1, 5] [2] [1, 4] [2] = ([1, 0], [2], true) by decide]
  rintro e w' ⟨F0, F1, f0, f1, rfl, k0, k1, h0, h1, hb, _, _⟩
  exact ⟨F0, F1, f0, f1, rfl, k0, k1, h0, h1, below_step (by repeat (first | exact Below.refl _ _ | apply below_alloc)) hb⟩
theorem ints_lit (xs ys : List Int) (hl : xs = ys) (hn : ys.length ≤ 100) (W : World) (b : Nat) (hb : b = W.heap.size) (A : Option Addr) (c : Nat) (n : Nat) (hy : ys.length = n) (hc : n ≤ c) (h : Rd W A xs) (cs : Array Value) (hcs : cs = (nums .i64 ys).toArray) :
    Calls Try.prog 22 #[.slice A n c, .slice (some ⟨b, 0, none⟩) n n] (W.alloc (.cells cs 3)) fun e w' => e = .returned (.bool true) ∧ Drawn0 (W.alloc (.cells cs 3)) w' := by
  subst hl hb hcs hy
  have := ints_b xs xs (by omega) A (some ⟨W.heap.size, 0, none⟩) c xs.length _ (Kd.C_alloc h _) (rd_lit W xs (by omega)) hc (Nat.le_refl _)
  rwa [decide_eq_true rfl] at this
set_option maxHeartbeats 4000000 in
set_option maxRecDepth 100000 in
theorem works_b (w : World) : Calls Try.prog 8 #[] w fun e w' => e = .returned (.bool true) ∧ Below w.heap.size w w' := by
  have hu24 := Try.underlying24
  have HB := Aside0.mk (Below.refl w.heap.size w)
  go_enter Try.func8, Try.ntmps8
  go_upto_region 2 with (first
    | (go_at_call 11; refine (lits w _ _ _ ?h1 ?h2 ?h3).mono ?_; (case h1 => first | rfl | simp); (case h2 => first | rfl | simp); (case h3 => first | rfl | simp); rintro e wA ⟨F0, F1, f0, f1, rfl, k0, k1, h0, h1, hb⟩; have HB2 := Aside0.mk hb; clear HB; have HB := HB2; clear HB2 hb)
    | ((with_reducible refine gate_dst (N := 1) rfl ?_); refine box_event ?hg (N := 1) ?hd (cs := #[.slice none 0 0, .slice none 0 0]) (t := 24) ?hr ?_; (case hd => rfl); (case hg => rfl); (case hr => first | (go_simp; done) | (go_simp; rfl)); intro gb1 hg_ wb1 hbox hb_; have GE1 := Aside0.mk ((by rw [hg_]; exact (below_size (by repeat (first | (with_reducible first | exact HB.out | apply below_alloc | apply pw_below_drewN | apply below_drew1 | apply below_drew) | exact HB.out)))) : w.heap.size ≤ gb1); have hb2_ := Aside0.mk (below_step (by repeat (first | (with_reducible first | exact HB.out | apply below_alloc | apply pw_below_drewN | apply below_drew1 | apply below_drew) | exact HB.out)) hb_); clear HB; have HB := hb2_; clear hb2_; have BK1 := Aside0.mk hbox; have HG1 := Aside0.mk hg_; have DB1 := Aside0.mk hb_; clear hbox hg_; have hcz1_0 := (blk_cell BK1.out 0).trans (show (#[.slice none 0 0, .slice none 0 0] : Array Value)[0]? = some (.slice none 0 0) from rfl); have hfz1_0 := blk_frozen BK1.out 0; have hcz1_1 := (blk_cell BK1.out 1).trans (show (#[.slice none 0 0, .slice none 0 0] : Array Value)[1]? = some (.slice none 0 0) from rfl); have hfz1_1 := blk_frozen BK1.out 1; clear hb_))
  have bk := blk_put (cs' := #[.slice F0 2 f0, .slice F1 1 f1]) (blk_put (cs' := #[.slice F0 2 f0, .slice none 0 0]) BK1.out 0 (.slice F0 2 f0) rfl) 1 (.slice F1 1 f1) rfl
  have D := below_set (g := gb1) (j := 1) (v := .slice F1 1 f1) (below_set (g := gb1) (j := 0) (v := .slice F0 2 f0) DB1.out (Nat.le_of_eq HG1.out.symm)) (Nat.le_of_eq HG1.out.symm)
  have HV := Aside0.mk (below_set (g := gb1) (j := 1) (v := .slice F1 1 f1) (below_set (g := gb1) (j := 0) (v := .slice F0 2 f0) HB.out GE1.out) GE1.out)
  have r0 := Kd.C_below h0 D
  have r1 := Kd.C_below h1 D
  clear HB D DB1 HG1 BK1 GE1 h0 h1 hcz1_0 hcz1_1 hfz1_0 hfz1_1
  generalize (wb1.setCell ⟨gb1, 0, none⟩ (.slice F0 2 f0)).setCell ⟨gb1, 1, none⟩ (.slice F1 1 f1) = V at *
  have HB := HV
  have BK := Aside0.mk bk
  have HR0 := Aside0.mk r0
  have HR1 := Aside0.mk r1
  have K0 := Aside0.mk k0
  have K1 := Aside0.mk k1
  have hcz1_0 := (blk_cell bk 0).trans (show (#[.slice F0 2 f0, .slice F1 1 f1] : Array Value)[0]? = some (.slice F0 2 f0) from rfl)
  have hcz1_1 := (blk_cell bk 1).trans (show (#[.slice F0 2 f0, .slice F1 1 f1] : Array Value)[1]? = some (.slice F1 1 f1) from rfl)
  have I0 := Aside0.mk (fun (W : World) (b : Nat) (hb : b = W.heap.size) (h : Rd W F0 [1, 0]) => ints_lit [1, 0] [1, 0] rfl (by decide) W b hb F0 f0 2 rfl k0 h #[.int .i64 1, .int .i64 0] rfl)
  have I1 := Aside0.mk (fun (W : World) (b : Nat) (hb : b = W.heap.size) (h : Rd W F1 [2]) => ints_lit [2] [2] rfl (by decide) W b hb F1 f1 1 rfl k1 h #[.int .i64 2] rfl)
  clear bk r0 r1 k0 k1 HV
  go_wp2_with (first
    | (go_at_call 22; (with_reducible refine (I0.out _ _ ?hb ?hr).mono ?_); (case hb => first | rfl | simp); (case hr => exact HR0.out); rintro e wc ⟨rfl, ⟨nd, rfl⟩⟩; have hcy_1 := (blk_cell (blk_alloc BK.out (.cells #[.int .i64 1, .int .i64 0] 3)) 1).trans (show (#[.slice F0 2 f0, .slice F1 1 f1] : Array Value)[1]? = some (.slice F1 1 f1) from rfl))
    | (go_at_call 22; (with_reducible refine (I1.out _ _ ?hb ?hr).mono ?_); (case hb => first | rfl | simp); (case hr => exact Kd.C_drewN (Kd.C_alloc HR1.out _) _); rintro e wc ⟨rfl, ⟨nd2, rfl⟩⟩; have hcx_0 := (blk_cell (blk_alloc (blk_drewN (blk_alloc BK.out (.cells #[.int .i64 1, .int .i64 0] 3)) nd) (.cells #[.int .i64 2] 3)) 0).trans (show (#[.slice F0 2 f0, .slice F1 1 f1] : Array Value)[0]? = some (.slice F0 2 f0) from rfl); have hcx_1 := (blk_cell (blk_alloc (blk_drewN (blk_alloc BK.out (.cells #[.int .i64 1, .int .i64 0] 3)) nd) (.cells #[.int .i64 2] 3)) 1).trans (show (#[.slice F0 2 f0, .slice F1 1 f1] : Array Value)[1]? = some (.slice F1 1 f1) from rfl))
    | (go_at_call 17; refine (height_c [1, 0] [2] (by decide) (by decide) F0 F1 f0 f1 _ (by repeat (first | exact HR0.out | (with_reducible refine Kd.C_alloc ?_ _) | (with_reducible refine Kd.C_drewN ?_ _))) (by repeat (first | exact HR1.out | (with_reducible refine Kd.C_alloc ?_ _) | (with_reducible refine Kd.C_drewN ?_ _)))).mono ?_; rw [show ((hgt [1, 0] + hgt [2] : Nat) : Int) = 2 by decide]; rintro e wc ⟨rfl, hb⟩))
  go_ret
  exact ⟨by first | rfl | (simp; done), below_step (w := w) (by repeat (first | (with_reducible first | exact HB.out | apply below_alloc | apply pw_below_drewN | apply below_drew1) | exact HB.out)) hb⟩

end Go.Proofs.Ytnjmheadmcjgcaa.WalkWorks
