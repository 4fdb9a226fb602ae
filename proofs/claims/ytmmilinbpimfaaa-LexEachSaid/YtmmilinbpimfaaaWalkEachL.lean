/- The law LexEach's function on the way that answers true. Under no conditions beyond the statements' own. -/
import Derived.Test.YtmmilinbpimfaaaPureLex
import Derived.Test.YtmmilinbpimfaaaSwitch
import Derived.Test.YtmmilinbpimfaaaPLexKnownx1
import Derived.Test.YtmmilinbpimfaaaPlainLex
import Derived.Test.YtmmilinbpimfaaaWalkBlanks
import Derived.Test.YtmmilinbpimfaaaWalkRange
import Derived.Test.YtmmilinbpimfaaaWalkEachC
import Derived.Test.YtmmilinbpimfaaaWalkTokens
import Derived.Test.YtmmilinbpimfaaaWalkOver
import Derived.Test.YtmmilinbpimfaaaWalkEach1
import Derived.Outline
import Derived.Deep.RegionWith
import Derived.Deep.QuietTactic
import Derived.BigQuiet
import Derived.Deep.LoopGhost
import Derived.StillTailTactics
import Derived.RangeFuncNested
import Derived.RangeFuncBound
import Derived.RangeFuncCalls
import Derived.RangeFuncLeaves
import Derived.Shelf.Abstract
import Derived.Shelf.RegionOpen
import Derived.WalkKit
import Derived.OwnWalkIn
import Derived.TacticsInMore
import Derived.LoopNIn
import Derived.LoopIn
import Derived.RangeFuncFrom
import Derived.Maps.OwnIn
import Derived.RangeFuncBox
import Derived.Sort.LoopGhostIn
import Derived.Sort.CutIn
import Derived.Sort.QuietIn
import Derived.Stop.RegionWithIn
set_option linter.unusedSimpArgs false
set_option linter.unusedVariables false
namespace Go.Proofs.Ytmmilinbpimfaaa.WalkEachL
open Go.RowKit Go.Proofs.Ytmmilinbpimfaaa.PLexKnown Go.Proofs.YtmmilinbpimfaaaW.PrintWords Go.Proofs.YtmmilinbpimfaaaW.PrintLast Go.Proofs.YtmmilinbpimfaaaW.PrintMore Go.Proofs.Ytmmilinbpimfaaa.Switch Go.Proofs.Ytmmilinbpimfaaa.Spec Go.Proofs.Ytmmilinbpimfaaa.PureLex
open Go.Proofs.Ytmmilinbpimfaaa.WalkBlanks
open Go.Proofs.Ytmmilinbpimfaaa.WalkRange
open Go.Proofs.Ytmmilinbpimfaaa.WalkEachC
open Go.Proofs.Ytmmilinbpimfaaa.WalkTokens
open Go.Proofs.Ytmmilinbpimfaaa.WalkOver
open Go.Proofs.Ytmmilinbpimfaaa.WalkEach1
-- RANGEIN
/-- Each: the closure, its box laid. -/
theorem each11_c (s : ByteArray) (w : World) : Calls Try.prog 11 #[.string s] w fun e w' => e = .returned (.func (.func 29) #[] #[.pointer (some ⟨w.heap.size, 0, none⟩)]) ∧ w'.heap[w.heap.size]? = some (.cells #[.string s] 9 (0, 0)) ∧ w'.heap.size = w.heap.size + 1 ∧ Below w.heap.size w w' := by
  go_enter Try.func11, Try.ntmps11
  go_wp2
  go_ret
  exact ⟨rfl, blk_new _ _, World.size_alloc _ _, below_alloc (Below.refl _ _) _⟩
/-- Between two rounds. -/
structure TE (w : World) (N M : Nat) (s : ByteArray) (stop : Int) (v : Value) (ts : List S31) (c : Nat) (W : World) : Prop where
  cN : W.heap[N]? = some (.cells #[.int .i64 stop] 3 (0, 0))
  cR : W.heap[N + 1]? = some (.cells #[.bool false] 4 (0, 0))
  cW : W.heap[M]? = some (.cells #[v] 22 (0, 0))
  cS : W.heap[M + 1]? = some (.cells #[.string s] 9 (0, 0))
  cA : W.heap[M + 1 + 1]? = some (.cells #[.int .i64 (c : Int)] 3 (0, 0))
  row : Kd.R k31 31 W N (fun k => N + 1 + 1 ≤ k ∧ k < M) v ts
  bel : Below N w W
  lo : N + 1 + 1 ≤ M
theorem TE.below {w : World} {N M : Nat} {s : ByteArray} {stop : Int} {v : Value} {ts : List S31} {c : Nat} {A B : World} (h : TE w N M s stop v ts c A) (hs : Below A.heap.size A B) : TE w N M s stop v ts c B := by
  have hlt := blk_lt h.cA
  have hlo := h.lo
  exact ⟨blk_below h.cN hs, blk_below h.cR hs, blk_below h.cW hs, blk_below h.cS hs, blk_below h.cA hs, Kd.R_move h.row (fun k hk => hs.block k (by omega)),
    h.bel.trans (hs.mono (by omega)), h.lo⟩
theorem TE.put {w : World} {N M : Nat} {s : ByteArray} {stop : Int} {v : Value} {ts : List S31} {c : Nat} {A : World} {l : Nat} {o o' : Obj} (h : TE w N M s stop v ts c A) (hl : M + 1 + 1 + 1 ≤ l) (ho : A.heap[l]? = some o) (hc : o.isCells = false) : TE w N M s stop v ts c (A.putObj l o') := by
  have hlo := h.lo
  exact ⟨blk_put2 h.cN ho hc, blk_put2 h.cR ho hc, blk_put2 h.cW ho hc, blk_put2 h.cS ho hc, blk_put2 h.cA ho hc, Kd.R_move h.row (fun k hk => World.putObj_heap_other (by omega)), bel_put h.bel (by omega) ho, h.lo⟩
theorem TE.set {w : World} {N M : Nat} {s : ByteArray} {stop : Int} {v : Value} {ts : List S31} {c : Nat} {A : World} (h : TE w N M s stop v ts c A) (c' : Nat) : TE w N M s stop v ts c' (A.setCell ⟨M + 1 + 1, 0, none⟩ (.int .i64 (c' : Int))) := by
  have hlo := h.lo
  exact ⟨blk_far (p := ⟨M + 1 + 1, 0, none⟩) h.cN (show N ≠ M + 1 + 1 by omega) _, blk_far (p := ⟨M + 1 + 1, 0, none⟩) h.cR (show N + 1 ≠ M + 1 + 1 by omega) _, blk_far (p := ⟨M + 1 + 1, 0, none⟩) h.cW (show M ≠ M + 1 + 1 by omega) _,
    blk_far (p := ⟨M + 1 + 1, 0, none⟩) h.cS (show M + 1 ≠ M + 1 + 1 by omega) _, blk_put h.cA 0 _ rfl, Kd.R_far (p := ⟨M + 1 + 1, 0, none⟩) h.row (fun k hk => by show k ≠ M + 1 + 1; omega) _, h.bel.setCell (p := ⟨M + 1 + 1, 0, none⟩) (show N ≤ M + 1 + 1 by omega) _, h.lo⟩
theorem TE.stop {w : World} {N M : Nat} {s : ByteArray} {stop : Int} {v : Value} {ts : List S31} {c : Nat} {A : World} (h : TE w N M s stop v ts c A) (stop' : Int) : TE w N M s stop' v ts c (A.setCell ⟨N, 0, none⟩ (.int .i64 stop')) := by
  have hlo := h.lo
  exact ⟨blk_put h.cN 0 _ rfl, blk_far (p := ⟨N, 0, none⟩) h.cR (show N + 1 ≠ N by omega) _, blk_far (p := ⟨N, 0, none⟩) h.cW (show M ≠ N by omega) _,
    blk_far (p := ⟨N, 0, none⟩) h.cS (show M + 1 ≠ N by omega) _, blk_far (p := ⟨N, 0, none⟩) h.cA (show M + 1 + 1 ≠ N by omega) _, Kd.R_far (p := ⟨N, 0, none⟩) h.row (fun k hk => by show k ≠ N; omega) _, h.bel.setCell (p := ⟨N, 0, none⟩) (show N ≤ N by omega) _, h.lo⟩
theorem keptC_set {m0 m1 b : Nat} {A : World} (hb : b < m0) (v : Value) : KeptC m0 m1 A (A.drew.setCell ⟨b, 0, none⟩ v) :=
  ⟨by show A.heap.size ≤ (A.setCell ⟨b, 0, none⟩ v).heap.size; simp [World.setCell], fun k hk _ => Below.heap_setCell A.drew ⟨b, 0, none⟩ v k (show k ≠ b by omega)⟩
theorem res3 {N : Nat} {W : World} {b : Bool} (l : List Value) (h : W.heap[N + 1]? = some (.cells #[.bool b] 4 (0, 0))) (t0 t1 t2 t3 : Value) :
    (results Try.f3 (t0 :: t1 :: t2 :: t3 :: .pointer (some ⟨N + 1, 0, none⟩) :: l).toArray).run Try.prog W = .ok (.bool b) W := by
  have e4 : W.cell? ⟨N + 1, 0, none⟩ = some (.bool b) := (blk_cell h 0).trans rfl
  have hr : Try.f3.results = #[.cell 4 4] := rfl
  simp [results, hr, go_sem, e4]
attribute [local go_sem] Oper.semAt_some
attribute [local go_sem high] eqA31
set_option maxHeartbeats 8000000 in
set_option maxRecDepth 100000 in
theorem each_in (s : ByteArray) (hs : s.size ≤ 8192) (stop : Int) (ts : List S31) (r2 r3 : Int) (ht : toks s.data.toList = (ts, r2, r3)) (hlen : ts.length ≤ 1000000) (r : Nat) (hr : r ≤ ts.length)
    (hT : ∀ w, Calls Try.prog 10 #[.string s] w fun e w' => ∃ v0_ : Value, e = .returned (.tuple #[v0_, .int .i64 r2, .int .i64 r3]) ∧ Kd.R k31 31 w' w.heap.size (fun _ => True) v0_ ts ∧ Below w.heap.size w w')
    (hP : ∀ w, Calls Try.prog 12 #[.int .i64 stop, .int .i64 ((ts.length : Int) + 1)] w fun e w' => e = .returned (.int .i64 (r : Int)) ∧ Drawn0 w w')
    (hK : ∀ w, Calls Try.prog 13 #[] w fun e w' => e = .returned (.bool true) ∧ Below w.heap.size w w')
    (w : World) (n : Nat) (hn : 10 ≤ n) :
    CallsIn Fence.wide n Try.prog 3 #[.string s, .int .i64 stop] w fun e w' => e = .returned (.bool true) ∧ Below w.heap.size w w' := by
  have h1 : 1 ≤ n := by omega
  have c1 : decide (8192 < (s.size : Int)) = false := decide_eq_false (by omega)
  have c2 : decide (8192 < s.size) = false := decide_eq_false (by omega)
  refine callsIn_of_wp_marks Try.func3 rfl trivial ?_ rfl
  simp only [Try.ntmps3, List.size_toArray, List.length_cons, List.length_nil, Nat.reduceAdd, Nat.reduceSub, Array.replicate_succ, Array.replicate_zero, List.push_toArray, List.append_toArray, List.nil_append, List.cons_append]
  have hnf : ∀ (w : World) (a : Value), Sem.run Try.prog (binOp BinOp.eql 27 (.func (.func 29) #[] #[a]) .nilFunc) w = .ok (.bool false) w := fun _ _ => by kernel_rfl
  obtain ⟨N, hN⟩ : ∃ N, w.heap.size = N := ⟨_, rfl⟩
  have hB := Below.refl w.heap.size w
  have z0 := blk_new w (.cells #[.int .i64 stop] 3)
  have y0 := below_alloc hB (.cells #[.int .i64 stop] 3)
  have z1 := blk_new (w.alloc (.cells #[.int .i64 stop] 3)) (.cells #[.bool false] 4)
  have y1 := below_alloc y0 (.cells #[.bool false] 4)
  have z0 := blk_alloc z0 (.cells #[.bool false] 4)
  have s1 : ((w.alloc (.cells #[.int .i64 stop] 3)).alloc (.cells #[.bool false] 4)).heap.size = N + 1 + 1 := by simp [World.size_alloc, hN]
  rw [World.size_alloc, hN] at z1
  rw [hN] at z0 y1
  obtain ⟨W0, hW0⟩ : ∃ Z, (w.alloc (.cells #[.int .i64 stop] 3)).alloc (.cells #[.bool false] 4) = Z := ⟨_, rfl⟩
  rw [hW0] at z0 z1 y1 s1
  clear y0 hB
  gi_wp2_with (refine ⟨trivial, ?_⟩; gi_at_call 10; refine (callsIn_wide.2 (hT _)).mono ?_; rintro e w1 ⟨v0, rfl, hrow, hb1⟩; obtain ⟨A, cap, rfl⟩ := Kd.R_slice hrow)
  have z0 := blk_below z0 hb1
  have z1 := blk_below z1 hb1
  have y1 := y1.trans (hb1.mono (by omega))
  have sz1 := hb1.size
  have hrow := Kd.R_mono (Kd.R_lower (Kd.R_bound hrow) (show N ≤ W0.heap.size by omega)) (ok' := fun k => N + 1 + 1 ≤ k ∧ k < w1.heap.size) (fun k hk => ⟨by have := hk.2.1; omega, hk.2.2.1⟩)
  obtain ⟨M, hM⟩ : ∃ M, w1.heap.size = M := ⟨_, rfl⟩
  have zW := blk_new w1 (.cells #[.slice A ts.length cap] 22)
  have z0 := blk_alloc z0 (.cells #[.slice A ts.length cap] 22)
  have z1 := blk_alloc z1 (.cells #[.slice A ts.length cap] 22)
  have y1 := y1.alloc (show N ≤ w1.heap.size by omega) (.cells #[.slice A ts.length cap] 22)
  have hrow := Kd.R_move hrow (fun k hk => (below_alloc (Below.refl w1.heap.size w1) (.cells #[.slice A ts.length cap] 22)).block k hk.2)
  obtain ⟨W1, hW1⟩ : ∃ Z, w1.alloc (.cells #[.slice A ts.length cap] 22) = Z := ⟨_, rfl⟩
  have s2 : W1.heap.size = M + 1 := by rw [← hW1, World.size_alloc, hM]
  rw [hM] at hrow sz1 zW
  rw [hW1] at z0 z1 zW y1 hrow
  clear hb1
  gi_wp2_with (refine ⟨trivial, ?_⟩; gi_at_call 11; refine (callsIn_wide.2 (each11_c s _)).mono ?_; rintro e w2 ⟨rfl, zS, s3, hb2⟩)
  rw [hW1] at zS s3 hb2
  rw [s2] at zS s3
  have z0 := blk_below z0 hb2
  have z1 := blk_below z1 hb2
  have zW := blk_below zW hb2
  have y1 := y1.trans (hb2.mono (by omega))
  have hrow := Kd.R_move hrow (fun k hk => hb2.block k (by omega))
  have zA := blk_new w2 (.cells #[.int .i64 0] 3)
  have z0 := blk_alloc z0 (.cells #[.int .i64 0] 3)
  have z1 := blk_alloc z1 (.cells #[.int .i64 0] 3)
  have zW := blk_alloc zW (.cells #[.int .i64 0] 3)
  have zS := blk_alloc zS (.cells #[.int .i64 0] 3)
  have y1 := y1.alloc (show N ≤ w2.heap.size by omega) (.cells #[.int .i64 0] 3)
  have hrow := Kd.R_move hrow (fun k hk => (below_alloc (Below.refl w2.heap.size w2) (.cells #[.int .i64 0] 3)).block k (by omega))
  rw [s3] at zA
  obtain ⟨W2, hW2⟩ : ∃ Z, w2.alloc (.cells #[.int .i64 0] 3) = Z := ⟨_, rfl⟩
  have s4 : W2.heap.size = M + 1 + 1 + 1 := by rw [← hW2, World.size_alloc, s3]
  rw [hW2] at z0 z1 zW zS zA y1 hrow ⊢
  have hTE : TE w N M s stop (.slice A ts.length cap) ts 0 W2 := ⟨z0, z1, zW, zS, zA, hrow, y1, by omega⟩
  clear hb2 z0 z1 zW zA y1 hrow
  have hse := each1_c s ts r2 r3 ht hlen (M + 1) W2 zS (n - 1) (by omega)
  refine wpIn_rangeFunc_over (F := Fence.wide) rfl h1 (gf := 29) (lb := #[.pointer (some ⟨M + 1, 0, none⟩)]) rfl trivial (enters_of Try.func29 (by kernel_rfl) rfl) hse (fun _ => rfl)
    (fun c W => TE w N M s stop (.slice A ts.length cap) ts c W) (fun (c : Code) (x : Nat) (W : World) => False) (fun _ A B hs hst => hs.below hst)
    (fun s_ A l o o' hs hl ho hc => hs.put (by omega) ho hc) (fun c s_ A l o o' hs hl ho hc => hs)
    (fun (x : Nat) m a' W => a' = { tmps := #[.string s, .int .i64 stop, undef, .pointer (some ⟨N, 0, none⟩), .pointer (some ⟨N + 1, 0, none⟩), .pointer (some ⟨M, 0, none⟩), .int .i64 r2, .int .i64 r3, Value.func (.func 29) #[] #[.pointer (some ⟨M + 1, 0, none⟩)], .pointer (some ⟨M + 1 + 1, 0, none⟩), .int .i64 (x : Int), .pointer (some ⟨m, 0, none⟩), undef, undef, .string s, .int .i64 (s.size : Int), .bool false, .tuple #[.slice A ts.length cap, .int .i64 r2, .int .i64 r3], .string s, .tuple #[.slice A ts.length cap, .int .i64 r2, .int .i64 r3], .slice A ts.length cap, .int .i64 r2, .int .i64 r3, .string s, Value.func (.func 29) #[] #[.pointer (some ⟨M + 1, 0, none⟩)], Value.func (.func 29) #[] #[.pointer (some ⟨M + 1, 0, none⟩)], .bool false, Value.func (.func 29) #[] #[.pointer (some ⟨M + 1, 0, none⟩)], .int .i64 (x : Int), .agg (tk (rd_T31 ts (x : Int))), undef, undef, undef, undef, undef, undef, undef, undef, undef, undef, undef, undef, undef, undef, undef, undef, undef, undef, undef, undef, undef, undef, undef, undef, undef, undef, undef, undef, undef, undef, undef, undef, undef, undef, undef, undef, undef, undef, undef, undef, undef, undef, undef, undef, undef, undef, undef, undef, undef, undef, undef, undef, undef], defers := [] } ∧ W.heap[m]? = some (.cells (tk (rd_T31 ts (x : Int))) 31 (0, 0)))
    (fun x m a' A l o o' h ho hc => ⟨h.1, blk_put2 h.2 ho hc⟩)
    hTE ?assign ?body ?done ?stop
  case assign =>
    intro l x W K hK
    dsimp only [encT, tk]
    gi_wp2
    exact hK _ _ (below_alloc (Below.refl _ _) _) ⟨rfl, blk_new _ _⟩
  case body =>
    rintro l x a' m w3 hm hx hI hm2 ⟨rfl, hc⟩
    have e9 := blk_cell hI.cA 0
    have e5 := blk_cell hI.cW 0
    have f9 := blk_frozen hI.cA 0
    have t0 := blk_cell hc 0
    have t1 := blk_cell hc 1
    have t2 := blk_cell hc 2
    have t3 := blk_cell hc 3
    have t4 := blk_cell hc 4
    simp only [tk, List.getElem?_toArray, List.getElem?_cons_zero, List.getElem?_cons_succ] at e9 e5 t0 t1 t2 t3 t4
    obtain ⟨hn', _, hC⟩ := Kd.R_reads' hI.row
    obtain ⟨ad, hA, hx0, hx1, hx2, hx3, hx4⟩ := at_T31 hC (x : Int) (by omega) (by omega)
    subst hA
    simp only [Int.toNat_natCast] at hx0 hx1 hx2 hx3 hx4
    have d1 : decide ((ts.length : Int) ≤ (x : Int)) = false := decide_eq_false (by omega)
    have d2 : decide (ts.length ≤ x) = false := decide_eq_false (by omega)
    have q3 : (0 ≤ (x : Int)) = True := eq_true (by omega)
    have q1 : ((x : Int) < (ts.length : Int)) = True := eq_true (by omega)
    have q2 : (x < ts.length) = True := eq_true hx
    have hwc : IntKind.i64.wrap ((x : Int) + 1) = (x : Int) + 1 := by rw [i64_w, w64 (by omega) (by omega)]
    have HI := Aside0.mk hI
    clear hC hn' hI hTE hse
    have e9 : w3.drew.cell? _ = _ := e9
    have e5 : w3.drew.cell? _ = _ := e5
    have f9 : w3.drew.frozen? _ = _ := f9
    have t0 : w3.drew.cell? _ = _ := t0
    have t1 : w3.drew.cell? _ = _ := t1
    have t2 : w3.drew.cell? _ = _ := t2
    have t3 : w3.drew.cell? _ = _ := t3
    have t4 : w3.drew.cell? _ = _ := t4
    have hx0 : w3.drew.cell? _ = _ := hx0
    have hx1 : w3.drew.cell? _ = _ := hx1
    have hx2 : w3.drew.cell? _ = _ := hx2
    have hx3 : w3.drew.cell? _ = _ := hx3
    have hx4 : w3.drew.cell? _ = _ := hx4
    have hKO : KeepsOthers w3 (w3.drew.setCell ⟨M + 1 + 1, 0, none⟩ (.int .i64 ((x + 1 : Nat) : Int))) := (KeepsOthers.drew _).trans (KeepsOthers.setCell _ _ _)
    have hKC : KeptC W2.heap.size m w3 (w3.drew.setCell ⟨M + 1 + 1, 0, none⟩ (.int .i64 ((x + 1 : Nat) : Int))) := keptC_set (by omega) _
    have hT2 := (HI.out.below (below_drew (Below.refl _ _))).set (x + 1)
    have HF := Aside0.mk (And.intro hKO (And.intro hKC hT2))
    clear hKO hKC hT2
    --REG1
    gi_wp2
    gi_region_with (fail)
    all_goals gi_wp2
    all_goals exact HF.out
    --END1
  case done =>
    intro D W hI hD hDw
    have e9 := blk_cell hI.cA 0
    have e5 := blk_cell hI.cW 0
    have e3 := blk_cell hI.cN 0
    have f3 := blk_frozen hI.cN 0
    simp only [List.getElem?_toArray, List.getElem?_cons_zero, List.getElem?_cons_succ] at e9 e5 e3
    have hwn : IntKind.i64.wrap ((ts.length : Int) + 1) = (ts.length : Int) + 1 := by rw [i64_w, w64 (by omega) (by omega)]
    have hDlt := (Array.getElem?_eq_some_iff.1 hD).1
    have HI := Aside0.mk hI
    clear hI hTE hse zS
    gi_wp2_with (refine ⟨trivial, ?_⟩; gi_at_call 12; refine (callsIn_wide.2 (hP _)).mono ?_; rintro e w5 ⟨rfl, hdr⟩; have hT5 := HI.out.below (drawn_below hdr); have hsz5 := (drawn_below hdr).size; have hD5 := ((drawn_below hdr).block D hDlt).trans hD; have f3 := blk_frozen hT5.cN 0; have f9 := blk_frozen hT5.cA 0; have e39 := (blk_cell hT5.cN 0); have e99 := (blk_cell hT5.cA 0); simp only [List.getElem?_toArray, List.getElem?_cons_zero, List.getElem?_cons_succ] at e39 e99; clear HI)
    have hT6 := (hT5.stop (r : Int)).set 0
    have hD6 : ((w5.setCell ⟨N, 0, none⟩ (.int .i64 (r : Int))).setCell ⟨M + 1 + 1, 0, none⟩ (.int .i64 0)).heap[D]? = some (.deferred (some [])) := (Below.heap_setCell _ ⟨M + 1 + 1, 0, none⟩ _ D (show D ≠ M + 1 + 1 by omega)).trans ((Below.heap_setCell w5 ⟨N, 0, none⟩ _ D (show D ≠ N by omega)).trans hD5)
    obtain ⟨W6, hW6⟩ : ∃ Z, (w5.setCell ⟨N, 0, none⟩ (.int .i64 (r : Int))).setCell ⟨M + 1 + 1, 0, none⟩ (.int .i64 0) = Z := ⟨_, rfl⟩
    have hT6 : TE w N M s r (.slice A ts.length cap) ts 0 W6 := by rw [← hW6]; exact hT6
    rw [hW6] at hD6 ⊢
    have s6 : W6.heap.size = w5.heap.size := by rw [← hW6]; simp [World.setCell]
    have hDlt6 := (Array.getElem?_eq_some_iff.1 hD6).1
    have hMlt6 := blk_lt hT6.cA
    clear hT5 hD5 hD hdr e9 e5 e3 f3 f9 e39 e99
    have hse2 := each1_c s ts r2 r3 ht hlen (M + 1) W6 hT6.cS (n - 1) (by omega)
    refine wpIn_rangeFunc_over (F := Fence.wide) rfl h1 (gf := 29) (lb := #[.pointer (some ⟨M + 1, 0, none⟩)]) rfl trivial (enters_of Try.func29 (by kernel_rfl) rfl) hse2 (fun _ => rfl)
      (fun c W => TE w N M s r (.slice A ts.length cap) ts c W ∧ W.heap[D]? = some (.deferred (some [])) ∧ c ≤ r)
      (fun (c : Code) (x : Nat) (W : World) => c = .exit 2 ∧ x = r ∧ TE w N M s r (.slice A ts.length cap) ts x W ∧ W.heap[D]? = some (.deferred (some [])))
      (fun _ A B hs hst => ⟨hs.1.below hst, (hst.block D (Array.getElem?_eq_some_iff.1 hs.2.1).1).trans hs.2.1, hs.2.2⟩)
      (fun s_ A l o o' hs hl ho hc => ⟨hs.1.put (by omega) ho hc, (World.putObj_heap_other (by omega)).trans hs.2.1, hs.2.2⟩)
      (fun c s_ A l o o' hs hl ho hc => ⟨hs.1, hs.2.1, hs.2.2.1.put (by omega) ho hc, (World.putObj_heap_other (by omega)).trans hs.2.2.2⟩)
      (fun (x : Nat) m a' W => a' = { tmps := #[.string s, .int .i64 stop, undef, .pointer (some ⟨N, 0, none⟩), .pointer (some ⟨N + 1, 0, none⟩), .pointer (some ⟨M, 0, none⟩), .int .i64 r2, .int .i64 r3, Value.func (.func 29) #[] #[.pointer (some ⟨M + 1, 0, none⟩)], .pointer (some ⟨M + 1 + 1, 0, none⟩), undef, undef, .int .i64 (x : Int), .pointer (some ⟨m, 0, none⟩), .string s, .int .i64 (s.size : Int), .bool false, .tuple #[.slice A ts.length cap, .int .i64 r2, .int .i64 r3], .string s, .tuple #[.slice A ts.length cap, .int .i64 r2, .int .i64 r3], .slice A ts.length cap, .int .i64 r2, .int .i64 r3, .string s, Value.func (.func 29) #[] #[.pointer (some ⟨M + 1, 0, none⟩)], Value.func (.func 29) #[] #[.pointer (some ⟨M + 1, 0, none⟩)], .bool false, Value.func (.func 29) #[] #[.pointer (some ⟨M + 1, 0, none⟩)], undef, undef, undef, undef, undef, undef, undef, undef, undef, undef, undef, undef, undef, undef, undef, undef, undef, undef, undef, undef, undef, .int .i64 (ts.length : Int), .slice A ts.length cap, .int .i64 (ts.length : Int), .bool false, .int .i64 stop, .slice A ts.length cap, .int .i64 (ts.length : Int), .int .i64 ((ts.length : Int) + 1), .int .i64 (r : Int), Value.func (.func 29) #[] #[.pointer (some ⟨M + 1, 0, none⟩)], .int .i64 (x : Int), .agg (tk (rd_T31 ts (x : Int))), undef, undef, undef, undef, undef, undef, undef, undef, undef, undef, undef, undef, undef, undef, undef, undef, undef, undef, undef, undef, undef, undef], defers := [] } ∧ W.heap[m]? = some (.cells (tk (rd_T31 ts (x : Int))) 31 (0, 0)))
      (fun x m a' A l o o' h ho hc => ⟨h.1, blk_put2 h.2 ho hc⟩)
      ⟨hT6, hD6, Nat.zero_le _⟩ ?assign2 ?body2 ?done2 ?stop2
    case assign2 =>
      intro l x W K hK
      dsimp only [encT, tk]
      gi_wp2
      exact hK _ _ (below_alloc (Below.refl _ _) _) ⟨rfl, blk_new _ _⟩
    case body2 =>
      rintro l x a' m w3 hm hx ⟨hI, hD3, hxr⟩ hm2 ⟨rfl, hc⟩
      have e9 := blk_cell hI.cA 0
      have e3 := blk_cell hI.cN 0
      simp only [List.getElem?_toArray, List.getElem?_cons_zero, List.getElem?_cons_succ] at e9 e3
      by_cases hxe : x = r
      · have d5 : decide ((r : Int) ≤ (x : Int)) = true := decide_eq_true (by omega)
        have d6 : decide (r ≤ x) = true := decide_eq_true (by omega)
        have HF := Aside0.mk (And.intro hxe (And.intro hI hD3))
        clear hI hD3 hT6 hse2 hxe
        gi_wp2
        exact ⟨KeepsOthers.refl _, rfl, HF.out⟩
      · have e5 := blk_cell hI.cW 0
        have f9 := blk_frozen hI.cA 0
        have t0 := blk_cell hc 0
        have t1 := blk_cell hc 1
        have t2 := blk_cell hc 2
        have t3 := blk_cell hc 3
        have t4 := blk_cell hc 4
        simp only [tk, List.getElem?_toArray, List.getElem?_cons_zero, List.getElem?_cons_succ] at e5 t0 t1 t2 t3 t4
        obtain ⟨hn', _, hC⟩ := Kd.R_reads' hI.row
        obtain ⟨ad, hA, hx0, hx1, hx2, hx3, hx4⟩ := at_T31 hC (x : Int) (by omega) (by omega)
        subst hA
        simp only [Int.toNat_natCast] at hx0 hx1 hx2 hx3 hx4
        have d5 : decide ((r : Int) ≤ (x : Int)) = false := decide_eq_false (by omega)
        have d6 : decide (r ≤ x) = false := decide_eq_false (by omega)
        have q3 : (0 ≤ (x : Int)) = True := eq_true (by omega)
        have q1 : ((x : Int) < (ts.length : Int)) = True := eq_true (by omega)
        have q2 : (x < ts.length) = True := eq_true hx
        have hwc : IntKind.i64.wrap ((x : Int) + 1) = (x : Int) + 1 := by rw [i64_w, w64 (by omega) (by omega)]
        have hKO : KeepsOthers w3 (w3.drew.setCell ⟨M + 1 + 1, 0, none⟩ (.int .i64 ((x + 1 : Nat) : Int))) := (KeepsOthers.drew _).trans (KeepsOthers.setCell _ _ _)
        have hKC : KeptC W6.heap.size m w3 (w3.drew.setCell ⟨M + 1 + 1, 0, none⟩ (.int .i64 ((x + 1 : Nat) : Int))) := keptC_set (by omega) _
        have hT2 := (hI.below (below_drew (Below.refl _ _))).set (x + 1)
        have hDD : (w3.drew.setCell ⟨M + 1 + 1, 0, none⟩ (.int .i64 ((x + 1 : Nat) : Int))).heap[D]? = some (.deferred (some [])) := (Below.heap_setCell w3.drew ⟨M + 1 + 1, 0, none⟩ _ D (show D ≠ M + 1 + 1 by omega)).trans hD3
        have hxr2 : x + 1 ≤ r := by omega
        have HF := Aside0.mk (And.intro hKO (And.intro hKC (And.intro hT2 (And.intro hDD hxr2))))
        clear hKO hKC hT2 hDD hxr2 hC hn' hI hT6 hse2 hD3 hxr hxe
        --REG1
        have e9 : w3.drew.cell? _ = _ := e9
        have e5 : w3.drew.cell? _ = _ := e5
        have f9 : w3.drew.frozen? _ = _ := f9
        have t0 : w3.drew.cell? _ = _ := t0
        have t1 : w3.drew.cell? _ = _ := t1
        have t2 : w3.drew.cell? _ = _ := t2
        have t3 : w3.drew.cell? _ = _ := t3
        have t4 : w3.drew.cell? _ = _ := t4
        have hx0 : w3.drew.cell? _ = _ := hx0
        have hx1 : w3.drew.cell? _ = _ := hx1
        have hx2 : w3.drew.cell? _ = _ := hx2
        have hx3 : w3.drew.cell? _ = _ := hx3
        have hx4 : w3.drew.cell? _ = _ := hx4
        gi_wp2
        gi_region_with (fail)
        all_goals gi_wp2
        all_goals exact HF.out
        --END1
    case done2 =>
      rintro D2 W ⟨hT, hD1, hle⟩ hD2 hDw2
      have hT : TE w N M s r (.slice A ts.length cap) ts r W := (show ∀ c, c = r → TE w N M s r (.slice A ts.length cap) ts c W → TE w N M s r (.slice A ts.length cap) ts r W from fun c h t => h ▸ t) _ (by omega) hT
      have e9 := blk_cell hT.cA 0
      have e3 := blk_cell hT.cN 0
      simp only [List.getElem?_toArray, List.getElem?_cons_zero, List.getElem?_cons_succ] at e9 e3
      have hlt1 := (Array.getElem?_eq_some_iff.1 hD1).1
      have hlt2 := (Array.getElem?_eq_some_iff.1 hD2).1
      have hlo := hT.lo
      have HT := Aside0.mk hT
      clear hT hT6 hse2
      gi_wp2_with (refine ⟨trivial, ?_⟩; gi_at_call 13; refine (callsIn_wide.2 (hK _)).mono ?_; rintro e w7 ⟨rfl, hb7⟩; have hT7 := HT.out.below hb7; have hD17 := (hb7.block D hlt1).trans hD1; have hD27 := (hb7.block D2 hlt2).trans hD2; have f4 := blk_frozen hT7.cR 0; have e4 := blk_cell hT7.cR 0; simp only [List.getElem?_toArray, List.getElem?_cons_zero, List.getElem?_cons_succ] at e4; clear HT)
      have k4 := blk_put hT7.cR 0 (.bool true) rfl
      have kD1 := (Below.heap_setCell w7 ⟨N + 1, 0, none⟩ (.bool true) D (show D ≠ N + 1 by omega)).trans hD17
      have kD2 := (Below.heap_setCell w7 ⟨N + 1, 0, none⟩ (.bool true) D2 (show D2 ≠ N + 1 by omega)).trans hD27
      have kb := hT7.bel.setCell (p := ⟨N + 1, 0, none⟩) (show N ≤ N + 1 by omega) (.bool true)
      have kD1' := (World.putObj_heap_other (w := w7.setCell ⟨N + 1, 0, none⟩ (.bool true)) (o := .deferred none) (show D ≠ D2 by omega)).trans kD1
      refine ⟨by simp, .inl ⟨_, _, rfl, run_takeDeferred kD2, ⟨by simp, .inl ⟨_, _, rfl, run_takeDeferred kD1', ?_⟩⟩⟩⟩
      exact ⟨_, res3 _ (blk_put2 (blk_put2 k4 kD2 rfl) kD1' rfl) _ _ _ _, rfl, by rw [hN]; exact bel_put (bel_put kb (by omega) kD2) (by omega) kD1'⟩
    case stop2 =>
      rintro D2 c x W hx ⟨rfl, rfl, hT, hD1⟩ hD2 hDw2
      have e9 := blk_cell hT.cA 0
      have e3 := blk_cell hT.cN 0
      simp only [List.getElem?_toArray, List.getElem?_cons_zero, List.getElem?_cons_succ] at e9 e3
      have hlt1 := (Array.getElem?_eq_some_iff.1 hD1).1
      have hlt2 := (Array.getElem?_eq_some_iff.1 hD2).1
      have hlo := hT.lo
      have HT := Aside0.mk hT
      clear hT hT6 hse2
      gi_wp2_with (refine ⟨trivial, ?_⟩; gi_at_call 13; refine (callsIn_wide.2 (hK _)).mono ?_; rintro e w7 ⟨rfl, hb7⟩; have hT7 := HT.out.below hb7; have hD17 := (hb7.block D hlt1).trans hD1; have hD27 := (hb7.block D2 hlt2).trans hD2; have f4 := blk_frozen hT7.cR 0; have e4 := blk_cell hT7.cR 0; simp only [List.getElem?_toArray, List.getElem?_cons_zero, List.getElem?_cons_succ] at e4; clear HT)
      have k4 := blk_put hT7.cR 0 (.bool true) rfl
      have kD1 := (Below.heap_setCell w7 ⟨N + 1, 0, none⟩ (.bool true) D (show D ≠ N + 1 by omega)).trans hD17
      have kD2 := (Below.heap_setCell w7 ⟨N + 1, 0, none⟩ (.bool true) D2 (show D2 ≠ N + 1 by omega)).trans hD27
      have kb := hT7.bel.setCell (p := ⟨N + 1, 0, none⟩) (show N ≤ N + 1 by omega) (.bool true)
      have kD1' := (World.putObj_heap_other (w := w7.setCell ⟨N + 1, 0, none⟩ (.bool true)) (o := .deferred none) (show D ≠ D2 by omega)).trans kD1
      refine ⟨by simp, .inl ⟨_, _, rfl, run_takeDeferred kD2, ⟨by simp, .inl ⟨_, _, rfl, run_takeDeferred kD1', ?_⟩⟩⟩⟩
      exact ⟨_, res3 _ (blk_put2 (blk_put2 k4 kD2 rfl) kD1' rfl) _ _ _ _, rfl, by rw [hN]; exact bel_put (bel_put kb (by omega) kD2) (by omega) kD1'⟩
  case stop =>
    intro D c x W hx hX
    exact hX.elim
end Go.Proofs.Ytmmilinbpimfaaa.WalkEachL
