/- The contract of lex.Tokens. Under no conditions beyond the statements' own. -/
import Derived.Test.YtmmilinbpimfaaaPureLex
import Derived.Test.YtmmilinbpimfaaaSwitch
import Derived.Test.YtmmilinbpimfaaaPlainLex
import Derived.Test.YtmmilinbpimfaaaWalkBlanks
import Derived.Test.YtmmilinbpimfaaaWalkRange
import Derived.Test.YtmmilinbpimfaaaWalkEachC
import Derived.Outline
import Derived.Deep.RegionWith
import Derived.Deep.QuietTactic
import Derived.BigQuiet
import Derived.Deep.LoopGhost
import Derived.StillTailTactics
import Derived.RangeFuncNested
import Derived.RangeFuncBound
import Derived.RangeFuncCalls
import Derived.RangeFuncLeaves
import Derived.Shelf.Abstract
import Derived.Shelf.RegionOpen
import Derived.WalkKit
import Derived.OwnWalkIn
import Derived.TacticsInMore
import Derived.LoopNIn
import Derived.LoopIn
import Derived.RangeFuncFrom
import Derived.Maps.OwnIn
import Derived.RangeFuncBox
import Derived.Sort.LoopGhostIn
import Derived.Sort.CutIn
import Derived.Sort.QuietIn
import Derived.Stop.RegionWithIn
set_option linter.unusedSimpArgs false
set_option linter.unusedVariables false
namespace Go.Proofs.Ytmmilinbpimfaaa.WalkTokens
open Go.RowKit Go.Proofs.Ytmmilinbpimfaaa.PLexKnown Go.Proofs.YtmmilinbpimfaaaW.PrintWords Go.Proofs.YtmmilinbpimfaaaW.PrintLast Go.Proofs.YtmmilinbpimfaaaW.PrintMore Go.Proofs.Ytmmilinbpimfaaa.Switch Go.Proofs.Ytmmilinbpimfaaa.Spec Go.Proofs.Ytmmilinbpimfaaa.PureLex
open Go.Proofs.Ytmmilinbpimfaaa.WalkBlanks
open Go.Proofs.Ytmmilinbpimfaaa.WalkRange
open Go.Proofs.Ytmmilinbpimfaaa.WalkEachC
-- RANGEIN rangeFunc
abbrev It := WalkEachC.Item
def toS (i : It) : S31 := ⟨i.k, i.t, i.n, i.a, i.b⟩
/-- What a source's items answer: the tokens, or the first wrong one's place and number. -/
def fin : List (Nat × Res) → List S31 → List S31 × Int × Int
  | [], acc => (acc, 0, 0)
  | (o, .ok k t n m) :: r, acc => fin r (acc ++ [⟨(k : Int), ⟨t.toArray⟩, (n : Int), (o : Int), ((o + m : Nat) : Int)⟩])
  | (o, .bad d e) :: _, _ => ([], ((o + d : Nat) : Int), (e : Int))
def toks (s : B) : List S31 × Int × Int := if 65536 < s.length then ([], 0, 3) else fin (items 32770 0 0 s) []
def Good (rs : List (Nat × Res)) : Prop := ∀ o d e, (o, Res.bad d e) ∈ rs → e ≠ 0
theorem items_good : ∀ (f n o : Nat) (l : B), Good (items f n o l)
  | 0, _, _, _ => fun _ _ _ h => by simp [items] at h
  | f + 1, n, o, l => fun o' d e h => by
    simp only [items] at h
    split at h
    · simp at h
    · split at h
      · simp only [List.mem_singleton, Prod.mk.injEq, Res.bad.injEq] at h
        omega
      · split at h
        · rename_i hx
          simp only [List.mem_singleton, Prod.mk.injEq, Res.bad.injEq] at h
          obtain ⟨_, rfl, rfl⟩ := h
          exact nxt_bad hx
        · rcases List.mem_cons.1 h with h | h
          · simp at h
          · exact items_good f _ _ _ _ _ _ h
theorem fin_done {rs : List (Nat × Res)} {xs : List It} (h : FitAll rs xs) : Good rs → (∀ x ∈ xs, x.y = 0) → ∀ acc, fin rs acc = (acc ++ xs.map toS, 0, 0) := by
  induction h with
  | nil => intro _ _ acc; simp [fin]
  | @cons r i rs is hf _ ih =>
    intro hg hy acc
    obtain ⟨o, r⟩ := r
    cases r with
    | ok k t n m =>
      obtain rfl : i = _ := hf
      rw [fin, ih (fun o d e h => hg o d e (List.mem_cons_of_mem _ h)) (fun x hx => hy x (List.mem_cons_of_mem _ hx))]
      simp [toS]
    | bad d e => exact absurd (hf.2.symm.trans (hy i List.mem_cons_self)) (by have := hg o d e List.mem_cons_self; omega)
theorem fin_stop : ∀ (pre : List It) (rs : List (Nat × Res)) (k : Nat) (x : It), FitAll (rs.take k) (pre ++ [x]) → Good rs → (∀ x ∈ pre, x.y = 0) → x.y ≠ 0 → ∀ acc, fin rs acc = ([], x.x, x.y)
  | [], rs, k, x, h, hg, _, hx, acc => by
    cases rs with
    | nil => simp at h; cases h
    | cons r rs =>
      cases k with
      | zero => simp at h; cases h
      | succ k =>
        rw [List.take_succ_cons, List.nil_append] at h
        cases h with
        | cons hf _ =>
          obtain ⟨o, r⟩ := r
          cases r with
          | ok k t n m => obtain rfl : x = _ := hf; exact absurd rfl hx
          | bad d e => rw [fin, hf.1, hf.2]
  | i :: pre, rs, k, x, h, hg, hy, hx, acc => by
    cases rs with
    | nil => simp at h; cases h
    | cons r rs =>
      cases k with
      | zero => simp at h; cases h
      | succ k =>
        rw [List.take_succ_cons, List.cons_append] at h
        cases h with
        | cons hf ht =>
          obtain ⟨o, r⟩ := r
          cases r with
          | ok q t n m => rw [fin]; exact fin_stop pre rs k x ht (fun o d e h => hg o d e (List.mem_cons_of_mem _ h)) (fun x hx => hy x (List.mem_cons_of_mem _ hx)) hx _
          | bad d e => exact absurd (hf.2.symm.trans (hy i List.mem_cons_self)) (by have := hg o d e List.mem_cons_self; omega)
/-- Between two rounds. -/
structure TI (w : World) (N : Nat) (pre : List It) (W : World) : Prop where
  c2 : W.heap[N]? = some (.cells #[.slice none 0 0] 22 (0, 0))
  c3 : W.heap[N + 1]? = some (.cells #[.int .i64 0] 3 (0, 0))
  c4 : W.heap[N + 1 + 1]? = some (.cells #[.int .i64 0] 23 (0, 0))
  row : ∃ v, W.heap[N + 1 + 1 + 1]? = some (.cells #[v] 22 (0, 0)) ∧ Kd.R k31 31 W N (fun k => N + 1 + 1 + 1 + 1 + 1 ≤ k) v (pre.map toS)
  y : ∀ x ∈ pre, x.y = 0
  bel : Below N w W
  sz : N + 1 + 1 + 1 + 1 + 1 ≤ W.heap.size
/-- A round has left. -/
structure TX (w : World) (N : Nat) (pre : List It) (W : World) : Prop where
  c2 : W.heap[N]? = some (.cells #[.slice none 0 0] 22 (0, 0))
  ex : ∃ (p' : List It) (x : It), pre = p' ++ [x] ∧ (∀ y ∈ p', y.y = 0) ∧ x.y ≠ 0 ∧ W.heap[N + 1]? = some (.cells #[.int .i64 x.x] 3 (0, 0)) ∧ W.heap[N + 1 + 1]? = some (.cells #[.int .i64 x.y] 23 (0, 0))
  bel : Below N w W
theorem bel_step {w A B : World} {N g : Nat} (h : Below N w A) (hN : N ≤ A.heap.size) (hg : N ≤ g) (s : StepBut g A B) : Below N w B :=
  ⟨s.os.trans h.os, s.tape.trans h.tape, s.output.trans h.output, Nat.le_trans h.size s.size, fun k hk => (s.block k (Nat.lt_of_lt_of_le hk hN) (by omega)).trans (h.block k hk)⟩
theorem bel_put {w A : World} {N l : Nat} {o o' : Obj} (h : Below N w A) (hl : N ≤ l) (ho : A.heap[l]? = some o) : Below N w (A.putObj l o') :=
  h.grown (grownBy_putObj' A l o') (by have := blk_lt ho; omega) (fun k e => by cases e; exact hl)
theorem blk_put2 {A : World} {l j : Nat} {o o' : Obj} {cs : Array Value} {t : Nat} (h : A.heap[j]? = some (.cells cs t (0, 0))) (ho : A.heap[l]? = some o) (hc : o.isCells = false) : (A.putObj l o').heap[j]? = some (.cells cs t (0, 0)) :=
  (World.putObj_heap_other (fun e : j = l => by rw [e, ho] at h; cases h; cases hc)).trans h
theorem TI.step {w : World} {N : Nat} {pre : List It} {A B : World} (h : TI w N pre A) (hs : StepBut (N + 1 + 1 + 1 + 1) A B) : TI w N pre B := by
  obtain ⟨v, h5, hr⟩ := h.row
  have hlt := blk_lt h5
  exact ⟨(hs.block _ (blk_lt h.c2) (by omega)).trans h.c2, (hs.block _ (blk_lt h.c3) (by omega)).trans h.c3, (hs.block _ (blk_lt h.c4) (by omega)).trans h.c4,
    ⟨v, (hs.block _ hlt (by omega)).trans h5, Kd.R_step hr (fun k hk hl => hs.block k hl (by omega))⟩, h.y, bel_step h.bel (by omega) (by omega) hs, Nat.le_trans h.sz hs.size⟩
theorem TI.put {w : World} {N : Nat} {pre : List It} {A : World} {l : Nat} {o o' : Obj} (h : TI w N pre A) (hl : N + 1 + 1 + 1 + 1 + 1 ≤ l) (ho : A.heap[l]? = some o) (hc : o.isCells = false) : TI w N pre (A.putObj l o') := by
  obtain ⟨v, h5, hr⟩ := h.row
  refine ⟨blk_put2 h.c2 ho hc, blk_put2 h.c3 ho hc, blk_put2 h.c4 ho hc, ⟨v, blk_put2 h5 ho hc, Kd.R_mono (Kd.R_move (Kd.R_bound hr) (fun k hk => ?_)) (fun _ hk => hk.1)⟩, h.y, bel_put h.bel (by omega) ho, by simpa using h.sz⟩
  obtain ⟨_, _, _, q, _, cells, hk⟩ := hk
  exact (blk_put2 hk ho hc).trans hk.symm
theorem TX.put {w : World} {N : Nat} {pre : List It} {A : World} {l : Nat} {o o' : Obj} (h : TX w N pre A) (hl : N + 1 + 1 + 1 + 1 + 1 ≤ l) (ho : A.heap[l]? = some o) (hc : o.isCells = false) : TX w N pre (A.putObj l o') := by
  obtain ⟨p', x, e, hy, hx, h3, h4⟩ := h.ex
  exact ⟨blk_put2 h.c2 ho hc, ⟨p', x, e, hy, hx, blk_put2 h3 ho hc, blk_put2 h4 ho hc⟩, bel_put h.bel (by omega) ho⟩
theorem row_shape {W : World} {N : Nat} {ok : Nat → Prop} {v : Value} {xs : List S31} (h : Kd.R k31 31 W N ok v xs) : ∃ A n c, v = .slice A n c := by
  obtain ⟨_, inner, ho, _⟩ := h
  rcases ho.2 with ⟨rfl, _⟩ | ⟨g, cap, cur, rfl, _⟩
  · exact ⟨_, _, _, rfl⟩
  · exact ⟨_, _, _, rfl⟩
theorem res18 {N : Nat} {A : Option Addr} {n c : Nat} {x y : Int} {W : World} (l : List Value) (h2 : W.heap[N]? = some (.cells #[.slice A n c] 22 (0, 0))) (h3 : W.heap[N + 1]? = some (.cells #[.int .i64 x] 3 (0, 0))) (h4 : W.heap[N + 1 + 1]? = some (.cells #[.int .i64 y] 23 (0, 0))) (a b : Value) :
    (results Try.f18 (a :: b :: .pointer (some ⟨N, 0, none⟩) :: .pointer (some ⟨N + 1, 0, none⟩) :: .pointer (some ⟨N + 1 + 1, 0, none⟩) :: l).toArray).run Try.prog W = .ok (.tuple #[.slice A n c, .int .i64 x, .int .i64 y]) W := by
  have e2 : W.cell? ⟨N, 0, none⟩ = some (.slice A n c) := (blk_cell h2 0).trans rfl
  have e3 : W.cell? ⟨N + 1, 0, none⟩ = some (.int .i64 x) := (blk_cell h3 0).trans rfl
  have e4 : W.cell? ⟨N + 1 + 1, 0, none⟩ = some (.int .i64 y) := (blk_cell h4 0).trans rfl
  have hr : Try.f18.results = #[.cell 2 22, .cell 3 3, .cell 4 23] := rfl
  simp [results, hr, go_sem, e2, e3, e4]
theorem R_put {W : World} {N l : Nat} {ok : Nat → Prop} {v : Value} {xs : List S31} {o o' : Obj} (h : Kd.R k31 31 W N ok v xs) (ho : W.heap[l]? = some o) (hc : o.isCells = false) : Kd.R k31 31 (W.putObj l o') N ok v xs :=
  Kd.R_mono (Kd.R_move (Kd.R_bound h) (fun k hk => by
    obtain ⟨_, _, _, q, _, cells, hk⟩ := hk
    exact (blk_put2 hk ho hc).trans hk.symm)) (fun _ hk => hk.1)
/-- append of one token, in a round's frame. -/
theorem append_in {F : Fence} {n : Nat} {ops : Array Oper} {rest : List Oper} {o : Oper} {a : Act} {Q : Exit → Act → World → Prop} {W : World} (base : Nat) (hgd : o.guard = none) (s x : Operand)
    (ho : o.op = .call { callee := .builtin .append, args := #[s, x], argTypes := #[22, 22] }) (v : Value) (xs : List S31) (p : S31) (ok : Nat → Prop) (hs : a.eval s = v) (hx : a.eval x = .slice (some ⟨W.heap.size, 0, none⟩) 1 1)
    (hfresh : ∀ k, W.heap.size ≤ k → ok k) (HO : Kd.R k31 31 W base ok v xs) (hbase : base ≤ W.heap.size) (hl : (xs.length + 1) * 48 ≤ 140737488355328)
    (h : ∀ v1 w1, Kd.R k31 31 w1 base ok v1 (xs ++ [p]) → W.grownBy w1 v.ownBlock → (∃ g cap, v1 = .slice (some ⟨g, 0, none⟩) (xs.length + 1) cap) → wpListIn F n Try.prog ops Q rest (a.put o.dst v1) w1) :
    wpListIn F n Try.prog ops Q (o :: rest) a (W.alloc (.cells #[.int .u8 p.f0, .string p.f1, .int .u64 p.f2, .int .i64 p.f3, .int .i64 p.f4] 31)) := by
  obtain ⟨h0, inner, hown, hr⟩ := HO
  obtain ⟨i0, hi, hzz⟩ := Option.map_eq_some_iff.1 info31
  simp only [Prod.mk.injEq] at hzz
  obtain ⟨hz0, hz1, hz2⟩ := hzz
  have hp := k31_mkM W base (fun _ => False) p
  refine wpListIn_append_own_at (w := W.alloc (.cells [.int .u8 p.f0, .string p.f1, .int .u64 p.f2, .int .i64 p.f3, .int .i64 p.f4].toArray 31)) hgd s x 22 ho base 31 i0 _ 5 48 Try.underlying22 hi hz0 hz1 hz2 rfl (by decide) v xs.length inner hs (hown.alloc _) ⟨W.heap.size, 0, none⟩ 1 1 [.int .u8 p.f0, .string p.f1, .int .u64 p.f2, .int .i64 p.f3, .int .i64 p.f4] hx rfl
    (by simpa using World.news_of_block (cs := [.int .u8 p.f0, .string p.f1, .int .u64 p.f2, .int .i64 p.f3, .int .i64 p.f4].toArray) (t := 31) (fr := (0, 0)) (heap_alloc_new W (.cells [.int .u8 p.f0, .string p.f1, .int .u64 p.f2, .int .i64 p.f3, .int .i64 p.f4].toArray 31)))
    (k31.K_one (k31.K_of_M hp)) (by simp only [maxLen]; omega) hl (by simp; omega) ?_
  intro v1 w1 hown1 hg1 _ hat1
  have hg2 := World.grownBy.trans (World.grownBy_alloc W _ _) hg1
  refine h v1 w1 (Kd.R_appended h0 hr hp (fun _ hk => hk.elim) hfresh hown1 hg2 ?_) hg2 ?_
  · rcases hat1 with hat | hat
    · exact .inl hat
    · exact .inr ⟨_, hat, by simp⟩
  · exact ownsRow_succ hown1
attribute [local go_sem] Oper.semAt_some
set_option maxHeartbeats 8000000 in
set_option maxRecDepth 100000 in
theorem tokens_in (s : ByteArray) (hn : s.size ≤ 65536) (r1 : List S31) (r2 r3 : Int) (w : World) (h : fin (items 32770 0 0 s.data.toList) [] = (r1, r2, r3)) (n : Nat) (h3 : 6 ≤ n) :
    CallsIn Fence.wide n Try.prog 18 #[.string s] w fun e w' => ∃ v0_ : Value, e = .returned (.tuple #[v0_, .int .i64 r2, .int .i64 r3]) ∧ Kd.R k31 31 w' w.heap.size (fun _ => True) v0_ r1 ∧ Below w.heap.size w w' := by
  have h1 : 1 ≤ n := by omega
  have c1 : decide (65536 < (s.size : Int)) = false := decide_eq_false (by omega)
  have c2 : decide (65536 < s.size) = false := decide_eq_false (by omega)
  refine callsIn_of_wp_marks Try.func18 rfl trivial ?_ rfl
  simp only [Try.ntmps18, List.size_toArray, List.length_cons, List.length_nil, Nat.reduceAdd, Nat.reduceSub, Array.replicate_succ, Array.replicate_zero, List.push_toArray, List.append_toArray, List.nil_append, List.cons_append]
  gi_wp2
  have hB := Below.refl w.heap.size w
  obtain ⟨N, hN⟩ : ∃ N, w.heap.size = N := ⟨_, rfl⟩
  have z2 := blk_new w (.cells #[.slice none 0 0] 22)
  have y2 := below_alloc hB (.cells #[.slice none 0 0] 22)
  have z3 := blk_new (w.alloc (.cells #[.slice none 0 0] 22)) (.cells #[.int .i64 0] 3)
  have y3 := below_alloc y2 (.cells #[.int .i64 0] 3)
  have z2 := blk_alloc z2 (.cells #[.int .i64 0] 3)
  obtain ⟨Wa, hWa⟩ : ∃ Z, (w.alloc (.cells #[.slice none 0 0] 22)).alloc (.cells #[.int .i64 0] 3) = Z := ⟨_, rfl⟩
  have sa : Wa.heap.size = N + 1 + 1 := by rw [← hWa]; simp [World.size_alloc, hN]
  rw [hWa] at z2 z3 y3 ⊢
  have z4 := blk_new Wa (.cells #[.int .i64 0] 23)
  have y4 := below_alloc y3 (.cells #[.int .i64 0] 23)
  have z2 := blk_alloc z2 (.cells #[.int .i64 0] 23)
  have z3 := blk_alloc z3 (.cells #[.int .i64 0] 23)
  obtain ⟨Wb, hWb⟩ : ∃ Z, Wa.alloc (.cells #[.int .i64 0] 23) = Z := ⟨_, rfl⟩
  have sb : Wb.heap.size = N + 1 + 1 + 1 := by rw [← hWb]; simp [World.size_alloc, sa]
  rw [hWb] at z2 z3 z4 y4 ⊢
  have z5 := blk_new Wb (.cells #[.slice none 0 0] 22)
  have y5 := below_alloc y4 (.cells #[.slice none 0 0] 22)
  have z2 := blk_alloc z2 (.cells #[.slice none 0 0] 22)
  have z3 := blk_alloc z3 (.cells #[.slice none 0 0] 22)
  have z4 := blk_alloc z4 (.cells #[.slice none 0 0] 22)
  obtain ⟨Wc, hWc⟩ : ∃ Z, Wb.alloc (.cells #[.slice none 0 0] 22) = Z := ⟨_, rfl⟩
  have sc : Wc.heap.size = N + 1 + 1 + 1 + 1 := by rw [← hWc]; simp [World.size_alloc, sb]
  rw [hWc] at z2 z3 z4 z5 y5 ⊢
  have z6 := blk_new Wc (.cells #[.string s, .int .i64 0] 49)
  have y6 := below_alloc y5 (.cells #[.string s, .int .i64 0] 49)
  have z2 := blk_alloc z2 (.cells #[.string s, .int .i64 0] 49)
  have z3 := blk_alloc z3 (.cells #[.string s, .int .i64 0] 49)
  have z4 := blk_alloc z4 (.cells #[.string s, .int .i64 0] 49)
  have z5 := blk_alloc z5 (.cells #[.string s, .int .i64 0] 49)
  obtain ⟨Wd, hWd⟩ : ∃ Z, Wc.alloc (.cells #[.string s, .int .i64 0] 49) = Z := ⟨_, rfl⟩
  have sd : Wd.heap.size = N + 1 + 1 + 1 + 1 + 1 := by rw [← hWd]; simp [World.size_alloc, sc]
  rw [hWd] at z2 z3 z4 z5 z6 y6 ⊢
  rw [World.size_alloc, hN] at z3
  rw [sa] at z4
  rw [sb] at z5
  rw [sc] at z6
  rw [hN] at z2 y6 ⊢
  clear hWa hWb hWc hWd hB y2 y3 y4 y5 sa sb sc
  have hse := each_c s (by omega) (N + 1 + 1 + 1 + 1) Wd z6 (n - 1) (by omega)
  refine wpIn_rangeFunc_bound (F := Fence.wide) rfl h1 (gf := 30) (rb := #[.pointer (some ⟨N + 1 + 1 + 1 + 1, 0, none⟩)]) rfl trivial (enters_of Try.func30 (by kernel_rfl) rfl) (blk_lt z6) hse (fun _ => rfl)
    (fun pre W => TI w N pre W) (fun (c : Code) pre W => c = Code.ret ∧ TX w N pre W) (fun s_ A B hs hst => hs.step hst)
    (fun s_ A l o o' hs hl ho hc => hs.put (by omega) ho hc) (fun c s_ A l o o' hs hl ho hc => ⟨hs.1, hs.2.put (by omega) ho hc⟩)
    (fun (x : It) m a' W => a' = { tmps := #[.string s, undef, .pointer (some ⟨N, 0, none⟩), .pointer (some ⟨N + 1, 0, none⟩), .pointer (some ⟨N + 1 + 1, 0, none⟩), .pointer (some ⟨N + 1 + 1 + 1, 0, none⟩), .pointer (some ⟨m, 0, none⟩), .pointer (some ⟨m + 1, 0, none⟩), .string s, .int .i64 (s.size : Int), .bool false, .string s, .agg #[.string s, .int .i64 0], .pointer (some ⟨N + 1 + 1 + 1 + 1, 0, none⟩), .func (.func 30) #[.pointer (some ⟨N + 1 + 1 + 1 + 1, 0, none⟩)] #[], .agg (tokv x), .agg (fltv x), undef, undef, undef, undef, undef, undef, undef, undef, undef, undef, undef, undef], defers := [] } ∧ W.heap[m]? = some (.cells (tokv x) 31 (0, 0)) ∧ W.heap[m + 1]? = some (.cells (fltv x) 51 (0, 0)))
    (fun x m a' A l o o' h ho hc => ⟨h.1, blk_put2 h.2.1 ho hc, blk_put2 h.2.2 ho hc⟩)
    ⟨z2, z3, z4, ⟨_, z5, Kd.R_nil _ _ _ _ _⟩, (fun _ hx => by cases hx), y6, by omega⟩ ?assign ?body ?done ?stop
  case assign =>
    intro l x W K hK
    dsimp only [WalkEachC.encs, tokv, fltv]
    gi_wp2
    refine hK _ _ (below_alloc (below_alloc (Below.refl _ _) _) _) ⟨rfl, blk_alloc (blk_new _ _) _, ?_⟩
    have z := blk_new (W.alloc (.cells #[.int .u8 x.k, .string x.t, .int .u64 x.n, .int .i64 x.a, .int .i64 x.b] 31)) (.cells #[.int .i64 x.x, .int .i64 x.y] 51)
    rw [World.size_alloc] at z
    exact z
  case body =>
    rintro l pre x a' W0 W1 w2 hi0 hst hlen hi2 hsz hsame ⟨rfl, hm1, hm2⟩
    obtain ⟨v0, h50, hr0⟩ := hi0.row
    have h52 := hsame _ _ ((hst.block _ (blk_lt h50) (by omega)).trans h50) rfl
    obtain ⟨v, h5, hr⟩ := hi2.row
    obtain rfl : v = v0 := by rw [h5] at h52; injection h52 with e; injection e with e; injection e with e; injection e with e
    have hown : ∀ k, v.ownBlock = some k → k < W0.heap.size ∧ N + 1 + 1 + 1 + 1 + 1 ≤ k := fun k hk => ⟨by obtain ⟨_, inner, ho, _⟩ := hr0; exact own_lt ho k hk, hr0.1 k hk⟩
    obtain ⟨A, q, c, rfl⟩ := row_shape hr
    obtain ⟨m, hm⟩ : ∃ m, W1.heap.size = m := ⟨_, rfl⟩
    rw [hm] at hm1 hm2 ⊢
    have c10 := blk_cell hm1 0
    have c11 := blk_cell hm1 1
    have c12 := blk_cell hm1 2
    have c13 := blk_cell hm1 3
    have c14 := blk_cell hm1 4
    have c20 := blk_cell hm2 0
    have c21 := blk_cell hm2 1
    have e5 := blk_cell h5 0
    simp only [tokv, fltv, List.getElem?_toArray, List.getElem?_cons_zero, List.getElem?_cons_succ] at c10 c11 c12 c13 c14 c20 c21 e5
    by_cases hx : x.y = 0
    · have cx : (x.y != 0) = false := by simp [hx]
      have cx2 : decide (x.y = 0) = true := decide_eq_true hx
      have hs2 := hi2.sz
      have hl2 : ((pre.map toS).length + 1) * 48 ≤ 140737488355328 := by rw [List.length_map]; omega
      gi_wp2_with (gi_at_builtin; refine append_in N rfl (.tmp 24) (.tmp 26) rfl (.slice A q c) (pre.map toS) (toS x) (fun k => N + 1 + 1 + 1 + 1 + 1 ≤ k) rfl rfl (fun k hk => Nat.le_trans hs2 hk) hr (by omega) hl2 ?_; intro v1 w3 hr3 hg3 ⟨g1, cap1, hv1⟩; subst hv1; have h53 := blk_grown h5 hg3 (fun e => by have := (hown _ e.symm).2; omega); have c53 := blk_cell h53 0; have f53 := blk_frozen h53 0; simp only [List.getElem?_toArray, List.getElem?_cons_zero, List.getElem?_cons_succ] at c53)
      have hgk : ∀ k, k < w2.heap.size → (k < N + 1 + 1 + 1 + 1 + 1 ∨ W0.heap.size ≤ k) → w3.heap[k]? = w2.heap[k]? := fun k hk hk2 => hg3.block k hk (fun e => by have := hown _ e.symm; omega)
      have hlt5 := blk_lt h50
      refine ⟨fun hs => hs hx, (KeepsOthers.of_grownBy hg3 (fun j o e ho => ?_)).trans (KeepsOthers.setCell _ _ _), ⟨Nat.le_trans hg3.size (by simp [World.setCell]), fun k hk hkm => ?_⟩, ?_⟩
      · obtain ⟨_, inner, hoo, _⟩ := hr
        obtain ⟨cells, hc⟩ := own_typed hoo j e
        rw [ho] at hc
        cases hc
        rfl
      · refine (Below.heap_setCell _ _ _ k (show k ≠ N + 1 + 1 + 1 by have := hi0.sz; omega)).trans (hgk k (by omega) (by omega))
      · refine ⟨blk_far (p := ⟨N + 1 + 1 + 1, 0, none⟩) ((hgk _ (blk_lt hi2.c2) (by omega)).trans hi2.c2) (show N ≠ N + 1 + 1 + 1 by omega) _, blk_far (p := ⟨N + 1 + 1 + 1, 0, none⟩) ((hgk _ (blk_lt hi2.c3) (by omega)).trans hi2.c3) (show N + 1 ≠ N + 1 + 1 + 1 by omega) _, blk_far (p := ⟨N + 1 + 1 + 1, 0, none⟩) ((hgk _ (blk_lt hi2.c4) (by omega)).trans hi2.c4) (show N + 1 + 1 ≠ N + 1 + 1 + 1 by omega) _, ⟨_, blk_put h53 0 _ rfl, ?_⟩, ?_, ?_, ?_⟩
        · rw [List.map_append]
          have z := Kd.R_far (p := ⟨N + 1 + 1 + 1, 0, none⟩) hr3 (fun k hk => by show k ≠ N + 1 + 1 + 1; omega) (.slice (some ⟨g1, 0, none⟩) (pre.length + 1) cap1)
          rw [List.length_map] at z
          exact z
        · intro y hy
          rcases List.mem_append.1 hy with hy | hy
          · exact hi2.y y hy
          · rw [List.mem_singleton.1 hy]; exact hx
        · exact (hi2.bel.grown hg3 (by omega) (fun k e => by have := (hown k e).2; omega)).setCell (p := ⟨N + 1 + 1 + 1, 0, none⟩) (show N ≤ N + 1 + 1 + 1 by omega) _
        · have := hg3.size
          simp [World.setCell]
          omega
    · have cx : (x.y != 0) = true := by simp [hx]
      have cx2 : decide (x.y = 0) = false := decide_eq_false hx
      have e2 := blk_cell hi2.c2 0
      have e3 := blk_cell hi2.c3 0
      have e4 := blk_cell hi2.c4 0
      have f2 := blk_frozen hi2.c2 0
      have f3 := blk_frozen hi2.c3 0
      have f4 := blk_frozen hi2.c4 0
      simp only [List.getElem?_toArray, List.getElem?_cons_zero, List.getElem?_cons_succ] at e2 e3 e4
      have e2 : w2.drew.cell? ⟨N, 0, none⟩ = _ := e2
      have e3 : w2.drew.cell? ⟨N + 1, 0, none⟩ = _ := e3
      have e4 : w2.drew.cell? ⟨N + 1 + 1, 0, none⟩ = _ := e4
      have f2 : w2.drew.frozen? ⟨N, 0, none⟩ = _ := f2
      have f3 : w2.drew.frozen? ⟨N + 1, 0, none⟩ = _ := f3
      have f4 : w2.drew.frozen? ⟨N + 1 + 1, 0, none⟩ = _ := f4
      have c20d : w2.drew.cell? ⟨m + 1, 0, none⟩ = _ := c20
      have c21d : w2.drew.cell? ⟨m + 1, 1, none⟩ = _ := c21
      gi_wp2
      have hmz : N + 1 + 1 + 1 + 1 + 1 ≤ m := by have := hi0.sz; have := hst.size; omega
      have q0 : ¬ (m + 1 = N) := by omega
      have q1 : ¬ (m = N) := by omega
      have q2 : ¬ (m = N + 1) := by omega
      have k2 := blk_far (p := ⟨N + 1 + 1, 0, none⟩) (blk_far (p := ⟨N + 1, 0, none⟩) (blk_put hi2.c2 0 (.slice none 0 0) rfl) (show N ≠ N + 1 by omega) (.int .i64 x.x)) (show N ≠ N + 1 + 1 by omega) (.int .i64 x.y)
      have k3 := blk_far (p := ⟨N + 1 + 1, 0, none⟩) (blk_put (blk_far (p := ⟨N, 0, none⟩) hi2.c3 (show N + 1 ≠ N by omega) (.slice none 0 0)) 0 (.int .i64 x.x) rfl) (show N + 1 ≠ N + 1 + 1 by omega) (.int .i64 x.y)
      have k4 := blk_put (blk_far (p := ⟨N + 1, 0, none⟩) (blk_far (p := ⟨N, 0, none⟩) hi2.c4 (show N + 1 + 1 ≠ N by omega) (.slice none 0 0)) (show N + 1 + 1 ≠ N + 1 by omega) (.int .i64 x.x)) 0 (.int .i64 x.y) rfl
      have hb3 := ((hi2.bel.setCell (p := ⟨N, 0, none⟩) (Nat.le_refl N) (.slice none 0 0)).setCell (p := ⟨N + 1, 0, none⟩) (show N ≤ N + 1 by omega) (.int .i64 x.x)).setCell (p := ⟨N + 1 + 1, 0, none⟩) (show N ≤ N + 1 + 1 by omega) (.int .i64 x.y)
      have hKO := (((KeepsOthers.setCell w2 ⟨N, 0, none⟩ (.slice none 0 0)).trans (KeepsOthers.setCell _ ⟨N + 1, 0, none⟩ (.int .i64 x.x))).trans (KeepsOthers.setCell _ ⟨N + 1 + 1, 0, none⟩ (.int .i64 x.y))).trans (KeepsOthers.drew _)
      have hTX : TX w N (pre ++ [x]) (((w2.setCell ⟨N, 0, none⟩ (.slice none 0 0)).setCell ⟨N + 1, 0, none⟩ (.int .i64 x.x)).setCell ⟨N + 1 + 1, 0, none⟩ (.int .i64 x.y)).drew :=
        ⟨blk_drew k2, ⟨pre, x, rfl, hi2.y, hx, blk_drew k3, blk_drew k4⟩, below_drew hb3⟩
      clear k2 k3 k4 hb3
      gi_region_with (fail)
      all_goals gi_wp2
      all_goals exact ⟨hKO, rfl, hTX⟩
  case done =>
    rintro D xs W hS hI hD hDw
    obtain ⟨v, hv, hr⟩ := hI.row
    obtain ⟨A, m, c, rfl⟩ := row_shape hr
    have hf := fin_done hS (items_good _ _ _ _) hI.y []
    rw [h, List.nil_append, Prod.mk.injEq, Prod.mk.injEq] at hf
    obtain ⟨rfl, rfl, rfl⟩ := hf
    have e2 := blk_cell hI.c2 0
    have e3 := blk_cell hI.c3 0
    have e4 := blk_cell hI.c4 0
    have e5 := blk_cell hv 0
    have f2 := blk_frozen hI.c2 0
    have f3 := blk_frozen hI.c3 0
    have f4 := blk_frozen hI.c4 0
    simp only [List.getElem?_toArray, List.getElem?_cons_zero, List.getElem?_cons_succ] at e2 e3 e4 e5
    gi_wp2
    have k2 := blk_far (p := ⟨N + 1 + 1, 0, none⟩) (blk_far (p := ⟨N + 1, 0, none⟩) (blk_put hI.c2 0 (.slice A m c) rfl) (show N ≠ N + 1 by omega) (.int .i64 0)) (show N ≠ N + 1 + 1 by omega) (.int .i64 0)
    have k3 := blk_far (p := ⟨N + 1 + 1, 0, none⟩) (blk_put (blk_far (p := ⟨N, 0, none⟩) hI.c3 (show N + 1 ≠ N by omega) (.slice A m c)) 0 (.int .i64 0) rfl) (show N + 1 ≠ N + 1 + 1 by omega) (.int .i64 0)
    have k4 := blk_put (blk_far (p := ⟨N + 1, 0, none⟩) (blk_far (p := ⟨N, 0, none⟩) hI.c4 (show N + 1 + 1 ≠ N by omega) (.slice A m c)) (show N + 1 + 1 ≠ N + 1 by omega) (.int .i64 0)) 0 (.int .i64 0) rfl
    have hr3 := Kd.R_far (p := ⟨N + 1 + 1, 0, none⟩) (Kd.R_far (p := ⟨N + 1, 0, none⟩) (Kd.R_far (p := ⟨N, 0, none⟩) hr (fun k hk => by show k ≠ N; omega) (.slice A m c)) (fun k hk => by show k ≠ N + 1; omega) (.int .i64 0)) (fun k hk => by show k ≠ N + 1 + 1; omega) (.int .i64 0)
    have hb3 := ((hI.bel.setCell (p := ⟨N, 0, none⟩) (Nat.le_refl N) (.slice A m c)).setCell (p := ⟨N + 1, 0, none⟩) (show N ≤ N + 1 by omega) (.int .i64 0)).setCell (p := ⟨N + 1 + 1, 0, none⟩) (show N ≤ N + 1 + 1 by omega) (.int .i64 0)
    have hD3 := (Below.heap_setCell ((W.setCell ⟨N, 0, none⟩ (.slice A m c)).setCell ⟨N + 1, 0, none⟩ (.int .i64 0)) ⟨N + 1 + 1, 0, none⟩ (.int .i64 0) D (show D ≠ N + 1 + 1 by omega)).trans ((Below.heap_setCell (W.setCell ⟨N, 0, none⟩ (.slice A m c)) ⟨N + 1, 0, none⟩ (.int .i64 0) D (show D ≠ N + 1 by omega)).trans ((Below.heap_setCell W ⟨N, 0, none⟩ (.slice A m c) D (show D ≠ N by omega)).trans hD))
    refine ⟨by simp, .inl ⟨_, _, rfl, run_takeDeferred hD3, ?_⟩⟩
    exact ⟨_, res18 _ (blk_put2 k2 hD3 rfl) (blk_put2 k3 hD3 rfl) (blk_put2 k4 hD3 rfl) _ _, _, rfl, by rw [hN]; exact Kd.R_mono (R_put hr3 hD3 rfl) (fun _ _ => trivial), by rw [hN]; exact bel_put hb3 (by omega) hD3⟩
  case stop =>
    rintro D c pre W hSp ⟨rfl, hX⟩ hD hDw
    obtain ⟨p', x, rfl, hy, hx, k3, k4⟩ := hX.ex
    obtain ⟨k, hk⟩ := hSp
    have hf := fin_stop _ _ _ _ hk (items_good _ _ _ _) hy hx []
    rw [h, Prod.mk.injEq, Prod.mk.injEq] at hf
    obtain ⟨rfl, rfl, rfl⟩ := hf
    gi_wp2
    refine ⟨by simp, .inl ⟨_, _, rfl, run_takeDeferred hD, ?_⟩⟩
    exact ⟨_, res18 _ (blk_put2 hX.c2 hD rfl) (blk_put2 k3 hD rfl) (blk_put2 k4 hD rfl) _ _, _, rfl, Kd.R_nil _ _ _ _ _, by rw [hN]; exact bel_put hX.bel (by omega) hD⟩
/-- The contract of lex.Tokens. -/
theorem tokens_c (s : ByteArray) (r1 : List S31) (r2 r3 : Int) (w : World) (h : toks s.data.toList = (r1, r2, r3)) :
    Calls Try.prog 18 #[.string s] w fun e w' => ∃ v0_ : Value, e = .returned (.tuple #[v0_, .int .i64 r2, .int .i64 r3]) ∧ Kd.R k31 31 w' w.heap.size (fun _ => True) v0_ r1 ∧ Below w.heap.size w w' := by
  by_cases hs : 65536 < s.size
  · have c1 : decide (65536 < (s.size : Int)) = true := decide_eq_true (by omega)
    have c2 : decide (65536 < s.size) = true := decide_eq_true (by omega)
    unfold toks at h
    rw [if_pos (by rw [← size_len]; exact hs)] at h
    simp only [Prod.mk.injEq] at h
    obtain ⟨rfl, rfl, rfl⟩ := h
    go_enter Try.func18, Try.ntmps18
    go_wp2
    have z3 := blk_new (w.alloc (.cells #[.slice none 0 0] 22)) (.cells #[.int .i64 0] 3)
    have z4 := blk_new ((w.alloc (.cells #[.slice none 0 0] 22)).alloc (.cells #[.int .i64 0] 3)) (.cells #[.int .i64 3] 23)
    rw [World.size_alloc] at z3
    rw [World.size_alloc, World.size_alloc] at z4
    refine bodyPost_ret (res18 _ (blk_alloc (blk_alloc (blk_new _ _) _) _) (blk_alloc z3 _) z4 _ _) rfl ?_
    exact ⟨_, rfl, Kd.R_nil _ _ _ _ _, below_alloc (below_alloc (below_alloc (Below.refl _ _) _) _) _⟩
  · unfold toks at h
    rw [if_neg (by rw [← size_len]; exact hs)] at h
    exact callsIn_wide.1 (tokens_in s (by omega) r1 r2 r3 w h 6 (Nat.le_refl _))
end Go.Proofs.Ytmmilinbpimfaaa.WalkTokens
