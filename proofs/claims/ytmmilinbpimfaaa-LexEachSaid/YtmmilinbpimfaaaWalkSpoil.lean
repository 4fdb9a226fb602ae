/- The contract of trammelkit.SpoilTokens. Under no conditions beyond the statements' own. -/
import Derived.Test.YtmmilinbpimfaaaPureLex
import Derived.Test.YtmmilinbpimfaaaSwitch
import Derived.Test.YtmmilinbpimfaaaWalkBlanks
import Derived.Outline
import Derived.Deep.RegionWith
import Derived.Deep.QuietTactic
import Derived.BigQuiet
import Derived.Deep.LoopGhost
import Derived.StillTailTactics
set_option linter.unusedSimpArgs false
set_option linter.unusedVariables false
namespace Go.Proofs.Ytmmilinbpimfaaa.WalkSpoil
open Go.RowKit Go.Proofs.Ytmmilinbpimfaaa.PLexKnown Go.Proofs.YtmmilinbpimfaaaW.PrintWords Go.Proofs.YtmmilinbpimfaaaW.PrintLast Go.Proofs.YtmmilinbpimfaaaW.PrintMore Go.Proofs.Ytmmilinbpimfaaa.Switch Go.Proofs.Ytmmilinbpimfaaa.Spec Go.Proofs.Ytmmilinbpimfaaa.PureLex
open Go.Proofs.Ytmmilinbpimfaaa.WalkBlanks
theorem R_some {W : World} {base : Nat} {P : Nat → Prop} {v : Value} {xs : List S31} (h : Kd.R k31 31 W base P v xs) (hl : 0 < xs.length) : ∃ g c, v = .slice (some ⟨g, 0, none⟩) xs.length c := by
  obtain ⟨_, inner, ho, _⟩ := h
  rcases ho.2 with ⟨rfl, h0⟩ | ⟨g, cap, cur, rfl, _⟩
  · omega
  · exact ⟨_, _, rfl⟩
theorem row_cells {W : World} {base : Nat} {P : Nat → Prop} {g n c : Nat} {xs : List S31} (h : Kd.R k31 31 W base P (.slice (some ⟨g, 0, none⟩) n c) xs) (i : Nat) (hi : i < xs.length) :
    ∃ cs : List Value, cs.length = 5 ∧ ∀ j u, cs[j]? = some u → W.cell? ⟨g, i * 5 + j, none⟩ = some u := by
  obtain ⟨hn, _, hC⟩ := Kd.R_reads' h
  obtain ⟨ad, cs, e, hcl, _, hc⟩ := Kd.C_get hC z31 (i : Int) (by omega) (by omega)
  cases e
  refine ⟨cs, hcl, fun j u hj => ?_⟩
  have z := hc j u hj
  rw [add_plain] at z
  exact z
abbrev sp : S31 := ⟨77, ⟨#[]⟩, 0, 0, 0⟩
abbrev sq : S31 := ⟨78, ⟨#[]⟩, 0, 0, 0⟩
set_option maxHeartbeats 8000000 in
set_option maxRecDepth 100000 in
theorem spoil_c (P : Nat → Prop) (u : Value) (l : List S31) (w0 w : World) (hB : Below w0.heap.size w0 w) (ho : Kd.R k31 31 w w0.heap.size P u l) (hl : l.length ≤ 1000000) :
    Calls Try.prog 20 #[u] w fun e w' => e = .returned (.tuple #[]) ∧ Below w0.heap.size w0 w' ∧ Kept w w' P := by
  obtain ⟨A, c, rfl⟩ := Kd.R_slice ho
  have HO := Aside0.mk ho
  have HB := Aside0.mk hB
  have HK := Aside0.mk (Kept.refl w P)
  have HL := Aside0.mk hl
  have bl : (l.length : Int) ≤ 1000000 := by omega
  clear ho hB hl
  go_enter Try.func20, Try.ntmps20
  go_wp2
  (try simp only [Act.put, List.setIfInBounds_toArray, List.set_cons_zero, List.set_cons_succ])
  go_loopg [2] l.length (fun kq v2 W => ∃ (i : Nat) (l' : List S31), Aside0 (kq + i = l.length) ∧ v2 = .int .i64 (i : Int) ∧ Aside0 (l'.length = l.length) ∧ Aside0 (Kd.R k31 31 W w0.heap.size P (.slice A l.length c) l') ∧ Aside0 (Below w0.heap.size w0 W) ∧ Aside0 (Kept w W P))
  case atStart => exact ⟨0, l, ⟨by omega⟩, rfl, ⟨rfl⟩, HO, HB, HK⟩
  case round =>
    clear HO HB HK
    obtain ⟨i, l', HQ, rfl, HN, HO, HB, HK⟩ := hrel
    by_cases hi : i < l.length
    · obtain ⟨g, c', hv⟩ := R_some HO.out (by rw [HN.out]; omega)
      have hlt : i < l'.length := by rw [HN.out]; exact hi
      injection hv with hA hn hc
      subst hA
      obtain ⟨cs, hcl, hcc⟩ := row_cells HO.out i hlt
      have d1 : decide ((i : Int) < (l.length : Int)) = true := decide_eq_true (by omega)
      have d2 : decide (i < l.length) = true := decide_eq_true hi
      have q3 : (0 ≤ (i : Int)) = True := eq_true (by omega)
      have q1 : ((i : Int) < (l.length : Int)) = True := eq_true (by omega)
      have q2 : (i < l.length) = True := eq_true hi
      have hwc : IntKind.i64.wrap ((i : Int) + 1) = (i : Int) + 1 := by rw [i64_w, w64 (by omega) (by omega)]
      have hPg : P g := HO.out.1 g (by simp [Value.ownBlock])
      clear hc hn
      have hM : k31.M wr w0.heap.size (fun _ => False) sp (cs.take 0 ++ [.int .u8 77, .string ⟨#[]⟩, .int .u64 0, .int .i64 0, .int .i64 0] ++ cs.drop (0 + [Value.int .u8 77, .string ⟨#[]⟩, .int .u64 0, .int .i64 0, .int .i64 0].length)) := by
        rw [List.take_zero, List.nil_append, List.drop_of_length_le (by rw [hcl]; decide), List.append_nil]
        exact k31_mkM _ _ _ sp
      have h1c : ∀ q ∈ [Value.int .u8 77, .string ⟨#[]⟩, .int .u64 0, .int .i64 0, .int .i64 0], q.oneCell' = true := by intro q hq; simp at hq; rcases hq with rfl | rfl | rfl | rfl <;> rfl
      have hsz : (Try.prog.info? 31).map (·.size) = some [Value.int .u8 77, .string ⟨#[]⟩, .int .u64 0, .int .i64 0, .int .i64 0].length := by kernel_rfl
      have hcc2 : ∀ j u, cs[j]? = some u → wr.cell? ⟨g, (i : Int).toNat * k31.sz + j, none⟩ = some u := fun j u h => hcc j u h
      go_wp2_with ((with_reducible refine gate_ (.store 31 (.tmp 14) (.tmp 13)) rfl ?_); refine Kd.R_store k31 w0.heap.size rfl rfl 31 (.tmp 14) (.tmp 13) rfl 31 (i : Int) 0 l' sp _ [.int .u8 77, .string ⟨#[]⟩, .int .u64 0, .int .i64 0, .int .i64 0] cs P (fun _ => False) rfl (by simp [k31, Kd.iso]; try rfl) rfl rfl hsz h1c HO.out (by omega) (by omega) hcl hcc2 (by decide) hM (fun _ h => h.elim) HB.out ?_; intro w1 ho1 hb1 hg1)
      go_roundg (l.length - (i + 1))
      case measure => have := HQ.out; omega
      case rel => exact ⟨i + 1, l'.set i sp, ⟨by omega⟩, rfl, ⟨by rw [List.length_set]; exact HN.out⟩, ⟨ho1⟩, ⟨hb1⟩, ⟨Kept.of_grown hg1 HK.out (fun k e => .inl (by cases e; exact hPg))⟩⟩
    · have d1 : decide ((i : Int) < (l.length : Int)) = false := decide_eq_false (by omega)
      have d2 : decide (i < l.length) = false := decide_eq_false hi
      obtain ⟨A', c', hv⟩ := Kd.R_slice HO.out
      rw [HN.out] at hv
      have HO2 := Aside0.mk (Kd.R_mono HO.out (ok' := fun k => P k ∨ w.heap.size ≤ k) (fun k hk => .inl hk))
      clear HO HQ hi
      go_wp2
      (try simp only [Act.put, List.setIfInBounds_toArray, List.set_cons_zero, List.set_cons_succ])
      go_loopg [3, 4] 8 (fun kq v3 v4 W => ∃ (i : Nat) (l' : List S31), Aside0 (kq + i = 8) ∧ v4 = .int .i64 (i : Int) ∧ Aside0 (l'.length = l.length + i) ∧ Aside0 (Kd.R k31 31 W w0.heap.size (fun k => P k ∨ w.heap.size ≤ k) v3 l') ∧ Aside0 (Below w0.heap.size w0 W) ∧ Aside0 (Kept w W P))
      case atStart => exact ⟨0, l', ⟨rfl⟩, rfl, HN, HO2, HB, HK⟩
      case round =>
        clear HO2 HB HK HN
        obtain ⟨i, l', HQ, rfl, HN, HO, HB, HK⟩ := hrel
        obtain ⟨A, c, rfl⟩ := Kd.R_slice HO.out
        by_cases hi : i < 8
        · have d1 : decide ((i : Int) < 8) = true := decide_eq_true (by omega)
          have d2 : decide (i < 8) = true := decide_eq_true hi
          have hwc : IntKind.i64.wrap ((i : Int) + 1) = (i : Int) + 1 := by rw [i64_w, w64 (by omega) (by omega)]
          have hws : w.heap.size ≤ wr.heap.size := HK.out.1
          have hwb : w0.heap.size ≤ wr.heap.size := HB.out.size
          have hl2 : (l'.length + 1) * 48 ≤ 140737488355328 := by have := HN.out; have := HL.out; omega
          go_wp2_with (at_builtin; refine Kd.R_append k31 w0.heap.size rfl (.tmp 20) (.tmp 22) 22 31 _ 48 rfl Try.underlying22 info31 rfl (by decide) (by decide) (.slice A l'.length c) l' sq [.int .u8 78, .string ⟨#[]⟩, .int .u64 0, .int .i64 0, .int .i64 0] (fun k => P k ∨ w.heap.size ≤ k) (fun _ => False) rfl rfl (k31_mkM _ _ _ sq) (fun _ h => h.elim) (fun k hk => .inr (Nat.le_trans hws hk)) HO.out HB.out hwb hl2 ?_; intro v1 w1 ho1 hb1 hg1 hat1)
          go_roundg (8 - (i + 1))
          case measure => have := HQ.out; omega
          case rel => exact ⟨i + 1, l' ++ [sq], ⟨by omega⟩, rfl, ⟨by rw [List.length_append, HN.out]; rfl⟩, ⟨ho1⟩, ⟨hb1⟩, ⟨Kept.of_grown hg1 HK.out (fun k e => HO.out.1 k e)⟩⟩
        · have d1 : decide ((i : Int) < 8) = false := decide_eq_false (by omega)
          have d2 : decide (i < 8) = false := decide_eq_false hi
          go_wp2
          go_end0
          exact ⟨rfl, HB.out, HK.out⟩
end Go.Proofs.Ytmmilinbpimfaaa.WalkSpoil
