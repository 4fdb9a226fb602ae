/- The contract of lex.Quote. Under no conditions beyond the statements' own. -/
import Derived.Test.YtmmilinbpimfaaaPureLex
import Derived.Test.YtmmilinbpimfaaaSwitch
import Derived.Test.YtmmilinbpimfaaaPlainLex
import Derived.Test.YtmmilinbpimfaaaWalkBlanks
import Derived.Test.YtmmilinbpimfaaaWalkSign
import Derived.Test.YtmmilinbpimfaaaWalkBuilder
import Derived.Test.YtmmilinbpimfaaaWalkText
import Derived.Outline
import Derived.Deep.RegionWith
import Derived.Deep.QuietTactic
import Derived.BigQuiet
import Derived.Deep.LoopGhost
import Derived.StillTailTactics
set_option linter.unusedSimpArgs false
set_option linter.unusedVariables false
namespace Go.Proofs.Ytmmilinbpimfaaa.WalkQuote
open Go.RowKit Go.Proofs.Ytmmilinbpimfaaa.PLexKnown Go.Proofs.YtmmilinbpimfaaaW.PrintWords Go.Proofs.YtmmilinbpimfaaaW.PrintLast Go.Proofs.YtmmilinbpimfaaaW.PrintMore Go.Proofs.Ytmmilinbpimfaaa.Switch Go.Proofs.Ytmmilinbpimfaaa.Spec Go.Proofs.Ytmmilinbpimfaaa.PureLex
open Go.Proofs.Ytmmilinbpimfaaa.WalkBlanks
open Go.Proofs.Ytmmilinbpimfaaa.WalkSign
open Go.Proofs.Ytmmilinbpimfaaa.WalkBuilder
open Go.Proofs.Ytmmilinbpimfaaa.WalkText
/-- A byte's piece, quoted. -/
def hexd (n : Nat) : UInt8 := UInt8.ofNat (if n < 10 then 48 + n else 87 + n)
def qp (c : UInt8) : B :=
  if c = 34 then [92, 34] else if c = 92 then [92, 92] else if c = 10 then [92, 110] else if c = 9 then [92, 116] else if c = 13 then [92, 114]
  else if c < 32 ∨ c = 127 then [92, 120, hexd (c.toNat / 16), hexd (c.toNat % 16)] else [c]
def qt (l : B) : B := 34 :: (l.flatMap qp ++ [34])
theorem qp_len (c : UInt8) : (qp c).length ≤ 4 := by
  unfold qp
  repeat' split
  all_goals simp
theorem wb_q {B' b : Nat} {acc : B} (c : UInt8) (k : Int) (hk : k = (c.toNat : Int)) (w : World) (h : Lib.IsBuilder 54 5 B' b (Lib.byteCells acc) w) (hl : acc.length + 1 ≤ 140737488355328) (hB : B' ≤ w.heap.size) :
    Calls Try.prog 31 #[.pointer (some ⟨b, 0, none⟩), .int .u8 k] w fun e w' => e = .returned .nilIface ∧ Lib.IsBuilder 54 5 B' b (Lib.byteCells (acc ++ [c])) w' ∧ Below B' w w' := by
  subst hk
  refine (writeByte_c B' b (Lib.byteCells acc) (c.toNat : Int) w h (by rw [Lib.byteCells_length]; exact hl) hB).mono ?_
  rintro e w' ⟨rfl, hb, hw⟩
  exact ⟨rfl, .inr (by rw [show Lib.byteCells (acc ++ [c]) = Lib.byteCells acc ++ [Value.int .u8 (c.toNat : Int)] by simp [Lib.byteCells]]; exact hb), hw⟩
theorem ws_q {B' b : Nat} {acc : B} (t : ByteArray) (w : World) (h : Lib.IsBuilder 54 5 B' b (Lib.byteCells acc) w) (hl : acc.length + t.size ≤ 140737488355328) (hB : B' ≤ w.heap.size) :
    Calls Try.prog 34 #[.pointer (some ⟨b, 0, none⟩), .string t] w fun e w' => e = .returned (.tuple #[.int .i64 t.size, .nilIface]) ∧ Lib.IsBuilder 54 5 B' b (Lib.byteCells (acc ++ t.data.toList)) w' ∧ Below B' w w' := by
  refine (writeString_c B' b (Lib.byteCells acc) t w h (by rw [Lib.byteCells_length]; exact hl) hB).mono ?_
  rintro e w' ⟨rfl, hb, hw⟩
  exact ⟨rfl, .inr (by rw [show Lib.byteCells (acc ++ t.data.toList) = Lib.byteCells acc ++ Lib.strCells t by simp [Lib.byteCells, Lib.strCells]]; exact hb), hw⟩
theorem rd_in4 (W : World) : Kd.C (Kd.int .u8) (W.alloc (.cells #[.int .u8 0, .int .u8 31, .int .u8 127, .int .u8 127] 5)) (some ⟨W.heap.size, 0, none⟩) [0, 31, 127, 127].length [0, 31, 127, 127] := rd_blk rfl (by decide) (blk_new _ _)
theorem take_D {s : ByteArray} {i : Nat} {c : UInt8} (h : i < s.size) (hc : D s i = c :: D s (i + 1)) : s.data.toList.take (i + 1) = s.data.toList.take i ++ [c] := by
  have h2 : i < s.data.toList.length := by rw [← size_len]; exact h
  have hc : s.data.toList.drop i = _ := hc
  rw [List.drop_eq_getElem_cons h2] at hc
  injection hc with hc _
  rw [List.take_add_one, List.getElem?_eq_getElem h2, hc]
  rfl
theorem ws_x {B' b : Nat} {acc : B} (w : World) (h : Lib.IsBuilder 54 5 B' b (Lib.byteCells acc) w) (hl : acc.length + 2 ≤ 140737488355328) (hB : B' ≤ w.heap.size) :
    Calls Try.prog 34 #[.pointer (some ⟨b, 0, none⟩), .string (⟨#[92, 120]⟩ : ByteArray)] w fun e w' => e = .returned (.tuple #[.int .i64 2, .nilIface]) ∧ Lib.IsBuilder 54 5 B' b (Lib.byteCells (acc ++ [92, 120])) w' ∧ Below B' w w' := ws_q (⟨#[92, 120]⟩ : ByteArray) w h hl hB
theorem hex_at : ∀ (n : Nat) (h : n < (⟨#[48, 49, 50, 51, 52, 53, 54, 55, 56, 57, 97, 98, 99, 100, 101, 102]⟩ : ByteArray).size), ((((⟨#[48, 49, 50, 51, 52, 53, 54, 55, 56, 57, 97, 98, 99, 100, 101, 102]⟩ : ByteArray)[n]'h).toNat : Nat) : Int) = ((hexd n).toNat : Int) := by
  have key : ∀ k : Fin 16, ((((⟨#[48, 49, 50, 51, 52, 53, 54, 55, 56, 57, 97, 98, 99, 100, 101, 102]⟩ : ByteArray)[k.1]'k.2).toNat : Nat) : Int) = ((hexd k.1).toNat : Int) := by decide +kernel
  exact fun n h => key ⟨n, h⟩

theorem ix_none {c : UInt8} (h34 : ¬ c = 34) (h92 : ¬ c = 92) (h10 : ¬ c = 10) (h9 : ¬ c = 9) (h13 : ¬ c = 13) : strings_IndexByte.f (⟨#[34, 92, 10, 9, 13]⟩ : ByteArray) (c.toNat : Int) = some (-1) := by
  have hq : Lib.indexByte [34, 92, 10, 9, 13] c = -1 := by
    simp only [Lib.indexByte, beq_iff_eq, eq_comm (a := c)]
    rw [if_neg (Ne.symm h34), if_neg (Ne.symm h92), if_neg (Ne.symm h10), if_neg (Ne.symm h9), if_neg (Ne.symm h13)]
    rfl
  unfold strings_IndexByte.f
  rw [show ((c.toNat : Int).toNat.toUInt8) = c by simp]
  exact congrArg some hq
theorem in_hex {c : UInt8} (h : c < 32 ∨ c = 127) : lex_in.f 6 (c.toNat : Int) [0, 31, 127, 127] = some true := by
  rw [in4 2]
  simp only [Option.some.injEq, decide_eq_true_eq]
  rcases h with h | rfl
  · rw [UInt8.lt_iff_toNat_lt] at h
    simp at h
    omega
  · decide
theorem in_nohex {c : UInt8} (h : ¬ (c < 32 ∨ c = 127)) : lex_in.f 6 (c.toNat : Int) [0, 31, 127, 127] = some false := by
  rw [in4 2]
  simp only [Option.some.injEq, decide_eq_false_iff_not]
  intro h2
  apply h
  rw [UInt8.lt_iff_toNat_lt, ← UInt8.toNat_inj]
  simp
  omega

set_option maxHeartbeats 8000000 in
set_option maxRecDepth 100000 in
theorem quote_c (s : ByteArray) (hn : s.size ≤ 1000000) (w : World) :
    Calls Try.prog 21 #[.string s] w fun e w' => e = .returned (.string ⟨(qt s.data.toList).toArray⟩) ∧ Below w.heap.size w w' := by
  have HSZ := Aside0.mk hn
  clear hn
  obtain ⟨gb, hgb⟩ : ∃ gb, w.heap.size = gb := ⟨_, rfl⟩
  have HL := Aside0.mk (show ([] : B).length ≤ 5000000 by simp)
  have IB := Aside0.mk (isb_new (B := w.heap.size) (b := gb) (w := w.alloc (.cells #[.pointer none, .slice none 0 0] 54)) (by omega) (by rw [← hgb]; exact blk_new _ _))
  have HB := Aside0.mk (below_alloc (Below.refl w.heap.size w) (.cells #[.pointer none, .slice none 0 0] 54))
  go_enter Try.func21, Try.ntmps21
  go_upto_region 2 with (fail)
  go_wp2_with (first
    | (go_at_call 31; (with_reducible refine (wb_q (acc := []) 34 34 rfl _ IB.out (by (try simp only [List.length_append, List.length_cons, List.length_nil]); have := HL.out; omega) HB.out.size).mono ?_); rintro e wc ⟨rfl, hib_, hb_⟩; have ib2_ := hib_; have hb2_ := Aside0.mk (Below.trans HB.out hb_); clear IB HB; have IB := Aside0.mk ib2_; have HB := hb2_; clear ib2_ hb2_ hb_ hib_))
  (try simp only [Act.put, List.setIfInBounds_toArray, List.set_cons_zero, List.set_cons_succ])
  go_loopg [10] s.size (fun kq v10 w' => ∃ (i : Nat) (acc : B), Aside0 (kq + i = s.size) ∧ v10 = .int .i64 (i : Int) ∧ Aside0 (acc = 34 :: (s.data.toList.take i).flatMap qp) ∧ Aside0 (acc.length ≤ 4 * i + 1) ∧ Aside0 (Below w.heap.size w w') ∧ Aside0 (Lib.IsBuilder 54 5 w.heap.size gb (Lib.byteCells acc) w'))
  case atStart => exact ⟨0, [34], ⟨by omega⟩, rfl, ⟨by simp⟩, ⟨by simp⟩, HB, IB⟩
  case round =>
    clear IB HB HL
    obtain ⟨i, acc, HQ, rfl, HA, HL4, HB, IB⟩ := hrel
    have HL := Aside0.mk (show acc.length ≤ 5000000 by have := HL4.out; have := HQ.out; have := HSZ.out; omega)
    by_cases hi : i < s.size
    · obtain ⟨c, hc, hbt⟩ := D_cons hi
      have q1 : ((i : Int) < (s.size : Int)) = True := eq_true (by omega)
      have q2 : (i < s.size) = True := eq_true hi
      have q3 : (0 ≤ (i : Int)) = True := eq_true (by omega)
      have d1 : decide ((i : Int) < (s.size : Int)) = true := decide_eq_true (by omega)
      have d2 : decide (i < s.size) = true := decide_eq_true hi
      have hr0 : ∀ h : i < s.size, (((s[i]'h).toNat : Nat) : Int) = (c.toNat : Int) := fun h => by rw [bt_at_nat s i h, hbt]
      have hwc : IntKind.i64.wrap ((i : Int) + 1) = (i : Int) + 1 := by rw [i64_w, w64 (by omega) (by have := HQ.out; have := HSZ.out; omega)]
      have HT := Aside0.mk (take_D hi hc)
      have HI := Aside0.mk hi
      clear hc hbt hi
      by_cases h34 : c = 34
      · subst h34
        have HX := Aside0.mk (show strings_IndexByte.f (⟨#[34, 92, 10, 9, 13]⟩ : ByteArray) 34 = some 0 from rfl)
        have hk0 : (((((⟨#[34, 92, 110, 116, 114]⟩ : ByteArray)[0]'(by decide)).toNat : Nat)) : Int) = (((34 : UInt8)).toNat : Int) := rfl
        go_wp2_with (first
          | (go_at_call 32; (with_reducible refine (strings_IndexByte.calls (⟨#[34, 92, 10, 9, 13]⟩ : ByteArray) 34 0 _ HX.out).mono ?_); rintro e wc ⟨rfl, hd_⟩; have hb_ := drawn_below hd_; have ib2_ := Aside0.mk (isb_below IB.out hb_); have hb2_ := Aside0.mk (below_step HB.out hb_); clear IB HB; have IB := ib2_; have HB := hb2_; clear ib2_ hb2_ hb_ hd_)
          | (go_at_call 31; (with_reducible refine (wb_q (acc := acc) 92 92 rfl _ IB.out (by (try simp only [List.length_append, List.length_cons, List.length_nil]); have := HL.out; omega) HB.out.size).mono ?_); rintro e wc ⟨rfl, hib_, hb_⟩; have ib2_ := hib_; have hb2_ := Aside0.mk (Below.trans HB.out hb_); clear IB HB; have IB := Aside0.mk ib2_; have HB := hb2_; clear ib2_ hb2_ hb_ hib_)
          | (go_at_call 31; (with_reducible refine (wb_q (acc := acc ++ [92]) 34 34 rfl _ IB.out (by (try simp only [List.length_append, List.length_cons, List.length_nil]); have := HL.out; omega) HB.out.size).mono ?_); rintro e wc ⟨rfl, hib_, hb_⟩; have ib2_ := hib_; have hb2_ := Aside0.mk (Below.trans HB.out hb_); clear IB HB; have IB := Aside0.mk ib2_; have HB := hb2_; clear ib2_ hb2_ hb_ hib_))
        go_roundg (s.size - (i + 1))
        case measure => have := HQ.out; have := HI.out; omega
        case rel => exact ⟨i + 1, acc ++ [92, 34], ⟨by have := HI.out; omega⟩, by simp, ⟨by rw [HA.out, HT.out, List.flatMap_append]; simp [qp]⟩, ⟨by have := HL4.out; simp; omega⟩, HB, ⟨by simpa using IB.out⟩⟩
      by_cases h92 : c = 92
      · subst h92
        have HX := Aside0.mk (show strings_IndexByte.f (⟨#[34, 92, 10, 9, 13]⟩ : ByteArray) 92 = some 1 from rfl)
        have hk0 : (((((⟨#[34, 92, 110, 116, 114]⟩ : ByteArray)[1]'(by decide)).toNat : Nat)) : Int) = (((92 : UInt8)).toNat : Int) := rfl
        go_wp2_with (first
          | (go_at_call 32; (with_reducible refine (strings_IndexByte.calls (⟨#[34, 92, 10, 9, 13]⟩ : ByteArray) 92 1 _ HX.out).mono ?_); rintro e wc ⟨rfl, hd_⟩; have hb_ := drawn_below hd_; have ib2_ := Aside0.mk (isb_below IB.out hb_); have hb2_ := Aside0.mk (below_step HB.out hb_); clear IB HB; have IB := ib2_; have HB := hb2_; clear ib2_ hb2_ hb_ hd_)
          | (go_at_call 31; (with_reducible refine (wb_q (acc := acc) 92 92 rfl _ IB.out (by (try simp only [List.length_append, List.length_cons, List.length_nil]); have := HL.out; omega) HB.out.size).mono ?_); rintro e wc ⟨rfl, hib_, hb_⟩; have ib2_ := hib_; have hb2_ := Aside0.mk (Below.trans HB.out hb_); clear IB HB; have IB := Aside0.mk ib2_; have HB := hb2_; clear ib2_ hb2_ hb_ hib_)
          | (go_at_call 31; (with_reducible refine (wb_q (acc := acc ++ [92]) 92 92 rfl _ IB.out (by (try simp only [List.length_append, List.length_cons, List.length_nil]); have := HL.out; omega) HB.out.size).mono ?_); rintro e wc ⟨rfl, hib_, hb_⟩; have ib2_ := hib_; have hb2_ := Aside0.mk (Below.trans HB.out hb_); clear IB HB; have IB := Aside0.mk ib2_; have HB := hb2_; clear ib2_ hb2_ hb_ hib_))
        go_roundg (s.size - (i + 1))
        case measure => have := HQ.out; have := HI.out; omega
        case rel => exact ⟨i + 1, acc ++ [92, 92], ⟨by have := HI.out; omega⟩, by simp, ⟨by rw [HA.out, HT.out, List.flatMap_append]; simp [qp]⟩, ⟨by have := HL4.out; simp; omega⟩, HB, ⟨by simpa using IB.out⟩⟩
      by_cases h10 : c = 10
      · subst h10
        have HX := Aside0.mk (show strings_IndexByte.f (⟨#[34, 92, 10, 9, 13]⟩ : ByteArray) 10 = some 2 from rfl)
        have hk0 : (((((⟨#[34, 92, 110, 116, 114]⟩ : ByteArray)[2]'(by decide)).toNat : Nat)) : Int) = (((110 : UInt8)).toNat : Int) := rfl
        go_wp2_with (first
          | (go_at_call 32; (with_reducible refine (strings_IndexByte.calls (⟨#[34, 92, 10, 9, 13]⟩ : ByteArray) 10 2 _ HX.out).mono ?_); rintro e wc ⟨rfl, hd_⟩; have hb_ := drawn_below hd_; have ib2_ := Aside0.mk (isb_below IB.out hb_); have hb2_ := Aside0.mk (below_step HB.out hb_); clear IB HB; have IB := ib2_; have HB := hb2_; clear ib2_ hb2_ hb_ hd_)
          | (go_at_call 31; (with_reducible refine (wb_q (acc := acc) 92 92 rfl _ IB.out (by (try simp only [List.length_append, List.length_cons, List.length_nil]); have := HL.out; omega) HB.out.size).mono ?_); rintro e wc ⟨rfl, hib_, hb_⟩; have ib2_ := hib_; have hb2_ := Aside0.mk (Below.trans HB.out hb_); clear IB HB; have IB := Aside0.mk ib2_; have HB := hb2_; clear ib2_ hb2_ hb_ hib_)
          | (go_at_call 31; (with_reducible refine (wb_q (acc := acc ++ [92]) 110 110 rfl _ IB.out (by (try simp only [List.length_append, List.length_cons, List.length_nil]); have := HL.out; omega) HB.out.size).mono ?_); rintro e wc ⟨rfl, hib_, hb_⟩; have ib2_ := hib_; have hb2_ := Aside0.mk (Below.trans HB.out hb_); clear IB HB; have IB := Aside0.mk ib2_; have HB := hb2_; clear ib2_ hb2_ hb_ hib_))
        go_roundg (s.size - (i + 1))
        case measure => have := HQ.out; have := HI.out; omega
        case rel => exact ⟨i + 1, acc ++ [92, 110], ⟨by have := HI.out; omega⟩, by simp, ⟨by rw [HA.out, HT.out, List.flatMap_append]; simp [qp]⟩, ⟨by have := HL4.out; simp; omega⟩, HB, ⟨by simpa using IB.out⟩⟩
      by_cases h9 : c = 9
      · subst h9
        have HX := Aside0.mk (show strings_IndexByte.f (⟨#[34, 92, 10, 9, 13]⟩ : ByteArray) 9 = some 3 from rfl)
        have hk0 : (((((⟨#[34, 92, 110, 116, 114]⟩ : ByteArray)[3]'(by decide)).toNat : Nat)) : Int) = (((116 : UInt8)).toNat : Int) := rfl
        go_wp2_with (first
          | (go_at_call 32; (with_reducible refine (strings_IndexByte.calls (⟨#[34, 92, 10, 9, 13]⟩ : ByteArray) 9 3 _ HX.out).mono ?_); rintro e wc ⟨rfl, hd_⟩; have hb_ := drawn_below hd_; have ib2_ := Aside0.mk (isb_below IB.out hb_); have hb2_ := Aside0.mk (below_step HB.out hb_); clear IB HB; have IB := ib2_; have HB := hb2_; clear ib2_ hb2_ hb_ hd_)
          | (go_at_call 31; (with_reducible refine (wb_q (acc := acc) 92 92 rfl _ IB.out (by (try simp only [List.length_append, List.length_cons, List.length_nil]); have := HL.out; omega) HB.out.size).mono ?_); rintro e wc ⟨rfl, hib_, hb_⟩; have ib2_ := hib_; have hb2_ := Aside0.mk (Below.trans HB.out hb_); clear IB HB; have IB := Aside0.mk ib2_; have HB := hb2_; clear ib2_ hb2_ hb_ hib_)
          | (go_at_call 31; (with_reducible refine (wb_q (acc := acc ++ [92]) 116 116 rfl _ IB.out (by (try simp only [List.length_append, List.length_cons, List.length_nil]); have := HL.out; omega) HB.out.size).mono ?_); rintro e wc ⟨rfl, hib_, hb_⟩; have ib2_ := hib_; have hb2_ := Aside0.mk (Below.trans HB.out hb_); clear IB HB; have IB := Aside0.mk ib2_; have HB := hb2_; clear ib2_ hb2_ hb_ hib_))
        go_roundg (s.size - (i + 1))
        case measure => have := HQ.out; have := HI.out; omega
        case rel => exact ⟨i + 1, acc ++ [92, 116], ⟨by have := HI.out; omega⟩, by simp, ⟨by rw [HA.out, HT.out, List.flatMap_append]; simp [qp]⟩, ⟨by have := HL4.out; simp; omega⟩, HB, ⟨by simpa using IB.out⟩⟩
      by_cases h13 : c = 13
      · subst h13
        have HX := Aside0.mk (show strings_IndexByte.f (⟨#[34, 92, 10, 9, 13]⟩ : ByteArray) 13 = some 4 from rfl)
        have hk0 : (((((⟨#[34, 92, 110, 116, 114]⟩ : ByteArray)[4]'(by decide)).toNat : Nat)) : Int) = (((114 : UInt8)).toNat : Int) := rfl
        go_wp2_with (first
          | (go_at_call 32; (with_reducible refine (strings_IndexByte.calls (⟨#[34, 92, 10, 9, 13]⟩ : ByteArray) 13 4 _ HX.out).mono ?_); rintro e wc ⟨rfl, hd_⟩; have hb_ := drawn_below hd_; have ib2_ := Aside0.mk (isb_below IB.out hb_); have hb2_ := Aside0.mk (below_step HB.out hb_); clear IB HB; have IB := ib2_; have HB := hb2_; clear ib2_ hb2_ hb_ hd_)
          | (go_at_call 31; (with_reducible refine (wb_q (acc := acc) 92 92 rfl _ IB.out (by (try simp only [List.length_append, List.length_cons, List.length_nil]); have := HL.out; omega) HB.out.size).mono ?_); rintro e wc ⟨rfl, hib_, hb_⟩; have ib2_ := hib_; have hb2_ := Aside0.mk (Below.trans HB.out hb_); clear IB HB; have IB := Aside0.mk ib2_; have HB := hb2_; clear ib2_ hb2_ hb_ hib_)
          | (go_at_call 31; (with_reducible refine (wb_q (acc := acc ++ [92]) 114 114 rfl _ IB.out (by (try simp only [List.length_append, List.length_cons, List.length_nil]); have := HL.out; omega) HB.out.size).mono ?_); rintro e wc ⟨rfl, hib_, hb_⟩; have ib2_ := hib_; have hb2_ := Aside0.mk (Below.trans HB.out hb_); clear IB HB; have IB := Aside0.mk ib2_; have HB := hb2_; clear ib2_ hb2_ hb_ hib_))
        go_roundg (s.size - (i + 1))
        case measure => have := HQ.out; have := HI.out; omega
        case rel => exact ⟨i + 1, acc ++ [92, 114], ⟨by have := HI.out; omega⟩, by simp, ⟨by rw [HA.out, HT.out, List.flatMap_append]; simp [qp]⟩, ⟨by have := HL4.out; simp; omega⟩, HB, ⟨by simpa using IB.out⟩⟩
      have HX := Aside0.mk (show strings_IndexByte.f (⟨#[34, 92, 10, 9, 13]⟩ : ByteArray) (c.toNat : Int) = some (-1) from ix_none h34 h92 h10 h9 h13)
      by_cases hh : c < 32 ∨ c = 127
      · have HN := Aside0.mk (show lex_in.f 6 (c.toNat : Int) [0, 31, 127, 127] = some true from in_hex hh)
        have hcl : c.toNat < 256 := c.toNat_lt
        have t1 : (0 ≤ (c.toNat : Int) / 16) = True := eq_true (by omega)
        have t2 : ((c.toNat : Int) / 16 < 16) = True := eq_true (by omega)
        have t3 : (c.toNat / 16 < 16) = True := eq_true (by omega)
        have t4 := fun h => hex_at (c.toNat / 16) h
        have t5 := fun h => hex_at (c.toNat % 16) h
        have t6 : (0 ≤ (c.toNat : Int) % 16) = True := eq_true (by omega)
        have t7 : ((c.toNat : Int) % 16 < 16) = True := eq_true (by omega)
        have t8 : (c.toNat % 16 < 16) = True := eq_true (by omega)
        have HW2 := Aside0.mk (show acc.length + 2 ≤ 140737488355328 by have := HL.out; omega)
        go_wp2_with (first
          | (go_at_call 32; (with_reducible refine (strings_IndexByte.calls (⟨#[34, 92, 10, 9, 13]⟩ : ByteArray) (c.toNat : Int) (-1) _ HX.out).mono ?_); rintro e wc ⟨rfl, hd_⟩; have hb_ := drawn_below hd_; have ib2_ := Aside0.mk (isb_below IB.out hb_); have hb2_ := Aside0.mk (below_step HB.out hb_); clear IB HB; have IB := ib2_; have HB := hb2_; clear ib2_ hb2_ hb_ hd_)
          | (go_at_call 33; (with_reducible refine (in_l 6 (c.toNat : Int) _ 4 [0, 31, 127, 127] 4 rfl true _ (rd_in4 _) (by decide) HN.out).mono ?_); rintro e wc ⟨rfl, hd_⟩; have hb_ := drawn_below hd_; have ib2_ := Aside0.mk (isb_below (isb_below IB.out (below_alloc (Below.refl _ _) _)) hb_); have hb2_ := Aside0.mk (below_step (below_alloc HB.out _) hb_); clear IB HB; have IB := ib2_; have HB := hb2_; clear ib2_ hb2_ hb_ hd_)
          | (go_at_call 34; (with_reducible refine (ws_x (acc := acc) _ IB.out HW2.out HB.out.size).mono ?_); rintro e wc ⟨rfl, hib_, hb_⟩; have ib2_ := hib_; have hb2_ := Aside0.mk (Below.trans HB.out hb_); clear IB HB; have IB := Aside0.mk ib2_; have HB := hb2_; clear ib2_ hb2_ hb_ hib_)
          | (go_at_call 31; (with_reducible refine (wb_q (acc := acc ++ [92, 120]) (hexd (c.toNat / 16)) _ rfl _ IB.out (by (try simp only [List.length_append, List.length_cons, List.length_nil]); have := HL.out; omega) HB.out.size).mono ?_); rintro e wc ⟨rfl, hib_, hb_⟩; have ib2_ := hib_; have hb2_ := Aside0.mk (Below.trans HB.out hb_); clear IB HB; have IB := Aside0.mk ib2_; have HB := hb2_; clear ib2_ hb2_ hb_ hib_)
          | (go_at_call 31; (with_reducible refine (wb_q (acc := acc ++ [92, 120] ++ [hexd (c.toNat / 16)]) (hexd (c.toNat % 16)) _ rfl _ IB.out (by (try simp only [List.length_append, List.length_cons, List.length_nil]); have := HL.out; omega) HB.out.size).mono ?_); rintro e wc ⟨rfl, hib_, hb_⟩; have ib2_ := hib_; have hb2_ := Aside0.mk (Below.trans HB.out hb_); clear IB HB; have IB := Aside0.mk ib2_; have HB := hb2_; clear ib2_ hb2_ hb_ hib_))
        have HQP := Aside0.mk (show qp c = [92, 120, hexd (c.toNat / 16), hexd (c.toNat % 16)] by unfold qp; simp [h34, h92, h10, h9, h13, hh])
        go_roundg (s.size - (i + 1))
        case measure => have := HQ.out; have := HI.out; omega
        case rel => exact ⟨i + 1, acc ++ [92, 120, hexd (c.toNat / 16), hexd (c.toNat % 16)], ⟨by have := HI.out; omega⟩, by simp, ⟨by rw [HA.out, HT.out, List.flatMap_append]; simp [HQP.out]⟩, ⟨by have := HL4.out; simp; omega⟩, HB, ⟨by simpa using IB.out⟩⟩
      · have HN := Aside0.mk (show lex_in.f 6 (c.toNat : Int) [0, 31, 127, 127] = some false from in_nohex hh)
        have HQP := Aside0.mk (show qp c = [c] by unfold qp; simp [h34, h92, h10, h9, h13, hh])
        clear h34 h92 h10 h9 h13 hh
        go_wp2_with (first
          | (go_at_call 32; (with_reducible refine (strings_IndexByte.calls (⟨#[34, 92, 10, 9, 13]⟩ : ByteArray) (c.toNat : Int) (-1) _ HX.out).mono ?_); rintro e wc ⟨rfl, hd_⟩; have hb_ := drawn_below hd_; have ib2_ := Aside0.mk (isb_below IB.out hb_); have hb2_ := Aside0.mk (below_step HB.out hb_); clear IB HB; have IB := ib2_; have HB := hb2_; clear ib2_ hb2_ hb_ hd_)
          | (go_at_call 33; (with_reducible refine (in_l 6 (c.toNat : Int) _ 4 [0, 31, 127, 127] 4 rfl false _ (rd_in4 _) (by decide) HN.out).mono ?_); rintro e wc ⟨rfl, hd_⟩; have hb_ := drawn_below hd_; have ib2_ := Aside0.mk (isb_below (isb_below IB.out (below_alloc (Below.refl _ _) _)) hb_); have hb2_ := Aside0.mk (below_step (below_alloc HB.out _) hb_); clear IB HB; have IB := ib2_; have HB := hb2_; clear ib2_ hb2_ hb_ hd_)
          | (go_at_call 31; (with_reducible refine (wb_q (acc := acc) c (c.toNat : Int) rfl _ IB.out (by (try simp only [List.length_append, List.length_cons, List.length_nil]); have := HL.out; omega) HB.out.size).mono ?_); rintro e wc ⟨rfl, hib_, hb_⟩; have ib2_ := hib_; have hb2_ := Aside0.mk (Below.trans HB.out hb_); clear IB HB; have IB := Aside0.mk ib2_; have HB := hb2_; clear ib2_ hb2_ hb_ hib_))
        go_roundg (s.size - (i + 1))
        case measure => have := HQ.out; have := HI.out; omega
        case rel => exact ⟨i + 1, acc ++ [c], ⟨by have := HI.out; omega⟩, by simp, ⟨by rw [HA.out, HT.out, List.flatMap_append]; simp [HQP.out]⟩, ⟨by have := HL4.out; simp; omega⟩, HB, ⟨by simpa using IB.out⟩⟩
    · have d1 : decide ((i : Int) < (s.size : Int)) = false := decide_eq_false (by omega)
      have d2 : decide (i < s.size) = false := decide_eq_false hi
      have HE := Aside0.mk (show i = s.size by have := HQ.out; omega)
      clear hi
      go_wp2_with (first
        | (go_at_call 31; (with_reducible refine (wb_q (acc := acc) 34 34 rfl _ IB.out (by (try simp only [List.length_append, List.length_cons, List.length_nil]); have := HL.out; omega) HB.out.size).mono ?_); rintro e wc ⟨rfl, hib_, hb_⟩; have ib2_ := hib_; have hb2_ := Aside0.mk (Below.trans HB.out hb_); clear IB HB; have IB := Aside0.mk ib2_; have HB := hb2_; clear ib2_ hb2_ hb_ hib_)
        | (go_at_call 35; (with_reducible refine (Shelf.Try.Builder_String_any w.heap.size gb (acc ++ [34]) _ IB.out HB.out.size).mono ?_); rintro e wc ⟨rfl, hb_⟩; have hb2_ := Aside0.mk (Below.trans HB.out hb_); clear IB HB; have HB := hb2_; clear hb2_ hb_))
      go_ret
      exact ⟨by rw [HA.out, HE.out, List.take_of_length_le (by rw [← size_len]; exact Nat.le_refl _)]; simp [qt], HB.out⟩

end Go.Proofs.Ytmmilinbpimfaaa.WalkQuote
