/- Texts. Under no conditions beyond the statements' own. -/
import Derived.Test.YtmmilinbpimfaaaPureLex
import Derived.Test.YtmmilinbpimfaaaSwitch
import Derived.Test.YtmmilinbpimfaaaWalkBlanks
import Derived.Test.YtmmilinbpimfaaaWalkSign
import Derived.Test.YtmmilinbpimfaaaWalkBuilder
import Derived.Outline
import Derived.Deep.RegionWith
import Derived.Deep.QuietTactic
import Derived.BigQuiet
import Derived.Deep.LoopGhost
import Derived.StillTailTactics
set_option linter.unusedSimpArgs false
set_option linter.unusedVariables false
namespace Go.Proofs.Ytmmilinbpimfaaa.WalkText
open Go.RowKit Go.Proofs.Ytmmilinbpimfaaa.PLexKnown Go.Proofs.YtmmilinbpimfaaaW.PrintWords Go.Proofs.YtmmilinbpimfaaaW.PrintLast Go.Proofs.YtmmilinbpimfaaaW.PrintMore Go.Proofs.Ytmmilinbpimfaaa.Switch Go.Proofs.Ytmmilinbpimfaaa.Spec Go.Proofs.Ytmmilinbpimfaaa.PureLex
open Go.Proofs.Ytmmilinbpimfaaa.WalkBlanks
open Go.Proofs.Ytmmilinbpimfaaa.WalkSign
open Go.Proofs.Ytmmilinbpimfaaa.WalkBuilder
theorem isb_below {B b : Nat} {bs : List Value} {w w1 : World} (h : Lib.IsBuilder 54 5 B b bs w) (hb : Below w.heap.size w w1) : Lib.IsBuilder 54 5 B b bs w1 := by
  have key : ∀ p, Lib.BuilderAt 54 5 B b p bs w → Lib.BuilderAt 54 5 B b p bs w1 := by
    rintro p ⟨hB, v, hbk, hown, hne⟩
    refine ⟨hB, v, (hb.block b (blk_lt hbk)).trans hbk, ⟨hown.1, ?_⟩, hne⟩
    rcases hown.2 with h0 | ⟨g, cap, cur, hv, hg, hbg, hr⟩
    · exact .inl h0
    · exact .inr ⟨g, cap, cur, hv, hg, (hb.block g (blk_lt hbg)).trans hbg, hr⟩
  rcases h with h | h
  · exact .inl (key _ h)
  · exact .inr (key _ h)
theorem extract_size_le (s : ByteArray) (i : Nat) : (s.extract i s.size).size ≤ s.size := by rw [size_len, D_rest, D_len]; omega
theorem isb_new {B b : Nat} {w : World} (hB : B ≤ b) (h : w.heap[b]? = some (.cells #[.pointer none, .slice none 0 0] 54 (0, 0))) : Lib.IsBuilder 54 5 B b (Lib.byteCells []) w :=
  .inl ⟨hB, _, h, ⟨rfl, .inl ⟨rfl, rfl⟩⟩, by simp [Value.ownBlock]⟩
abbrev tx (l : B) (i : Nat) (acc : B) : Res := txt (l.length + 1) l i acc
theorem txt_fuel2 : ∀ (n m : Nat) (l : B) (i : Nat) (acc : B), l.length < n → l.length < m → txt n l i acc = txt m l i acc
  | 0, _, _, _, _, h, _ => by omega
  | _ + 1, 0, _, _, _, _, h => by omega
  | n + 1, m + 1, [], _, _, _, _ => by simp [txt]
  | n + 1, m + 1, c :: t, i, acc, h, h' => by
    simp only [List.length_cons] at h h'
    simp only [txt]
    split
    · rfl
    · split
      · rfl
      · split
        · cases esc t with
          | cut => rfl
          | bad => rfl
          | ok y j =>
            have hl : (t.drop j).length ≤ t.length := by simp
            exact txt_fuel2 n m _ _ _ (by omega) (by omega)
        · exact txt_fuel2 n m t _ _ (by omega) (by omega)
theorem txt_fuel (n : Nat) (l : B) (i : Nat) (acc : B) (h : l.length < n) : txt n l i acc = txt (l.length + 1) l i acc := txt_fuel2 n _ l i acc h (Nat.lt_succ_self _)
theorem tx_end {l : B} (h : opn l = true) (i : Nat) (acc : B) : tx l i acc = .bad 0 31 := by
  cases l with
  | nil => rfl
  | cons c t => simp only [tx, txt]; rw [if_pos h]
theorem tx_quote {t : B} (h : opn (34 :: t) = false) (i : Nat) (acc : B) : tx (34 :: t) i acc = .ok 3 acc 0 (i + 1) := by
  simp only [tx, txt]; rw [if_neg (by simp [h])]; simp
theorem tx_esc {t : B} (h : opn (92 :: t) = false) (i : Nat) (acc : B) : tx (92 :: t) i acc = (match esc t with | .cut => .bad 0 31 | .bad => .bad i 32 | .ok y m => tx (t.drop m) (i + 1 + m) (acc ++ [y])) := by
  have h2 : tx (92 :: t) i acc = (match esc t with | .cut => .bad 0 31 | .bad => .bad i 32 | .ok y m => txt (t.length + 1) (t.drop m) (i + 1 + m) (acc ++ [y])) := by
    simp only [tx, List.length_cons]
    rw [txt, if_neg (by simp [h])]
    simp
    cases esc t <;> rfl
  rw [h2]
  cases esc t with
  | cut => rfl
  | bad => rfl
  | ok y m => exact txt_fuel _ _ _ _ (by have : (t.drop m).length ≤ t.length := by simp
                                         omega)
theorem tx_other {c : UInt8} {t : B} (h : opn (c :: t) = false) (h1 : c ≠ 34) (h2 : c ≠ 92) (i : Nat) (acc : B) : tx (c :: t) i acc = tx t (i + 1) (acc ++ [c]) := by
  simp only [tx, txt, List.length_cons]
  rw [if_neg (by simp [h]), if_neg h1, if_neg h2]
theorem esc_len {t : B} {y : UInt8} {m : Nat} (h : esc t = .ok y m) : 1 ≤ m ∧ m ≤ t.length := by
  unfold esc at h
  cases t with
  | nil => cases h
  | cons c t =>
    simp only at h
    repeat' (first | (split at h))
    all_goals first
      | (cases h; done)
      | (cases h; simp; done)
      | (cases h; simp; omega)

set_option maxHeartbeats 8000000 in
set_option maxRecDepth 100000 in
theorem text_c (s : ByteArray) (hn : s.size ≤ 1000000) (g at_ : Nat) (hlt : at_ < s.size) (w : World) (hg : Scan w g s at_) :
    Calls Try.prog 58 #[.pointer (some ⟨g, 0, none⟩)] w fun e w' => Tok at_ (tx (D s (at_ + 1)) 1 []) e ∧ Below w.heap.size w w' := by
  have HG := Aside0.mk hg
  have HB := Aside0.mk (Below.refl w.heap.size w)
  have HLT := Aside0.mk hlt
  have HSZ := Aside0.mk hn
  have ba : (at_ : Int) ≤ 1000000 := by omega
  have hw1 : IntKind.i64.wrap ((at_ : Int) + 1) = (at_ : Int) + 1 := by rw [i64_w, w64 (by omega) (by omega)]
  have hcz_0 := cellS49_0 hg
  have hcz_1 := cellS49_1 hg
  clear hg hlt hn
  go_enter Try.func58, Try.ntmps58
  go_upto_region 2 with (first
    | ((with_reducible refine gate_dst (N := 2) rfl ?_); refine box_event ?hg (N := 2) ?hd (cs := #[.int .u8 0, .string (⟨#[]⟩ : ByteArray), .int .u64 0, .int .i64 0, .int .i64 0]) (t := 31) ?hr ?_; (case hd => rfl); (case hg => rfl); (case hr => first | (go_simp; done) | (go_simp; rfl)); intro gb2 hg_ wb2 hbox hb_; have GE2 := Aside0.mk ((by rw [hg_]; exact (below_size (by repeat (first | (with_reducible first | exact HB.out | apply below_alloc | apply pw_below_drewN | apply below_drew1 | apply below_drew) | exact HB.out)))) : w.heap.size ≤ gb2); have tHB_ := Aside0.mk (below_step (by repeat (first | (with_reducible first | exact HB.out | apply below_alloc | apply pw_below_drewN | apply below_drew1 | apply below_drew) | exact HB.out)) hb_); clear HB; have HB := tHB_; clear tHB_; have BK2 := Aside0.mk hbox; have HG2 := Aside0.mk hg_; have DB2 := Aside0.mk hb_; clear hbox hg_ hb_; (try clear hcz_0); (try clear hcz_1); have hcz_0 := cellS49_0 (blk_below HG.out HB.out); have hcz_1 := cellS49_1 (blk_below HG.out HB.out))
    | ((with_reducible refine gate_dst (N := 3) rfl ?_); have HLT2 := Aside0.mk (blk_lt BK2.out); refine box_event ?hg (N := 3) ?hd (cs := #[.int .i64 0, .int .i64 0]) (t := 51) ?hr ?_; (case hd => rfl); (case hg => rfl); (case hr => first | (go_simp; done) | (go_simp; rfl)); intro gb3 hg_ wb3 hbox hb_; have GE3 := Aside0.mk ((by rw [hg_]; exact (below_size (by repeat (first | (with_reducible first | exact HB.out | apply below_alloc | apply pw_below_drewN | apply below_drew1 | apply below_drew) | exact HB.out)))) : w.heap.size ≤ gb3); have tHB_ := Aside0.mk (below_step (by repeat (first | (with_reducible first | exact HB.out | apply below_alloc | apply pw_below_drewN | apply below_drew1 | apply below_drew) | exact HB.out)) hb_); have bk2_ := Aside0.mk (blk_below (g := gb2) (o := .cells #[.int .u8 0, .string (⟨#[]⟩ : ByteArray), .int .u64 0, .int .i64 0, .int .i64 0] 31 (0, 0)) (by (with_reducible repeat (first | refine blk_drewN ?_ _ | refine blk_drew ?_ | refine blk_alloc ?_ _)); exact BK2.out) hb_); clear BK2; have BK2 := bk2_; clear bk2_; clear HB; have HB := tHB_; clear tHB_; have BK3 := Aside0.mk hbox; have HG3 := Aside0.mk hg_; have DB3 := Aside0.mk hb_; clear hbox hg_ hb_; (try clear hcz_0); (try clear hcz_1); have hcz_0 := cellS49_0 (blk_below HG.out HB.out); have hcz_1 := cellS49_1 (blk_below HG.out HB.out))
    | ((with_reducible refine gate_dst (N := 4) rfl ?_); have HLT3 := Aside0.mk (blk_lt BK3.out); refine box_event ?hg (N := 4) ?hd (cs := #[.int .u8 0, .string (⟨#[]⟩ : ByteArray), .int .u64 0, .int .i64 0, .int .i64 0]) (t := 31) ?hr ?_; (case hd => rfl); (case hg => rfl); (case hr => first | (go_simp; done) | (go_simp; rfl)); intro gb4 hg_ wb4 hbox hb_; have GE4 := Aside0.mk ((by rw [hg_]; exact (below_size (by repeat (first | (with_reducible first | exact HB.out | apply below_alloc | apply pw_below_drewN | apply below_drew1 | apply below_drew) | exact HB.out)))) : w.heap.size ≤ gb4); have tHB_ := Aside0.mk (below_step (by repeat (first | (with_reducible first | exact HB.out | apply below_alloc | apply pw_below_drewN | apply below_drew1 | apply below_drew) | exact HB.out)) hb_); have bk2_ := Aside0.mk (blk_below (g := gb2) (o := .cells #[.int .u8 0, .string (⟨#[]⟩ : ByteArray), .int .u64 0, .int .i64 0, .int .i64 0] 31 (0, 0)) (by (with_reducible repeat (first | refine blk_drewN ?_ _ | refine blk_drew ?_ | refine blk_alloc ?_ _)); exact BK2.out) hb_); clear BK2; have BK2 := bk2_; clear bk2_; have bk2_ := Aside0.mk (blk_below (g := gb3) (o := .cells #[.int .i64 0, .int .i64 0] 51 (0, 0)) (by (with_reducible repeat (first | refine blk_drewN ?_ _ | refine blk_drew ?_ | refine blk_alloc ?_ _)); exact BK3.out) hb_); clear BK3; have BK3 := bk2_; clear bk2_; clear HB; have HB := tHB_; clear tHB_; have BK4 := Aside0.mk hbox; have HG4 := Aside0.mk hg_; have DB4 := Aside0.mk hb_; clear hbox hg_ hb_; have hcz2_0 := (blk_cell BK2.out 0).trans (show (#[.int .u8 0, .string (⟨#[]⟩ : ByteArray), .int .u64 0, .int .i64 0, .int .i64 0] : Array Value)[0]? = some (.int .u8 0) from rfl); have hfz2_0 := blk_frozen BK2.out 0; have hcz2_1 := (blk_cell BK2.out 1).trans (show (#[.int .u8 0, .string (⟨#[]⟩ : ByteArray), .int .u64 0, .int .i64 0, .int .i64 0] : Array Value)[1]? = some (.string (⟨#[]⟩ : ByteArray)) from rfl); have hfz2_1 := blk_frozen BK2.out 1; have hcz2_2 := (blk_cell BK2.out 2).trans (show (#[.int .u8 0, .string (⟨#[]⟩ : ByteArray), .int .u64 0, .int .i64 0, .int .i64 0] : Array Value)[2]? = some (.int .u64 0) from rfl); have hfz2_2 := blk_frozen BK2.out 2; have hcz2_3 := (blk_cell BK2.out 3).trans (show (#[.int .u8 0, .string (⟨#[]⟩ : ByteArray), .int .u64 0, .int .i64 0, .int .i64 0] : Array Value)[3]? = some (.int .i64 0) from rfl); have hfz2_3 := blk_frozen BK2.out 3; have hcz2_4 := (blk_cell BK2.out 4).trans (show (#[.int .u8 0, .string (⟨#[]⟩ : ByteArray), .int .u64 0, .int .i64 0, .int .i64 0] : Array Value)[4]? = some (.int .i64 0) from rfl); have hfz2_4 := blk_frozen BK2.out 4; have hcz3_0 := (blk_cell BK3.out 0).trans (show (#[.int .i64 0, .int .i64 0] : Array Value)[0]? = some (.int .i64 0) from rfl); have hfz3_0 := blk_frozen BK3.out 0; have hcz3_1 := (blk_cell BK3.out 1).trans (show (#[.int .i64 0, .int .i64 0] : Array Value)[1]? = some (.int .i64 0) from rfl); have hfz3_1 := blk_frozen BK3.out 1; have hcz4_0 := (blk_cell BK4.out 0).trans (show (#[.int .u8 0, .string (⟨#[]⟩ : ByteArray), .int .u64 0, .int .i64 0, .int .i64 0] : Array Value)[0]? = some (.int .u8 0) from rfl); have hfz4_0 := blk_frozen BK4.out 0; have hcz4_1 := (blk_cell BK4.out 1).trans (show (#[.int .u8 0, .string (⟨#[]⟩ : ByteArray), .int .u64 0, .int .i64 0, .int .i64 0] : Array Value)[1]? = some (.string (⟨#[]⟩ : ByteArray)) from rfl); have hfz4_1 := blk_frozen BK4.out 1; have hcz4_2 := (blk_cell BK4.out 2).trans (show (#[.int .u8 0, .string (⟨#[]⟩ : ByteArray), .int .u64 0, .int .i64 0, .int .i64 0] : Array Value)[2]? = some (.int .u64 0) from rfl); have hfz4_2 := blk_frozen BK4.out 2; have hcz4_3 := (blk_cell BK4.out 3).trans (show (#[.int .u8 0, .string (⟨#[]⟩ : ByteArray), .int .u64 0, .int .i64 0, .int .i64 0] : Array Value)[3]? = some (.int .i64 0) from rfl); have hfz4_3 := blk_frozen BK4.out 3; have hcz4_4 := (blk_cell BK4.out 4).trans (show (#[.int .u8 0, .string (⟨#[]⟩ : ByteArray), .int .u64 0, .int .i64 0, .int .i64 0] : Array Value)[4]? = some (.int .i64 0) from rfl); have hfz4_4 := blk_frozen BK4.out 4; (try clear hcz_0); (try clear hcz_1); have hcz_0 := cellS49_0 (blk_below HG.out HB.out); have hcz_1 := cellS49_1 (blk_below HG.out HB.out)))
  have L23 : gb2 < gb3 := by rw [HG3.out]; exact HLT2.out
  have L34 : gb3 < gb4 := by rw [HG4.out]; exact HLT3.out
  have NE2_3 : gb2 ≠ gb3 := Nat.ne_of_lt L23
  have NE3_4 : gb3 ≠ gb4 := Nat.ne_of_lt L34
  have NE2_4 : gb2 ≠ gb4 := Nat.ne_of_lt (Nat.lt_trans L23 L34)
  have k2 := far5 NE2_4 (.int .u8 3) (.string (⟨#[]⟩ : ByteArray)) (.int .u64 0) (.int .i64 (at_ : Int)) (.int .i64 0) BK2.out
  have k3 := far5 NE3_4 (.int .u8 3) (.string (⟨#[]⟩ : ByteArray)) (.int .u64 0) (.int .i64 (at_ : Int)) (.int .i64 0) BK3.out
  have k4 := put5 (.int .u8 3) (.string (⟨#[]⟩ : ByteArray)) (.int .u64 0) (.int .i64 (at_ : Int)) (.int .i64 0) BK4.out
  have tz := set5 (.int .u8 3) (.string (⟨#[]⟩ : ByteArray)) (.int .u64 0) (.int .i64 (at_ : Int)) (.int .i64 0) HB.out GE4.out
  clear HB BK2 BK3 BK4
  (try clear hcz2_0 hfz2_0)
  (try clear hcz2_1 hfz2_1)
  (try clear hcz2_2 hfz2_2)
  (try clear hcz2_3 hfz2_3)
  (try clear hcz2_4 hfz2_4)
  (try clear hcz3_0 hfz3_0)
  (try clear hcz3_1 hfz3_1)
  (try clear hcz3_2 hfz3_2)
  (try clear hcz3_3 hfz3_3)
  (try clear hcz3_4 hfz3_4)
  (try clear hcz4_0 hfz4_0)
  (try clear hcz4_1 hfz4_1)
  (try clear hcz4_2 hfz4_2)
  (try clear hcz4_3 hfz4_3)
  (try clear hcz4_4 hfz4_4)
  (try clear hcz_0 hcz_1)
  obtain ⟨wB, hWB⟩ : ∃ Z, (((((wb4).setCell ⟨gb4, 0, none⟩ (.int .u8 3)).setCell ⟨gb4, 1, none⟩ (.string (⟨#[]⟩ : ByteArray))).setCell ⟨gb4, 2, none⟩ (.int .u64 0)).setCell ⟨gb4, 3, none⟩ (.int .i64 (at_ : Int))).setCell ⟨gb4, 4, none⟩ (.int .i64 0) = Z := ⟨_, rfl⟩
  rw [hWB] at k2 k3 k4 tz ⊢
  clear hWB
  have HB := Aside0.mk tz; have HBW := Aside0.mk tz
  have BK2 := Aside0.mk k2; have KB2 := Aside0.mk k2; clear k2
  have BK3 := Aside0.mk k3; have KB3 := Aside0.mk k3; clear k3
  have BK4 := Aside0.mk k4; have KB4 := Aside0.mk k4; clear k4
  clear tz
  have hcz_0 := cellS49_0 (blk_below HG.out HB.out)
  have hcz_1 := cellS49_1 (blk_below HG.out HB.out)
  go_wp2_with (((with_reducible refine gate_dst (N := 5) rfl ?_); refine box_event ?hg (N := 5) ?hd (cs := #[.pointer none, .slice none 0 0]) (t := 54) ?hr ?_; (case hd => rfl); (case hg => rfl); (case hr => first | (go_simp; done) | (go_simp; rfl)); intro gb5 hg_ wb5 hbox hb_; have GE5 := Aside0.mk ((by rw [hg_]; exact (below_size (by repeat (first | (with_reducible first | exact HB.out | apply below_alloc | apply pw_below_drewN | apply below_drew1 | apply below_drew) | exact HB.out)))) : w.heap.size ≤ gb5); have tHB_ := Aside0.mk (below_step (by repeat (first | (with_reducible first | exact HB.out | apply below_alloc | apply pw_below_drewN | apply below_drew1 | apply below_drew) | exact HB.out)) hb_); have bk2_ := Aside0.mk (blk_below (g := gb2) (o := .cells #[.int .u8 0, .string (⟨#[]⟩ : ByteArray), .int .u64 0, .int .i64 0, .int .i64 0] 31 (0, 0)) (by (with_reducible repeat (first | refine blk_drewN ?_ _ | refine blk_drew ?_ | refine blk_alloc ?_ _)); exact BK2.out) hb_); clear BK2; have BK2 := bk2_; clear bk2_; have bk2_ := Aside0.mk (blk_below (g := gb3) (o := .cells #[.int .i64 0, .int .i64 0] 51 (0, 0)) (by (with_reducible repeat (first | refine blk_drewN ?_ _ | refine blk_drew ?_ | refine blk_alloc ?_ _)); exact BK3.out) hb_); clear BK3; have BK3 := bk2_; clear bk2_; have bk2_ := Aside0.mk (blk_below (g := gb4) (o := .cells #[.int .u8 3, .string (⟨#[]⟩ : ByteArray), .int .u64 0, .int .i64 (at_ : Int), .int .i64 0] 31 (0, 0)) (by (with_reducible repeat (first | refine blk_drewN ?_ _ | refine blk_drew ?_ | refine blk_alloc ?_ _)); exact BK4.out) hb_); clear BK4; have BK4 := bk2_; clear bk2_; clear HB; have HB := tHB_; clear tHB_; have BK5 := Aside0.mk hbox; have HG5 := Aside0.mk hg_; have DB5 := Aside0.mk hb_; clear hbox hg_ hb_; (try clear hcz_0); (try clear hcz_1); have hcz_0 := cellS49_0 (blk_below HG.out HB.out); have hcz_1 := cellS49_1 (blk_below HG.out HB.out)))
  have HBB0 := Aside0.mk (show Below wB.heap.size wB wb5 from DB5.out)
  have IB0 := Aside0.mk (isb_new (B := wB.heap.size) (by rw [HG5.out]; exact Nat.le_refl _) BK5.out)
  clear HB BK2 BK3 BK4 BK5 DB5 DB4 DB3 DB2
  go_loopg [6] (s.size - at_) (fun kq v6 w' => ∃ (i : Nat) (acc : B), Aside0 (kq + i = s.size + 1) ∧ Aside0 (i ≤ s.size) ∧ Aside0 (at_ < i) ∧ v6 = .int .i64 (i : Int) ∧ Aside0 (acc.length ≤ i) ∧ Aside0 (tx (D s (at_ + 1)) 1 [] = tx (D s i) (i - at_) acc) ∧ Aside0 (Below wB.heap.size wB w') ∧ Aside0 (Lib.IsBuilder 54 5 wB.heap.size gb5 (Lib.byteCells acc) w'))
  case atStart => exact ⟨at_ + 1, [], ⟨by have := HLT.out; omega⟩, HLT, ⟨Nat.lt_succ_self _⟩, by simp, ⟨by simp⟩, ⟨by rw [show at_ + 1 - at_ = 1 by omega]⟩, HBB0, IB0⟩
  case round =>
    clear HBB0 IB0
    obtain ⟨i, acc, HQ, HI, HAI, rfl, HAL, HE, HBB, IB⟩ := hrel
    have HB := Aside0.mk (below_step HBW.out HBB.out)
    have BK2 := Aside0.mk (blk_below KB2.out HBB.out)
    have BK3 := Aside0.mk (blk_below KB3.out HBB.out)
    have BK4 := Aside0.mk (blk_below KB4.out HBB.out)
    have hcz_0 := cellS49_0 (blk_below HG.out HB.out)
    have hcz_1 := cellS49_1 (blk_below HG.out HB.out)
    have p1 : (0 ≤ (i : Int)) = True := eq_true (by omega)
    have p2 : ((i : Int) ≤ (s.size : Int)) = True := eq_true (by have := HI.out; omega)
    have p3 : (i ≤ s.size) = True := eq_true HI.out
    have bi : (i : Int) ≤ 1000000 := by have := HI.out; have := HSZ.out; omega
    have bi0 : 0 ≤ (i : Int) := by omega
    have hop := open_f (k := 4) (Nat.le_refl _) (s.extract i s.size)
    rw [D_rest] at hop
    cases ho : opn (D s i) with
    | true =>
      have HO := Aside0.mk (hop.trans (by rw [ho]))
      have HOP := Aside0.mk ho
      clear hop ho
      go_upto_region 5 with ((go_at_call 64; (with_reducible refine (lex_open.calls 4 (s.extract i s.size) _ _ HO.out).mono ?_); rintro e wc ⟨rfl, hb_⟩; have ib2_ := Aside0.mk (isb_below IB.out hb_); have hbb2_ := Aside0.mk (below_step HBB.out hb_); clear IB HBB; have IB := ib2_; have HBB := hbb2_; clear ib2_ hbb2_; have tHB_ := Aside0.mk (below_step (by repeat (first | (with_reducible first | exact HB.out | apply below_alloc | apply pw_below_drewN | apply below_drew1 | apply below_drew) | exact HB.out)) hb_); have bk2_ := Aside0.mk (blk_below (g := gb2) (o := .cells #[.int .u8 0, .string (⟨#[]⟩ : ByteArray), .int .u64 0, .int .i64 0, .int .i64 0] 31 (0, 0)) (by (with_reducible repeat (first | refine blk_drewN ?_ _ | refine blk_drew ?_ | refine blk_alloc ?_ _)); exact BK2.out) hb_); clear BK2; have BK2 := bk2_; clear bk2_; have bk2_ := Aside0.mk (blk_below (g := gb3) (o := .cells #[.int .i64 0, .int .i64 0] 51 (0, 0)) (by (with_reducible repeat (first | refine blk_drewN ?_ _ | refine blk_drew ?_ | refine blk_alloc ?_ _)); exact BK3.out) hb_); clear BK3; have BK3 := bk2_; clear bk2_; have bk2_ := Aside0.mk (blk_below (g := gb4) (o := .cells #[.int .u8 3, .string (⟨#[]⟩ : ByteArray), .int .u64 0, .int .i64 (at_ : Int), .int .i64 0] 31 (0, 0)) (by (with_reducible repeat (first | refine blk_drewN ?_ _ | refine blk_drew ?_ | refine blk_alloc ?_ _)); exact BK4.out) hb_); clear BK4; have BK4 := bk2_; clear bk2_; clear HB; have HB := tHB_; clear tHB_; (try clear hcz2_0); (try clear hcz2_1); (try clear hcz2_2); (try clear hcz2_3); (try clear hcz2_4); (try clear hcz3_0); (try clear hcz3_1); (try clear hcz4_0); (try clear hcz4_1); (try clear hcz4_2); (try clear hcz4_3); (try clear hcz4_4); have hcz4_0 := (blk_cell BK4.out 0).trans (show (#[.int .u8 3, .string (⟨#[]⟩ : ByteArray), .int .u64 0, .int .i64 (at_ : Int), .int .i64 0] : Array Value)[0]? = some (.int .u8 3) from rfl); have hcz4_1 := (blk_cell BK4.out 1).trans (show (#[.int .u8 3, .string (⟨#[]⟩ : ByteArray), .int .u64 0, .int .i64 (at_ : Int), .int .i64 0] : Array Value)[1]? = some (.string (⟨#[]⟩ : ByteArray)) from rfl); have hcz4_2 := (blk_cell BK4.out 2).trans (show (#[.int .u8 3, .string (⟨#[]⟩ : ByteArray), .int .u64 0, .int .i64 (at_ : Int), .int .i64 0] : Array Value)[2]? = some (.int .u64 0) from rfl); have hcz4_3 := (blk_cell BK4.out 3).trans (show (#[.int .u8 3, .string (⟨#[]⟩ : ByteArray), .int .u64 0, .int .i64 (at_ : Int), .int .i64 0] : Array Value)[3]? = some (.int .i64 (at_ : Int)) from rfl); have hcz4_4 := (blk_cell BK4.out 4).trans (show (#[.int .u8 3, .string (⟨#[]⟩ : ByteArray), .int .u64 0, .int .i64 (at_ : Int), .int .i64 0] : Array Value)[4]? = some (.int .i64 0) from rfl); (try clear hb_); (try clear hcz_0); (try clear hcz_1); have hcz_0 := cellS49_0 (blk_below HG.out HB.out); have hcz_1 := cellS49_1 (blk_below HG.out HB.out)))
      have hz := below_drew HB.out
      have k2 := blk_drew BK2.out
      have k3 := blk_drew BK3.out
      have k4 := blk_drew BK4.out
      refine start_ (n := 8) (S := fun w' => Below w.heap.size w w' ∧ w'.heap[gb4]? = some (.cells #[.int .u8 3, .string (⟨#[]⟩ : ByteArray), .int .u64 0, .int .i64 (at_ : Int), .int .i64 0] 31 (0, 0))) (ds := []) #[false, false, false, false, false, false, false, false] (by kernel_rfl) rfl rfl ⟨hz, k4⟩ (fun hHeld => ?_)
      clear HB BK2 BK3 BK4
      (try clear hcz_0 hcz_1)
      (try clear hcz2_0 hfz2_0)
      (try clear hcz2_1 hfz2_1)
      (try clear hcz2_2 hfz2_2)
      (try clear hcz2_3 hfz2_3)
      (try clear hcz2_4 hfz2_4)
      (try clear hcz3_0 hfz3_0)
      (try clear hcz3_1 hfz3_1)
      (try clear hcz4_0 hfz4_0)
      (try clear hcz4_1 hfz4_1)
      (try clear hcz4_2 hfz4_2)
      (try clear hcz4_3 hfz4_3)
      (try clear hcz4_4 hfz4_4)
      (try clear hcz2_0)
      (try clear hcz2_1)
      (try clear hcz2_2)
      (try clear hcz2_3)
      (try clear hcz2_4)
      (try clear hcz3_0)
      (try clear hcz3_1)
      (try clear hcz4_0)
      (try clear hcz4_1)
      (try clear hcz4_2)
      (try clear hcz4_3)
      (try clear hcz4_4)
      generalize hWD : World.drew _ = WD at k2 k3 k4 hz hHeld ⊢
      clear hWD
      refine pure_ (i := 1) (N := some 29) (v := ?_) (a' := ?_) #[false, true, false, false, false, false, false, false] rfl rfl (by kernel_rfl) (fun _ _ _ h => h) (Or.inl ⟨by rfl, ?_⟩) ?_ ?_
      rotate_left
      · intro w'
        go_simp
        with_reducible rfl
      rotate_left
      · simp only [Act.put, List.setIfInBounds_toArray, List.set_cons_zero, List.set_cons_succ, i64_w, i32_w]
        rfl
      refine pure_ (i := 2) (N := some 30) (v := ?_) (a' := ?_) #[false, true, true, false, false, false, false, false] rfl rfl (by kernel_rfl) (fun _ _ _ h => h) (Or.inl ⟨by rfl, ?_⟩) ?_ ?_
      rotate_left
      · intro w'
        go_simp
        with_reducible rfl
      rotate_left
      · simp only [Act.put, List.setIfInBounds_toArray, List.set_cons_zero, List.set_cons_succ, i64_w, i32_w]
        rfl
      refine pure_ (i := 3) (N := some 31) (v := ?_) (a' := ?_) #[false, true, true, true, false, false, false, false] rfl rfl (by kernel_rfl) (fun _ _ _ h => h) (Or.inl ⟨by rfl, ?_⟩) ?_ ?_
      rotate_left
      · intro w'
        go_simp
        with_reducible rfl
      rotate_left
      · simp only [Act.put, List.setIfInBounds_toArray, List.set_cons_zero, List.set_cons_succ, i64_w, i32_w]
        rfl
      refine take_ (i := 0) (N := some 28) (v := ?_) (a' := ?_) #[true, true, true, true, false, false, false, false] rfl rfl (by kernel_rfl) (fun _ _ _ h => h) (Or.inl ⟨by rfl, ?_⟩) hHeld ?_ ?_
      rotate_left
      · intro w' hS
        have hcz4_0 := blk_cell hS.2 0
        have hcz4_1 := blk_cell hS.2 1
        have hcz4_2 := blk_cell hS.2 2
        have hcz4_3 := blk_cell hS.2 3
        have hcz4_4 := blk_cell hS.2 4
        simp only [List.getElem?_toArray, List.getElem?_cons_zero, List.getElem?_cons_succ] at hcz4_0 hcz4_1 hcz4_2 hcz4_3 hcz4_4
        go_simp
        with_reducible rfl
      rotate_left
      · simp only [Act.put, List.setIfInBounds_toArray, List.set_cons_zero, List.set_cons_succ, i64_w, i32_w]
        rfl
      refine take_ (i := 4) (N := some 32) (v := ?_) (a' := ?_) #[true, true, true, true, true, false, false, false] rfl rfl (by kernel_rfl) (fun _ _ _ h => h) (Or.inl ⟨by rfl, ?_⟩) hHeld ?_ ?_
      rotate_left
      · intro w' hS
        have hcz_1 := cellS49_1 (blk_below HG.out hS.1)
        go_simp
        with_reducible rfl
      rotate_left
      · simp only [Act.put, List.setIfInBounds_toArray, List.set_cons_zero, List.set_cons_succ, i64_w, i32_w]
        rfl
      refine pure_ (i := 5) (N := some 33) (v := ?_) (a' := ?_) #[true, true, true, true, true, true, false, false] rfl rfl (by kernel_rfl) (fun _ _ _ h => h) (Or.inl ⟨by rfl, ?_⟩) ?_ ?_
      rotate_left
      · intro w'
        go_simp
        with_reducible rfl
      rotate_left
      · simp only [Act.put, List.setIfInBounds_toArray, List.set_cons_zero, List.set_cons_succ, i64_w, i32_w]
        rfl
      refine one_ (i := 6) (N := none) #[true, true, true, true, true, true, true, false] rfl rfl (by kernel_rfl) (by decide) (fun K hK => ?_)
      have hcw_0 := blk_cell k2 0
      have hcw_1 := blk_cell k2 1
      have hcw_2 := blk_cell k2 2
      have hcw_3 := blk_cell k2 3
      have hcw_4 := blk_cell k2 4
      have hfw_0 := blk_frozen k2 0
      have hfw_1 := blk_frozen k2 1
      have hfw_2 := blk_frozen k2 2
      have hfw_3 := blk_frozen k2 3
      have hfw_4 := blk_frozen k2 4
      simp only [List.getElem?_toArray, List.getElem?_cons_zero, List.getElem?_cons_succ] at hcw_0 hcw_1 hcw_2 hcw_3 hcw_4
      refine skip_ (w1 := ?_) (by rfl) rfl ?_ ?_
      rotate_left
      · go_simp
        rfl
      clear hcw_0 hfw_0 hcw_1 hfw_1 hcw_2 hfw_2 hcw_3 hfw_3 hcw_4 hfw_4
      have t2 := put5 (.int .u8 3) (.string (⟨#[]⟩ : ByteArray)) (.int .u64 0) (.int .i64 (at_ : Int)) (.int .i64 0) k2
      have t3 := far5 (NE2_3).symm (.int .u8 3) (.string (⟨#[]⟩ : ByteArray)) (.int .u64 0) (.int .i64 (at_ : Int)) (.int .i64 0) k3
      have t4 := far5 (NE2_4).symm (.int .u8 3) (.string (⟨#[]⟩ : ByteArray)) (.int .u64 0) (.int .i64 (at_ : Int)) (.int .i64 0) k4
      have tz := set5 (.int .u8 3) (.string (⟨#[]⟩ : ByteArray)) (.int .u64 0) (.int .i64 (at_ : Int)) (.int .i64 0) hz GE2.out
      clear k2 k3 k4 hz
      obtain ⟨Z1, hZ⟩ : ∃ Z, (((((WD).setCell ⟨gb2, 0, none⟩ (.int .u8 3)).setCell ⟨gb2, 1, none⟩ (.string (⟨#[]⟩ : ByteArray))).setCell ⟨gb2, 2, none⟩ (.int .u64 0)).setCell ⟨gb2, 3, none⟩ (.int .i64 (at_ : Int))).setCell ⟨gb2, 4, none⟩ (.int .i64 0) = Z := ⟨_, rfl⟩
      rw [hZ] at t2 t3 t4 tz ⊢
      clear hZ
      have k2 := t2; clear t2
      have k3 := t3; clear t3
      have k4 := t4; clear t4
      have hz := tz; clear tz
      refine hK.out _ _ ⟨hz, k4⟩ (fun hHeld => ?_)
      clear hK K
      refine one_ (i := 7) (N := none) #[true, true, true, true, true, true, true, true] rfl rfl (by kernel_rfl) (by decide) (fun K hK => ?_)
      have hcw_0 := blk_cell k3 0
      have hcw_1 := blk_cell k3 1
      have hfw_0 := blk_frozen k3 0
      have hfw_1 := blk_frozen k3 1
      simp only [List.getElem?_toArray, List.getElem?_cons_zero, List.getElem?_cons_succ] at hcw_0 hcw_1
      refine skip_ (w1 := ?_) (by rfl) rfl ?_ ?_
      rotate_left
      · go_simp
        rfl
      clear hcw_0 hfw_0 hcw_1 hfw_1
      have t3 := put2 (.int .i64 (at_ : Int)) (.int .i64 31) k3
      have t2 := far2 (NE2_3) (.int .i64 (at_ : Int)) (.int .i64 31) k2
      have t4 := far2 (NE3_4).symm (.int .i64 (at_ : Int)) (.int .i64 31) k4
      have tz := set2 (.int .i64 (at_ : Int)) (.int .i64 31) hz GE3.out
      clear k2 k3 k4 hz
      obtain ⟨Z2, hZ⟩ : ∃ Z, ((Z1).setCell ⟨gb3, 0, none⟩ (.int .i64 (at_ : Int))).setCell ⟨gb3, 1, none⟩ (.int .i64 31) = Z := ⟨_, rfl⟩
      rw [hZ] at t2 t3 t4 tz ⊢
      clear hZ
      have k2 := t2; clear t2
      have k3 := t3; clear t3
      have k4 := t4; clear t4
      have hz := tz; clear tz
      refine hK.out _ _ ⟨hz, k4⟩ (fun hHeld => ?_)
      clear hK K
      refine done_ (by kernel_rfl) ?_
      have HB := Aside0.mk hz
      have BK2 := Aside0.mk k2
      have BK3 := Aside0.mk k3
      have BK4 := Aside0.mk k4
      clear hz hHeld k2 k3 k4
      go_wp2
      refine bodyPost_ret (results_cc rfl _ _ gb2 gb3 31 51 _ _ (0, 0) (0, 0) _ _ rfl BK2.out Try.underlying31 rfl (by kernel_rfl) rfl BK3.out Try.underlying51 rfl (by kernel_rfl)) rfl ?_
      exact ⟨(by rw [HE.out, tx_end HOP.out]; exact ⟨3, ⟨#[]⟩, 0, at_, 0, by simp⟩), HB.out⟩
    | false =>
      have HO := Aside0.mk (hop.trans (by rw [ho]))
      have hlt : i < s.size := by
        rcases Nat.lt_or_ge i s.size with h | h
        · exact h
        · rw [D_nil h] at ho; cases ho
      obtain ⟨c, hc, hbt⟩ := D_cons hlt
      rw [hc] at ho
      have HOP := Aside0.mk ho
      have HC := Aside0.mk hc
      have HLI := Aside0.mk hlt
      have q1 : ((i : Int) < (s.size : Int)) = True := eq_true (by omega)
      have q2 : (i < s.size) = True := eq_true hlt
      have hr0 : ∀ h : i < s.size, (((s[i]'h).toNat : Nat) : Int) = (c.toNat : Int) := fun h => by rw [bt_at_nat s i h, hbt]
      clear hop ho hc hbt hlt
      by_cases h34 : c = 34
      · subst h34
        have hcz4_0 := (blk_cell BK4.out 0).trans (show (#[.int .u8 3, .string (⟨#[]⟩ : ByteArray), .int .u64 0, .int .i64 (at_ : Int), .int .i64 0] : Array Value)[0]? = some (.int .u8 3) from rfl)
        have hfz4_0 := blk_frozen BK4.out 0
        have hcz4_1 := (blk_cell BK4.out 1).trans (show (#[.int .u8 3, .string (⟨#[]⟩ : ByteArray), .int .u64 0, .int .i64 (at_ : Int), .int .i64 0] : Array Value)[1]? = some (.string (⟨#[]⟩ : ByteArray)) from rfl)
        have hfz4_1 := blk_frozen BK4.out 1
        have hcz4_2 := (blk_cell BK4.out 2).trans (show (#[.int .u8 3, .string (⟨#[]⟩ : ByteArray), .int .u64 0, .int .i64 (at_ : Int), .int .i64 0] : Array Value)[2]? = some (.int .u64 0) from rfl)
        have hfz4_2 := blk_frozen BK4.out 2
        have hcz4_3 := (blk_cell BK4.out 3).trans (show (#[.int .u8 3, .string (⟨#[]⟩ : ByteArray), .int .u64 0, .int .i64 (at_ : Int), .int .i64 0] : Array Value)[3]? = some (.int .i64 (at_ : Int)) from rfl)
        have hfz4_3 := blk_frozen BK4.out 3
        have hcz4_4 := (blk_cell BK4.out 4).trans (show (#[.int .u8 3, .string (⟨#[]⟩ : ByteArray), .int .u64 0, .int .i64 (at_ : Int), .int .i64 0] : Array Value)[4]? = some (.int .i64 0) from rfl)
        have hfz4_4 := blk_frozen BK4.out 4
        have w2 : IntKind.i64.wrap ((i : Int) + 1) = (i : Int) + 1 := by rw [i64_w, w64 (by omega) (by omega)]
        go_wp2_with (first
          | (go_at_call 64; (with_reducible refine (lex_open.calls 4 (s.extract i s.size) _ _ HO.out).mono ?_); rintro e wc ⟨rfl, hb_⟩; have ib2_ := Aside0.mk (isb_below IB.out hb_); have hbb2_ := Aside0.mk (below_step HBB.out hb_); clear IB HBB; have IB := ib2_; have HBB := hbb2_; clear ib2_ hbb2_; have tHB_ := Aside0.mk (below_step (by repeat (first | (with_reducible first | exact HB.out | apply below_alloc | apply pw_below_drewN | apply below_drew1 | apply below_drew) | exact HB.out)) hb_); have bk2_ := Aside0.mk (blk_below (g := gb2) (o := .cells #[.int .u8 0, .string (⟨#[]⟩ : ByteArray), .int .u64 0, .int .i64 0, .int .i64 0] 31 (0, 0)) (by (with_reducible repeat (first | refine blk_drewN ?_ _ | refine blk_drew ?_ | refine blk_alloc ?_ _)); exact BK2.out) hb_); clear BK2; have BK2 := bk2_; clear bk2_; have bk2_ := Aside0.mk (blk_below (g := gb3) (o := .cells #[.int .i64 0, .int .i64 0] 51 (0, 0)) (by (with_reducible repeat (first | refine blk_drewN ?_ _ | refine blk_drew ?_ | refine blk_alloc ?_ _)); exact BK3.out) hb_); clear BK3; have BK3 := bk2_; clear bk2_; have bk2_ := Aside0.mk (blk_below (g := gb4) (o := .cells #[.int .u8 3, .string (⟨#[]⟩ : ByteArray), .int .u64 0, .int .i64 (at_ : Int), .int .i64 0] 31 (0, 0)) (by (with_reducible repeat (first | refine blk_drewN ?_ _ | refine blk_drew ?_ | refine blk_alloc ?_ _)); exact BK4.out) hb_); clear BK4; have BK4 := bk2_; clear bk2_; clear HB; have HB := tHB_; clear tHB_; (try clear hcz2_0); (try clear hcz2_1); (try clear hcz2_2); (try clear hcz2_3); (try clear hcz2_4); (try clear hcz3_0); (try clear hcz3_1); (try clear hcz4_0); (try clear hcz4_1); (try clear hcz4_2); (try clear hcz4_3); (try clear hcz4_4); have hcz4_0 := (blk_cell BK4.out 0).trans (show (#[.int .u8 3, .string (⟨#[]⟩ : ByteArray), .int .u64 0, .int .i64 (at_ : Int), .int .i64 0] : Array Value)[0]? = some (.int .u8 3) from rfl); have hcz4_1 := (blk_cell BK4.out 1).trans (show (#[.int .u8 3, .string (⟨#[]⟩ : ByteArray), .int .u64 0, .int .i64 (at_ : Int), .int .i64 0] : Array Value)[1]? = some (.string (⟨#[]⟩ : ByteArray)) from rfl); have hcz4_2 := (blk_cell BK4.out 2).trans (show (#[.int .u8 3, .string (⟨#[]⟩ : ByteArray), .int .u64 0, .int .i64 (at_ : Int), .int .i64 0] : Array Value)[2]? = some (.int .u64 0) from rfl); have hcz4_3 := (blk_cell BK4.out 3).trans (show (#[.int .u8 3, .string (⟨#[]⟩ : ByteArray), .int .u64 0, .int .i64 (at_ : Int), .int .i64 0] : Array Value)[3]? = some (.int .i64 (at_ : Int)) from rfl); have hcz4_4 := (blk_cell BK4.out 4).trans (show (#[.int .u8 3, .string (⟨#[]⟩ : ByteArray), .int .u64 0, .int .i64 (at_ : Int), .int .i64 0] : Array Value)[4]? = some (.int .i64 0) from rfl); (try clear hb_); (try clear hcz_0); (try clear hcz_1); have hcz_0 := cellS49_0 (blk_below HG.out HB.out); have hcz_1 := cellS49_1 (blk_below HG.out HB.out))
          | (go_at_call 35; (with_reducible refine (Shelf.Try.Builder_String_any wB.heap.size gb5 acc _ IB.out HBB.out.size).mono ?_); rintro e wc ⟨rfl, hb_⟩; have hbb2_ := Aside0.mk (Below.trans HBB.out hb_); clear IB HBB HB BK2 BK3 BK4; have HBB := hbb2_; clear hbb2_ hb_; have HB := Aside0.mk (below_step HBW.out HBB.out); have BK2 := Aside0.mk (blk_below KB2.out HBB.out); have BK3 := Aside0.mk (blk_below KB3.out HBB.out); have BK4 := Aside0.mk (blk_below KB4.out HBB.out); (try clear hcz_0 hcz_1); (try clear hcz4_0); (try clear hcz4_1); (try clear hcz4_2); (try clear hcz4_3); (try clear hcz4_4); (try clear hfz4_0); (try clear hfz4_1); (try clear hfz4_2); (try clear hfz4_3); (try clear hfz4_4); have hcz4_0 := (blk_cell BK4.out 0).trans (show (#[.int .u8 3, .string (⟨#[]⟩ : ByteArray), .int .u64 0, .int .i64 (at_ : Int), .int .i64 0] : Array Value)[0]? = some (.int .u8 3) from rfl); have hfz4_0 := blk_frozen BK4.out 0; have hcz4_1 := (blk_cell BK4.out 1).trans (show (#[.int .u8 3, .string (⟨#[]⟩ : ByteArray), .int .u64 0, .int .i64 (at_ : Int), .int .i64 0] : Array Value)[1]? = some (.string (⟨#[]⟩ : ByteArray)) from rfl); have hfz4_1 := blk_frozen BK4.out 1; have hcz4_2 := (blk_cell BK4.out 2).trans (show (#[.int .u8 3, .string (⟨#[]⟩ : ByteArray), .int .u64 0, .int .i64 (at_ : Int), .int .i64 0] : Array Value)[2]? = some (.int .u64 0) from rfl); have hfz4_2 := blk_frozen BK4.out 2; have hcz4_3 := (blk_cell BK4.out 3).trans (show (#[.int .u8 3, .string (⟨#[]⟩ : ByteArray), .int .u64 0, .int .i64 (at_ : Int), .int .i64 0] : Array Value)[3]? = some (.int .i64 (at_ : Int)) from rfl); have hfz4_3 := blk_frozen BK4.out 3; have hcz4_4 := (blk_cell BK4.out 4).trans (show (#[.int .u8 3, .string (⟨#[]⟩ : ByteArray), .int .u64 0, .int .i64 (at_ : Int), .int .i64 0] : Array Value)[4]? = some (.int .i64 0) from rfl); have hfz4_4 := blk_frozen BK4.out 4; have hfz2_0 := blk_frozen BK2.out 0; have hfz2_1 := blk_frozen BK2.out 1; have hfz2_2 := blk_frozen BK2.out 2; have hfz2_3 := blk_frozen BK2.out 3; have hfz2_4 := blk_frozen BK2.out 4; have hfz3_0 := blk_frozen BK3.out 0; have hfz3_1 := blk_frozen BK3.out 1; have hcz2_0 := (blk_cell BK2.out 0).trans (show (#[.int .u8 0, .string (⟨#[]⟩ : ByteArray), .int .u64 0, .int .i64 0, .int .i64 0] : Array Value)[0]? = some (.int .u8 0) from rfl); have hcz2_1 := (blk_cell BK2.out 1).trans (show (#[.int .u8 0, .string (⟨#[]⟩ : ByteArray), .int .u64 0, .int .i64 0, .int .i64 0] : Array Value)[1]? = some (.string (⟨#[]⟩ : ByteArray)) from rfl); have hcz2_2 := (blk_cell BK2.out 2).trans (show (#[.int .u8 0, .string (⟨#[]⟩ : ByteArray), .int .u64 0, .int .i64 0, .int .i64 0] : Array Value)[2]? = some (.int .u64 0) from rfl); have hcz2_3 := (blk_cell BK2.out 3).trans (show (#[.int .u8 0, .string (⟨#[]⟩ : ByteArray), .int .u64 0, .int .i64 0, .int .i64 0] : Array Value)[3]? = some (.int .i64 0) from rfl); have hcz2_4 := (blk_cell BK2.out 4).trans (show (#[.int .u8 0, .string (⟨#[]⟩ : ByteArray), .int .u64 0, .int .i64 0, .int .i64 0] : Array Value)[4]? = some (.int .i64 0) from rfl); have hcz3_0 := (blk_cell BK3.out 0).trans (show (#[.int .i64 0, .int .i64 0] : Array Value)[0]? = some (.int .i64 0) from rfl); have hcz3_1 := (blk_cell BK3.out 1).trans (show (#[.int .i64 0, .int .i64 0] : Array Value)[1]? = some (.int .i64 0) from rfl)))
        have k2a := blk_far (p := ⟨gb4, 4, none⟩) (blk_far (p := ⟨gb4, 1, none⟩) BK2.out NE2_4 (.string ⟨acc.toArray⟩)) NE2_4 (.int .i64 ((i : Int) + 1))
        have k3a := blk_far (p := ⟨gb4, 4, none⟩) (blk_far (p := ⟨gb4, 1, none⟩) BK3.out NE3_4 (.string ⟨acc.toArray⟩)) NE3_4 (.int .i64 ((i : Int) + 1))
        have hza := below_set (g := gb4) (j := 4) (v := .int .i64 ((i : Int) + 1)) (below_set (g := gb4) (j := 1) (v := .string ⟨acc.toArray⟩) HB.out GE4.out) GE4.out
        refine bodyPost_ret (results_cc rfl _ _ gb2 gb3 31 51 _ _ (0, 0) (0, 0) _ _ rfl (far2 NE2_3 _ _ (put5 _ _ _ _ _ k2a)) Try.underlying31 rfl (by kernel_rfl) rfl (put2 _ _ (far5 NE2_3.symm _ _ _ _ _ k3a)) Try.underlying51 rfl (by kernel_rfl)) rfl ?_
        exact ⟨(by rw [HE.out, HC.out, tx_quote HOP.out]; show _ = _; rw [show at_ + (i - at_ + 1) = i + 1 by have := HAI.out; omega]; simp), set2 _ _ (set5 _ _ _ _ _ hza GE2.out) GE3.out⟩
      · by_cases h92 : c = 92
        · subst h92
          obtain ⟨E, hE⟩ : ∃ E, esc (D s (i + 1)) = E := ⟨_, rfl⟩
          have hef := escape_f (s.extract (i + 1) s.size) (by have := extract_size_le s (i + 1); have := HSZ.out; omega) (k := 12) (Nat.le_refl _)
          rw [D_rest, hE] at hef
          have w2 : IntKind.i64.wrap ((i : Int) + 1) = (i : Int) + 1 := by rw [i64_w, w64 (by omega) (by omega)]
          have r1 : (0 ≤ (i : Int) + 1) = True := eq_true (by omega)
          have r2 : ((i : Int) + 1 ≤ (s.size : Int)) = True := eq_true (by have := HLI.out; omega)
          have r3 : (i + 1 ≤ s.size) = True := eq_true HLI.out
          have r4 : ((i : Int) + 1).toNat = i + 1 := by omega
          cases E with
          | cut =>
            have HEF := Aside0.mk (show lex_escape.f 12 (s.extract (i + 1) s.size) = some ((0 : Int), (0 : Int), (31 : Int)) from hef)
            have HES := Aside0.mk hE
            clear hef hE h34
            have hcz4_0 := (blk_cell BK4.out 0).trans (show (#[.int .u8 3, .string (⟨#[]⟩ : ByteArray), .int .u64 0, .int .i64 (at_ : Int), .int .i64 0] : Array Value)[0]? = some (.int .u8 3) from rfl)
            have hfz4_0 := blk_frozen BK4.out 0
            have hcz4_1 := (blk_cell BK4.out 1).trans (show (#[.int .u8 3, .string (⟨#[]⟩ : ByteArray), .int .u64 0, .int .i64 (at_ : Int), .int .i64 0] : Array Value)[1]? = some (.string (⟨#[]⟩ : ByteArray)) from rfl)
            have hfz4_1 := blk_frozen BK4.out 1
            have hcz4_2 := (blk_cell BK4.out 2).trans (show (#[.int .u8 3, .string (⟨#[]⟩ : ByteArray), .int .u64 0, .int .i64 (at_ : Int), .int .i64 0] : Array Value)[2]? = some (.int .u64 0) from rfl)
            have hfz4_2 := blk_frozen BK4.out 2
            have hcz4_3 := (blk_cell BK4.out 3).trans (show (#[.int .u8 3, .string (⟨#[]⟩ : ByteArray), .int .u64 0, .int .i64 (at_ : Int), .int .i64 0] : Array Value)[3]? = some (.int .i64 (at_ : Int)) from rfl)
            have hfz4_3 := blk_frozen BK4.out 3
            have hcz4_4 := (blk_cell BK4.out 4).trans (show (#[.int .u8 3, .string (⟨#[]⟩ : ByteArray), .int .u64 0, .int .i64 (at_ : Int), .int .i64 0] : Array Value)[4]? = some (.int .i64 0) from rfl)
            have hfz4_4 := blk_frozen BK4.out 4
            go_upto_region 17 with (first
              | (go_at_call 64; (with_reducible refine (lex_open.calls 4 (s.extract i s.size) _ _ HO.out).mono ?_); rintro e wc ⟨rfl, hb_⟩; have ib2_ := Aside0.mk (isb_below IB.out hb_); have hbb2_ := Aside0.mk (below_step HBB.out hb_); clear IB HBB; have IB := ib2_; have HBB := hbb2_; clear ib2_ hbb2_; have tHB_ := Aside0.mk (below_step (by repeat (first | (with_reducible first | exact HB.out | apply below_alloc | apply pw_below_drewN | apply below_drew1 | apply below_drew) | exact HB.out)) hb_); have bk2_ := Aside0.mk (blk_below (g := gb2) (o := .cells #[.int .u8 0, .string (⟨#[]⟩ : ByteArray), .int .u64 0, .int .i64 0, .int .i64 0] 31 (0, 0)) (by (with_reducible repeat (first | refine blk_drewN ?_ _ | refine blk_drew ?_ | refine blk_alloc ?_ _)); exact BK2.out) hb_); clear BK2; have BK2 := bk2_; clear bk2_; have bk2_ := Aside0.mk (blk_below (g := gb3) (o := .cells #[.int .i64 0, .int .i64 0] 51 (0, 0)) (by (with_reducible repeat (first | refine blk_drewN ?_ _ | refine blk_drew ?_ | refine blk_alloc ?_ _)); exact BK3.out) hb_); clear BK3; have BK3 := bk2_; clear bk2_; have bk2_ := Aside0.mk (blk_below (g := gb4) (o := .cells #[.int .u8 3, .string (⟨#[]⟩ : ByteArray), .int .u64 0, .int .i64 (at_ : Int), .int .i64 0] 31 (0, 0)) (by (with_reducible repeat (first | refine blk_drewN ?_ _ | refine blk_drew ?_ | refine blk_alloc ?_ _)); exact BK4.out) hb_); clear BK4; have BK4 := bk2_; clear bk2_; clear HB; have HB := tHB_; clear tHB_; (try clear hcz2_0); (try clear hcz2_1); (try clear hcz2_2); (try clear hcz2_3); (try clear hcz2_4); (try clear hcz3_0); (try clear hcz3_1); (try clear hcz4_0); (try clear hcz4_1); (try clear hcz4_2); (try clear hcz4_3); (try clear hcz4_4); have hcz4_0 := (blk_cell BK4.out 0).trans (show (#[.int .u8 3, .string (⟨#[]⟩ : ByteArray), .int .u64 0, .int .i64 (at_ : Int), .int .i64 0] : Array Value)[0]? = some (.int .u8 3) from rfl); have hcz4_1 := (blk_cell BK4.out 1).trans (show (#[.int .u8 3, .string (⟨#[]⟩ : ByteArray), .int .u64 0, .int .i64 (at_ : Int), .int .i64 0] : Array Value)[1]? = some (.string (⟨#[]⟩ : ByteArray)) from rfl); have hcz4_2 := (blk_cell BK4.out 2).trans (show (#[.int .u8 3, .string (⟨#[]⟩ : ByteArray), .int .u64 0, .int .i64 (at_ : Int), .int .i64 0] : Array Value)[2]? = some (.int .u64 0) from rfl); have hcz4_3 := (blk_cell BK4.out 3).trans (show (#[.int .u8 3, .string (⟨#[]⟩ : ByteArray), .int .u64 0, .int .i64 (at_ : Int), .int .i64 0] : Array Value)[3]? = some (.int .i64 (at_ : Int)) from rfl); have hcz4_4 := (blk_cell BK4.out 4).trans (show (#[.int .u8 3, .string (⟨#[]⟩ : ByteArray), .int .u64 0, .int .i64 (at_ : Int), .int .i64 0] : Array Value)[4]? = some (.int .i64 0) from rfl); (try clear hb_); (try clear hcz_0); (try clear hcz_1); have hcz_0 := cellS49_0 (blk_below HG.out HB.out); have hcz_1 := cellS49_1 (blk_below HG.out HB.out))
              | (go_at_call 65; (with_reducible refine (lex_escape.calls 12 (s.extract (i + 1) s.size) 0 0 31 _ HEF.out).mono ?_); rintro e wc ⟨rfl, hb_⟩; have ib2_ := Aside0.mk (isb_below IB.out hb_); have hbb2_ := Aside0.mk (below_step HBB.out hb_); clear IB HBB; have IB := ib2_; have HBB := hbb2_; clear ib2_ hbb2_; have tHB_ := Aside0.mk (below_step (by repeat (first | (with_reducible first | exact HB.out | apply below_alloc | apply pw_below_drewN | apply below_drew1 | apply below_drew) | exact HB.out)) hb_); have bk2_ := Aside0.mk (blk_below (g := gb2) (o := .cells #[.int .u8 0, .string (⟨#[]⟩ : ByteArray), .int .u64 0, .int .i64 0, .int .i64 0] 31 (0, 0)) (by (with_reducible repeat (first | refine blk_drewN ?_ _ | refine blk_drew ?_ | refine blk_alloc ?_ _)); exact BK2.out) hb_); clear BK2; have BK2 := bk2_; clear bk2_; have bk2_ := Aside0.mk (blk_below (g := gb3) (o := .cells #[.int .i64 0, .int .i64 0] 51 (0, 0)) (by (with_reducible repeat (first | refine blk_drewN ?_ _ | refine blk_drew ?_ | refine blk_alloc ?_ _)); exact BK3.out) hb_); clear BK3; have BK3 := bk2_; clear bk2_; have bk2_ := Aside0.mk (blk_below (g := gb4) (o := .cells #[.int .u8 3, .string (⟨#[]⟩ : ByteArray), .int .u64 0, .int .i64 (at_ : Int), .int .i64 0] 31 (0, 0)) (by (with_reducible repeat (first | refine blk_drewN ?_ _ | refine blk_drew ?_ | refine blk_alloc ?_ _)); exact BK4.out) hb_); clear BK4; have BK4 := bk2_; clear bk2_; clear HB; have HB := tHB_; clear tHB_; (try clear hcz2_0); (try clear hcz2_1); (try clear hcz2_2); (try clear hcz2_3); (try clear hcz2_4); (try clear hcz3_0); (try clear hcz3_1); (try clear hcz4_0); (try clear hcz4_1); (try clear hcz4_2); (try clear hcz4_3); (try clear hcz4_4); have hcz4_0 := (blk_cell BK4.out 0).trans (show (#[.int .u8 3, .string (⟨#[]⟩ : ByteArray), .int .u64 0, .int .i64 (at_ : Int), .int .i64 0] : Array Value)[0]? = some (.int .u8 3) from rfl); have hcz4_1 := (blk_cell BK4.out 1).trans (show (#[.int .u8 3, .string (⟨#[]⟩ : ByteArray), .int .u64 0, .int .i64 (at_ : Int), .int .i64 0] : Array Value)[1]? = some (.string (⟨#[]⟩ : ByteArray)) from rfl); have hcz4_2 := (blk_cell BK4.out 2).trans (show (#[.int .u8 3, .string (⟨#[]⟩ : ByteArray), .int .u64 0, .int .i64 (at_ : Int), .int .i64 0] : Array Value)[2]? = some (.int .u64 0) from rfl); have hcz4_3 := (blk_cell BK4.out 3).trans (show (#[.int .u8 3, .string (⟨#[]⟩ : ByteArray), .int .u64 0, .int .i64 (at_ : Int), .int .i64 0] : Array Value)[3]? = some (.int .i64 (at_ : Int)) from rfl); have hcz4_4 := (blk_cell BK4.out 4).trans (show (#[.int .u8 3, .string (⟨#[]⟩ : ByteArray), .int .u64 0, .int .i64 (at_ : Int), .int .i64 0] : Array Value)[4]? = some (.int .i64 0) from rfl); (try clear hb_); (try clear hcz_0); (try clear hcz_1); have hcz_0 := cellS49_0 (blk_below HG.out HB.out); have hcz_1 := cellS49_1 (blk_below HG.out HB.out)))
            have hz := below_drew HB.out
            have k2 := blk_drew BK2.out
            have k3 := blk_drew BK3.out
            have k4 := blk_drew BK4.out
            refine start_ (n := 9) (S := fun w' => Below w.heap.size w w' ∧ w'.heap[gb4]? = some (.cells #[.int .u8 3, .string (⟨#[]⟩ : ByteArray), .int .u64 0, .int .i64 (at_ : Int), .int .i64 0] 31 (0, 0))) (ds := []) #[false, false, false, false, false, false, false, false, false] (by kernel_rfl) rfl rfl ⟨hz, k4⟩ (fun hHeld => ?_)
            clear HB BK2 BK3 BK4
            (try clear hcz_0 hcz_1)
            (try clear hcz2_0 hfz2_0)
            (try clear hcz2_1 hfz2_1)
            (try clear hcz2_2 hfz2_2)
            (try clear hcz2_3 hfz2_3)
            (try clear hcz2_4 hfz2_4)
            (try clear hcz3_0 hfz3_0)
            (try clear hcz3_1 hfz3_1)
            (try clear hcz4_0 hfz4_0)
            (try clear hcz4_1 hfz4_1)
            (try clear hcz4_2 hfz4_2)
            (try clear hcz4_3 hfz4_3)
            (try clear hcz4_4 hfz4_4)
            (try clear hcz2_0)
            (try clear hcz2_1)
            (try clear hcz2_2)
            (try clear hcz2_3)
            (try clear hcz2_4)
            (try clear hcz3_0)
            (try clear hcz3_1)
            (try clear hcz4_0)
            (try clear hcz4_1)
            (try clear hcz4_2)
            (try clear hcz4_3)
            (try clear hcz4_4)
            generalize hWD : World.drew _ = WD at k2 k3 k4 hz hHeld ⊢
            clear hWD
            refine pure_ (i := 1) (N := some 72) (v := ?_) (a' := ?_) #[false, true, false, false, false, false, false, false, false] rfl rfl (by kernel_rfl) (fun _ _ _ h => h) (Or.inl ⟨by rfl, ?_⟩) ?_ ?_
            rotate_left
            · intro w'
              go_simp
              with_reducible rfl
            rotate_left
            · simp only [Act.put, List.setIfInBounds_toArray, List.set_cons_zero, List.set_cons_succ, i64_w, i32_w]
              rfl
            refine pure_ (i := 2) (N := some 73) (v := ?_) (a' := ?_) #[false, true, true, false, false, false, false, false, false] rfl rfl (by kernel_rfl) (fun _ _ _ h => h) (Or.inl ⟨by rfl, ?_⟩) ?_ ?_
            rotate_left
            · intro w'
              go_simp
              with_reducible rfl
            rotate_left
            · simp only [Act.put, List.setIfInBounds_toArray, List.set_cons_zero, List.set_cons_succ, i64_w, i32_w]
              rfl
            refine pure_ (i := 3) (N := some 74) (v := ?_) (a' := ?_) #[false, true, true, true, false, false, false, false, false] rfl rfl (by kernel_rfl) (fun _ _ _ h => h) (Or.inl ⟨by rfl, ?_⟩) ?_ ?_
            rotate_left
            · intro w'
              go_simp
              with_reducible rfl
            rotate_left
            · simp only [Act.put, List.setIfInBounds_toArray, List.set_cons_zero, List.set_cons_succ, i64_w, i32_w]
              rfl
            refine pure_ (i := 5) (N := some 76) (v := ?_) (a' := ?_) #[false, true, true, true, false, true, false, false, false] rfl rfl (by kernel_rfl) (fun _ _ _ h => h) (Or.inl ⟨by rfl, ?_⟩) ?_ ?_
            rotate_left
            · intro w'
              go_simp
              with_reducible rfl
            rotate_left
            · simp only [Act.put, List.setIfInBounds_toArray, List.set_cons_zero, List.set_cons_succ, i64_w, i32_w]
              rfl
            refine take_ (i := 0) (N := some 71) (v := ?_) (a' := ?_) #[true, true, true, true, false, true, false, false, false] rfl rfl (by kernel_rfl) (fun _ _ _ h => h) (Or.inl ⟨by rfl, ?_⟩) hHeld ?_ ?_
            rotate_left
            · intro w' hS
              have hcz4_0 := blk_cell hS.2 0
              have hcz4_1 := blk_cell hS.2 1
              have hcz4_2 := blk_cell hS.2 2
              have hcz4_3 := blk_cell hS.2 3
              have hcz4_4 := blk_cell hS.2 4
              simp only [List.getElem?_toArray, List.getElem?_cons_zero, List.getElem?_cons_succ] at hcz4_0 hcz4_1 hcz4_2 hcz4_3 hcz4_4
              go_simp
              with_reducible rfl
            rotate_left
            · simp only [Act.put, List.setIfInBounds_toArray, List.set_cons_zero, List.set_cons_succ, i64_w, i32_w]
              rfl
            refine take_ (i := 4) (N := some 75) (v := ?_) (a' := ?_) #[true, true, true, true, true, true, false, false, false] rfl rfl (by kernel_rfl) (fun _ _ _ h => h) (Or.inl ⟨by rfl, ?_⟩) hHeld ?_ ?_
            rotate_left
            · intro w' hS
              have hcz_1 := cellS49_1 (blk_below HG.out hS.1)
              go_simp
              with_reducible rfl
            rotate_left
            · simp only [Act.put, List.setIfInBounds_toArray, List.set_cons_zero, List.set_cons_succ, i64_w, i32_w]
              rfl
            refine pure_ (i := 6) (N := some 77) (v := ?_) (a' := ?_) #[true, true, true, true, true, true, true, false, false] rfl rfl (by kernel_rfl) (fun _ _ _ h => h) (Or.inl ⟨by rfl, ?_⟩) ?_ ?_
            rotate_left
            · intro w'
              go_simp
              with_reducible rfl
            rotate_left
            · simp only [Act.put, List.setIfInBounds_toArray, List.set_cons_zero, List.set_cons_succ, i64_w, i32_w]
              rfl
            refine one_ (i := 7) (N := none) #[true, true, true, true, true, true, true, true, false] rfl rfl (by kernel_rfl) (by decide) (fun K hK => ?_)
            have hcw_0 := blk_cell k2 0
            have hcw_1 := blk_cell k2 1
            have hcw_2 := blk_cell k2 2
            have hcw_3 := blk_cell k2 3
            have hcw_4 := blk_cell k2 4
            have hfw_0 := blk_frozen k2 0
            have hfw_1 := blk_frozen k2 1
            have hfw_2 := blk_frozen k2 2
            have hfw_3 := blk_frozen k2 3
            have hfw_4 := blk_frozen k2 4
            simp only [List.getElem?_toArray, List.getElem?_cons_zero, List.getElem?_cons_succ] at hcw_0 hcw_1 hcw_2 hcw_3 hcw_4
            refine skip_ (w1 := ?_) (by rfl) rfl ?_ ?_
            rotate_left
            · go_simp
              rfl
            clear hcw_0 hfw_0 hcw_1 hfw_1 hcw_2 hfw_2 hcw_3 hfw_3 hcw_4 hfw_4
            have t2 := put5 (.int .u8 3) (.string (⟨#[]⟩ : ByteArray)) (.int .u64 0) (.int .i64 (at_ : Int)) (.int .i64 0) k2
            have t3 := far5 (NE2_3).symm (.int .u8 3) (.string (⟨#[]⟩ : ByteArray)) (.int .u64 0) (.int .i64 (at_ : Int)) (.int .i64 0) k3
            have t4 := far5 (NE2_4).symm (.int .u8 3) (.string (⟨#[]⟩ : ByteArray)) (.int .u64 0) (.int .i64 (at_ : Int)) (.int .i64 0) k4
            have tz := set5 (.int .u8 3) (.string (⟨#[]⟩ : ByteArray)) (.int .u64 0) (.int .i64 (at_ : Int)) (.int .i64 0) hz GE2.out
            clear k2 k3 k4 hz
            obtain ⟨Z1, hZ⟩ : ∃ Z, (((((WD).setCell ⟨gb2, 0, none⟩ (.int .u8 3)).setCell ⟨gb2, 1, none⟩ (.string (⟨#[]⟩ : ByteArray))).setCell ⟨gb2, 2, none⟩ (.int .u64 0)).setCell ⟨gb2, 3, none⟩ (.int .i64 (at_ : Int))).setCell ⟨gb2, 4, none⟩ (.int .i64 0) = Z := ⟨_, rfl⟩
            rw [hZ] at t2 t3 t4 tz ⊢
            clear hZ
            have k2 := t2; clear t2
            have k3 := t3; clear t3
            have k4 := t4; clear t4
            have hz := tz; clear tz
            refine hK.out _ _ ⟨hz, k4⟩ (fun hHeld => ?_)
            clear hK K
            refine one_ (i := 8) (N := none) #[true, true, true, true, true, true, true, true, true] rfl rfl (by kernel_rfl) (by decide) (fun K hK => ?_)
            have hcw_0 := blk_cell k3 0
            have hcw_1 := blk_cell k3 1
            have hfw_0 := blk_frozen k3 0
            have hfw_1 := blk_frozen k3 1
            simp only [List.getElem?_toArray, List.getElem?_cons_zero, List.getElem?_cons_succ] at hcw_0 hcw_1
            refine skip_ (w1 := ?_) (by rfl) rfl ?_ ?_
            rotate_left
            · go_simp
              rfl
            clear hcw_0 hfw_0 hcw_1 hfw_1
            have t3 := put2 (.int .i64 (at_ : Int)) (.int .i64 31) k3
            have t2 := far2 (NE2_3) (.int .i64 (at_ : Int)) (.int .i64 31) k2
            have t4 := far2 (NE3_4).symm (.int .i64 (at_ : Int)) (.int .i64 31) k4
            have tz := set2 (.int .i64 (at_ : Int)) (.int .i64 31) hz GE3.out
            clear k2 k3 k4 hz
            obtain ⟨Z2, hZ⟩ : ∃ Z, ((Z1).setCell ⟨gb3, 0, none⟩ (.int .i64 (at_ : Int))).setCell ⟨gb3, 1, none⟩ (.int .i64 31) = Z := ⟨_, rfl⟩
            rw [hZ] at t2 t3 t4 tz ⊢
            clear hZ
            have k2 := t2; clear t2
            have k3 := t3; clear t3
            have k4 := t4; clear t4
            have hz := tz; clear tz
            refine hK.out _ _ ⟨hz, k4⟩ (fun hHeld => ?_)
            clear hK K
            refine done_ (by kernel_rfl) ?_
            have HB := Aside0.mk hz
            have BK2 := Aside0.mk k2
            have BK3 := Aside0.mk k3
            have BK4 := Aside0.mk k4
            clear hz hHeld k2 k3 k4
            go_wp2
            refine bodyPost_ret (results_cc rfl _ _ gb2 gb3 31 51 _ _ (0, 0) (0, 0) _ _ rfl BK2.out Try.underlying31 rfl (by kernel_rfl) rfl BK3.out Try.underlying51 rfl (by kernel_rfl)) rfl ?_
            exact ⟨(by rw [HE.out, HC.out, tx_esc HOP.out, HES.out]; exact ⟨3, ⟨#[]⟩, 0, at_, 0, by simp⟩), HB.out⟩
          | bad =>
            have HEF := Aside0.mk (show lex_escape.f 12 (s.extract (i + 1) s.size) = some ((0 : Int), (0 : Int), (32 : Int)) from hef)
            have HES := Aside0.mk hE
            clear hef hE h34
            have hcz4_0 := (blk_cell BK4.out 0).trans (show (#[.int .u8 3, .string (⟨#[]⟩ : ByteArray), .int .u64 0, .int .i64 (at_ : Int), .int .i64 0] : Array Value)[0]? = some (.int .u8 3) from rfl)
            have hfz4_0 := blk_frozen BK4.out 0
            have hcz4_1 := (blk_cell BK4.out 1).trans (show (#[.int .u8 3, .string (⟨#[]⟩ : ByteArray), .int .u64 0, .int .i64 (at_ : Int), .int .i64 0] : Array Value)[1]? = some (.string (⟨#[]⟩ : ByteArray)) from rfl)
            have hfz4_1 := blk_frozen BK4.out 1
            have hcz4_2 := (blk_cell BK4.out 2).trans (show (#[.int .u8 3, .string (⟨#[]⟩ : ByteArray), .int .u64 0, .int .i64 (at_ : Int), .int .i64 0] : Array Value)[2]? = some (.int .u64 0) from rfl)
            have hfz4_2 := blk_frozen BK4.out 2
            have hcz4_3 := (blk_cell BK4.out 3).trans (show (#[.int .u8 3, .string (⟨#[]⟩ : ByteArray), .int .u64 0, .int .i64 (at_ : Int), .int .i64 0] : Array Value)[3]? = some (.int .i64 (at_ : Int)) from rfl)
            have hfz4_3 := blk_frozen BK4.out 3
            have hcz4_4 := (blk_cell BK4.out 4).trans (show (#[.int .u8 3, .string (⟨#[]⟩ : ByteArray), .int .u64 0, .int .i64 (at_ : Int), .int .i64 0] : Array Value)[4]? = some (.int .i64 0) from rfl)
            have hfz4_4 := blk_frozen BK4.out 4
            go_wp2_with (first
              | (go_at_call 64; (with_reducible refine (lex_open.calls 4 (s.extract i s.size) _ _ HO.out).mono ?_); rintro e wc ⟨rfl, hb_⟩; have ib2_ := Aside0.mk (isb_below IB.out hb_); have hbb2_ := Aside0.mk (below_step HBB.out hb_); clear IB HBB; have IB := ib2_; have HBB := hbb2_; clear ib2_ hbb2_; have tHB_ := Aside0.mk (below_step (by repeat (first | (with_reducible first | exact HB.out | apply below_alloc | apply pw_below_drewN | apply below_drew1 | apply below_drew) | exact HB.out)) hb_); have bk2_ := Aside0.mk (blk_below (g := gb2) (o := .cells #[.int .u8 0, .string (⟨#[]⟩ : ByteArray), .int .u64 0, .int .i64 0, .int .i64 0] 31 (0, 0)) (by (with_reducible repeat (first | refine blk_drewN ?_ _ | refine blk_drew ?_ | refine blk_alloc ?_ _)); exact BK2.out) hb_); clear BK2; have BK2 := bk2_; clear bk2_; have bk2_ := Aside0.mk (blk_below (g := gb3) (o := .cells #[.int .i64 0, .int .i64 0] 51 (0, 0)) (by (with_reducible repeat (first | refine blk_drewN ?_ _ | refine blk_drew ?_ | refine blk_alloc ?_ _)); exact BK3.out) hb_); clear BK3; have BK3 := bk2_; clear bk2_; have bk2_ := Aside0.mk (blk_below (g := gb4) (o := .cells #[.int .u8 3, .string (⟨#[]⟩ : ByteArray), .int .u64 0, .int .i64 (at_ : Int), .int .i64 0] 31 (0, 0)) (by (with_reducible repeat (first | refine blk_drewN ?_ _ | refine blk_drew ?_ | refine blk_alloc ?_ _)); exact BK4.out) hb_); clear BK4; have BK4 := bk2_; clear bk2_; clear HB; have HB := tHB_; clear tHB_; (try clear hcz2_0); (try clear hcz2_1); (try clear hcz2_2); (try clear hcz2_3); (try clear hcz2_4); (try clear hcz3_0); (try clear hcz3_1); (try clear hcz4_0); (try clear hcz4_1); (try clear hcz4_2); (try clear hcz4_3); (try clear hcz4_4); have hcz4_0 := (blk_cell BK4.out 0).trans (show (#[.int .u8 3, .string (⟨#[]⟩ : ByteArray), .int .u64 0, .int .i64 (at_ : Int), .int .i64 0] : Array Value)[0]? = some (.int .u8 3) from rfl); have hcz4_1 := (blk_cell BK4.out 1).trans (show (#[.int .u8 3, .string (⟨#[]⟩ : ByteArray), .int .u64 0, .int .i64 (at_ : Int), .int .i64 0] : Array Value)[1]? = some (.string (⟨#[]⟩ : ByteArray)) from rfl); have hcz4_2 := (blk_cell BK4.out 2).trans (show (#[.int .u8 3, .string (⟨#[]⟩ : ByteArray), .int .u64 0, .int .i64 (at_ : Int), .int .i64 0] : Array Value)[2]? = some (.int .u64 0) from rfl); have hcz4_3 := (blk_cell BK4.out 3).trans (show (#[.int .u8 3, .string (⟨#[]⟩ : ByteArray), .int .u64 0, .int .i64 (at_ : Int), .int .i64 0] : Array Value)[3]? = some (.int .i64 (at_ : Int)) from rfl); have hcz4_4 := (blk_cell BK4.out 4).trans (show (#[.int .u8 3, .string (⟨#[]⟩ : ByteArray), .int .u64 0, .int .i64 (at_ : Int), .int .i64 0] : Array Value)[4]? = some (.int .i64 0) from rfl); (try clear hb_); (try clear hcz_0); (try clear hcz_1); have hcz_0 := cellS49_0 (blk_below HG.out HB.out); have hcz_1 := cellS49_1 (blk_below HG.out HB.out))
              | (go_at_call 65; (with_reducible refine (lex_escape.calls 12 (s.extract (i + 1) s.size) 0 0 32 _ HEF.out).mono ?_); rintro e wc ⟨rfl, hb_⟩; have ib2_ := Aside0.mk (isb_below IB.out hb_); have hbb2_ := Aside0.mk (below_step HBB.out hb_); clear IB HBB; have IB := ib2_; have HBB := hbb2_; clear ib2_ hbb2_; have tHB_ := Aside0.mk (below_step (by repeat (first | (with_reducible first | exact HB.out | apply below_alloc | apply pw_below_drewN | apply below_drew1 | apply below_drew) | exact HB.out)) hb_); have bk2_ := Aside0.mk (blk_below (g := gb2) (o := .cells #[.int .u8 0, .string (⟨#[]⟩ : ByteArray), .int .u64 0, .int .i64 0, .int .i64 0] 31 (0, 0)) (by (with_reducible repeat (first | refine blk_drewN ?_ _ | refine blk_drew ?_ | refine blk_alloc ?_ _)); exact BK2.out) hb_); clear BK2; have BK2 := bk2_; clear bk2_; have bk2_ := Aside0.mk (blk_below (g := gb3) (o := .cells #[.int .i64 0, .int .i64 0] 51 (0, 0)) (by (with_reducible repeat (first | refine blk_drewN ?_ _ | refine blk_drew ?_ | refine blk_alloc ?_ _)); exact BK3.out) hb_); clear BK3; have BK3 := bk2_; clear bk2_; have bk2_ := Aside0.mk (blk_below (g := gb4) (o := .cells #[.int .u8 3, .string (⟨#[]⟩ : ByteArray), .int .u64 0, .int .i64 (at_ : Int), .int .i64 0] 31 (0, 0)) (by (with_reducible repeat (first | refine blk_drewN ?_ _ | refine blk_drew ?_ | refine blk_alloc ?_ _)); exact BK4.out) hb_); clear BK4; have BK4 := bk2_; clear bk2_; clear HB; have HB := tHB_; clear tHB_; (try clear hcz2_0); (try clear hcz2_1); (try clear hcz2_2); (try clear hcz2_3); (try clear hcz2_4); (try clear hcz3_0); (try clear hcz3_1); (try clear hcz4_0); (try clear hcz4_1); (try clear hcz4_2); (try clear hcz4_3); (try clear hcz4_4); have hcz4_0 := (blk_cell BK4.out 0).trans (show (#[.int .u8 3, .string (⟨#[]⟩ : ByteArray), .int .u64 0, .int .i64 (at_ : Int), .int .i64 0] : Array Value)[0]? = some (.int .u8 3) from rfl); have hcz4_1 := (blk_cell BK4.out 1).trans (show (#[.int .u8 3, .string (⟨#[]⟩ : ByteArray), .int .u64 0, .int .i64 (at_ : Int), .int .i64 0] : Array Value)[1]? = some (.string (⟨#[]⟩ : ByteArray)) from rfl); have hcz4_2 := (blk_cell BK4.out 2).trans (show (#[.int .u8 3, .string (⟨#[]⟩ : ByteArray), .int .u64 0, .int .i64 (at_ : Int), .int .i64 0] : Array Value)[2]? = some (.int .u64 0) from rfl); have hcz4_3 := (blk_cell BK4.out 3).trans (show (#[.int .u8 3, .string (⟨#[]⟩ : ByteArray), .int .u64 0, .int .i64 (at_ : Int), .int .i64 0] : Array Value)[3]? = some (.int .i64 (at_ : Int)) from rfl); have hcz4_4 := (blk_cell BK4.out 4).trans (show (#[.int .u8 3, .string (⟨#[]⟩ : ByteArray), .int .u64 0, .int .i64 (at_ : Int), .int .i64 0] : Array Value)[4]? = some (.int .i64 0) from rfl); (try clear hb_); (try clear hcz_0); (try clear hcz_1); have hcz_0 := cellS49_0 (blk_below HG.out HB.out); have hcz_1 := cellS49_1 (blk_below HG.out HB.out); have hfz2_0 := blk_frozen BK2.out 0; have hfz2_1 := blk_frozen BK2.out 1; have hfz2_2 := blk_frozen BK2.out 2; have hfz2_3 := blk_frozen BK2.out 3; have hfz2_4 := blk_frozen BK2.out 4; have hfz3_0 := blk_frozen BK3.out 0; have hfz3_1 := blk_frozen BK3.out 1; have hcz2_0 := (blk_cell BK2.out 0).trans (show (#[.int .u8 0, .string (⟨#[]⟩ : ByteArray), .int .u64 0, .int .i64 0, .int .i64 0] : Array Value)[0]? = some (.int .u8 0) from rfl); have hcz2_1 := (blk_cell BK2.out 1).trans (show (#[.int .u8 0, .string (⟨#[]⟩ : ByteArray), .int .u64 0, .int .i64 0, .int .i64 0] : Array Value)[1]? = some (.string (⟨#[]⟩ : ByteArray)) from rfl); have hcz2_2 := (blk_cell BK2.out 2).trans (show (#[.int .u8 0, .string (⟨#[]⟩ : ByteArray), .int .u64 0, .int .i64 0, .int .i64 0] : Array Value)[2]? = some (.int .u64 0) from rfl); have hcz2_3 := (blk_cell BK2.out 3).trans (show (#[.int .u8 0, .string (⟨#[]⟩ : ByteArray), .int .u64 0, .int .i64 0, .int .i64 0] : Array Value)[3]? = some (.int .i64 0) from rfl); have hcz2_4 := (blk_cell BK2.out 4).trans (show (#[.int .u8 0, .string (⟨#[]⟩ : ByteArray), .int .u64 0, .int .i64 0, .int .i64 0] : Array Value)[4]? = some (.int .i64 0) from rfl); have hcz3_0 := (blk_cell BK3.out 0).trans (show (#[.int .i64 0, .int .i64 0] : Array Value)[0]? = some (.int .i64 0) from rfl); have hcz3_1 := (blk_cell BK3.out 1).trans (show (#[.int .i64 0, .int .i64 0] : Array Value)[1]? = some (.int .i64 0) from rfl)))
            refine bodyPost_ret (results_cc rfl _ _ gb2 gb3 31 51 _ _ (0, 0) (0, 0) _ _ rfl (far2 NE2_3 _ _ (put5 _ _ _ _ _ BK2.out)) Try.underlying31 rfl (by kernel_rfl) rfl (put2 _ _ (far5 NE2_3.symm _ _ _ _ _ BK3.out)) Try.underlying51 rfl (by kernel_rfl)) rfl ?_
            exact ⟨(by rw [HE.out, HC.out, tx_esc HOP.out, HES.out]; exact ⟨3, ⟨#[]⟩, 0, at_, 0, by rw [show at_ + (i - at_) = i by have := HAI.out; omega]; simp⟩), set2 _ _ (set5 _ _ _ _ _ HB.out GE2.out) GE3.out⟩
          | ok y m =>
            have HEF := Aside0.mk (show lex_escape.f 12 (s.extract (i + 1) s.size) = some ((y.toNat : Int), (m : Int), (0 : Int)) from hef)
            have HES := Aside0.mk hE
            have hml := esc_len hE
            rw [D_len] at hml
            have HML := Aside0.mk hml
            have bm : (m : Int) ≤ 1000000 := by have := HSZ.out; omega
            have w3 : IntKind.i64.wrap (1 + (m : Int)) = 1 + (m : Int) := by rw [i64_w, w64 (by omega) (by omega)]
            have w4 : IntKind.i64.wrap ((i : Int) + (1 + (m : Int))) = (i : Int) + (1 + (m : Int)) := by rw [i64_w, w64 (by omega) (by omega)]
            clear hef hE h34 hml
            go_wp2_with (first
              | (go_at_call 64; (with_reducible refine (lex_open.calls 4 (s.extract i s.size) _ _ HO.out).mono ?_); rintro e wc ⟨rfl, hb_⟩; have ib2_ := Aside0.mk (isb_below IB.out hb_); have hbb2_ := Aside0.mk (below_step HBB.out hb_); clear IB HBB; have IB := ib2_; have HBB := hbb2_; clear ib2_ hbb2_; have tHB_ := Aside0.mk (below_step (by repeat (first | (with_reducible first | exact HB.out | apply below_alloc | apply pw_below_drewN | apply below_drew1 | apply below_drew) | exact HB.out)) hb_); have bk2_ := Aside0.mk (blk_below (g := gb2) (o := .cells #[.int .u8 0, .string (⟨#[]⟩ : ByteArray), .int .u64 0, .int .i64 0, .int .i64 0] 31 (0, 0)) (by (with_reducible repeat (first | refine blk_drewN ?_ _ | refine blk_drew ?_ | refine blk_alloc ?_ _)); exact BK2.out) hb_); clear BK2; have BK2 := bk2_; clear bk2_; have bk2_ := Aside0.mk (blk_below (g := gb3) (o := .cells #[.int .i64 0, .int .i64 0] 51 (0, 0)) (by (with_reducible repeat (first | refine blk_drewN ?_ _ | refine blk_drew ?_ | refine blk_alloc ?_ _)); exact BK3.out) hb_); clear BK3; have BK3 := bk2_; clear bk2_; have bk2_ := Aside0.mk (blk_below (g := gb4) (o := .cells #[.int .u8 3, .string (⟨#[]⟩ : ByteArray), .int .u64 0, .int .i64 (at_ : Int), .int .i64 0] 31 (0, 0)) (by (with_reducible repeat (first | refine blk_drewN ?_ _ | refine blk_drew ?_ | refine blk_alloc ?_ _)); exact BK4.out) hb_); clear BK4; have BK4 := bk2_; clear bk2_; clear HB; have HB := tHB_; clear tHB_; (try clear hcz2_0); (try clear hcz2_1); (try clear hcz2_2); (try clear hcz2_3); (try clear hcz2_4); (try clear hcz3_0); (try clear hcz3_1); (try clear hcz4_0); (try clear hcz4_1); (try clear hcz4_2); (try clear hcz4_3); (try clear hcz4_4); have hcz4_0 := (blk_cell BK4.out 0).trans (show (#[.int .u8 3, .string (⟨#[]⟩ : ByteArray), .int .u64 0, .int .i64 (at_ : Int), .int .i64 0] : Array Value)[0]? = some (.int .u8 3) from rfl); have hcz4_1 := (blk_cell BK4.out 1).trans (show (#[.int .u8 3, .string (⟨#[]⟩ : ByteArray), .int .u64 0, .int .i64 (at_ : Int), .int .i64 0] : Array Value)[1]? = some (.string (⟨#[]⟩ : ByteArray)) from rfl); have hcz4_2 := (blk_cell BK4.out 2).trans (show (#[.int .u8 3, .string (⟨#[]⟩ : ByteArray), .int .u64 0, .int .i64 (at_ : Int), .int .i64 0] : Array Value)[2]? = some (.int .u64 0) from rfl); have hcz4_3 := (blk_cell BK4.out 3).trans (show (#[.int .u8 3, .string (⟨#[]⟩ : ByteArray), .int .u64 0, .int .i64 (at_ : Int), .int .i64 0] : Array Value)[3]? = some (.int .i64 (at_ : Int)) from rfl); have hcz4_4 := (blk_cell BK4.out 4).trans (show (#[.int .u8 3, .string (⟨#[]⟩ : ByteArray), .int .u64 0, .int .i64 (at_ : Int), .int .i64 0] : Array Value)[4]? = some (.int .i64 0) from rfl); (try clear hb_); (try clear hcz_0); (try clear hcz_1); have hcz_0 := cellS49_0 (blk_below HG.out HB.out); have hcz_1 := cellS49_1 (blk_below HG.out HB.out))
              | (go_at_call 65; (with_reducible refine (lex_escape.calls 12 (s.extract (i + 1) s.size) (y.toNat : Int) (m : Int) 0 _ HEF.out).mono ?_); rintro e wc ⟨rfl, hb_⟩; have ib2_ := Aside0.mk (isb_below IB.out hb_); have hbb2_ := Aside0.mk (below_step HBB.out hb_); clear IB HBB; have IB := ib2_; have HBB := hbb2_; clear ib2_ hbb2_; have tHB_ := Aside0.mk (below_step (by repeat (first | (with_reducible first | exact HB.out | apply below_alloc | apply pw_below_drewN | apply below_drew1 | apply below_drew) | exact HB.out)) hb_); have bk2_ := Aside0.mk (blk_below (g := gb2) (o := .cells #[.int .u8 0, .string (⟨#[]⟩ : ByteArray), .int .u64 0, .int .i64 0, .int .i64 0] 31 (0, 0)) (by (with_reducible repeat (first | refine blk_drewN ?_ _ | refine blk_drew ?_ | refine blk_alloc ?_ _)); exact BK2.out) hb_); clear BK2; have BK2 := bk2_; clear bk2_; have bk2_ := Aside0.mk (blk_below (g := gb3) (o := .cells #[.int .i64 0, .int .i64 0] 51 (0, 0)) (by (with_reducible repeat (first | refine blk_drewN ?_ _ | refine blk_drew ?_ | refine blk_alloc ?_ _)); exact BK3.out) hb_); clear BK3; have BK3 := bk2_; clear bk2_; have bk2_ := Aside0.mk (blk_below (g := gb4) (o := .cells #[.int .u8 3, .string (⟨#[]⟩ : ByteArray), .int .u64 0, .int .i64 (at_ : Int), .int .i64 0] 31 (0, 0)) (by (with_reducible repeat (first | refine blk_drewN ?_ _ | refine blk_drew ?_ | refine blk_alloc ?_ _)); exact BK4.out) hb_); clear BK4; have BK4 := bk2_; clear bk2_; clear HB; have HB := tHB_; clear tHB_; (try clear hcz2_0); (try clear hcz2_1); (try clear hcz2_2); (try clear hcz2_3); (try clear hcz2_4); (try clear hcz3_0); (try clear hcz3_1); (try clear hcz4_0); (try clear hcz4_1); (try clear hcz4_2); (try clear hcz4_3); (try clear hcz4_4); have hcz4_0 := (blk_cell BK4.out 0).trans (show (#[.int .u8 3, .string (⟨#[]⟩ : ByteArray), .int .u64 0, .int .i64 (at_ : Int), .int .i64 0] : Array Value)[0]? = some (.int .u8 3) from rfl); have hcz4_1 := (blk_cell BK4.out 1).trans (show (#[.int .u8 3, .string (⟨#[]⟩ : ByteArray), .int .u64 0, .int .i64 (at_ : Int), .int .i64 0] : Array Value)[1]? = some (.string (⟨#[]⟩ : ByteArray)) from rfl); have hcz4_2 := (blk_cell BK4.out 2).trans (show (#[.int .u8 3, .string (⟨#[]⟩ : ByteArray), .int .u64 0, .int .i64 (at_ : Int), .int .i64 0] : Array Value)[2]? = some (.int .u64 0) from rfl); have hcz4_3 := (blk_cell BK4.out 3).trans (show (#[.int .u8 3, .string (⟨#[]⟩ : ByteArray), .int .u64 0, .int .i64 (at_ : Int), .int .i64 0] : Array Value)[3]? = some (.int .i64 (at_ : Int)) from rfl); have hcz4_4 := (blk_cell BK4.out 4).trans (show (#[.int .u8 3, .string (⟨#[]⟩ : ByteArray), .int .u64 0, .int .i64 (at_ : Int), .int .i64 0] : Array Value)[4]? = some (.int .i64 0) from rfl); (try clear hb_); (try clear hcz_0); (try clear hcz_1); have hcz_0 := cellS49_0 (blk_below HG.out HB.out); have hcz_1 := cellS49_1 (blk_below HG.out HB.out))
              | (go_at_call 31; (with_reducible refine (writeByte_c wB.heap.size gb5 (Lib.byteCells acc) (y.toNat : Int) _ IB.out (by rw [Lib.byteCells_length]; have := HAL.out; have := HI.out; have := HSZ.out; omega) HBB.out.size).mono ?_); rintro e wc ⟨rfl, hib_, hb_⟩; have hbb2_ := Aside0.mk (Below.trans HBB.out hb_); have ib2_ := Aside0.mk (show Lib.IsBuilder 54 5 wB.heap.size gb5 (Lib.byteCells (acc ++ [y])) wc from .inr (by have z := hib_; rw [show Lib.byteCells acc ++ [Value.int .u8 (y.toNat : Int)] = Lib.byteCells (acc ++ [y]) by simp [Lib.byteCells]] at z; exact z)); clear IB HBB HB BK2 BK3 BK4; have HBB := hbb2_; have IB := ib2_; clear hbb2_ ib2_ hb_ hib_; (try clear hcz_0 hcz_1); (try clear hcz4_0); (try clear hcz4_1); (try clear hcz4_2); (try clear hcz4_3); (try clear hcz4_4)))
            go_roundg (s.size + 1 - (i + 1 + m))
            case measure => have := HQ.out; have := HML.out; have := HLI.out; omega
            case rel => exact ⟨i + 1 + m, acc ++ [y], ⟨by have := HML.out; have := HLI.out; omega⟩, ⟨by have := HML.out; have := HLI.out; omega⟩, ⟨by have := HAI.out; omega⟩, by rw [show (i : Int) + (1 + (m : Int)) = ((i + 1 + m : Nat) : Int) by omega], ⟨by rw [List.length_append]; have := HAL.out; have := HML.out; simp; omega⟩, ⟨by rw [HE.out, HC.out, tx_esc HOP.out, HES.out]; show tx ((D s (i + 1)).drop m) _ _ = _; rw [D_drop, show i - at_ + 1 + m = i + 1 + m - at_ by have := HAI.out; omega]⟩, HBB, IB⟩
        · have HN34 := Aside0.mk h34
          have HN92 := Aside0.mk h92
          have w2 : IntKind.i64.wrap ((i : Int) + 1) = (i : Int) + 1 := by rw [i64_w, w64 (by omega) (by omega)]
          have n34 : decide ((c.toNat : Int) = 34) = false := decide_eq_false (fun h => h34 (UInt8.toNat_inj.1 (by have : ((34 : UInt8)).toNat = 34 := rfl; omega)))
          have n92 : decide ((c.toNat : Int) = 92) = false := decide_eq_false (fun h => h92 (UInt8.toNat_inj.1 (by have : ((92 : UInt8)).toNat = 92 := rfl; omega)))
          have n34' : ((c.toNat : Int) == 34) = false := n34
          have n92' : ((c.toNat : Int) == 92) = false := n92
          clear h34 h92
          go_wp2_with (first
            | (go_at_call 64; (with_reducible refine (lex_open.calls 4 (s.extract i s.size) _ _ HO.out).mono ?_); rintro e wc ⟨rfl, hb_⟩; have ib2_ := Aside0.mk (isb_below IB.out hb_); have hbb2_ := Aside0.mk (below_step HBB.out hb_); clear IB HBB; have IB := ib2_; have HBB := hbb2_; clear ib2_ hbb2_; have tHB_ := Aside0.mk (below_step (by repeat (first | (with_reducible first | exact HB.out | apply below_alloc | apply pw_below_drewN | apply below_drew1 | apply below_drew) | exact HB.out)) hb_); have bk2_ := Aside0.mk (blk_below (g := gb2) (o := .cells #[.int .u8 0, .string (⟨#[]⟩ : ByteArray), .int .u64 0, .int .i64 0, .int .i64 0] 31 (0, 0)) (by (with_reducible repeat (first | refine blk_drewN ?_ _ | refine blk_drew ?_ | refine blk_alloc ?_ _)); exact BK2.out) hb_); clear BK2; have BK2 := bk2_; clear bk2_; have bk2_ := Aside0.mk (blk_below (g := gb3) (o := .cells #[.int .i64 0, .int .i64 0] 51 (0, 0)) (by (with_reducible repeat (first | refine blk_drewN ?_ _ | refine blk_drew ?_ | refine blk_alloc ?_ _)); exact BK3.out) hb_); clear BK3; have BK3 := bk2_; clear bk2_; have bk2_ := Aside0.mk (blk_below (g := gb4) (o := .cells #[.int .u8 3, .string (⟨#[]⟩ : ByteArray), .int .u64 0, .int .i64 (at_ : Int), .int .i64 0] 31 (0, 0)) (by (with_reducible repeat (first | refine blk_drewN ?_ _ | refine blk_drew ?_ | refine blk_alloc ?_ _)); exact BK4.out) hb_); clear BK4; have BK4 := bk2_; clear bk2_; clear HB; have HB := tHB_; clear tHB_; (try clear hcz2_0); (try clear hcz2_1); (try clear hcz2_2); (try clear hcz2_3); (try clear hcz2_4); (try clear hcz3_0); (try clear hcz3_1); (try clear hcz4_0); (try clear hcz4_1); (try clear hcz4_2); (try clear hcz4_3); (try clear hcz4_4); have hcz4_0 := (blk_cell BK4.out 0).trans (show (#[.int .u8 3, .string (⟨#[]⟩ : ByteArray), .int .u64 0, .int .i64 (at_ : Int), .int .i64 0] : Array Value)[0]? = some (.int .u8 3) from rfl); have hcz4_1 := (blk_cell BK4.out 1).trans (show (#[.int .u8 3, .string (⟨#[]⟩ : ByteArray), .int .u64 0, .int .i64 (at_ : Int), .int .i64 0] : Array Value)[1]? = some (.string (⟨#[]⟩ : ByteArray)) from rfl); have hcz4_2 := (blk_cell BK4.out 2).trans (show (#[.int .u8 3, .string (⟨#[]⟩ : ByteArray), .int .u64 0, .int .i64 (at_ : Int), .int .i64 0] : Array Value)[2]? = some (.int .u64 0) from rfl); have hcz4_3 := (blk_cell BK4.out 3).trans (show (#[.int .u8 3, .string (⟨#[]⟩ : ByteArray), .int .u64 0, .int .i64 (at_ : Int), .int .i64 0] : Array Value)[3]? = some (.int .i64 (at_ : Int)) from rfl); have hcz4_4 := (blk_cell BK4.out 4).trans (show (#[.int .u8 3, .string (⟨#[]⟩ : ByteArray), .int .u64 0, .int .i64 (at_ : Int), .int .i64 0] : Array Value)[4]? = some (.int .i64 0) from rfl); (try clear hb_); (try clear hcz_0); (try clear hcz_1); have hcz_0 := cellS49_0 (blk_below HG.out HB.out); have hcz_1 := cellS49_1 (blk_below HG.out HB.out))
            | (go_at_call 31; (with_reducible refine (writeByte_c wB.heap.size gb5 (Lib.byteCells acc) (c.toNat : Int) _ IB.out (by rw [Lib.byteCells_length]; have := HAL.out; have := HI.out; have := HSZ.out; omega) HBB.out.size).mono ?_); rintro e wc ⟨rfl, hib_, hb_⟩; have hbb2_ := Aside0.mk (Below.trans HBB.out hb_); have ib2_ := Aside0.mk (show Lib.IsBuilder 54 5 wB.heap.size gb5 (Lib.byteCells (acc ++ [c])) wc from .inr (by have z := hib_; rw [show Lib.byteCells acc ++ [Value.int .u8 (c.toNat : Int)] = Lib.byteCells (acc ++ [c]) by simp [Lib.byteCells]] at z; exact z)); clear IB HBB HB BK2 BK3 BK4; have HBB := hbb2_; have IB := ib2_; clear hbb2_ ib2_ hb_ hib_; (try clear hcz_0 hcz_1); (try clear hcz4_0); (try clear hcz4_1); (try clear hcz4_2); (try clear hcz4_3); (try clear hcz4_4)))
          go_roundg (s.size + 1 - (i + 1))
          case measure => have := HQ.out; have := HLI.out; omega
          case rel => exact ⟨i + 1, acc ++ [c], ⟨by have := HLI.out; omega⟩, HLI, ⟨by have := HAI.out; omega⟩, by simp, ⟨by rw [List.length_append]; have := HAL.out; simp; omega⟩, ⟨by rw [HE.out, HC.out, tx_other HOP.out HN34.out HN92.out]; rw [show i - at_ + 1 = i + 1 - at_ by have := HAI.out; omega]⟩, HBB, IB⟩

end Go.Proofs.Ytmmilinbpimfaaa.WalkText
