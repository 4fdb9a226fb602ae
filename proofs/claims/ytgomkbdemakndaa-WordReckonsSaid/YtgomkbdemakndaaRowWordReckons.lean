/- WordReckons: for any instruction, width and numbers the law returns true; the row. Under no conditions beyond the statement's own. -/
import Derived.Test.YtgomkbdemakndaaRows
import Derived.Test.YtgomkbdemakndaaPureWordReckons
import Derived.WalkKit
import Derived.ProofKit
import Derived.OpenShut
import Derived.ShutString
import Derived.ChangeOld
import Derived.ChangeSame
import Derived.Below
import Derived.SizedLaws
import Derived.Lib.SmallJoins
namespace Go.Proofs.Ytgomkbdemakndaa.wordReckons
open Go.ChangeShapes Go.WideShapes Go.ChangeAt Go.RowKit Go.Joins
open Go.ChangeMaps (open_string shut_string)
set_option linter.unusedVariables false
theorem own : ownKnob Try.prog.godebug = none := by kernel_rfl
theorem cells37 : Try.prog.cellsOf 37 = 4 := by kernel_rfl
set_option maxRecDepth 100000 in
theorem lifted (os : Os) (started : os.Started) (H : Type) (enc : TypeId × Value → H) :
    ReturnsInHanded {} Try.checked os 9 .any (Rows.wordReckonsSpec.pre6 enc Try.prog Try.f9 Rows.wordReckonsRow.domain false) (Rows.wordReckonsSpec.post enc Try.prog Try.f9 false true false false) := by
  refine returnsInHanded_of_change_sized (C := Try.checked) own started (by kernel_rfl) Try.func9
    (ChangeSpec.witness6 (enc := enc) (C := Try.checked) false ⟨#[], #[.agg #[.int .u8 0, .int .u8 0, .int .i64 0, .int .i64 0]], []⟩ 8 (by kernel_rfl) (by kernel_rfl) (by kernel_rfl) (by kernel_rfl)) ?_
  intro W base args ds gs before hval0 hW hcnd hsz0 _
  have hval : ∀ (j : Nat) t v, Try.f9.params[j]? = some t → args[j]? = some v → Value.okWide Try.prog W .any base t v := hval0
  have hW' := hW
  obtain ⟨p, q, hA0, hV, rfl, hfz, hnd⟩ := hW
  have hA : DataW.TrodAll enc Try.prog W 0 (fun _ => true) true Try.f9.params.toList args.toList ds p := hA0
  rw [Try.params9] at hA hval
  obtain ⟨v0, vs0, d0, ds0, p0, q0, hargs, rfl, rfl, h0, r0⟩ := trodAll_cons hA
  obtain ⟨rfl, rfl, rfl⟩ := trodAll_nil r0
  obtain rfl : args = #[v0] := by cases args; simp_all
  obtain ⟨rfl, rfl⟩ := trodVars_none hV
  obtain ⟨c0, c1, c2, c3, y0, y1, y2, y3, m, rfl, rfl, rfl, hy0, hy1, hy2, hy3⟩ := open_agg4 Try.underlying37 (by kernel_rfl) cells37 (hval 0 37 v0 rfl rfl) h0
  obtain ⟨a0, e0, rfl, w0⟩ := DataW.trod_int Try.underlying5 hy0
  obtain ⟨a1, e1, rfl, w1⟩ := DataW.trod_int Try.underlying5 hy1
  obtain ⟨a2, e2, rfl, w2⟩ := DataW.trod_int Try.underlying2 hy2
  obtain ⟨a3, e3, rfl, w3⟩ := DataW.trod_int Try.underlying2 hy3
  simp at e0 e1 e2 e3
  subst e0 e1 e2 e3
  clear hA0 hval0 hsz0
  have structReads : ∀ (W' : World) (sp : Nat → Bool), DataW.Trod enc Try.prog W' 0 sp true 37 (.agg #[.int .u8 a0, .int .u8 a1, .int .i64 a2, .int .i64 a3]) (.agg [.lit (.int .u8 a0), .lit (.int .u8 a1), .lit (.int .i64 a2), .lit (.int .i64 a3)]) [] := fun W' sp =>
    shut_agg4 (y0 := (.lit (.int .u8 a0), [])) (y1 := (.lit (.int .u8 a1), [])) (y2 := (.lit (.int .i64 a2), [])) (y3 := (.lit (.int .i64 a3), [])) Try.underlying37 (by kernel_rfl) cells37
      ⟨1, by simp [DataW.trod, Try.underlying5, w0]⟩ ⟨1, by simp [DataW.trod, Try.underlying5, w1]⟩ ⟨1, by simp [DataW.trod, Try.underlying2, w2]⟩ ⟨1, by simp [DataW.trod, Try.underlying2, w3]⟩
  refine (Pure.WordReckonss.walk a0 a1 a2 a3 W (Plain.ok_of (Plain.wf64 w2)) (Plain.ok_of (Plain.wf64 w3))).mono fun e W' ⟨he, bel⟩ => ?_
  subst he
  exact ⟨_, rfl, _, _, _, [], _, [], hW', trodAll_mk1 (shut_bool Try.underlying4 _), (trodAll_cons_mk (structReads _ _) trodAll_mk0), rfl, bel.frame _, fun h => by cases h⟩
theorem over : Rows.wordReckonsRow.holds Try.pinned (OpenSpec.ofChange Rows.wordReckonsSpec) :=
  OpenClaim.holds_of_wide 9 Try.f9 rfl rfl rfl rfl rfl rfl rfl ⟨rfl, rfl, rfl, rfl, rfl⟩ rfl rfl rfl rfl rfl (by kernel_rfl) Try.func9 (by kernel_rfl)
    (of_decide_eq_true (by kernel_rfl)) (by unfold Func.isWrapper; first | (rw [if_pos (by decide +kernel)]; kernel_rfl) | (rw [if_neg (by decide +kernel)]; exact ⟨rfl, rfl⟩))
    (fun os started H enc _ => lifted os started H enc)
theorem proved : Rows.WordReckonsSaid := over
#print axioms proved
end Go.Proofs.Ytgomkbdemakndaa.wordReckons
namespace Go.Proofs.Ytgomkbdemakndaa
/-- The row, under a short name, for the claim. -/
theorem wordReckons_holds : Rows.WordReckonsSaid := wordReckons.proved
end Go.Proofs.Ytgomkbdemakndaa
