/- Merging and comparing of frames, in plain Lean: order and grouping. No conditions. -/
import Derived.Test.YtnjmheadmcjgcaaPlain
namespace Go.Proofs.Ytnjmheadmcjgcaa.Plain
open Go.Proofs.Ytnjmheadmcjgcaa.WalkMerge (mer und)
open Go.Proofs.Ytnjmheadmcjgcaa.WalkHeight (hgt)
open Go.Proofs.Ytnjmheadmcjgcaa.WalkBase (bel sam mrg)
theorem mrg_comm (a a2 b b2 : List Int) : mrg b b2 a a2 = mrg a a2 b b2 := by
  unfold mrg
  by_cases h : b.length = a.length ∧ b2.length = a2.length
  · rw [if_pos h, if_pos ⟨h.1.symm, h.2.symm⟩]
    have e1 := zm_comm b a
    have e2 := zm_comm b2 a2
    unfold zm at e1 e2
    rw [e1, e2]
  · rw [if_neg h, if_neg fun k => h ⟨k.1.symm, k.2.symm⟩]
theorem mrg_len (a a2 b b2 : List Int) : (mrg a a2 b b2).1.length ≤ a.length ∧ (mrg a a2 b b2).2.1.length ≤ a2.length := by
  unfold mrg
  split
  · simp only [List.length_zipWith]
    omega
  · simp
theorem mrg_yes {a a2 b b2 m m2 : List Int} (h : mrg a a2 b b2 = (m, m2, true)) : b.length = a.length ∧ b2.length = a2.length ∧ m = zm a b ∧ m2 = zm a2 b2 := by
  unfold mrg at h
  split at h
  · rename_i hl
    simp only [Prod.mk.injEq] at h
    exact ⟨hl.1, hl.2, h.1.symm, h.2.1.symm⟩
  · simp at h
theorem mrg_assoc {a a2 b b2 c c2 m m2 u u2 : List Int} (h : mrg a a2 b b2 = (m, m2, true)) (k : mrg b b2 c c2 = (u, u2, true)) : mrg a a2 u u2 = mrg m m2 c c2 := by
  obtain ⟨h1, h2, rfl, rfl⟩ := mrg_yes h
  obtain ⟨k1, k2, rfl, rfl⟩ := mrg_yes k
  unfold mrg
  rw [if_pos (by simp [zm, h1, h2, k1, k2]), if_pos (by simp [zm, h1, h2, k1, k2])]
  have e1 := zm_assoc a b c
  have e2 := zm_assoc a2 b2 c2
  unfold zm at e1 e2 ⊢
  rw [e1, e2]
theorem mrg_self (a a2 : List Int) : mrg a a2 a a2 = (a, a2, true) := by
  unfold mrg
  rw [if_pos ⟨rfl, rfl⟩]
  have e1 := zm_self a
  have e2 := zm_self a2
  unfold zm at e1 e2
  rw [e1, e2]
theorem sam_self (a a2 : List Int) : sam a a2 a a2 = true := (sam_iff _ _ _ _).2 ⟨rfl, rfl⟩
theorem bel_self (a a2 : List Int) : bel a a2 a a2 = true := (bel_iff _ _ _ _).2 ⟨un_refl _, un_refl _⟩
theorem sam_bel (a a2 b b2 : List Int) : sam a a2 b b2 = (bel a a2 b b2 && bel b b2 a a2) := by
  rw [Bool.eq_iff_iff, Bool.and_eq_true, sam_iff, bel_iff, bel_iff]
  constructor
  · rintro ⟨rfl, rfl⟩
    exact ⟨⟨un_refl _, un_refl _⟩, un_refl _, un_refl _⟩
  · rintro ⟨h, k⟩
    exact ⟨un_anti h.1 k.1, un_anti h.2 k.2⟩
theorem bel_trans {a a2 b b2 c c2 : List Int} (h : bel a a2 b b2 = true) (k : bel b b2 c c2 = true) : bel a a2 c c2 = true :=
  (bel_iff _ _ _ _).2 ⟨un_trans ((bel_iff _ _ _ _).1 h).1 ((bel_iff _ _ _ _).1 k).1, un_trans ((bel_iff _ _ _ _).1 h).2 ((bel_iff _ _ _ _).1 k).2⟩
end Go.Proofs.Ytnjmheadmcjgcaa.Plain
