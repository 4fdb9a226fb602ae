/- Merging and comparing of lists, in plain Lean: what the lattice's laws ask. No conditions. -/
import Derived.Test.YtnjmheadmcjgcaaWalkBase
import Derived.Test.YtnjmheadmcjgcaaWalkHeight
namespace Go.Proofs.Ytnjmheadmcjgcaa.Plain
open Go.Proofs.Ytnjmheadmcjgcaa.WalkMerge (mer und)
open Go.Proofs.Ytnjmheadmcjgcaa.WalkHeight (hgt)
open Go.Proofs.Ytnjmheadmcjgcaa.WalkBase (bel sam mrg)
def Un : List Int → List Int → Prop
  | [], [] => True
  | x :: a, y :: b => (y = 0 ∨ y = x) ∧ Un a b
  | _, _ => False
theorem un_len : ∀ {a b : List Int}, Un a b → b.length = a.length
  | [], [], _ => rfl
  | _ :: _, _ :: _, h => by simp [un_len h.2]
theorem un_zip : ∀ {a b : List Int}, b.length = a.length → ((List.zipWith und a b).contains false = false ↔ Un a b)
  | [], [], _ => by simp [Un]
  | x :: a, y :: b, h => by
    have ih := un_zip (a := a) (b := b) (by simpa using h)
    simp only [Un, List.zipWith_cons_cons, List.contains_cons, Bool.or_eq_false_iff, ← ih]
    have : (false == und x y) = false ↔ (y = 0 ∨ y = x) := by unfold und; cases h1 : (y == 0) <;> cases h2 : (y == x) <;> simp_all
    rw [this]
  | [], _ :: _, h => by simp at h
  | _ :: _, [], h => by simp at h
theorem bel_iff (a a2 b b2 : List Int) : bel a a2 b b2 = true ↔ Un a b ∧ Un a2 b2 := by
  unfold bel
  simp only [Bool.and_eq_true, decide_eq_true_iff, Bool.not_eq_true', ← Bool.not_eq_true]
  constructor
  · rintro ⟨h1, h2, h3, h4⟩
    exact ⟨(un_zip h1).1 (by simpa using h3), (un_zip h2).1 (by simpa using h4)⟩
  · rintro ⟨h1, h2⟩
    exact ⟨un_len h1, un_len h2, by have := (un_zip (un_len h1)).2 h1; simpa using this, by have := (un_zip (un_len h2)).2 h2; simpa using this⟩
theorem bel_no {a a2 b b2 : List Int} (h : ¬ (Un a b ∧ Un a2 b2)) : bel a a2 b b2 = false := by
  cases e : bel a a2 b b2 with
  | false => rfl
  | true => exact absurd ((bel_iff _ _ _ _).1 e) h
theorem un_refl : ∀ a : List Int, Un a a
  | [] => trivial
  | _ :: a => ⟨Or.inr rfl, un_refl a⟩
theorem un_trans : ∀ {a b c : List Int}, Un a b → Un b c → Un a c
  | [], [], [], _, _ => trivial
  | _ :: _, _ :: _, _ :: _, h, k => ⟨by rcases k.1 with e | e; exact Or.inl e; rw [e]; exact h.1, un_trans h.2 k.2⟩
  | [], _ :: _, _, h, _ => h.elim
  | _ :: _, [], _, h, _ => h.elim
  | [], [], _ :: _, _, k => k.elim
  | _ :: _, _ :: _, [], _, k => k.elim
theorem un_anti : ∀ {a b : List Int}, Un a b → Un b a → a = b
  | [], [], _, _ => rfl
  | [], _ :: _, h, _ => h.elim
  | _ :: _, [], h, _ => h.elim
  | x :: a, y :: b, h, k => by
    have := un_anti h.2 k.2
    subst this
    have : x = y := by rcases h.1 with e | e <;> rcases k.1 with f | f <;> omega
    rw [this]
abbrev zm (a b : List Int) : List Int := List.zipWith mer a b
theorem zm_left : ∀ {a b : List Int}, b.length = a.length → Un a (zm a b)
  | [], [], _ => trivial
  | x :: a, y :: b, h => ⟨by show mer x y = 0 ∨ mer x y = x; unfold mer; split <;> simp, zm_left (by simpa using h)⟩
  | [], _ :: _, h => by simp at h
  | _ :: _, [], h => by simp at h
theorem zm_right : ∀ {a b : List Int}, b.length = a.length → Un b (zm a b)
  | [], [], _ => trivial
  | x :: a, y :: b, h => ⟨by show mer x y = 0 ∨ mer x y = y; unfold mer; split <;> simp_all, zm_right (by simpa using h)⟩
  | [], _ :: _, h => by simp at h
  | _ :: _, [], h => by simp at h
theorem zm_least : ∀ {a b c : List Int}, Un a c → Un b c → Un (zm a b) c
  | [], [], [], _, _ => trivial
  | [], _, _ :: _, h, _ => h.elim
  | _ :: _, _, [], h, _ => h.elim
  | _, [], _ :: _, _, k => k.elim
  | _, _ :: _, [], _, k => k.elim
  | x :: a, y :: b, z :: c, h, k => ⟨by
      show z = 0 ∨ z = mer x y
      unfold mer
      have h1 := h.1
      have k1 := k.1
      split <;> omega, zm_least h.2 k.2⟩
theorem zm_same : ∀ {a b : List Int}, b.length = a.length → (zm a b = a ↔ Un b a)
  | [], [], _ => by simp [Un]
  | x :: a, y :: b, h => by
    have ih := zm_same (a := a) (b := b) (by simpa using h)
    show mer x y :: zm a b = x :: a ↔ (x = 0 ∨ x = y) ∧ Un b a
    rw [List.cons.injEq, ih]
    have : mer x y = x ↔ (x = 0 ∨ x = y) := by unfold mer; split <;> omega
    rw [this]
  | [], _ :: _, h => by simp at h
  | _ :: _, [], h => by simp at h
theorem hgt_cons (x : Int) (a : List Int) : hgt (x :: a) = hgt a + if x = 0 then 0 else 1 := by
  unfold hgt
  rw [List.countP_cons]
  by_cases h : x = 0 <;> simp [h]
theorem hgt_mono : ∀ {a b : List Int}, Un a b → hgt b ≤ hgt a ∧ (b ≠ a → hgt b < hgt a)
  | [], [], _ => by simp
  | [], _ :: _, h => h.elim
  | _ :: _, [], h => h.elim
  | x :: a, y :: b, h => by
    have ih := hgt_mono h.2
    rw [hgt_cons, hgt_cons]
    have h1 := h.1
    by_cases e : b = a
    · subst e
      refine ⟨by split <;> split <;> omega, fun hne => ?_⟩
      have : y ≠ x := fun e => hne (by rw [e])
      split <;> split <;> omega
    · have := ih.2 e
      exact ⟨by split <;> split <;> omega, fun _ => by split <;> split <;> omega⟩
theorem zm_self : ∀ a : List Int, zm a a = a
  | [] => rfl
  | x :: a => by show mer x x :: zm a a = _; rw [zm_self a]; simp [mer]
theorem zm_comm : ∀ a b : List Int, zm a b = zm b a
  | [], b => by cases b <;> rfl
  | _ :: _, [] => rfl
  | x :: a, y :: b => by
    show mer x y :: zm a b = mer y x :: zm b a
    rw [zm_comm a b]
    congr 1
    unfold mer
    split <;> split <;> omega
theorem zm_assoc : ∀ a b c : List Int, zm (zm a b) c = zm a (zm b c)
  | [], b, c => by simp [zm]
  | _ :: _, [], c => by simp [zm]
  | _ :: _, _ :: _, [] => by simp [zm]
  | x :: a, y :: b, z :: c => by
    show mer (mer x y) z :: zm (zm a b) c = mer x (mer y z) :: zm a (zm b c)
    rw [zm_assoc a b c]
    congr 1
    unfold mer
    repeat' split
    all_goals omega
theorem sam_iff (a a2 b b2 : List Int) : sam a a2 b b2 = true ↔ a = b ∧ a2 = b2 := by
  unfold sam
  simp
end Go.Proofs.Ytnjmheadmcjgcaa.Plain
