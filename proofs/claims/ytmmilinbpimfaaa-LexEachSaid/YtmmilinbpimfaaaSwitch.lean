/- A region that draws its order: what is held behind each operation may be widened by what has been learned, where nothing is left out (ds is empty); and a region begun with its own world as what all else is held against. Plain theorems; no conditions beyond their own. -/
import Derived.Test.YtmmilinbpimfaaaWLast
import Derived.Test.YtmmilinbpimfaaaWWords
namespace Go.Proofs.Ytmmilinbpimfaaa.Switch
open Go Go.RowKit Go.Proofs.YtmmilinbpimfaaaW.PrintLast Go.Proofs.YtmmilinbpimfaaaW.PrintWords
variable {P : Program} {ops : Array Oper} {Q : Exit → Act → World → Prop} {md : Region.Mode} {S S2 : World → Prop}
theorem switch_ (h2 : ∀ w, S2 w → S w) : ∀ {fuel : Nat} {l : Array Bool} {a : Act} {w : World}, S2 w → wpAnyLast P md ops Q S2 [] fuel l a w → wpAnyLast P md ops Q S [] fuel l a w
  | 0, _, _, _, _, h => h
  | fuel + 1, l, a, w, hS, h => ⟨h.1, fun i hi => wpOp_mono (fun a' w' hh => ⟨fun _ _ => h2 _ (hh.1 (by simp) hS), switch_ h2 (hh.1 (by simp) hS) hh.2⟩) (h.2 i hi)⟩
theorem startB_ {id n : Nat} {a : Act} {w : World} (l : Array Bool) (hm : P.follows .mixedOrders = true) (hn : ops.size = n) (hl : Array.replicate n false = l)
    (h : ∀ W, Below w.heap.size w W → wpAnyLast P .any ops Q (fun w' => Below W.heap.size W w') [] n l a W) : (Code.region id ops true).wp P Q a w :=
  start_ (S := fun w' => Below w.drew.heap.size w.drew w') l hm hn hl (Below.refl _ _) (fun _ => h _ (below_drew (Below.refl _ _)))
/-- A call in such a region has answered: what comes is held against the world behind it. -/
theorem behind_ {fuel : Nat} {l : Array Bool} {a : Act} {W W1 : World} (h : Below W.heap.size W W1) (k : wpAnyLast P md ops Q (fun w' => Below W1.heap.size W1 w') [] fuel l a W1) : wpAnyLast P md ops Q (fun w' => Below W.heap.size W w') [] fuel l a W1 :=
  switch_ (fun _ hw => below_step h hw) (Below.refl _ _) k
end Go.Proofs.Ytmmilinbpimfaaa.Switch
