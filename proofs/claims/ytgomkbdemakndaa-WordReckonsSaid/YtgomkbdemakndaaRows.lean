/-
  No cell of these rows narrows 'for every input' (looked for: loops, veiled, ifaces, maps, wideKeys, modest, calm, conditions, laid).
  DERIVED. THE GIVEN ROWS OF THIS SEAT. 8 by the template 'for every input the law returns true; each argument reads behind the call as it read before'; 0 by the template 'total and deterministic' (their statements: YtgomkbdemakndaaTotals.lean).
  GIVEN WITH THE SEED: the statements are not yours to turn. If you find one false, say at which input.
  Laid BY PROGRAM, IN A SANDBOX (cutbox-rows.mjs): the forced cells as the released guide's own fill.sh prints them over the translation 5c0845e0cf995621… (all of the seat's roots in one cut). By AI agents, Wed Nov 11 2026. No macro, syntax, notation, axiom, sorry.
-/
import Derived.Test.YtgomkbdemakndaaChecked
import GoSem.Claim
import GoSem.ClaimJoined
import GoSem.ClaimMapViews
import Derived.JoinedTies
import Derived.KernelRfl
namespace Go.Proofs.Ytgomkbdemakndaa
/- THE CELL 'sum', in the pinned program and in every row, IS THE sha256 OF THE DUMP (.gsa) THAT YtgomkbdemakndaaProg.lean LOADS. Nothing in Lean hashes anything: it is a label: what it is worth is what the hold of that sum in a sandbox is worth. -/
noncomputable def Try.pinned : Pinned := { name := "ytgomkbdemakndaa", sum := "5c0845e0cf995621e31e2972c9944d7e2b5147365a7ce01f9684085b7243edfb", checked := Try.checked }
namespace Rows
def none {H : Type} : Left H := { results := [], args := [] }

/-- 'trammellaw02.WordWraps': WHATEVER THE INPUT: true; the input reads as it did. -/
def wordWrapsSpec : ChangeSpec := { name := "wordWraps", fn := fun _ => fun
  | [d1, d2] => { results := [.lit (.bool true)], args := [d1, d2] }
  | _ => none }
def wordWrapsRow : OpenClaim := { program := "ytgomkbdemakndaa", sum := "5c0845e0cf995621e31e2972c9944d7e2b5147365a7ce01f9684085b7243edfb", func := "trammel/trammellaw02.WordWraps", spec := "wordWraps", apart := false }
def WordWrapsSaid : Prop := wordWrapsRow.holds Try.pinned (OpenSpec.ofChange wordWrapsSpec)

/-- ITS FALSE NEIGHBOUR: 'it returns false'. Refute it at one input. -/
def wordWrapsWrong : ChangeSpec := { name := "wordWraps", fn := fun _ => fun
  | [d1, d2] => { results := [.lit (.bool false)], args := [d1, d2] }
  | _ => none }
def WordWrapsWrongFalsely : Prop := wordWrapsRow.holds Try.pinned (OpenSpec.ofChange wordWrapsWrong)

/-- 'trammellaw02.WordParts': WHATEVER THE INPUT: true; the input reads as it did. -/
def wordPartsSpec : ChangeSpec := { name := "wordParts", fn := fun _ => fun
  | [d1, d2, d3] => { results := [.lit (.bool true)], args := [d1, d2, d3] }
  | _ => none }
def wordPartsRow : OpenClaim := { program := "ytgomkbdemakndaa", sum := "5c0845e0cf995621e31e2972c9944d7e2b5147365a7ce01f9684085b7243edfb", func := "trammel/trammellaw02.WordParts", spec := "wordParts", apart := false }
def WordPartsSaid : Prop := wordPartsRow.holds Try.pinned (OpenSpec.ofChange wordPartsSpec)

/-- ITS FALSE NEIGHBOUR: 'it returns false'. Refute it at one input. -/
def wordPartsWrong : ChangeSpec := { name := "wordParts", fn := fun _ => fun
  | [d1, d2, d3] => { results := [.lit (.bool false)], args := [d1, d2, d3] }
  | _ => none }
def WordPartsWrongFalsely : Prop := wordPartsRow.holds Try.pinned (OpenSpec.ofChange wordPartsWrong)

/-- 'trammellaw02.WordMoves': WHATEVER THE INPUT: true; the input reads as it did. -/
def wordMovesSpec : ChangeSpec := { name := "wordMoves", fn := fun _ => fun
  | [d1, d2, d3] => { results := [.lit (.bool true)], args := [d1, d2, d3] }
  | _ => none }
def wordMovesRow : OpenClaim := { program := "ytgomkbdemakndaa", sum := "5c0845e0cf995621e31e2972c9944d7e2b5147365a7ce01f9684085b7243edfb", func := "trammel/trammellaw02.WordMoves", spec := "wordMoves", apart := false }
def WordMovesSaid : Prop := wordMovesRow.holds Try.pinned (OpenSpec.ofChange wordMovesSpec)

/-- ITS FALSE NEIGHBOUR: 'it returns false'. Refute it at one input. -/
def wordMovesWrong : ChangeSpec := { name := "wordMoves", fn := fun _ => fun
  | [d1, d2, d3] => { results := [.lit (.bool false)], args := [d1, d2, d3] }
  | _ => none }
def WordMovesWrongFalsely : Prop := wordMovesRow.holds Try.pinned (OpenSpec.ofChange wordMovesWrong)

/-- 'trammellaw02.WordLaws': WHATEVER THE INPUT: true; the input reads as it did. -/
def wordLawsSpec : ChangeSpec := { name := "wordLaws", fn := fun _ => fun
  | [d1, d2, d3, d4] => { results := [.lit (.bool true)], args := [d1, d2, d3, d4] }
  | _ => none }
def wordLawsRow : OpenClaim := { program := "ytgomkbdemakndaa", sum := "5c0845e0cf995621e31e2972c9944d7e2b5147365a7ce01f9684085b7243edfb", func := "trammel/trammellaw02.WordLaws", spec := "wordLaws", apart := false }
def WordLawsSaid : Prop := wordLawsRow.holds Try.pinned (OpenSpec.ofChange wordLawsSpec)

/-- ITS FALSE NEIGHBOUR: 'it returns false'. Refute it at one input. -/
def wordLawsWrong : ChangeSpec := { name := "wordLaws", fn := fun _ => fun
  | [d1, d2, d3, d4] => { results := [.lit (.bool false)], args := [d1, d2, d3, d4] }
  | _ => none }
def WordLawsWrongFalsely : Prop := wordLawsRow.holds Try.pinned (OpenSpec.ofChange wordLawsWrong)

/-- 'trammellaw02.WordNarrow': WHATEVER THE INPUT: true; the input reads as it did. -/
def wordNarrowSpec : ChangeSpec := { name := "wordNarrow", fn := fun _ => fun
  | [d1, d2, d3] => { results := [.lit (.bool true)], args := [d1, d2, d3] }
  | _ => none }
def wordNarrowRow : OpenClaim := { program := "ytgomkbdemakndaa", sum := "5c0845e0cf995621e31e2972c9944d7e2b5147365a7ce01f9684085b7243edfb", func := "trammel/trammellaw02.WordNarrow", spec := "wordNarrow", apart := false }
def WordNarrowSaid : Prop := wordNarrowRow.holds Try.pinned (OpenSpec.ofChange wordNarrowSpec)

/-- ITS FALSE NEIGHBOUR: 'it returns false'. Refute it at one input. -/
def wordNarrowWrong : ChangeSpec := { name := "wordNarrow", fn := fun _ => fun
  | [d1, d2, d3] => { results := [.lit (.bool false)], args := [d1, d2, d3] }
  | _ => none }
def WordNarrowWrongFalsely : Prop := wordNarrowRow.holds Try.pinned (OpenSpec.ofChange wordNarrowWrong)

/-- 'trammellaw02.WordOrder': WHATEVER THE INPUT: true; the input reads as it did. -/
def wordOrderSpec : ChangeSpec := { name := "wordOrder", fn := fun _ => fun
  | [d1, d2, d3, d4] => { results := [.lit (.bool true)], args := [d1, d2, d3, d4] }
  | _ => none }
def wordOrderRow : OpenClaim := { program := "ytgomkbdemakndaa", sum := "5c0845e0cf995621e31e2972c9944d7e2b5147365a7ce01f9684085b7243edfb", func := "trammel/trammellaw02.WordOrder", spec := "wordOrder", apart := false }
def WordOrderSaid : Prop := wordOrderRow.holds Try.pinned (OpenSpec.ofChange wordOrderSpec)

/-- ITS FALSE NEIGHBOUR: 'it returns false'. Refute it at one input. -/
def wordOrderWrong : ChangeSpec := { name := "wordOrder", fn := fun _ => fun
  | [d1, d2, d3, d4] => { results := [.lit (.bool false)], args := [d1, d2, d3, d4] }
  | _ => none }
def WordOrderWrongFalsely : Prop := wordOrderRow.holds Try.pinned (OpenSpec.ofChange wordOrderWrong)

/-- 'trammellaw02.WordReckons': WHATEVER THE INPUT: true; the input reads as it did. -/
def wordReckonsSpec : ChangeSpec := { name := "wordReckons", fn := fun _ => fun
  | [d] => { results := [.lit (.bool true)], args := [d] }
  | _ => none }
def wordReckonsRow : OpenClaim := { program := "ytgomkbdemakndaa", sum := "5c0845e0cf995621e31e2972c9944d7e2b5147365a7ce01f9684085b7243edfb", func := "trammel/trammellaw02.WordReckons", spec := "wordReckons", apart := false }
def WordReckonsSaid : Prop := wordReckonsRow.holds Try.pinned (OpenSpec.ofChange wordReckonsSpec)

/-- ITS FALSE NEIGHBOUR: 'it returns false'. Refute it at one input. -/
def wordReckonsWrong : ChangeSpec := { name := "wordReckons", fn := fun _ => fun
  | [d] => { results := [.lit (.bool false)], args := [d] }
  | _ => none }
def WordReckonsWrongFalsely : Prop := wordReckonsRow.holds Try.pinned (OpenSpec.ofChange wordReckonsWrong)

/-- 'trammellaw02.WordKnown': WHATEVER THE INPUT: true; the input reads as it did. -/
def wordKnownSpec : ChangeSpec := { name := "wordKnown", fn := fun _ => fun
  | [] => { results := [.lit (.bool true)], args := [] }
  | _ => none }
def wordKnownRow : OpenClaim := { program := "ytgomkbdemakndaa", sum := "5c0845e0cf995621e31e2972c9944d7e2b5147365a7ce01f9684085b7243edfb", func := "trammel/trammellaw02.WordKnown", spec := "wordKnown", apart := false }
def WordKnownSaid : Prop := wordKnownRow.holds Try.pinned (OpenSpec.ofChange wordKnownSpec)

/-- ITS FALSE NEIGHBOUR: 'it returns false'. Refute it at one input. -/
def wordKnownWrong : ChangeSpec := { name := "wordKnown", fn := fun _ => fun
  | [] => { results := [.lit (.bool false)], args := [] }
  | _ => none }
def WordKnownWrongFalsely : Prop := wordKnownRow.holds Try.pinned (OpenSpec.ofChange wordKnownWrong)

/- THE SECOND FORM. 'bulk': how many values and letters a reading holds, each counted each time it is reached (what is shared counts as often as it is met; a slice's spare places count too). A statement '..UptoSaid' is the law's where the arguments, and the package variables that the reading takes, are together of bulk at most 1048576: NARROWER than '..Said'. Prove '..Said' where nothing that the law and all that it calls make is longer than what came in: it says more and counts as full. Else prove '..UptoSaid'. A law counts once. -/
mutual
def uptoBulk {H : Type} : DataW H → Nat
  | .lit (.string bytes) => bytes.length + 1
  | .lit _ => 1
  | .nil => 1
  | .ptr d => uptoBulk d + 1
  | .slice elems spare => uptoBulkAll elems + uptoBulkAll spare + 1
  | .agg parts => uptoBulkAll parts + 1
  | .iface _ d => uptoBulk d + 1
  | .map entries => uptoBulkEntries entries + 1
  | .held _ => 1
def uptoBulkAll {H : Type} : List (DataW H) → Nat
  | [] => 0
  | d :: r => uptoBulk d + uptoBulkAll r
def uptoBulkEntries {H : Type} : List (Lit × DataW H) → Nat
  | [] => 0
  | x :: r => uptoBulkEntry x + uptoBulkEntries r
def uptoBulkEntry {H : Type} : Lit × DataW H → Nat
  | (.string bytes, d) => bytes.length + uptoBulk d + 1
  | (_, d) => uptoBulk d + 1
 end
def uptoSmall : (H : Type) → List (DataW H) → Bool := fun _ ds => decide (uptoBulkAll ds ≤ 1048576)
def OpenSpec.upto (s : _root_.Go.ChangeSpec) : _root_.Go.OpenSpec := { _root_.Go.OpenSpec.ofChange s with cond := some uptoSmall }

/-- 'trammellaw02.WordWraps', WHERE WHAT IT READS IS OF BULK AT MOST 1048576: true; the input reads as it did. -/
def wordWrapsUptoRow : OpenClaim := { program := "ytgomkbdemakndaa", sum := "5c0845e0cf995621e31e2972c9944d7e2b5147365a7ce01f9684085b7243edfb", func := "trammel/trammellaw02.WordWraps", spec := "wordWraps", apart := false, narrowed := true }
def WordWrapsUptoSaid : Prop := wordWrapsUptoRow.holds Try.pinned (OpenSpec.upto wordWrapsSpec)

/-- 'trammellaw02.WordParts', WHERE WHAT IT READS IS OF BULK AT MOST 1048576: true; the input reads as it did. -/
def wordPartsUptoRow : OpenClaim := { program := "ytgomkbdemakndaa", sum := "5c0845e0cf995621e31e2972c9944d7e2b5147365a7ce01f9684085b7243edfb", func := "trammel/trammellaw02.WordParts", spec := "wordParts", apart := false, narrowed := true }
def WordPartsUptoSaid : Prop := wordPartsUptoRow.holds Try.pinned (OpenSpec.upto wordPartsSpec)

/-- 'trammellaw02.WordMoves', WHERE WHAT IT READS IS OF BULK AT MOST 1048576: true; the input reads as it did. -/
def wordMovesUptoRow : OpenClaim := { program := "ytgomkbdemakndaa", sum := "5c0845e0cf995621e31e2972c9944d7e2b5147365a7ce01f9684085b7243edfb", func := "trammel/trammellaw02.WordMoves", spec := "wordMoves", apart := false, narrowed := true }
def WordMovesUptoSaid : Prop := wordMovesUptoRow.holds Try.pinned (OpenSpec.upto wordMovesSpec)

/-- 'trammellaw02.WordLaws', WHERE WHAT IT READS IS OF BULK AT MOST 1048576: true; the input reads as it did. -/
def wordLawsUptoRow : OpenClaim := { program := "ytgomkbdemakndaa", sum := "5c0845e0cf995621e31e2972c9944d7e2b5147365a7ce01f9684085b7243edfb", func := "trammel/trammellaw02.WordLaws", spec := "wordLaws", apart := false, narrowed := true }
def WordLawsUptoSaid : Prop := wordLawsUptoRow.holds Try.pinned (OpenSpec.upto wordLawsSpec)

/-- 'trammellaw02.WordNarrow', WHERE WHAT IT READS IS OF BULK AT MOST 1048576: true; the input reads as it did. -/
def wordNarrowUptoRow : OpenClaim := { program := "ytgomkbdemakndaa", sum := "5c0845e0cf995621e31e2972c9944d7e2b5147365a7ce01f9684085b7243edfb", func := "trammel/trammellaw02.WordNarrow", spec := "wordNarrow", apart := false, narrowed := true }
def WordNarrowUptoSaid : Prop := wordNarrowUptoRow.holds Try.pinned (OpenSpec.upto wordNarrowSpec)

/-- 'trammellaw02.WordOrder', WHERE WHAT IT READS IS OF BULK AT MOST 1048576: true; the input reads as it did. -/
def wordOrderUptoRow : OpenClaim := { program := "ytgomkbdemakndaa", sum := "5c0845e0cf995621e31e2972c9944d7e2b5147365a7ce01f9684085b7243edfb", func := "trammel/trammellaw02.WordOrder", spec := "wordOrder", apart := false, narrowed := true }
def WordOrderUptoSaid : Prop := wordOrderUptoRow.holds Try.pinned (OpenSpec.upto wordOrderSpec)

/-- 'trammellaw02.WordReckons', WHERE WHAT IT READS IS OF BULK AT MOST 1048576: true; the input reads as it did. -/
def wordReckonsUptoRow : OpenClaim := { program := "ytgomkbdemakndaa", sum := "5c0845e0cf995621e31e2972c9944d7e2b5147365a7ce01f9684085b7243edfb", func := "trammel/trammellaw02.WordReckons", spec := "wordReckons", apart := false, narrowed := true }
def WordReckonsUptoSaid : Prop := wordReckonsUptoRow.holds Try.pinned (OpenSpec.upto wordReckonsSpec)

/-- 'trammellaw02.WordKnown', WHERE WHAT IT READS IS OF BULK AT MOST 1048576: true; the input reads as it did. -/
def wordKnownUptoRow : OpenClaim := { program := "ytgomkbdemakndaa", sum := "5c0845e0cf995621e31e2972c9944d7e2b5147365a7ce01f9684085b7243edfb", func := "trammel/trammellaw02.WordKnown", spec := "wordKnown", apart := false, narrowed := true }
def WordKnownUptoSaid : Prop := wordKnownUptoRow.holds Try.pinned (OpenSpec.upto wordKnownSpec)

end Rows
end Go.Proofs.Ytgomkbdemakndaa
