/- Plain comparison of numbers of a width. Under no conditions. -/
import Derived.Test.YtgomkbdemakndaaPlainWd
namespace Go.Proofs.Ytgomkbdemakndaa.Plain
def cmp (op a b : Int) : Bool := if op = 23 then a == b else if op = 24 then a != b else if op = 25 then decide (a < b) else if op = 26 then decide (a ≤ b) else if op = 27 then decide (a > b) else if op = 28 then decide (a ≥ b) else false
def testW (op w a b : Int) : Bool := if w = 1 ∨ w = 2 ∨ w = 3 then cmp op (wrapW w a) (wrapW w b) else false
end Go.Proofs.Ytgomkbdemakndaa.Plain
