-- Cut by a program of this session out of the print's words: what this claim names of them. Not trusted: Lean checks it.
import Derived.Test.YtdiibgbekjlmlaaWWords
import Derived.Laws.StructEq
namespace Go.Proofs.YtdiibgbekjlmlaaW.PrintWords
open Go.RowKit
section
variable {P : Program} {d : Nat} {xs ys : Array Value} {f : Field} {fs : List Field} {a b : Value} {r s : Bool} {w : World}
end
end Go.Proofs.YtdiibgbekjlmlaaW.PrintWords
