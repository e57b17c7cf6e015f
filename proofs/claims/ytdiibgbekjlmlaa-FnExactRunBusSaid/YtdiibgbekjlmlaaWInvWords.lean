-- Cut by a program of this session out of the print's words: what this claim names of them. Not trusted: Lean checks it.
import Derived.Test.YtdiibgbekjlmlaaWInv
import Derived.Test.YtdiibgbekjlmlaaWFootNe
namespace Go.Proofs.YtdiibgbekjlmlaaW.PrintWords
open Go.RowKit
end Go.Proofs.YtdiibgbekjlmlaaW.PrintWords
namespace Go.Proofs.YtdiibgbekjlmlaaW.PrintLast
section
variable {ops : Array Oper} {a : Act} {o og : Oper} {g : Nat} {t : Tmp} {u : Bool}
end
end Go.Proofs.YtdiibgbekjlmlaaW.PrintLast
