-- Cut by a program of this session out of the print's words: what this claim names of them. Not trusted: Lean checks it.
import Derived.Test.YtllcdmjleohikaaWInv
import Derived.Test.YtllcdmjleohikaaWFootNe
namespace Go.Proofs.YtllcdmjleohikaaW.PrintWords
open Go.RowKit
end Go.Proofs.YtllcdmjleohikaaW.PrintWords
namespace Go.Proofs.YtllcdmjleohikaaW.PrintLast
section
variable {ops : Array Oper} {a : Act} {o og : Oper} {g : Nat} {t : Tmp} {u : Bool}
end
end Go.Proofs.YtllcdmjleohikaaW.PrintLast
