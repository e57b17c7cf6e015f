-- Cut by a program of this session out of the print's words: what this claim names of them. Not trusted: Lean checks it.
import Derived.Test.YtglllkbebnlnmaaWInv
import Derived.Test.YtglllkbebnlnmaaWFootNe
namespace Go.Proofs.YtglllkbebnlnmaaW.PrintWords
open Go.RowKit
end Go.Proofs.YtglllkbebnlnmaaW.PrintWords
namespace Go.Proofs.YtglllkbebnlnmaaW.PrintLast
section
variable {ops : Array Oper} {a : Act} {o og : Oper} {g : Nat} {t : Tmp} {u : Bool}
end
end Go.Proofs.YtglllkbebnlnmaaW.PrintLast
