-- Cut by a program of this session out of the print's words: what this claim names of them. Not trusted: Lean checks it.
import Derived.Test.YtenedhhmpdjpiaaWInv
import Derived.Test.YtenedhhmpdjpiaaWFootNe
namespace Go.Proofs.YtenedhhmpdjpiaaW.PrintWords
open Go.RowKit
end Go.Proofs.YtenedhhmpdjpiaaW.PrintWords
namespace Go.Proofs.YtenedhhmpdjpiaaW.PrintLast
section
variable {ops : Array Oper} {a : Act} {o og : Oper} {g : Nat} {t : Tmp} {u : Bool}
end
end Go.Proofs.YtenedhhmpdjpiaaW.PrintLast
