-- Cut by a program of this session out of the print's words: what this claim names of them. Not trusted: Lean checks it.
import Derived.Test.YtdbcoojibbboiaaWInv
import Derived.Test.YtdbcoojibbboiaaWFootNe
namespace Go.Proofs.YtdbcoojibbboiaaW.PrintWords
open Go.RowKit
end Go.Proofs.YtdbcoojibbboiaaW.PrintWords
namespace Go.Proofs.YtdbcoojibbboiaaW.PrintLast
section
variable {ops : Array Oper} {a : Act} {o og : Oper} {g : Nat} {t : Tmp} {u : Bool}
end
end Go.Proofs.YtdbcoojibbboiaaW.PrintLast
