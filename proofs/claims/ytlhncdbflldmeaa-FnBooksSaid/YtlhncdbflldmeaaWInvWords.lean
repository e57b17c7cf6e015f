-- Cut by a program of this session out of the print's words: what this claim names of them. Not trusted: Lean checks it.
import Derived.Test.YtlhncdbflldmeaaWInv
import Derived.Test.YtlhncdbflldmeaaWFootNe
namespace Go.Proofs.YtlhncdbflldmeaaW.PrintWords
open Go.RowKit
end Go.Proofs.YtlhncdbflldmeaaW.PrintWords
namespace Go.Proofs.YtlhncdbflldmeaaW.PrintLast
section
variable {ops : Array Oper} {a : Act} {o og : Oper} {g : Nat} {t : Tmp} {u : Bool}
end
end Go.Proofs.YtlhncdbflldmeaaW.PrintLast
