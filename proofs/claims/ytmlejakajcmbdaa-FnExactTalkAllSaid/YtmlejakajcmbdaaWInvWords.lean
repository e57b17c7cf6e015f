-- Cut by a program of this session out of the print's words: what this claim names of them. Not trusted: Lean checks it.
import Derived.Test.YtmlejakajcmbdaaWInv
import Derived.Test.YtmlejakajcmbdaaWFootNe
namespace Go.Proofs.YtmlejakajcmbdaaW.PrintWords
open Go.RowKit
end Go.Proofs.YtmlejakajcmbdaaW.PrintWords
namespace Go.Proofs.YtmlejakajcmbdaaW.PrintLast
section
variable {ops : Array Oper} {a : Act} {o og : Oper} {g : Nat} {t : Tmp} {u : Bool}
end
end Go.Proofs.YtmlejakajcmbdaaW.PrintLast
