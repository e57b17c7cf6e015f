-- Cut by a program of this session out of the print's words: what this claim names of them. Not trusted: Lean checks it.
import Derived.Test.YtkigjidjbjbjlaaWInv
import Derived.Test.YtkigjidjbjbjlaaWFootNe
namespace Go.Proofs.YtkigjidjbjbjlaaW.PrintWords
open Go.RowKit
end Go.Proofs.YtkigjidjbjbjlaaW.PrintWords
namespace Go.Proofs.YtkigjidjbjbjlaaW.PrintLast
section
variable {ops : Array Oper} {a : Act} {o og : Oper} {g : Nat} {t : Tmp} {u : Bool}
end
end Go.Proofs.YtkigjidjbjbjlaaW.PrintLast
