-- Cut by a program of this session out of the print's words: what this claim names of them. Not trusted: Lean checks it.
import Derived.Test.YtllcdmjleohikaaWLast
import Derived.Test.YtllcdmjleohikaaWWords
/-! ### 50. A region's order in a table, made once a region: each step asks the table (numbers alone), not the operations -/
namespace Go.Proofs.YtllcdmjleohikaaW.PrintLast
open Go.Proofs.YtllcdmjleohikaaW.PrintWords (Aside0)
section
variable {md : Region.Mode} {ops : Array Oper} {T : Bool × List (List Nat × List Nat)} {l l' li lj lk : Array Bool} {ds : List Nat} {i j k : Nat}
end
end Go.Proofs.YtllcdmjleohikaaW.PrintLast
