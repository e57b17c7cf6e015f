-- Cut by a program of this session out of the print's words: what this claim names of them. Not trusted: Lean checks it.
import Derived.Test.YtdiibgbekjlmlaaWN
namespace Go.Proofs.YtdiibgbekjlmlaaW.PrintWords
open Go.RowKit
namespace Kd
section
variable {α : Type} {d : Kd α} {W : World} {g n : Nat} {S ok : Nat → Prop} {A : Option Addr} {ad : Addr} {xs : List α}
end
end Kd
end Go.Proofs.YtdiibgbekjlmlaaW.PrintWords
