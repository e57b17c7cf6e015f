/-
  No cell of these rows narrows 'for every input' (looked for: loops, veiled, ifaces, maps, wideKeys, modest, calm, conditions, laid).
  DERIVED. THE GIVEN ROWS OF THIS SEAT. 3 by the template 'for every input the law returns true; each argument reads behind the call as it read before'; 0 by the template 'total and deterministic' (their statements: YtllcdmjleohikaaTotals.lean).
  GIVEN WITH THE SEED: the statements are not yours to turn. If you find one false, say at which input.
  Laid BY PROGRAM, IN A SANDBOX (cutbox-rows.mjs): the forced cells as the released guide's own fill.sh prints them over the translation 1d069e5da2c978b0… (all of the seat's roots in one cut). By AI agents, Wed Nov 11 2026. No macro, syntax, notation, axiom, sorry.
-/
import Derived.Test.YtllcdmjleohikaaChecked
import GoSem.Claim
import GoSem.ClaimJoined
import GoSem.ClaimMapViews
import Derived.JoinedTies
import Derived.KernelRfl
namespace Go.Proofs.Ytllcdmjleohikaa
/- THE CELL 'sum', in the pinned program and in every row, IS THE sha256 OF THE DUMP (.gsa) THAT YtllcdmjleohikaaProg.lean LOADS. Nothing in Lean hashes anything: it is a label: what it is worth is what the hold of that sum in a sandbox is worth. -/
noncomputable def Try.pinned : Pinned := { name := "ytllcdmjleohikaa", sum := "1d069e5da2c978b017d3a62818709871942cc7f38ba386b7b476c5d6a8ec80ac", checked := Try.checked }
namespace Rows
def none {H : Type} : Left H := { results := [], args := [] }

/-- 'laws.FnExactBestAssign': WHATEVER THE INPUT: true; the input reads as it did. -/
def fnExactBestAssignSpec : ChangeSpec := { name := "fnExactBestAssign", fn := fun _ => fun
  | [d] => { results := [.lit (.bool true)], args := [d] }
  | _ => none }
def fnExactBestAssignRow : OpenClaim := { program := "ytllcdmjleohikaa", sum := "1d069e5da2c978b017d3a62818709871942cc7f38ba386b7b476c5d6a8ec80ac", func := "loop.example/g00047/laws.FnExactBestAssign", spec := "fnExactBestAssign", unfollowed := true, recurses := true, apart := false }
def FnExactBestAssignSaid : Prop := fnExactBestAssignRow.holds Try.pinned (OpenSpec.ofChange fnExactBestAssignSpec)

/-- ITS FALSE NEIGHBOUR: 'it returns false'. Refute it at one input. -/
def fnExactBestAssignWrong : ChangeSpec := { name := "fnExactBestAssign", fn := fun _ => fun
  | [d] => { results := [.lit (.bool false)], args := [d] }
  | _ => none }
def FnExactBestAssignWrongFalsely : Prop := fnExactBestAssignRow.holds Try.pinned (OpenSpec.ofChange fnExactBestAssignWrong)

/-- 'laws.FnExactDuesOf': WHATEVER THE INPUT: true; the input reads as it did. -/
def fnExactDuesOfSpec : ChangeSpec := { name := "fnExactDuesOf", fn := fun _ => fun
  | [d1, d2] => { results := [.lit (.bool true)], args := [d1, d2] }
  | _ => none }
def fnExactDuesOfRow : OpenClaim := { program := "ytllcdmjleohikaa", sum := "1d069e5da2c978b017d3a62818709871942cc7f38ba386b7b476c5d6a8ec80ac", func := "loop.example/g00047/laws.FnExactDuesOf", spec := "fnExactDuesOf", unfollowed := true, recurses := true, apart := false }
def FnExactDuesOfSaid : Prop := fnExactDuesOfRow.holds Try.pinned (OpenSpec.ofChange fnExactDuesOfSpec)

/-- ITS FALSE NEIGHBOUR: 'it returns false'. Refute it at one input. -/
def fnExactDuesOfWrong : ChangeSpec := { name := "fnExactDuesOf", fn := fun _ => fun
  | [d1, d2] => { results := [.lit (.bool false)], args := [d1, d2] }
  | _ => none }
def FnExactDuesOfWrongFalsely : Prop := fnExactDuesOfRow.holds Try.pinned (OpenSpec.ofChange fnExactDuesOfWrong)

/-- 'laws.FnAssign': WHATEVER THE INPUT: true; the input reads as it did. -/
def fnAssignSpec : ChangeSpec := { name := "fnAssign", fn := fun _ => fun
  | [d] => { results := [.lit (.bool true)], args := [d] }
  | _ => none }
def fnAssignRow : OpenClaim := { program := "ytllcdmjleohikaa", sum := "1d069e5da2c978b017d3a62818709871942cc7f38ba386b7b476c5d6a8ec80ac", func := "loop.example/g00047/laws.FnAssign", spec := "fnAssign", unfollowed := true, recurses := true, apart := false }
def FnAssignSaid : Prop := fnAssignRow.holds Try.pinned (OpenSpec.ofChange fnAssignSpec)

/-- ITS FALSE NEIGHBOUR: 'it returns false'. Refute it at one input. -/
def fnAssignWrong : ChangeSpec := { name := "fnAssign", fn := fun _ => fun
  | [d] => { results := [.lit (.bool false)], args := [d] }
  | _ => none }
def FnAssignWrongFalsely : Prop := fnAssignRow.holds Try.pinned (OpenSpec.ofChange fnAssignWrong)

/- THE SECOND FORM. 'bulk': how many values and letters a reading holds, each counted each time it is reached (what is shared counts as often as it is met; a slice's spare places count too). A statement '..UptoSaid' is the law's where the arguments, and the package variables that the reading takes, are together of bulk at most 1048576: NARROWER than '..Said'. Prove '..Said' where nothing that the law and all that it calls make is longer than what came in: it says more and counts as full. Else prove '..UptoSaid'. A law counts once. -/
mutual
def uptoBulk {H : Type} : DataW H → Nat
  | .lit (.string bytes) => bytes.length + 1
  | .lit _ => 1
  | .nil => 1
  | .ptr d => uptoBulk d + 1
  | .slice elems spare => uptoBulkAll elems + uptoBulkAll spare + 1
  | .agg parts => uptoBulkAll parts + 1
  | .iface _ d => uptoBulk d + 1
  | .map entries => uptoBulkEntries entries + 1
  | .held _ => 1
def uptoBulkAll {H : Type} : List (DataW H) → Nat
  | [] => 0
  | d :: r => uptoBulk d + uptoBulkAll r
def uptoBulkEntries {H : Type} : List (Lit × DataW H) → Nat
  | [] => 0
  | x :: r => uptoBulkEntry x + uptoBulkEntries r
def uptoBulkEntry {H : Type} : Lit × DataW H → Nat
  | (.string bytes, d) => bytes.length + uptoBulk d + 1
  | (_, d) => uptoBulk d + 1
 end
def uptoSmall : (H : Type) → List (DataW H) → Bool := fun _ ds => decide (uptoBulkAll ds ≤ 1048576)
def OpenSpec.upto (s : _root_.Go.ChangeSpec) : _root_.Go.OpenSpec := { _root_.Go.OpenSpec.ofChange s with cond := some uptoSmall }

/-- 'laws.FnExactBestAssign', WHERE WHAT IT READS IS OF BULK AT MOST 1048576: true; the input reads as it did. -/
def fnExactBestAssignUptoRow : OpenClaim := { program := "ytllcdmjleohikaa", sum := "1d069e5da2c978b017d3a62818709871942cc7f38ba386b7b476c5d6a8ec80ac", func := "loop.example/g00047/laws.FnExactBestAssign", spec := "fnExactBestAssign", unfollowed := true, recurses := true, apart := false, narrowed := true }
def FnExactBestAssignUptoSaid : Prop := fnExactBestAssignUptoRow.holds Try.pinned (OpenSpec.upto fnExactBestAssignSpec)

/-- 'laws.FnExactDuesOf', WHERE WHAT IT READS IS OF BULK AT MOST 1048576: true; the input reads as it did. -/
def fnExactDuesOfUptoRow : OpenClaim := { program := "ytllcdmjleohikaa", sum := "1d069e5da2c978b017d3a62818709871942cc7f38ba386b7b476c5d6a8ec80ac", func := "loop.example/g00047/laws.FnExactDuesOf", spec := "fnExactDuesOf", unfollowed := true, recurses := true, apart := false, narrowed := true }
def FnExactDuesOfUptoSaid : Prop := fnExactDuesOfUptoRow.holds Try.pinned (OpenSpec.upto fnExactDuesOfSpec)

/-- 'laws.FnAssign', WHERE WHAT IT READS IS OF BULK AT MOST 1048576: true; the input reads as it did. -/
def fnAssignUptoRow : OpenClaim := { program := "ytllcdmjleohikaa", sum := "1d069e5da2c978b017d3a62818709871942cc7f38ba386b7b476c5d6a8ec80ac", func := "loop.example/g00047/laws.FnAssign", spec := "fnAssign", unfollowed := true, recurses := true, apart := false, narrowed := true }
def FnAssignUptoSaid : Prop := fnAssignUptoRow.holds Try.pinned (OpenSpec.upto fnAssignSpec)

end Rows
end Go.Proofs.Ytllcdmjleohikaa
