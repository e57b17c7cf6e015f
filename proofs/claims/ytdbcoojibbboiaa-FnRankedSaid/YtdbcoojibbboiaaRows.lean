/-
  No cell of these rows narrows 'for every input' (looked for: loops, veiled, ifaces, maps, wideKeys, modest, calm, conditions, laid).
  DERIVED. THE GIVEN ROWS OF THIS SEAT. 3 by the template 'for every input the law returns true; each argument reads behind the call as it read before'; 0 by the template 'total and deterministic' (their statements: YtdbcoojibbboiaaTotals.lean).
  GIVEN WITH THE SEED: the statements are not yours to turn. If you find one false, say at which input.
  Laid BY PROGRAM, IN A SANDBOX (cutbox-rows.mjs): the forced cells as the released guide's own fill.sh prints them over the translation 396f1fc929c1ec2f… (all of the seat's roots in one cut). By AI agents, Wed Nov 11 2026. No macro, syntax, notation, axiom, sorry.
-/
import Derived.Test.YtdbcoojibbboiaaChecked
import GoSem.Claim
import GoSem.ClaimJoined
import GoSem.ClaimMapViews
import Derived.JoinedTies
import Derived.KernelRfl
namespace Go.Proofs.Ytdbcoojibbboiaa
/- THE CELL 'sum', in the pinned program and in every row, IS THE sha256 OF THE DUMP (.gsa) THAT YtdbcoojibbboiaaProg.lean LOADS. Nothing in Lean hashes anything: it is a label: what it is worth is what the hold of that sum in a sandbox is worth. -/
noncomputable def Try.pinned : Pinned := { name := "ytdbcoojibbboiaa", sum := "396f1fc929c1ec2f06261377ec459561b38fc0288f747587c3cc24b06987a8aa", checked := Try.checked }
namespace Rows
def none {H : Type} : Left H := { results := [], args := [] }

/-- 'laws.FnRanked': WHATEVER THE INPUT: true; the input reads as it did. -/
def fnRankedSpec : ChangeSpec := { name := "fnRanked", fn := fun _ => fun
  | [d] => { results := [.lit (.bool true)], args := [d] }
  | _ => none }
def fnRankedRow : OpenClaim := { program := "ytdbcoojibbboiaa", sum := "396f1fc929c1ec2f06261377ec459561b38fc0288f747587c3cc24b06987a8aa", func := "loop.example/g00047/laws.FnRanked", spec := "fnRanked", unfollowed := true, recurses := true, apart := false }
def FnRankedSaid : Prop := fnRankedRow.holds Try.pinned (OpenSpec.ofChange fnRankedSpec)

/-- ITS FALSE NEIGHBOUR: 'it returns false'. Refute it at one input. -/
def fnRankedWrong : ChangeSpec := { name := "fnRanked", fn := fun _ => fun
  | [d] => { results := [.lit (.bool false)], args := [d] }
  | _ => none }
def FnRankedWrongFalsely : Prop := fnRankedRow.holds Try.pinned (OpenSpec.ofChange fnRankedWrong)

/-- 'laws.FnExactRunRanked': WHATEVER THE INPUT: true; the input reads as it did. -/
def fnExactRunRankedSpec : ChangeSpec := { name := "fnExactRunRanked", fn := fun _ => fun
  | [d1, d2, d3] => { results := [.lit (.bool true)], args := [d1, d2, d3] }
  | _ => none }
def fnExactRunRankedRow : OpenClaim := { program := "ytdbcoojibbboiaa", sum := "396f1fc929c1ec2f06261377ec459561b38fc0288f747587c3cc24b06987a8aa", func := "loop.example/g00047/laws.FnExactRunRanked", spec := "fnExactRunRanked", unfollowed := true, recurses := true, apart := false }
def FnExactRunRankedSaid : Prop := fnExactRunRankedRow.holds Try.pinned (OpenSpec.ofChange fnExactRunRankedSpec)

/-- ITS FALSE NEIGHBOUR: 'it returns false'. Refute it at one input. -/
def fnExactRunRankedWrong : ChangeSpec := { name := "fnExactRunRanked", fn := fun _ => fun
  | [d1, d2, d3] => { results := [.lit (.bool false)], args := [d1, d2, d3] }
  | _ => none }
def FnExactRunRankedWrongFalsely : Prop := fnExactRunRankedRow.holds Try.pinned (OpenSpec.ofChange fnExactRunRankedWrong)

/-- 'laws.FnExactRunUrgent': WHATEVER THE INPUT: true; the input reads as it did. -/
def fnExactRunUrgentSpec : ChangeSpec := { name := "fnExactRunUrgent", fn := fun _ => fun
  | [d1, d2, d3] => { results := [.lit (.bool true)], args := [d1, d2, d3] }
  | _ => none }
def fnExactRunUrgentRow : OpenClaim := { program := "ytdbcoojibbboiaa", sum := "396f1fc929c1ec2f06261377ec459561b38fc0288f747587c3cc24b06987a8aa", func := "loop.example/g00047/laws.FnExactRunUrgent", spec := "fnExactRunUrgent", unfollowed := true, recurses := true, apart := false }
def FnExactRunUrgentSaid : Prop := fnExactRunUrgentRow.holds Try.pinned (OpenSpec.ofChange fnExactRunUrgentSpec)

/-- ITS FALSE NEIGHBOUR: 'it returns false'. Refute it at one input. -/
def fnExactRunUrgentWrong : ChangeSpec := { name := "fnExactRunUrgent", fn := fun _ => fun
  | [d1, d2, d3] => { results := [.lit (.bool false)], args := [d1, d2, d3] }
  | _ => none }
def FnExactRunUrgentWrongFalsely : Prop := fnExactRunUrgentRow.holds Try.pinned (OpenSpec.ofChange fnExactRunUrgentWrong)

/- THE SECOND FORM. 'bulk': how many values and letters a reading holds, each counted each time it is reached (what is shared counts as often as it is met; a slice's spare places count too). A statement '..UptoSaid' is the law's where the arguments, and the package variables that the reading takes, are together of bulk at most 1048576: NARROWER than '..Said'. Prove '..Said' where nothing that the law and all that it calls make is longer than what came in: it says more and counts as full. Else prove '..UptoSaid'. A law counts once. -/
mutual
def uptoBulk {H : Type} : DataW H → Nat
  | .lit (.string bytes) => bytes.length + 1
  | .lit _ => 1
  | .nil => 1
  | .ptr d => uptoBulk d + 1
  | .slice elems spare => uptoBulkAll elems + uptoBulkAll spare + 1
  | .agg parts => uptoBulkAll parts + 1
  | .iface _ d => uptoBulk d + 1
  | .map entries => uptoBulkEntries entries + 1
  | .held _ => 1
def uptoBulkAll {H : Type} : List (DataW H) → Nat
  | [] => 0
  | d :: r => uptoBulk d + uptoBulkAll r
def uptoBulkEntries {H : Type} : List (Lit × DataW H) → Nat
  | [] => 0
  | x :: r => uptoBulkEntry x + uptoBulkEntries r
def uptoBulkEntry {H : Type} : Lit × DataW H → Nat
  | (.string bytes, d) => bytes.length + uptoBulk d + 1
  | (_, d) => uptoBulk d + 1
 end
def uptoSmall : (H : Type) → List (DataW H) → Bool := fun _ ds => decide (uptoBulkAll ds ≤ 1048576)
def OpenSpec.upto (s : _root_.Go.ChangeSpec) : _root_.Go.OpenSpec := { _root_.Go.OpenSpec.ofChange s with cond := some uptoSmall }

/-- 'laws.FnRanked', WHERE WHAT IT READS IS OF BULK AT MOST 1048576: true; the input reads as it did. -/
def fnRankedUptoRow : OpenClaim := { program := "ytdbcoojibbboiaa", sum := "396f1fc929c1ec2f06261377ec459561b38fc0288f747587c3cc24b06987a8aa", func := "loop.example/g00047/laws.FnRanked", spec := "fnRanked", unfollowed := true, recurses := true, apart := false, narrowed := true }
def FnRankedUptoSaid : Prop := fnRankedUptoRow.holds Try.pinned (OpenSpec.upto fnRankedSpec)

/-- 'laws.FnExactRunRanked', WHERE WHAT IT READS IS OF BULK AT MOST 1048576: true; the input reads as it did. -/
def fnExactRunRankedUptoRow : OpenClaim := { program := "ytdbcoojibbboiaa", sum := "396f1fc929c1ec2f06261377ec459561b38fc0288f747587c3cc24b06987a8aa", func := "loop.example/g00047/laws.FnExactRunRanked", spec := "fnExactRunRanked", unfollowed := true, recurses := true, apart := false, narrowed := true }
def FnExactRunRankedUptoSaid : Prop := fnExactRunRankedUptoRow.holds Try.pinned (OpenSpec.upto fnExactRunRankedSpec)

/-- 'laws.FnExactRunUrgent', WHERE WHAT IT READS IS OF BULK AT MOST 1048576: true; the input reads as it did. -/
def fnExactRunUrgentUptoRow : OpenClaim := { program := "ytdbcoojibbboiaa", sum := "396f1fc929c1ec2f06261377ec459561b38fc0288f747587c3cc24b06987a8aa", func := "loop.example/g00047/laws.FnExactRunUrgent", spec := "fnExactRunUrgent", unfollowed := true, recurses := true, apart := false, narrowed := true }
def FnExactRunUrgentUptoSaid : Prop := fnExactRunUrgentUptoRow.holds Try.pinned (OpenSpec.upto fnExactRunUrgentSpec)

end Rows
end Go.Proofs.Ytdbcoojibbboiaa
