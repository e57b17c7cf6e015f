/-
  No cell of these rows narrows 'for every input' (looked for: loops, veiled, ifaces, maps, wideKeys, modest, calm, conditions, laid).
  DERIVED. THE GIVEN ROWS OF THIS SEAT. 3 by the template 'for every input the law returns true; each argument reads behind the call as it read before'; 0 by the template 'total and deterministic' (their statements: YtkigjidjbjbjlaaTotals.lean).
  GIVEN WITH THE SEED: the statements are not yours to turn. If you find one false, say at which input.
  Laid BY PROGRAM, IN A SANDBOX (cutbox-rows.mjs): the forced cells as the released guide's own fill.sh prints them over the translation 59c524d002d662ac… (all of the seat's roots in one cut). By AI agents, Wed Nov 11 2026. No macro, syntax, notation, axiom, sorry.
-/
import Derived.Test.YtkigjidjbjbjlaaChecked
import GoSem.Claim
import GoSem.ClaimJoined
import GoSem.ClaimMapViews
import Derived.JoinedTies
import Derived.KernelRfl
namespace Go.Proofs.Ytkigjidjbjbjlaa
/- THE CELL 'sum', in the pinned program and in every row, IS THE sha256 OF THE DUMP (.gsa) THAT YtkigjidjbjbjlaaProg.lean LOADS. Nothing in Lean hashes anything: it is a label: what it is worth is what the hold of that sum in a sandbox is worth. -/
noncomputable def Try.pinned : Pinned := { name := "ytkigjidjbjbjlaa", sum := "59c524d002d662acdcadf114c14db0b2d91b60024fb6a07661152eda65ac7934", checked := Try.checked }
namespace Rows
def none {H : Type} : Left H := { results := [], args := [] }

/-- 'laws.FnExactModeStep': WHATEVER THE INPUT: true; the input reads as it did. -/
def fnExactModeStepSpec : ChangeSpec := { name := "fnExactModeStep", fn := fun _ => fun
  | [d1, d2] => { results := [.lit (.bool true)], args := [d1, d2] }
  | _ => none }
def fnExactModeStepRow : OpenClaim := { program := "ytkigjidjbjbjlaa", sum := "59c524d002d662acdcadf114c14db0b2d91b60024fb6a07661152eda65ac7934", func := "loop.example/g00047/laws.FnExactModeStep", spec := "fnExactModeStep", apart := false }
def FnExactModeStepSaid : Prop := fnExactModeStepRow.holds Try.pinned (OpenSpec.ofChange fnExactModeStepSpec)

/-- ITS FALSE NEIGHBOUR: 'it returns false'. Refute it at one input. -/
def fnExactModeStepWrong : ChangeSpec := { name := "fnExactModeStep", fn := fun _ => fun
  | [d1, d2] => { results := [.lit (.bool false)], args := [d1, d2] }
  | _ => none }
def FnExactModeStepWrongFalsely : Prop := fnExactModeStepRow.holds Try.pinned (OpenSpec.ofChange fnExactModeStepWrong)

/-- 'laws.FnStops': WHATEVER THE INPUT: true; the input reads as it did. -/
def fnStopsSpec : ChangeSpec := { name := "fnStops", fn := fun _ => fun
  | [d] => { results := [.lit (.bool true)], args := [d] }
  | _ => none }
def fnStopsRow : OpenClaim := { program := "ytkigjidjbjbjlaa", sum := "59c524d002d662acdcadf114c14db0b2d91b60024fb6a07661152eda65ac7934", func := "loop.example/g00047/laws.FnStops", spec := "fnStops", unfollowed := true, recurses := true, apart := false }
def FnStopsSaid : Prop := fnStopsRow.holds Try.pinned (OpenSpec.ofChange fnStopsSpec)

/-- ITS FALSE NEIGHBOUR: 'it returns false'. Refute it at one input. -/
def fnStopsWrong : ChangeSpec := { name := "fnStops", fn := fun _ => fun
  | [d] => { results := [.lit (.bool false)], args := [d] }
  | _ => none }
def FnStopsWrongFalsely : Prop := fnStopsRow.holds Try.pinned (OpenSpec.ofChange fnStopsWrong)

/-- 'laws.FnExactRunStops': WHATEVER THE INPUT: true; the input reads as it did. -/
def fnExactRunStopsSpec : ChangeSpec := { name := "fnExactRunStops", fn := fun _ => fun
  | [d1, d2, d3, d4, d5] => { results := [.lit (.bool true)], args := [d1, d2, d3, d4, d5] }
  | _ => none }
def fnExactRunStopsRow : OpenClaim := { program := "ytkigjidjbjbjlaa", sum := "59c524d002d662acdcadf114c14db0b2d91b60024fb6a07661152eda65ac7934", func := "loop.example/g00047/laws.FnExactRunStops", spec := "fnExactRunStops", unfollowed := true, recurses := true, apart := false }
def FnExactRunStopsSaid : Prop := fnExactRunStopsRow.holds Try.pinned (OpenSpec.ofChange fnExactRunStopsSpec)

/-- ITS FALSE NEIGHBOUR: 'it returns false'. Refute it at one input. -/
def fnExactRunStopsWrong : ChangeSpec := { name := "fnExactRunStops", fn := fun _ => fun
  | [d1, d2, d3, d4, d5] => { results := [.lit (.bool false)], args := [d1, d2, d3, d4, d5] }
  | _ => none }
def FnExactRunStopsWrongFalsely : Prop := fnExactRunStopsRow.holds Try.pinned (OpenSpec.ofChange fnExactRunStopsWrong)

/- THE SECOND FORM. 'bulk': how many values and letters a reading holds, each counted each time it is reached (what is shared counts as often as it is met; a slice's spare places count too). A statement '..UptoSaid' is the law's where the arguments, and the package variables that the reading takes, are together of bulk at most 1048576: NARROWER than '..Said'. Prove '..Said' where nothing that the law and all that it calls make is longer than what came in: it says more and counts as full. Else prove '..UptoSaid'. A law counts once. -/
mutual
def uptoBulk {H : Type} : DataW H → Nat
  | .lit (.string bytes) => bytes.length + 1
  | .lit _ => 1
  | .nil => 1
  | .ptr d => uptoBulk d + 1
  | .slice elems spare => uptoBulkAll elems + uptoBulkAll spare + 1
  | .agg parts => uptoBulkAll parts + 1
  | .iface _ d => uptoBulk d + 1
  | .map entries => uptoBulkEntries entries + 1
  | .held _ => 1
def uptoBulkAll {H : Type} : List (DataW H) → Nat
  | [] => 0
  | d :: r => uptoBulk d + uptoBulkAll r
def uptoBulkEntries {H : Type} : List (Lit × DataW H) → Nat
  | [] => 0
  | x :: r => uptoBulkEntry x + uptoBulkEntries r
def uptoBulkEntry {H : Type} : Lit × DataW H → Nat
  | (.string bytes, d) => bytes.length + uptoBulk d + 1
  | (_, d) => uptoBulk d + 1
 end
def uptoSmall : (H : Type) → List (DataW H) → Bool := fun _ ds => decide (uptoBulkAll ds ≤ 1048576)
def OpenSpec.upto (s : _root_.Go.ChangeSpec) : _root_.Go.OpenSpec := { _root_.Go.OpenSpec.ofChange s with cond := some uptoSmall }

/-- 'laws.FnExactModeStep', WHERE WHAT IT READS IS OF BULK AT MOST 1048576: true; the input reads as it did. -/
def fnExactModeStepUptoRow : OpenClaim := { program := "ytkigjidjbjbjlaa", sum := "59c524d002d662acdcadf114c14db0b2d91b60024fb6a07661152eda65ac7934", func := "loop.example/g00047/laws.FnExactModeStep", spec := "fnExactModeStep", apart := false, narrowed := true }
def FnExactModeStepUptoSaid : Prop := fnExactModeStepUptoRow.holds Try.pinned (OpenSpec.upto fnExactModeStepSpec)

/-- 'laws.FnStops', WHERE WHAT IT READS IS OF BULK AT MOST 1048576: true; the input reads as it did. -/
def fnStopsUptoRow : OpenClaim := { program := "ytkigjidjbjbjlaa", sum := "59c524d002d662acdcadf114c14db0b2d91b60024fb6a07661152eda65ac7934", func := "loop.example/g00047/laws.FnStops", spec := "fnStops", unfollowed := true, recurses := true, apart := false, narrowed := true }
def FnStopsUptoSaid : Prop := fnStopsUptoRow.holds Try.pinned (OpenSpec.upto fnStopsSpec)

/-- 'laws.FnExactRunStops', WHERE WHAT IT READS IS OF BULK AT MOST 1048576: true; the input reads as it did. -/
def fnExactRunStopsUptoRow : OpenClaim := { program := "ytkigjidjbjbjlaa", sum := "59c524d002d662acdcadf114c14db0b2d91b60024fb6a07661152eda65ac7934", func := "loop.example/g00047/laws.FnExactRunStops", spec := "fnExactRunStops", unfollowed := true, recurses := true, apart := false, narrowed := true }
def FnExactRunStopsUptoSaid : Prop := fnExactRunStopsUptoRow.holds Try.pinned (OpenSpec.upto fnExactRunStopsSpec)

end Rows
end Go.Proofs.Ytkigjidjbjbjlaa
