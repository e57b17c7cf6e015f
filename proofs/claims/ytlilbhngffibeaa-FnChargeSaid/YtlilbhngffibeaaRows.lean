/-
  No cell of these rows narrows 'for every input' (looked for: loops, veiled, ifaces, maps, wideKeys, modest, calm, conditions, laid).
  DERIVED. THE GIVEN ROWS OF THIS SEAT. 12 by the template 'for every input the law returns true; each argument reads behind the call as it read before'; 0 by the template 'total and deterministic' (their statements: YtlilbhngffibeaaTotals.lean).
  GIVEN WITH THE SEED: the statements are not yours to turn. If you find one false, say at which input.
  Laid BY PROGRAM, IN A SANDBOX (cutbox-rows.mjs): the forced cells as the released guide's own fill.sh prints them over the translation 732325db16cfe281… (all of the seat's roots in one cut). By AI agents, Wed Nov 11 2026. No macro, syntax, notation, axiom, sorry.
-/
import Derived.Test.YtlilbhngffibeaaChecked
import GoSem.Claim
import GoSem.ClaimJoined
import GoSem.ClaimMapViews
import Derived.JoinedTies
import Derived.KernelRfl
namespace Go.Proofs.Ytlilbhngffibeaa
/- THE CELL 'sum', in the pinned program and in every row, IS THE sha256 OF THE DUMP (.gsa) THAT YtlilbhngffibeaaProg.lean LOADS. Nothing in Lean hashes anything: it is a label: what it is worth is what the hold of that sum in a sandbox is worth. -/
noncomputable def Try.pinned : Pinned := { name := "ytlilbhngffibeaa", sum := "732325db16cfe2810d36ffa8da662b3bcc5370e98cf1dba1682675ecb0ea7048", checked := Try.checked }
namespace Rows
def none {H : Type} : Left H := { results := [], args := [] }

/-- 'laws.FnExactGoodGear': WHATEVER THE INPUT: true; the input reads as it did. -/
def fnExactGoodGearSpec : ChangeSpec := { name := "fnExactGoodGear", fn := fun _ => fun
  | [d] => { results := [.lit (.bool true)], args := [d] }
  | _ => none }
def fnExactGoodGearRow : OpenClaim := { program := "ytlilbhngffibeaa", sum := "732325db16cfe2810d36ffa8da662b3bcc5370e98cf1dba1682675ecb0ea7048", func := "loop.example/g00047/laws.FnExactGoodGear", spec := "fnExactGoodGear", apart := false }
def FnExactGoodGearSaid : Prop := fnExactGoodGearRow.holds Try.pinned (OpenSpec.ofChange fnExactGoodGearSpec)

/-- ITS FALSE NEIGHBOUR: 'it returns false'. Refute it at one input. -/
def fnExactGoodGearWrong : ChangeSpec := { name := "fnExactGoodGear", fn := fun _ => fun
  | [d] => { results := [.lit (.bool false)], args := [d] }
  | _ => none }
def FnExactGoodGearWrongFalsely : Prop := fnExactGoodGearRow.holds Try.pinned (OpenSpec.ofChange fnExactGoodGearWrong)

/-- 'laws.FnExactNextCoin': WHATEVER THE INPUT: true; the input reads as it did. -/
def fnExactNextCoinSpec : ChangeSpec := { name := "fnExactNextCoin", fn := fun _ => fun
  | [d] => { results := [.lit (.bool true)], args := [d] }
  | _ => none }
def fnExactNextCoinRow : OpenClaim := { program := "ytlilbhngffibeaa", sum := "732325db16cfe2810d36ffa8da662b3bcc5370e98cf1dba1682675ecb0ea7048", func := "loop.example/g00047/laws.FnExactNextCoin", spec := "fnExactNextCoin", apart := false }
def FnExactNextCoinSaid : Prop := fnExactNextCoinRow.holds Try.pinned (OpenSpec.ofChange fnExactNextCoinSpec)

/-- ITS FALSE NEIGHBOUR: 'it returns false'. Refute it at one input. -/
def fnExactNextCoinWrong : ChangeSpec := { name := "fnExactNextCoin", fn := fun _ => fun
  | [d] => { results := [.lit (.bool false)], args := [d] }
  | _ => none }
def FnExactNextCoinWrongFalsely : Prop := fnExactNextCoinRow.holds Try.pinned (OpenSpec.ofChange fnExactNextCoinWrong)

/-- 'laws.FnExactStopBound': WHATEVER THE INPUT: true; the input reads as it did. -/
def fnExactStopBoundSpec : ChangeSpec := { name := "fnExactStopBound", fn := fun _ => fun
  | [d] => { results := [.lit (.bool true)], args := [d] }
  | _ => none }
def fnExactStopBoundRow : OpenClaim := { program := "ytlilbhngffibeaa", sum := "732325db16cfe2810d36ffa8da662b3bcc5370e98cf1dba1682675ecb0ea7048", func := "loop.example/g00047/laws.FnExactStopBound", spec := "fnExactStopBound", apart := false }
def FnExactStopBoundSaid : Prop := fnExactStopBoundRow.holds Try.pinned (OpenSpec.ofChange fnExactStopBoundSpec)

/-- ITS FALSE NEIGHBOUR: 'it returns false'. Refute it at one input. -/
def fnExactStopBoundWrong : ChangeSpec := { name := "fnExactStopBound", fn := fun _ => fun
  | [d] => { results := [.lit (.bool false)], args := [d] }
  | _ => none }
def FnExactStopBoundWrongFalsely : Prop := fnExactStopBoundRow.holds Try.pinned (OpenSpec.ofChange fnExactStopBoundWrong)

/-- 'laws.FnExactModeStep': WHATEVER THE INPUT: true; the input reads as it did. -/
def fnExactModeStepSpec : ChangeSpec := { name := "fnExactModeStep", fn := fun _ => fun
  | [d1, d2] => { results := [.lit (.bool true)], args := [d1, d2] }
  | _ => none }
def fnExactModeStepRow : OpenClaim := { program := "ytlilbhngffibeaa", sum := "732325db16cfe2810d36ffa8da662b3bcc5370e98cf1dba1682675ecb0ea7048", func := "loop.example/g00047/laws.FnExactModeStep", spec := "fnExactModeStep", apart := false }
def FnExactModeStepSaid : Prop := fnExactModeStepRow.holds Try.pinned (OpenSpec.ofChange fnExactModeStepSpec)

/-- ITS FALSE NEIGHBOUR: 'it returns false'. Refute it at one input. -/
def fnExactModeStepWrong : ChangeSpec := { name := "fnExactModeStep", fn := fun _ => fun
  | [d1, d2] => { results := [.lit (.bool false)], args := [d1, d2] }
  | _ => none }
def FnExactModeStepWrongFalsely : Prop := fnExactModeStepRow.holds Try.pinned (OpenSpec.ofChange fnExactModeStepWrong)

/-- 'laws.FnExactGoodChores': WHATEVER THE INPUT: true; the input reads as it did. -/
def fnExactGoodChoresSpec : ChangeSpec := { name := "fnExactGoodChores", fn := fun _ => fun
  | [d] => { results := [.lit (.bool true)], args := [d] }
  | _ => none }
def fnExactGoodChoresRow : OpenClaim := { program := "ytlilbhngffibeaa", sum := "732325db16cfe2810d36ffa8da662b3bcc5370e98cf1dba1682675ecb0ea7048", func := "loop.example/g00047/laws.FnExactGoodChores", spec := "fnExactGoodChores", apart := false }
def FnExactGoodChoresSaid : Prop := fnExactGoodChoresRow.holds Try.pinned (OpenSpec.ofChange fnExactGoodChoresSpec)

/-- ITS FALSE NEIGHBOUR: 'it returns false'. Refute it at one input. -/
def fnExactGoodChoresWrong : ChangeSpec := { name := "fnExactGoodChores", fn := fun _ => fun
  | [d] => { results := [.lit (.bool false)], args := [d] }
  | _ => none }
def FnExactGoodChoresWrongFalsely : Prop := fnExactGoodChoresRow.holds Try.pinned (OpenSpec.ofChange fnExactGoodChoresWrong)

/-- 'laws.FnExactChargePlan': WHATEVER THE INPUT: true; the input reads as it did. -/
def fnExactChargePlanSpec : ChangeSpec := { name := "fnExactChargePlan", fn := fun _ => fun
  | [d1, d2] => { results := [.lit (.bool true)], args := [d1, d2] }
  | _ => none }
def fnExactChargePlanRow : OpenClaim := { program := "ytlilbhngffibeaa", sum := "732325db16cfe2810d36ffa8da662b3bcc5370e98cf1dba1682675ecb0ea7048", func := "loop.example/g00047/laws.FnExactChargePlan", spec := "fnExactChargePlan", apart := false }
def FnExactChargePlanSaid : Prop := fnExactChargePlanRow.holds Try.pinned (OpenSpec.ofChange fnExactChargePlanSpec)

/-- ITS FALSE NEIGHBOUR: 'it returns false'. Refute it at one input. -/
def fnExactChargePlanWrong : ChangeSpec := { name := "fnExactChargePlan", fn := fun _ => fun
  | [d1, d2] => { results := [.lit (.bool false)], args := [d1, d2] }
  | _ => none }
def FnExactChargePlanWrongFalsely : Prop := fnExactChargePlanRow.holds Try.pinned (OpenSpec.ofChange fnExactChargePlanWrong)

/-- 'laws.FnExactDemandAt': WHATEVER THE INPUT: true; the input reads as it did. -/
def fnExactDemandAtSpec : ChangeSpec := { name := "fnExactDemandAt", fn := fun _ => fun
  | [d1, d2] => { results := [.lit (.bool true)], args := [d1, d2] }
  | _ => none }
def fnExactDemandAtRow : OpenClaim := { program := "ytlilbhngffibeaa", sum := "732325db16cfe2810d36ffa8da662b3bcc5370e98cf1dba1682675ecb0ea7048", func := "loop.example/g00047/laws.FnExactDemandAt", spec := "fnExactDemandAt", apart := false }
def FnExactDemandAtSaid : Prop := fnExactDemandAtRow.holds Try.pinned (OpenSpec.ofChange fnExactDemandAtSpec)

/-- ITS FALSE NEIGHBOUR: 'it returns false'. Refute it at one input. -/
def fnExactDemandAtWrong : ChangeSpec := { name := "fnExactDemandAt", fn := fun _ => fun
  | [d1, d2] => { results := [.lit (.bool false)], args := [d1, d2] }
  | _ => none }
def FnExactDemandAtWrongFalsely : Prop := fnExactDemandAtRow.holds Try.pinned (OpenSpec.ofChange fnExactDemandAtWrong)

/-- 'laws.FnCharge': WHATEVER THE INPUT: true; the input reads as it did. -/
def fnChargeSpec : ChangeSpec := { name := "fnCharge", fn := fun _ => fun
  | [d] => { results := [.lit (.bool true)], args := [d] }
  | _ => none }
def fnChargeRow : OpenClaim := { program := "ytlilbhngffibeaa", sum := "732325db16cfe2810d36ffa8da662b3bcc5370e98cf1dba1682675ecb0ea7048", func := "loop.example/g00047/laws.FnCharge", spec := "fnCharge", apart := false }
def FnChargeSaid : Prop := fnChargeRow.holds Try.pinned (OpenSpec.ofChange fnChargeSpec)

/-- ITS FALSE NEIGHBOUR: 'it returns false'. Refute it at one input. -/
def fnChargeWrong : ChangeSpec := { name := "fnCharge", fn := fun _ => fun
  | [d] => { results := [.lit (.bool false)], args := [d] }
  | _ => none }
def FnChargeWrongFalsely : Prop := fnChargeRow.holds Try.pinned (OpenSpec.ofChange fnChargeWrong)

/-- 'laws.FnExactCycleOf': WHATEVER THE INPUT: true; the input reads as it did. -/
def fnExactCycleOfSpec : ChangeSpec := { name := "fnExactCycleOf", fn := fun _ => fun
  | [d] => { results := [.lit (.bool true)], args := [d] }
  | _ => none }
def fnExactCycleOfRow : OpenClaim := { program := "ytlilbhngffibeaa", sum := "732325db16cfe2810d36ffa8da662b3bcc5370e98cf1dba1682675ecb0ea7048", func := "loop.example/g00047/laws.FnExactCycleOf", spec := "fnExactCycleOf", apart := false }
def FnExactCycleOfSaid : Prop := fnExactCycleOfRow.holds Try.pinned (OpenSpec.ofChange fnExactCycleOfSpec)

/-- ITS FALSE NEIGHBOUR: 'it returns false'. Refute it at one input. -/
def fnExactCycleOfWrong : ChangeSpec := { name := "fnExactCycleOf", fn := fun _ => fun
  | [d] => { results := [.lit (.bool false)], args := [d] }
  | _ => none }
def FnExactCycleOfWrongFalsely : Prop := fnExactCycleOfRow.holds Try.pinned (OpenSpec.ofChange fnExactCycleOfWrong)

/-- 'laws.FnExactAnswerTimes': WHATEVER THE INPUT: true; the input reads as it did. -/
def fnExactAnswerTimesSpec : ChangeSpec := { name := "fnExactAnswerTimes", fn := fun _ => fun
  | [d] => { results := [.lit (.bool true)], args := [d] }
  | _ => none }
def fnExactAnswerTimesRow : OpenClaim := { program := "ytlilbhngffibeaa", sum := "732325db16cfe2810d36ffa8da662b3bcc5370e98cf1dba1682675ecb0ea7048", func := "loop.example/g00047/laws.FnExactAnswerTimes", spec := "fnExactAnswerTimes", apart := false }
def FnExactAnswerTimesSaid : Prop := fnExactAnswerTimesRow.holds Try.pinned (OpenSpec.ofChange fnExactAnswerTimesSpec)

/-- ITS FALSE NEIGHBOUR: 'it returns false'. Refute it at one input. -/
def fnExactAnswerTimesWrong : ChangeSpec := { name := "fnExactAnswerTimes", fn := fun _ => fun
  | [d] => { results := [.lit (.bool false)], args := [d] }
  | _ => none }
def FnExactAnswerTimesWrongFalsely : Prop := fnExactAnswerTimesRow.holds Try.pinned (OpenSpec.ofChange fnExactAnswerTimesWrong)

/-- 'laws.FnStops': WHATEVER THE INPUT: true; the input reads as it did. -/
def fnStopsSpec : ChangeSpec := { name := "fnStops", fn := fun _ => fun
  | [d] => { results := [.lit (.bool true)], args := [d] }
  | _ => none }
def fnStopsRow : OpenClaim := { program := "ytlilbhngffibeaa", sum := "732325db16cfe2810d36ffa8da662b3bcc5370e98cf1dba1682675ecb0ea7048", func := "loop.example/g00047/laws.FnStops", spec := "fnStops", unfollowed := true, recurses := true, apart := false }
def FnStopsSaid : Prop := fnStopsRow.holds Try.pinned (OpenSpec.ofChange fnStopsSpec)

/-- ITS FALSE NEIGHBOUR: 'it returns false'. Refute it at one input. -/
def fnStopsWrong : ChangeSpec := { name := "fnStops", fn := fun _ => fun
  | [d] => { results := [.lit (.bool false)], args := [d] }
  | _ => none }
def FnStopsWrongFalsely : Prop := fnStopsRow.holds Try.pinned (OpenSpec.ofChange fnStopsWrong)

/-- 'laws.FnExactRunStops': WHATEVER THE INPUT: true; the input reads as it did. -/
def fnExactRunStopsSpec : ChangeSpec := { name := "fnExactRunStops", fn := fun _ => fun
  | [d1, d2, d3, d4, d5] => { results := [.lit (.bool true)], args := [d1, d2, d3, d4, d5] }
  | _ => none }
def fnExactRunStopsRow : OpenClaim := { program := "ytlilbhngffibeaa", sum := "732325db16cfe2810d36ffa8da662b3bcc5370e98cf1dba1682675ecb0ea7048", func := "loop.example/g00047/laws.FnExactRunStops", spec := "fnExactRunStops", unfollowed := true, recurses := true, apart := false }
def FnExactRunStopsSaid : Prop := fnExactRunStopsRow.holds Try.pinned (OpenSpec.ofChange fnExactRunStopsSpec)

/-- ITS FALSE NEIGHBOUR: 'it returns false'. Refute it at one input. -/
def fnExactRunStopsWrong : ChangeSpec := { name := "fnExactRunStops", fn := fun _ => fun
  | [d1, d2, d3, d4, d5] => { results := [.lit (.bool false)], args := [d1, d2, d3, d4, d5] }
  | _ => none }
def FnExactRunStopsWrongFalsely : Prop := fnExactRunStopsRow.holds Try.pinned (OpenSpec.ofChange fnExactRunStopsWrong)

/- THE SECOND FORM. 'bulk': how many values and letters a reading holds, each counted each time it is reached (what is shared counts as often as it is met; a slice's spare places count too). A statement '..UptoSaid' is the law's where the arguments, and the package variables that the reading takes, are together of bulk at most 1048576: NARROWER than '..Said'. Prove '..Said' where nothing that the law and all that it calls make is longer than what came in: it says more and counts as full. Else prove '..UptoSaid'. A law counts once. -/
mutual
def uptoBulk {H : Type} : DataW H → Nat
  | .lit (.string bytes) => bytes.length + 1
  | .lit _ => 1
  | .nil => 1
  | .ptr d => uptoBulk d + 1
  | .slice elems spare => uptoBulkAll elems + uptoBulkAll spare + 1
  | .agg parts => uptoBulkAll parts + 1
  | .iface _ d => uptoBulk d + 1
  | .map entries => uptoBulkEntries entries + 1
  | .held _ => 1
def uptoBulkAll {H : Type} : List (DataW H) → Nat
  | [] => 0
  | d :: r => uptoBulk d + uptoBulkAll r
def uptoBulkEntries {H : Type} : List (Lit × DataW H) → Nat
  | [] => 0
  | x :: r => uptoBulkEntry x + uptoBulkEntries r
def uptoBulkEntry {H : Type} : Lit × DataW H → Nat
  | (.string bytes, d) => bytes.length + uptoBulk d + 1
  | (_, d) => uptoBulk d + 1
 end
def uptoSmall : (H : Type) → List (DataW H) → Bool := fun _ ds => decide (uptoBulkAll ds ≤ 1048576)
def OpenSpec.upto (s : _root_.Go.ChangeSpec) : _root_.Go.OpenSpec := { _root_.Go.OpenSpec.ofChange s with cond := some uptoSmall }

/-- 'laws.FnExactGoodGear', WHERE WHAT IT READS IS OF BULK AT MOST 1048576: true; the input reads as it did. -/
def fnExactGoodGearUptoRow : OpenClaim := { program := "ytlilbhngffibeaa", sum := "732325db16cfe2810d36ffa8da662b3bcc5370e98cf1dba1682675ecb0ea7048", func := "loop.example/g00047/laws.FnExactGoodGear", spec := "fnExactGoodGear", apart := false, narrowed := true }
def FnExactGoodGearUptoSaid : Prop := fnExactGoodGearUptoRow.holds Try.pinned (OpenSpec.upto fnExactGoodGearSpec)

/-- 'laws.FnExactNextCoin', WHERE WHAT IT READS IS OF BULK AT MOST 1048576: true; the input reads as it did. -/
def fnExactNextCoinUptoRow : OpenClaim := { program := "ytlilbhngffibeaa", sum := "732325db16cfe2810d36ffa8da662b3bcc5370e98cf1dba1682675ecb0ea7048", func := "loop.example/g00047/laws.FnExactNextCoin", spec := "fnExactNextCoin", apart := false, narrowed := true }
def FnExactNextCoinUptoSaid : Prop := fnExactNextCoinUptoRow.holds Try.pinned (OpenSpec.upto fnExactNextCoinSpec)

/-- 'laws.FnExactStopBound', WHERE WHAT IT READS IS OF BULK AT MOST 1048576: true; the input reads as it did. -/
def fnExactStopBoundUptoRow : OpenClaim := { program := "ytlilbhngffibeaa", sum := "732325db16cfe2810d36ffa8da662b3bcc5370e98cf1dba1682675ecb0ea7048", func := "loop.example/g00047/laws.FnExactStopBound", spec := "fnExactStopBound", apart := false, narrowed := true }
def FnExactStopBoundUptoSaid : Prop := fnExactStopBoundUptoRow.holds Try.pinned (OpenSpec.upto fnExactStopBoundSpec)

/-- 'laws.FnExactModeStep', WHERE WHAT IT READS IS OF BULK AT MOST 1048576: true; the input reads as it did. -/
def fnExactModeStepUptoRow : OpenClaim := { program := "ytlilbhngffibeaa", sum := "732325db16cfe2810d36ffa8da662b3bcc5370e98cf1dba1682675ecb0ea7048", func := "loop.example/g00047/laws.FnExactModeStep", spec := "fnExactModeStep", apart := false, narrowed := true }
def FnExactModeStepUptoSaid : Prop := fnExactModeStepUptoRow.holds Try.pinned (OpenSpec.upto fnExactModeStepSpec)

/-- 'laws.FnExactGoodChores', WHERE WHAT IT READS IS OF BULK AT MOST 1048576: true; the input reads as it did. -/
def fnExactGoodChoresUptoRow : OpenClaim := { program := "ytlilbhngffibeaa", sum := "732325db16cfe2810d36ffa8da662b3bcc5370e98cf1dba1682675ecb0ea7048", func := "loop.example/g00047/laws.FnExactGoodChores", spec := "fnExactGoodChores", apart := false, narrowed := true }
def FnExactGoodChoresUptoSaid : Prop := fnExactGoodChoresUptoRow.holds Try.pinned (OpenSpec.upto fnExactGoodChoresSpec)

/-- 'laws.FnExactChargePlan', WHERE WHAT IT READS IS OF BULK AT MOST 1048576: true; the input reads as it did. -/
def fnExactChargePlanUptoRow : OpenClaim := { program := "ytlilbhngffibeaa", sum := "732325db16cfe2810d36ffa8da662b3bcc5370e98cf1dba1682675ecb0ea7048", func := "loop.example/g00047/laws.FnExactChargePlan", spec := "fnExactChargePlan", apart := false, narrowed := true }
def FnExactChargePlanUptoSaid : Prop := fnExactChargePlanUptoRow.holds Try.pinned (OpenSpec.upto fnExactChargePlanSpec)

/-- 'laws.FnExactDemandAt', WHERE WHAT IT READS IS OF BULK AT MOST 1048576: true; the input reads as it did. -/
def fnExactDemandAtUptoRow : OpenClaim := { program := "ytlilbhngffibeaa", sum := "732325db16cfe2810d36ffa8da662b3bcc5370e98cf1dba1682675ecb0ea7048", func := "loop.example/g00047/laws.FnExactDemandAt", spec := "fnExactDemandAt", apart := false, narrowed := true }
def FnExactDemandAtUptoSaid : Prop := fnExactDemandAtUptoRow.holds Try.pinned (OpenSpec.upto fnExactDemandAtSpec)

/-- 'laws.FnCharge', WHERE WHAT IT READS IS OF BULK AT MOST 1048576: true; the input reads as it did. -/
def fnChargeUptoRow : OpenClaim := { program := "ytlilbhngffibeaa", sum := "732325db16cfe2810d36ffa8da662b3bcc5370e98cf1dba1682675ecb0ea7048", func := "loop.example/g00047/laws.FnCharge", spec := "fnCharge", apart := false, narrowed := true }
def FnChargeUptoSaid : Prop := fnChargeUptoRow.holds Try.pinned (OpenSpec.upto fnChargeSpec)

/-- 'laws.FnExactCycleOf', WHERE WHAT IT READS IS OF BULK AT MOST 1048576: true; the input reads as it did. -/
def fnExactCycleOfUptoRow : OpenClaim := { program := "ytlilbhngffibeaa", sum := "732325db16cfe2810d36ffa8da662b3bcc5370e98cf1dba1682675ecb0ea7048", func := "loop.example/g00047/laws.FnExactCycleOf", spec := "fnExactCycleOf", apart := false, narrowed := true }
def FnExactCycleOfUptoSaid : Prop := fnExactCycleOfUptoRow.holds Try.pinned (OpenSpec.upto fnExactCycleOfSpec)

/-- 'laws.FnExactAnswerTimes', WHERE WHAT IT READS IS OF BULK AT MOST 1048576: true; the input reads as it did. -/
def fnExactAnswerTimesUptoRow : OpenClaim := { program := "ytlilbhngffibeaa", sum := "732325db16cfe2810d36ffa8da662b3bcc5370e98cf1dba1682675ecb0ea7048", func := "loop.example/g00047/laws.FnExactAnswerTimes", spec := "fnExactAnswerTimes", apart := false, narrowed := true }
def FnExactAnswerTimesUptoSaid : Prop := fnExactAnswerTimesUptoRow.holds Try.pinned (OpenSpec.upto fnExactAnswerTimesSpec)

/-- 'laws.FnStops', WHERE WHAT IT READS IS OF BULK AT MOST 1048576: true; the input reads as it did. -/
def fnStopsUptoRow : OpenClaim := { program := "ytlilbhngffibeaa", sum := "732325db16cfe2810d36ffa8da662b3bcc5370e98cf1dba1682675ecb0ea7048", func := "loop.example/g00047/laws.FnStops", spec := "fnStops", unfollowed := true, recurses := true, apart := false, narrowed := true }
def FnStopsUptoSaid : Prop := fnStopsUptoRow.holds Try.pinned (OpenSpec.upto fnStopsSpec)

/-- 'laws.FnExactRunStops', WHERE WHAT IT READS IS OF BULK AT MOST 1048576: true; the input reads as it did. -/
def fnExactRunStopsUptoRow : OpenClaim := { program := "ytlilbhngffibeaa", sum := "732325db16cfe2810d36ffa8da662b3bcc5370e98cf1dba1682675ecb0ea7048", func := "loop.example/g00047/laws.FnExactRunStops", spec := "fnExactRunStops", unfollowed := true, recurses := true, apart := false, narrowed := true }
def FnExactRunStopsUptoSaid : Prop := fnExactRunStopsUptoRow.holds Try.pinned (OpenSpec.upto fnExactRunStopsSpec)

end Rows
end Go.Proofs.Ytlilbhngffibeaa
