/-
  No cell of these rows narrows 'for every input' (looked for: loops, veiled, ifaces, maps, wideKeys, modest, calm, conditions, laid).
  DERIVED. THE GIVEN ROWS OF THIS SEAT. 8 by the template 'for every input the law returns true; each argument reads behind the call as it read before'; 0 by the template 'total and deterministic' (their statements: YtmlejakajcmbdaaTotals.lean).
  GIVEN WITH THE SEED: the statements are not yours to turn. If you find one false, say at which input.
  Laid BY PROGRAM, IN A SANDBOX (cutbox-rows.mjs): the forced cells as the released guide's own fill.sh prints them over the translation cffd5d362d594a38… (all of the seat's roots in one cut). By AI agents, Wed Nov 11 2026. No macro, syntax, notation, axiom, sorry.
-/
import Derived.Test.YtmlejakajcmbdaaChecked
import GoSem.Claim
import GoSem.ClaimJoined
import GoSem.ClaimMapViews
import Derived.JoinedTies
import Derived.KernelRfl
namespace Go.Proofs.Ytmlejakajcmbdaa
/- THE CELL 'sum', in the pinned program and in every row, IS THE sha256 OF THE DUMP (.gsa) THAT YtmlejakajcmbdaaProg.lean LOADS. Nothing in Lean hashes anything: it is a label: what it is worth is what the hold of that sum in a sandbox is worth. -/
noncomputable def Try.pinned : Pinned := { name := "ytmlejakajcmbdaa", sum := "cffd5d362d594a384e16911be3075a873b7fc650a712e13793ff45a8ac3e7981", checked := Try.checked }
namespace Rows
def none {H : Type} : Left H := { results := [], args := [] }

/-- 'laws.FnExactKeepLast': WHATEVER THE INPUT: true; the input reads as it did. -/
def fnExactKeepLastSpec : ChangeSpec := { name := "fnExactKeepLast", fn := fun _ => fun
  | [d1, d2, d3] => { results := [.lit (.bool true)], args := [d1, d2, d3] }
  | _ => none }
def fnExactKeepLastRow : OpenClaim := { program := "ytmlejakajcmbdaa", sum := "cffd5d362d594a384e16911be3075a873b7fc650a712e13793ff45a8ac3e7981", func := "loop.example/g00047/laws.FnExactKeepLast", spec := "fnExactKeepLast", apart := false }
def FnExactKeepLastSaid : Prop := fnExactKeepLastRow.holds Try.pinned (OpenSpec.ofChange fnExactKeepLastSpec)

/-- ITS FALSE NEIGHBOUR: 'it returns false'. Refute it at one input. -/
def fnExactKeepLastWrong : ChangeSpec := { name := "fnExactKeepLast", fn := fun _ => fun
  | [d1, d2, d3] => { results := [.lit (.bool false)], args := [d1, d2, d3] }
  | _ => none }
def FnExactKeepLastWrongFalsely : Prop := fnExactKeepLastRow.holds Try.pinned (OpenSpec.ofChange fnExactKeepLastWrong)

/-- 'laws.FnKept': WHATEVER THE INPUT: true; the input reads as it did. -/
def fnKeptSpec : ChangeSpec := { name := "fnKept", fn := fun _ => fun
  | [d] => { results := [.lit (.bool true)], args := [d] }
  | _ => none }
def fnKeptRow : OpenClaim := { program := "ytmlejakajcmbdaa", sum := "cffd5d362d594a384e16911be3075a873b7fc650a712e13793ff45a8ac3e7981", func := "loop.example/g00047/laws.FnKept", spec := "fnKept", apart := false }
def FnKeptSaid : Prop := fnKeptRow.holds Try.pinned (OpenSpec.ofChange fnKeptSpec)

/-- ITS FALSE NEIGHBOUR: 'it returns false'. Refute it at one input. -/
def fnKeptWrong : ChangeSpec := { name := "fnKept", fn := fun _ => fun
  | [d] => { results := [.lit (.bool false)], args := [d] }
  | _ => none }
def FnKeptWrongFalsely : Prop := fnKeptRow.holds Try.pinned (OpenSpec.ofChange fnKeptWrong)

/-- 'laws.FnExactTakeParcels': WHATEVER THE INPUT: true; the input reads as it did. -/
def fnExactTakeParcelsSpec : ChangeSpec := { name := "fnExactTakeParcels", fn := fun _ => fun
  | [d1, d2] => { results := [.lit (.bool true)], args := [d1, d2] }
  | _ => none }
def fnExactTakeParcelsRow : OpenClaim := { program := "ytmlejakajcmbdaa", sum := "cffd5d362d594a384e16911be3075a873b7fc650a712e13793ff45a8ac3e7981", func := "loop.example/g00047/laws.FnExactTakeParcels", spec := "fnExactTakeParcels", apart := false }
def FnExactTakeParcelsSaid : Prop := fnExactTakeParcelsRow.holds Try.pinned (OpenSpec.ofChange fnExactTakeParcelsSpec)

/-- ITS FALSE NEIGHBOUR: 'it returns false'. Refute it at one input. -/
def fnExactTakeParcelsWrong : ChangeSpec := { name := "fnExactTakeParcels", fn := fun _ => fun
  | [d1, d2] => { results := [.lit (.bool false)], args := [d1, d2] }
  | _ => none }
def FnExactTakeParcelsWrongFalsely : Prop := fnExactTakeParcelsRow.holds Try.pinned (OpenSpec.ofChange fnExactTakeParcelsWrong)

/-- 'laws.FnMerge': WHATEVER THE INPUT: true; the input reads as it did. -/
def fnMergeSpec : ChangeSpec := { name := "fnMerge", fn := fun _ => fun
  | [d] => { results := [.lit (.bool true)], args := [d] }
  | _ => none }
def fnMergeRow : OpenClaim := { program := "ytmlejakajcmbdaa", sum := "cffd5d362d594a384e16911be3075a873b7fc650a712e13793ff45a8ac3e7981", func := "loop.example/g00047/laws.FnMerge", spec := "fnMerge", apart := false }
def FnMergeSaid : Prop := fnMergeRow.holds Try.pinned (OpenSpec.ofChange fnMergeSpec)

/-- ITS FALSE NEIGHBOUR: 'it returns false'. Refute it at one input. -/
def fnMergeWrong : ChangeSpec := { name := "fnMerge", fn := fun _ => fun
  | [d] => { results := [.lit (.bool false)], args := [d] }
  | _ => none }
def FnMergeWrongFalsely : Prop := fnMergeRow.holds Try.pinned (OpenSpec.ofChange fnMergeWrong)

/-- 'laws.FnExactSendNext': WHATEVER THE INPUT: true; the input reads as it did. -/
def fnExactSendNextSpec : ChangeSpec := { name := "fnExactSendNext", fn := fun _ => fun
  | [d1, d2] => { results := [.lit (.bool true)], args := [d1, d2] }
  | _ => none }
def fnExactSendNextRow : OpenClaim := { program := "ytmlejakajcmbdaa", sum := "cffd5d362d594a384e16911be3075a873b7fc650a712e13793ff45a8ac3e7981", func := "loop.example/g00047/laws.FnExactSendNext", spec := "fnExactSendNext", apart := false }
def FnExactSendNextSaid : Prop := fnExactSendNextRow.holds Try.pinned (OpenSpec.ofChange fnExactSendNextSpec)

/-- ITS FALSE NEIGHBOUR: 'it returns false'. Refute it at one input. -/
def fnExactSendNextWrong : ChangeSpec := { name := "fnExactSendNext", fn := fun _ => fun
  | [d1, d2] => { results := [.lit (.bool false)], args := [d1, d2] }
  | _ => none }
def FnExactSendNextWrongFalsely : Prop := fnExactSendNextRow.holds Try.pinned (OpenSpec.ofChange fnExactSendNextWrong)

/-- 'laws.FnExactMergeStamped': WHATEVER THE INPUT: true; the input reads as it did. -/
def fnExactMergeStampedSpec : ChangeSpec := { name := "fnExactMergeStamped", fn := fun _ => fun
  | [d1, d2] => { results := [.lit (.bool true)], args := [d1, d2] }
  | _ => none }
def fnExactMergeStampedRow : OpenClaim := { program := "ytmlejakajcmbdaa", sum := "cffd5d362d594a384e16911be3075a873b7fc650a712e13793ff45a8ac3e7981", func := "loop.example/g00047/laws.FnExactMergeStamped", spec := "fnExactMergeStamped", apart := false }
def FnExactMergeStampedSaid : Prop := fnExactMergeStampedRow.holds Try.pinned (OpenSpec.ofChange fnExactMergeStampedSpec)

/-- ITS FALSE NEIGHBOUR: 'it returns false'. Refute it at one input. -/
def fnExactMergeStampedWrong : ChangeSpec := { name := "fnExactMergeStamped", fn := fun _ => fun
  | [d1, d2] => { results := [.lit (.bool false)], args := [d1, d2] }
  | _ => none }
def FnExactMergeStampedWrongFalsely : Prop := fnExactMergeStampedRow.holds Try.pinned (OpenSpec.ofChange fnExactMergeStampedWrong)

/-- 'laws.FnExactTalkAll': WHATEVER THE INPUT: true; the input reads as it did. -/
def fnExactTalkAllSpec : ChangeSpec := { name := "fnExactTalkAll", fn := fun _ => fun
  | [d1, d2, d3, d4, d5] => { results := [.lit (.bool true)], args := [d1, d2, d3, d4, d5] }
  | _ => none }
def fnExactTalkAllRow : OpenClaim := { program := "ytmlejakajcmbdaa", sum := "cffd5d362d594a384e16911be3075a873b7fc650a712e13793ff45a8ac3e7981", func := "loop.example/g00047/laws.FnExactTalkAll", spec := "fnExactTalkAll", apart := false }
def FnExactTalkAllSaid : Prop := fnExactTalkAllRow.holds Try.pinned (OpenSpec.ofChange fnExactTalkAllSpec)

/-- ITS FALSE NEIGHBOUR: 'it returns false'. Refute it at one input. -/
def fnExactTalkAllWrong : ChangeSpec := { name := "fnExactTalkAll", fn := fun _ => fun
  | [d1, d2, d3, d4, d5] => { results := [.lit (.bool false)], args := [d1, d2, d3, d4, d5] }
  | _ => none }
def FnExactTalkAllWrongFalsely : Prop := fnExactTalkAllRow.holds Try.pinned (OpenSpec.ofChange fnExactTalkAllWrong)

/-- 'laws.FnTalk': WHATEVER THE INPUT: true; the input reads as it did. -/
def fnTalkSpec : ChangeSpec := { name := "fnTalk", fn := fun _ => fun
  | [d] => { results := [.lit (.bool true)], args := [d] }
  | _ => none }
def fnTalkRow : OpenClaim := { program := "ytmlejakajcmbdaa", sum := "cffd5d362d594a384e16911be3075a873b7fc650a712e13793ff45a8ac3e7981", func := "loop.example/g00047/laws.FnTalk", spec := "fnTalk", apart := false }
def FnTalkSaid : Prop := fnTalkRow.holds Try.pinned (OpenSpec.ofChange fnTalkSpec)

/-- ITS FALSE NEIGHBOUR: 'it returns false'. Refute it at one input. -/
def fnTalkWrong : ChangeSpec := { name := "fnTalk", fn := fun _ => fun
  | [d] => { results := [.lit (.bool false)], args := [d] }
  | _ => none }
def FnTalkWrongFalsely : Prop := fnTalkRow.holds Try.pinned (OpenSpec.ofChange fnTalkWrong)

/- THE SECOND FORM. 'bulk': how many values and letters a reading holds, each counted each time it is reached (what is shared counts as often as it is met; a slice's spare places count too). A statement '..UptoSaid' is the law's where the arguments, and the package variables that the reading takes, are together of bulk at most 1048576: NARROWER than '..Said'. Prove '..Said' where nothing that the law and all that it calls make is longer than what came in: it says more and counts as full. Else prove '..UptoSaid'. A law counts once. -/
mutual
def uptoBulk {H : Type} : DataW H → Nat
  | .lit (.string bytes) => bytes.length + 1
  | .lit _ => 1
  | .nil => 1
  | .ptr d => uptoBulk d + 1
  | .slice elems spare => uptoBulkAll elems + uptoBulkAll spare + 1
  | .agg parts => uptoBulkAll parts + 1
  | .iface _ d => uptoBulk d + 1
  | .map entries => uptoBulkEntries entries + 1
  | .held _ => 1
def uptoBulkAll {H : Type} : List (DataW H) → Nat
  | [] => 0
  | d :: r => uptoBulk d + uptoBulkAll r
def uptoBulkEntries {H : Type} : List (Lit × DataW H) → Nat
  | [] => 0
  | x :: r => uptoBulkEntry x + uptoBulkEntries r
def uptoBulkEntry {H : Type} : Lit × DataW H → Nat
  | (.string bytes, d) => bytes.length + uptoBulk d + 1
  | (_, d) => uptoBulk d + 1
 end
def uptoSmall : (H : Type) → List (DataW H) → Bool := fun _ ds => decide (uptoBulkAll ds ≤ 1048576)
def OpenSpec.upto (s : _root_.Go.ChangeSpec) : _root_.Go.OpenSpec := { _root_.Go.OpenSpec.ofChange s with cond := some uptoSmall }

/-- 'laws.FnExactKeepLast', WHERE WHAT IT READS IS OF BULK AT MOST 1048576: true; the input reads as it did. -/
def fnExactKeepLastUptoRow : OpenClaim := { program := "ytmlejakajcmbdaa", sum := "cffd5d362d594a384e16911be3075a873b7fc650a712e13793ff45a8ac3e7981", func := "loop.example/g00047/laws.FnExactKeepLast", spec := "fnExactKeepLast", apart := false, narrowed := true }
def FnExactKeepLastUptoSaid : Prop := fnExactKeepLastUptoRow.holds Try.pinned (OpenSpec.upto fnExactKeepLastSpec)

/-- 'laws.FnKept', WHERE WHAT IT READS IS OF BULK AT MOST 1048576: true; the input reads as it did. -/
def fnKeptUptoRow : OpenClaim := { program := "ytmlejakajcmbdaa", sum := "cffd5d362d594a384e16911be3075a873b7fc650a712e13793ff45a8ac3e7981", func := "loop.example/g00047/laws.FnKept", spec := "fnKept", apart := false, narrowed := true }
def FnKeptUptoSaid : Prop := fnKeptUptoRow.holds Try.pinned (OpenSpec.upto fnKeptSpec)

/-- 'laws.FnExactTakeParcels', WHERE WHAT IT READS IS OF BULK AT MOST 1048576: true; the input reads as it did. -/
def fnExactTakeParcelsUptoRow : OpenClaim := { program := "ytmlejakajcmbdaa", sum := "cffd5d362d594a384e16911be3075a873b7fc650a712e13793ff45a8ac3e7981", func := "loop.example/g00047/laws.FnExactTakeParcels", spec := "fnExactTakeParcels", apart := false, narrowed := true }
def FnExactTakeParcelsUptoSaid : Prop := fnExactTakeParcelsUptoRow.holds Try.pinned (OpenSpec.upto fnExactTakeParcelsSpec)

/-- 'laws.FnMerge', WHERE WHAT IT READS IS OF BULK AT MOST 1048576: true; the input reads as it did. -/
def fnMergeUptoRow : OpenClaim := { program := "ytmlejakajcmbdaa", sum := "cffd5d362d594a384e16911be3075a873b7fc650a712e13793ff45a8ac3e7981", func := "loop.example/g00047/laws.FnMerge", spec := "fnMerge", apart := false, narrowed := true }
def FnMergeUptoSaid : Prop := fnMergeUptoRow.holds Try.pinned (OpenSpec.upto fnMergeSpec)

/-- 'laws.FnExactSendNext', WHERE WHAT IT READS IS OF BULK AT MOST 1048576: true; the input reads as it did. -/
def fnExactSendNextUptoRow : OpenClaim := { program := "ytmlejakajcmbdaa", sum := "cffd5d362d594a384e16911be3075a873b7fc650a712e13793ff45a8ac3e7981", func := "loop.example/g00047/laws.FnExactSendNext", spec := "fnExactSendNext", apart := false, narrowed := true }
def FnExactSendNextUptoSaid : Prop := fnExactSendNextUptoRow.holds Try.pinned (OpenSpec.upto fnExactSendNextSpec)

/-- 'laws.FnExactMergeStamped', WHERE WHAT IT READS IS OF BULK AT MOST 1048576: true; the input reads as it did. -/
def fnExactMergeStampedUptoRow : OpenClaim := { program := "ytmlejakajcmbdaa", sum := "cffd5d362d594a384e16911be3075a873b7fc650a712e13793ff45a8ac3e7981", func := "loop.example/g00047/laws.FnExactMergeStamped", spec := "fnExactMergeStamped", apart := false, narrowed := true }
def FnExactMergeStampedUptoSaid : Prop := fnExactMergeStampedUptoRow.holds Try.pinned (OpenSpec.upto fnExactMergeStampedSpec)

/-- 'laws.FnExactTalkAll', WHERE WHAT IT READS IS OF BULK AT MOST 1048576: true; the input reads as it did. -/
def fnExactTalkAllUptoRow : OpenClaim := { program := "ytmlejakajcmbdaa", sum := "cffd5d362d594a384e16911be3075a873b7fc650a712e13793ff45a8ac3e7981", func := "loop.example/g00047/laws.FnExactTalkAll", spec := "fnExactTalkAll", apart := false, narrowed := true }
def FnExactTalkAllUptoSaid : Prop := fnExactTalkAllUptoRow.holds Try.pinned (OpenSpec.upto fnExactTalkAllSpec)

/-- 'laws.FnTalk', WHERE WHAT IT READS IS OF BULK AT MOST 1048576: true; the input reads as it did. -/
def fnTalkUptoRow : OpenClaim := { program := "ytmlejakajcmbdaa", sum := "cffd5d362d594a384e16911be3075a873b7fc650a712e13793ff45a8ac3e7981", func := "loop.example/g00047/laws.FnTalk", spec := "fnTalk", apart := false, narrowed := true }
def FnTalkUptoSaid : Prop := fnTalkUptoRow.holds Try.pinned (OpenSpec.upto fnTalkSpec)

end Rows
end Go.Proofs.Ytmlejakajcmbdaa
