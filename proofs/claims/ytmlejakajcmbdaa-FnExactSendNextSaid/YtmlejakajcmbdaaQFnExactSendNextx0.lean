-- Written by this session's own program for the law FnExactSendNext; it began as the print's text.
import Derived.Test.YtmlejakajcmbdaaProg
import Derived.Below
import Derived.Deep.Draws
import Derived.Deep.AppendLies
import Derived.Maps.AppendAt
import Derived.OwnWalk
import Derived.Laws.BytesArg
import Derived.Laws.MakeOwn
import Derived.Laws.OwnMore
import Derived.Deep.OwnRows
import Derived.Tactics
import Derived.Lib.ConvBytes
import Derived.Laws.Slices
import Derived.WalkKit
import Derived.KernelRfl
import Derived.RowKit3
import Derived.Deep.LoopGhost
import Derived.Deep.QuietTactic
import Derived.BigQuiet
import Derived.WideLaws
import Derived.Deep.DeepCutAuto
import Derived.Deep.CutBlock
import Derived.Deep.RegionHeld3
import Derived.Laws.Rows
import Derived.Lib.SliceRun
import Derived.Lib.AppendStr
import Derived.ArgAppend
import Derived.Laws.IdiomCopy
import Derived.OrdersHeld
import Derived.Laws.BitsLemmas
import Derived.RowKit
import Derived.Test.YtmlejakajcmbdaaWWords
import Derived.Test.YtmlejakajcmbdaaWLast
import Derived.Test.YtmlejakajcmbdaaWTab
import Derived.Test.YtmlejakajcmbdaaWFour
import Derived.Test.YtmlejakajcmbdaaWQPut
import Derived.Test.YtmlejakajcmbdaaWApart
import Derived.Test.YtmlejakajcmbdaaWArr
import Derived.Test.YtmlejakajcmbdaaWZeros
import Derived.Test.YtmlejakajcmbdaaWFoot
import Derived.Test.YtmlejakajcmbdaaWKept
import Derived.Test.YtmlejakajcmbdaaWShare
import Derived.Test.YtmlejakajcmbdaaWN
import Derived.Test.YtmlejakajcmbdaaWFootNe
import Derived.Test.YtmlejakajcmbdaaWAt
import Derived.Test.YtmlejakajcmbdaaWEqStruct
import Derived.Test.YtmlejakajcmbdaaWRepsOne
import Derived.Test.YtmlejakajcmbdaaWInv
import Derived.Test.YtmlejakajcmbdaaWInvWords
import Derived.Test.YtmlejakajcmbdaaWGuard
import Derived.Test.YtmlejakajcmbdaaWNEv
import Derived.Test.YtmlejakajcmbdaaWMore
namespace Go.Proofs.Ytmlejakajcmbdaa.PFnExactSendNext
open Go.RowKit Go.Proofs.YtmlejakajcmbdaaW.PrintWords Go.Proofs.YtmlejakajcmbdaaW.PrintLast Go.Proofs.YtmlejakajcmbdaaW.PrintMore
attribute [local go_sem] max2_int min2_int max_two min_two max_three min_three max_four min_four   -- for this text's walks alone
set_option linter.unusedVariables false
set_option linter.unusedSimpArgs false



def errW : Option Int → Value
  | none => .nilIface
  | some c => .iface 0 (.int .i64 c)
theorem errW_none : errW none = .nilIface := rfl
theorem errW_some (c : Int) : errW (some c) = .iface 0 (.int .i64 c) := rfl

theorem info3 : (Try.prog.info? 3).map (fun i => (i.zero, i.size, i.bytes)) = some (some (.int .i64 0), 1, 8) := by kernel_rfl
-- the values' own types

end Go.Proofs.Ytmlejakajcmbdaa.PFnExactSendNext
