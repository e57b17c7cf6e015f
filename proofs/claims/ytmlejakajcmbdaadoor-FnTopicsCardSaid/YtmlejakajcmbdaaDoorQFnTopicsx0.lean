-- Written by this session's own program for the law FnTopics; it began as the print's text.
import Derived.Test.YtmlejakajcmbdaaDoorProg
import Derived.Below
import Derived.Deep.Draws
import Derived.Deep.AppendLies
import Derived.Maps.AppendAt
import Derived.OwnWalk
import Derived.Laws.BytesArg
import Derived.Laws.MakeOwn
import Derived.Laws.OwnMore
import Derived.Deep.OwnRows
import Derived.Tactics
import Derived.Lib.ConvBytes
import Derived.Laws.Slices
import Derived.WalkKit
import Derived.KernelRfl
import Derived.RowKit3
import Derived.Deep.LoopGhost
import Derived.Deep.QuietTactic
import Derived.BigQuiet
import Derived.WideLaws
import Derived.Deep.DeepCutAuto
import Derived.Deep.CutBlock
import Derived.Deep.RegionHeld3
import Derived.Laws.Rows
import Derived.Lib.SliceRun
import Derived.Lib.AppendStr
import Derived.ArgAppend
import Derived.Laws.IdiomCopy
import Derived.OrdersHeld
import Derived.Laws.BitsLemmas
import Derived.RowKit
import Derived.Test.YtmlejakajcmbdaaDoorWWords
import Derived.Test.YtmlejakajcmbdaaDoorWLast
import Derived.Test.YtmlejakajcmbdaaDoorWTab
import Derived.Test.YtmlejakajcmbdaaDoorWFour
import Derived.Test.YtmlejakajcmbdaaDoorWQPut
import Derived.Test.YtmlejakajcmbdaaDoorWApart
import Derived.Test.YtmlejakajcmbdaaDoorWArr
import Derived.Test.YtmlejakajcmbdaaDoorWZeros
import Derived.Test.YtmlejakajcmbdaaDoorWFoot
import Derived.Test.YtmlejakajcmbdaaDoorWKept
import Derived.Test.YtmlejakajcmbdaaDoorWShare
import Derived.Test.YtmlejakajcmbdaaDoorWN
import Derived.Test.YtmlejakajcmbdaaDoorWFootNe
import Derived.Test.YtmlejakajcmbdaaDoorWAt
import Derived.Test.YtmlejakajcmbdaaDoorWEqStruct
import Derived.Test.YtmlejakajcmbdaaDoorWRepsOne
import Derived.Test.YtmlejakajcmbdaaDoorWInv
import Derived.Test.YtmlejakajcmbdaaDoorWInvWords
import Derived.Test.YtmlejakajcmbdaaDoorWGuard
import Derived.Test.YtmlejakajcmbdaaDoorWNEv
import Derived.Test.YtmlejakajcmbdaaDoorWMore
namespace Go.Proofs.YtmlejakajcmbdaaDoor.PFnTopics
open Go.RowKit Go.Proofs.YtmlejakajcmbdaaDoorW.PrintWords Go.Proofs.YtmlejakajcmbdaaDoorW.PrintLast Go.Proofs.YtmlejakajcmbdaaDoorW.PrintMore
attribute [local go_sem] max2_int min2_int max_two min_two max_three min_three max_four min_four   -- for this text's walks alone
set_option linter.unusedVariables false
set_option linter.unusedSimpArgs false



def errW : Option Int → Value
  | none => .nilIface
  | some c => .iface 0 (.int .i64 c)
theorem errW_none : errW none = .nilIface := rfl
theorem errW_some (c : Int) : errW (some c) = .iface 0 (.int .i64 c) := rfl

theorem info5 : (Tryd.prog.info? 5).map (fun i => (i.zero, i.size, i.bytes)) = some (some (.int .u8 0), 1, 1) := by kernel_rfl
theorem info9 : (Tryd.prog.info? 9).map (fun i => (i.zero, i.size, i.bytes)) = some (some (.string ⟨#[]⟩), 1, 16) := by kernel_rfl
-- the values' own types

end Go.Proofs.YtmlejakajcmbdaaDoor.PFnTopics
