-- Written by this session's own program for the law FnCharge; it began as the print's text.
import Derived.Test.YtlilbhngffibeaaProg
import Derived.Below
import Derived.Deep.Draws
import Derived.Deep.AppendLies
import Derived.Maps.AppendAt
import Derived.OwnWalk
import Derived.Laws.BytesArg
import Derived.Laws.MakeOwn
import Derived.Laws.OwnMore
import Derived.Deep.OwnRows
import Derived.Tactics
import Derived.Lib.ConvBytes
import Derived.Laws.Slices
import Derived.WalkKit
import Derived.KernelRfl
import Derived.RowKit3
import Derived.Deep.LoopGhost
import Derived.Deep.QuietTactic
import Derived.BigQuiet
import Derived.WideLaws
import Derived.Deep.DeepCutAuto
import Derived.Deep.CutBlock
import Derived.Deep.RegionHeld3
import Derived.Laws.Rows
import Derived.Lib.SliceRun
import Derived.Lib.AppendStr
import Derived.ArgAppend
import Derived.Laws.IdiomCopy
import Derived.OrdersHeld
import Derived.Laws.BitsLemmas
import Derived.RowKit
import Derived.Test.YtlilbhngffibeaaWWords
import Derived.Test.YtlilbhngffibeaaWLast
import Derived.Test.YtlilbhngffibeaaWTab
import Derived.Test.YtlilbhngffibeaaWFour
import Derived.Test.YtlilbhngffibeaaWQPut
import Derived.Test.YtlilbhngffibeaaWApart
import Derived.Test.YtlilbhngffibeaaWArr
import Derived.Test.YtlilbhngffibeaaWZeros
import Derived.Test.YtlilbhngffibeaaWFoot
import Derived.Test.YtlilbhngffibeaaWKept
import Derived.Test.YtlilbhngffibeaaWShare
import Derived.Test.YtlilbhngffibeaaWN
import Derived.Test.YtlilbhngffibeaaWFootNe
import Derived.Test.YtlilbhngffibeaaWAt
import Derived.Test.YtlilbhngffibeaaWEqStruct
import Derived.Test.YtlilbhngffibeaaWRepsOne
import Derived.Test.YtlilbhngffibeaaWInv
import Derived.Test.YtlilbhngffibeaaWInvWords
import Derived.Test.YtlilbhngffibeaaWGuard
import Derived.Test.YtlilbhngffibeaaWNEv
import Derived.Test.YtlilbhngffibeaaWMore
namespace Go.Proofs.Ytlilbhngffibeaa.PFnCharge
open Go.RowKit Go.Proofs.YtlilbhngffibeaaW.PrintWords Go.Proofs.YtlilbhngffibeaaW.PrintLast Go.Proofs.YtlilbhngffibeaaW.PrintMore
attribute [local go_sem] max2_int min2_int max_two min_two max_three min_three max_four min_four   -- for this text's walks alone
set_option linter.unusedVariables false
set_option linter.unusedSimpArgs false



def errW : Option Int → Value
  | none => .nilIface
  | some c => .iface 0 (.int .i64 c)
theorem errW_none : errW none = .nilIface := rfl
theorem errW_some (c : Int) : errW (some c) = .iface 0 (.int .i64 c) := rfl

theorem info3 : (Try.prog.info? 3).map (fun i => (i.zero, i.size, i.bytes)) = some (some (.int .i64 0), 1, 8) := by kernel_rfl
theorem info4 : (Try.prog.info? 4).map (fun i => (i.zero, i.size, i.bytes)) = some (some (.bool false), 1, 1) := by kernel_rfl
-- the values' own types

end Go.Proofs.Ytlilbhngffibeaa.PFnCharge
