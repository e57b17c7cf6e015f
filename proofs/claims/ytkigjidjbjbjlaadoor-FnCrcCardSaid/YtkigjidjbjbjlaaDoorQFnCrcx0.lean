-- Written by this session's own program for the law FnCrc; it began as the print's text.
import Derived.Test.YtkigjidjbjbjlaaDoorProg
import Derived.Below
import Derived.Deep.Draws
import Derived.Deep.AppendLies
import Derived.Maps.AppendAt
import Derived.OwnWalk
import Derived.Laws.BytesArg
import Derived.Laws.MakeOwn
import Derived.Laws.OwnMore
import Derived.Deep.OwnRows
import Derived.Tactics
import Derived.Lib.ConvBytes
import Derived.Laws.Slices
import Derived.WalkKit
import Derived.KernelRfl
import Derived.RowKit3
import Derived.Deep.LoopGhost
import Derived.Deep.QuietTactic
import Derived.BigQuiet
import Derived.WideLaws
import Derived.Deep.DeepCutAuto
import Derived.Deep.CutBlock
import Derived.Deep.RegionHeld3
import Derived.Laws.Rows
import Derived.Lib.SliceRun
import Derived.Lib.AppendStr
import Derived.ArgAppend
import Derived.Laws.IdiomCopy
import Derived.OrdersHeld
import Derived.Laws.BitsLemmas
import Derived.RowKit
import Derived.Test.YtkigjidjbjbjlaaDoorWWords
import Derived.Test.YtkigjidjbjbjlaaDoorWLast
import Derived.Test.YtkigjidjbjbjlaaDoorWTab
import Derived.Test.YtkigjidjbjbjlaaDoorWFour
import Derived.Test.YtkigjidjbjbjlaaDoorWQPut
import Derived.Test.YtkigjidjbjbjlaaDoorWApart
import Derived.Test.YtkigjidjbjbjlaaDoorWArr
import Derived.Test.YtkigjidjbjbjlaaDoorWZeros
import Derived.Test.YtkigjidjbjbjlaaDoorWFoot
import Derived.Test.YtkigjidjbjbjlaaDoorWKept
import Derived.Test.YtkigjidjbjbjlaaDoorWShare
import Derived.Test.YtkigjidjbjbjlaaDoorWN
import Derived.Test.YtkigjidjbjbjlaaDoorWFootNe
import Derived.Test.YtkigjidjbjbjlaaDoorWAt
import Derived.Test.YtkigjidjbjbjlaaDoorWEqStruct
import Derived.Test.YtkigjidjbjbjlaaDoorWRepsOne
import Derived.Test.YtkigjidjbjbjlaaDoorWInv
import Derived.Test.YtkigjidjbjbjlaaDoorWInvWords
import Derived.Test.YtkigjidjbjbjlaaDoorWGuard
import Derived.Test.YtkigjidjbjbjlaaDoorWNEv
import Derived.Test.YtkigjidjbjbjlaaDoorWMore
namespace Go.Proofs.YtkigjidjbjbjlaaDoor.PFnCrc
open Go.RowKit Go.Proofs.YtkigjidjbjbjlaaDoorW.PrintWords Go.Proofs.YtkigjidjbjbjlaaDoorW.PrintLast Go.Proofs.YtkigjidjbjbjlaaDoorW.PrintMore
attribute [local go_sem] max2_int min2_int max_two min_two max_three min_three max_four min_four   -- for this text's walks alone
set_option linter.unusedVariables false
set_option linter.unusedSimpArgs false



def errW : Option Int → Value
  | none => .nilIface
  | some c => .iface 0 (.int .i64 c)
theorem errW_none : errW none = .nilIface := rfl
theorem errW_some (c : Int) : errW (some c) = .iface 0 (.int .i64 c) := rfl

theorem info5 : (Tryd.prog.info? 5).map (fun i => (i.zero, i.size, i.bytes)) = some (some (.int .u8 0), 1, 1) := by kernel_rfl
-- the values' own types

end Go.Proofs.YtkigjidjbjbjlaaDoor.PFnCrc
