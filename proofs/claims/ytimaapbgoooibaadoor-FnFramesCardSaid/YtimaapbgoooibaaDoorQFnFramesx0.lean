-- Written by this session's own program for the law FnFrames; it began as the print's text.
import Derived.Test.YtimaapbgoooibaaDoorProg
import Derived.Below
import Derived.Deep.Draws
import Derived.Deep.AppendLies
import Derived.Maps.AppendAt
import Derived.OwnWalk
import Derived.Laws.BytesArg
import Derived.Laws.MakeOwn
import Derived.Laws.OwnMore
import Derived.Deep.OwnRows
import Derived.Tactics
import Derived.Lib.ConvBytes
import Derived.Laws.Slices
import Derived.WalkKit
import Derived.KernelRfl
import Derived.RowKit3
import Derived.Deep.LoopGhost
import Derived.Deep.QuietTactic
import Derived.BigQuiet
import Derived.WideLaws
import Derived.Deep.DeepCutAuto
import Derived.Deep.CutBlock
import Derived.Deep.RegionHeld3
import Derived.Laws.Rows
import Derived.Lib.SliceRun
import Derived.Lib.AppendStr
import Derived.ArgAppend
import Derived.Laws.IdiomCopy
import Derived.OrdersHeld
import Derived.Laws.BitsLemmas
import Derived.RowKit
import Derived.Test.YtimaapbgoooibaaDoorWWords
import Derived.Test.YtimaapbgoooibaaDoorWLast
import Derived.Test.YtimaapbgoooibaaDoorWTab
import Derived.Test.YtimaapbgoooibaaDoorWFour
import Derived.Test.YtimaapbgoooibaaDoorWQPut
import Derived.Test.YtimaapbgoooibaaDoorWApart
import Derived.Test.YtimaapbgoooibaaDoorWArr
import Derived.Test.YtimaapbgoooibaaDoorWZeros
import Derived.Test.YtimaapbgoooibaaDoorWFoot
import Derived.Test.YtimaapbgoooibaaDoorWKept
import Derived.Test.YtimaapbgoooibaaDoorWShare
import Derived.Test.YtimaapbgoooibaaDoorWN
import Derived.Test.YtimaapbgoooibaaDoorWFootNe
import Derived.Test.YtimaapbgoooibaaDoorWAt
import Derived.Test.YtimaapbgoooibaaDoorWEqStruct
import Derived.Test.YtimaapbgoooibaaDoorWRepsOne
import Derived.Test.YtimaapbgoooibaaDoorWInv
import Derived.Test.YtimaapbgoooibaaDoorWInvWords
import Derived.Test.YtimaapbgoooibaaDoorWGuard
import Derived.Test.YtimaapbgoooibaaDoorWNEv
import Derived.Test.YtimaapbgoooibaaDoorWMore
namespace Go.Proofs.YtimaapbgoooibaaDoor.PFnFrames
open Go.RowKit Go.Proofs.YtimaapbgoooibaaDoorW.PrintWords Go.Proofs.YtimaapbgoooibaaDoorW.PrintLast Go.Proofs.YtimaapbgoooibaaDoorW.PrintMore
attribute [local go_sem] max2_int min2_int max_two min_two max_three min_three max_four min_four   -- for this text's walks alone
set_option linter.unusedVariables false
set_option linter.unusedSimpArgs false



def errW : Option Int → Value
  | none => .nilIface
  | some c => .iface 0 (.int .i64 c)
theorem errW_none : errW none = .nilIface := rfl
theorem errW_some (c : Int) : errW (some c) = .iface 0 (.int .i64 c) := rfl

theorem info3 : (Tryd.prog.info? 3).map (fun i => (i.zero, i.size, i.bytes)) = some (some (.int .i64 0), 1, 8) := by kernel_rfl
theorem info5 : (Tryd.prog.info? 5).map (fun i => (i.zero, i.size, i.bytes)) = some (some (.int .u8 0), 1, 1) := by kernel_rfl
-- the values' own types

end Go.Proofs.YtimaapbgoooibaaDoor.PFnFrames
