/- The common head of the texts that follow: laid by wip/assemble.py out of what the kit's print.sh has printed for this seat. -/
import Derived.Test.YthblmmighjmgpaaDoorProg
import Derived.Below
import Derived.Deep.Draws
import Derived.Deep.AppendLies
import Derived.Maps.AppendAt
import Derived.OwnWalk
import Derived.Laws.BytesArg
import Derived.Laws.MakeOwn
import Derived.Laws.OwnMore
import Derived.Deep.OwnRows
import Derived.Tactics
import Derived.Lib.ConvBytes
import Derived.Laws.Slices
import Derived.WalkKit
import Derived.KernelRfl
import Derived.RowKit3
import Derived.Deep.LoopGhost
import Derived.Deep.QuietTactic
import Derived.BigQuiet
import Derived.WideLaws
import Derived.Deep.DeepCutAuto
import Derived.Deep.CutBlock
import Derived.Deep.RegionHeld3
import Derived.Laws.Rows
import Derived.Lib.AppendStr
import Derived.ArgAppend
import Derived.Laws.IdiomCopy
import Derived.OrdersHeld
import Derived.Laws.BitsLemmas
import Derived.RowKit
import Derived.Test.YthblmmighjmgpaaDoorWWords
import Derived.Test.YthblmmighjmgpaaDoorWLast
import Derived.Test.YthblmmighjmgpaaDoorWTab
import Derived.Test.YthblmmighjmgpaaDoorWFour
import Derived.Test.YthblmmighjmgpaaDoorWQPut
import Derived.Test.YthblmmighjmgpaaDoorWApart
import Derived.Test.YthblmmighjmgpaaDoorWArr
import Derived.Test.YthblmmighjmgpaaDoorWZeros
import Derived.Test.YthblmmighjmgpaaDoorWFoot
import Derived.Test.YthblmmighjmgpaaDoorWKept
import Derived.Test.YthblmmighjmgpaaDoorWShare
import Derived.Test.YthblmmighjmgpaaDoorWN
import Derived.Test.YthblmmighjmgpaaDoorWFootNe
import Derived.Test.YthblmmighjmgpaaDoorWAt
import Derived.Test.YthblmmighjmgpaaDoorWEqStruct
import Derived.Test.YthblmmighjmgpaaDoorWRepsOne
import Derived.Test.YthblmmighjmgpaaDoorWInv
import Derived.Test.YthblmmighjmgpaaDoorWInvWords
import Derived.Test.YthblmmighjmgpaaDoorWGuard
import Derived.Test.YthblmmighjmgpaaDoorWNEv
import Derived.Test.YthblmmighjmgpaaDoorWMore
namespace Go.Proofs.YthblmmighjmgpaaDoor.Fn
open Go.RowKit Go.Proofs.YthblmmighjmgpaaDoorW.PrintWords Go.Proofs.YthblmmighjmgpaaDoorW.PrintLast Go.Proofs.YthblmmighjmgpaaDoorW.PrintMore
attribute [local go_sem] max2_int min2_int max_two min_two max_three min_three max_four min_four   -- for this text's walks alone
set_option linter.unusedVariables false
set_option linter.unusedSimpArgs false



def errW : Option Int → Value
  | none => .nilIface
  | some c => .iface 0 (.int .i64 c)
theorem errW_none : errW none = .nilIface := rfl
theorem errW_some (c : Int) : errW (some c) = .iface 0 (.int .i64 c) := rfl

theorem info5 : (Tryd.prog.info? 5).map (fun i => (i.zero, i.size, i.bytes)) = some (some (.int .u8 0), 1, 1) := by kernel_rfl
theorem info28 : (Tryd.prog.info? 28).map (fun i => (i.zero, i.size, i.bytes)) = some (some (.int .i8 0), 1, 1) := by kernel_rfl
-- the values' own types

end Go.Proofs.YthblmmighjmgpaaDoor.Fn
