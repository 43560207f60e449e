/- Contracts of the functions that FnExactDragSash reaches: own text, written by reown.py after the print's pattern. No condition. -/
import Derived.Test.YtkecldjkakkgoaaProg
import Derived.Below
import Derived.Deep.Draws
import Derived.Deep.AppendLies
import Derived.Maps.AppendAt
import Derived.OwnWalk
import Derived.Laws.BytesArg
import Derived.Laws.MakeOwn
import Derived.Laws.OwnMore
import Derived.Deep.OwnRows
import Derived.Tactics
import Derived.Lib.ConvBytes
import Derived.Laws.Slices
import Derived.WalkKit
import Derived.KernelRfl
import Derived.RowKit3
import Derived.Deep.LoopGhost
import Derived.Deep.QuietTactic
import Derived.BigQuiet
import Derived.WideLaws
import Derived.Deep.DeepCutAuto
import Derived.Deep.CutBlock
import Derived.Deep.RegionHeld3
import Derived.Laws.Rows
import Derived.Lib.AppendStr
import Derived.ArgAppend
import Derived.Laws.IdiomCopy
import Derived.OrdersHeld
import Derived.Laws.BitsLemmas
import Derived.RowKit
import Derived.Test.YtkecldjkakkgoaaWWords
import Derived.Test.YtkecldjkakkgoaaWLast
import Derived.Test.YtkecldjkakkgoaaWTab
import Derived.Test.YtkecldjkakkgoaaWQPut
import Derived.Test.YtkecldjkakkgoaaWApart
import Derived.Test.YtkecldjkakkgoaaWArr
import Derived.Test.YtkecldjkakkgoaaWZeros
import Derived.Test.YtkecldjkakkgoaaWFoot
import Derived.Test.YtkecldjkakkgoaaWKept
import Derived.Test.YtkecldjkakkgoaaWShare
import Derived.Test.YtkecldjkakkgoaaWN
import Derived.Test.YtkecldjkakkgoaaWAt
import Derived.Test.YtkecldjkakkgoaaWEqStruct
import Derived.Test.YtkecldjkakkgoaaWGuard
import Derived.Test.YtkecldjkakkgoaaWNEv
import Derived.Test.YtkecldjkakkgoaaWMore
import Derived.Test.YtkecldjkakkgoaaMxMn
namespace Go.Proofs.Ytkecldjkakkgoaa.PFnExactDragSash
open Go.RowKit Go.Proofs.YtkecldjkakkgoaaW.PrintWords Go.Proofs.YtkecldjkakkgoaaW.PrintLast Go.Proofs.YtkecldjkakkgoaaW.PrintMore
open Go.Proofs.Ytkecldjkakkgoaa.MxMn
attribute [local go_sem] max2_mx min2_mn max_two min_two max_three min_three max_four min_four   -- for this text's walks alone
set_option linter.unusedVariables false
set_option linter.unusedSimpArgs false



def errW : Option Int → Value
  | none => .nilIface
  | some c => .iface 0 (.int .i64 c)
theorem errW_none : errW none = .nilIface := rfl
theorem errW_some (c : Int) : errW (some c) = .iface 0 (.int .i64 c) := rfl

theorem info3 : (Try.prog.info? 3).map (fun i => (i.zero, i.size, i.bytes)) = some (some (.int .i64 0), 1, 8) := by kernel_rfl
-- the values' own types

end Go.Proofs.Ytkecldjkakkgoaa.PFnExactDragSash
