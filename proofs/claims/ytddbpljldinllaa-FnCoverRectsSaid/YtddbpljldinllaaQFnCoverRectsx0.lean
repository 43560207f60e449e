/- Contracts of the functions that FnCoverRects reaches: own text, written by reown.py after the print's pattern. No condition. -/
import Derived.Test.YtddbpljldinllaaProg
import Derived.Below
import Derived.Deep.Draws
import Derived.Deep.AppendLies
import Derived.Maps.AppendAt
import Derived.OwnWalk
import Derived.Laws.BytesArg
import Derived.Laws.MakeOwn
import Derived.Laws.OwnMore
import Derived.Deep.OwnRows
import Derived.Tactics
import Derived.Lib.ConvBytes
import Derived.Laws.Slices
import Derived.WalkKit
import Derived.KernelRfl
import Derived.RowKit3
import Derived.Deep.LoopGhost
import Derived.Deep.QuietTactic
import Derived.BigQuiet
import Derived.WideLaws
import Derived.Deep.DeepCutAuto
import Derived.Deep.CutBlock
import Derived.Deep.RegionHeld3
import Derived.Laws.Rows
import Derived.Lib.AppendStr
import Derived.ArgAppend
import Derived.Laws.IdiomCopy
import Derived.OrdersHeld
import Derived.Laws.BitsLemmas
import Derived.RowKit
import Derived.Test.YtddbpljldinllaaWWords
import Derived.Test.YtddbpljldinllaaWLast
import Derived.Test.YtddbpljldinllaaWTab
import Derived.Test.YtddbpljldinllaaWFour
import Derived.Test.YtddbpljldinllaaWQPut
import Derived.Test.YtddbpljldinllaaWApart
import Derived.Test.YtddbpljldinllaaWArr
import Derived.Test.YtddbpljldinllaaWZeros
import Derived.Test.YtddbpljldinllaaWFoot
import Derived.Test.YtddbpljldinllaaWKept
import Derived.Test.YtddbpljldinllaaWShare
import Derived.Test.YtddbpljldinllaaWN
import Derived.Test.YtddbpljldinllaaWFootNe
import Derived.Test.YtddbpljldinllaaWAt
import Derived.Test.YtddbpljldinllaaWEqStruct
import Derived.Test.YtddbpljldinllaaWRepsOne
import Derived.Test.YtddbpljldinllaaWInv
import Derived.Test.YtddbpljldinllaaWInvWords
import Derived.Test.YtddbpljldinllaaWGuard
import Derived.Test.YtddbpljldinllaaWNEv
import Derived.Test.YtddbpljldinllaaWMore
import Derived.Test.YtddbpljldinllaaMxMn
namespace Go.Proofs.Ytddbpljldinllaa.PFnCoverRects
open Go.RowKit Go.Proofs.YtddbpljldinllaaW.PrintWords Go.Proofs.YtddbpljldinllaaW.PrintLast Go.Proofs.YtddbpljldinllaaW.PrintMore
open Go.Proofs.Ytddbpljldinllaa.MxMn
attribute [local go_sem] max2_mx min2_mn max_two min_two max_three min_three max_four min_four   -- for this text's walks alone
set_option linter.unusedVariables false
set_option linter.unusedSimpArgs false



def errW : Option Int → Value
  | none => .nilIface
  | some c => .iface 0 (.int .i64 c)
theorem errW_none : errW none = .nilIface := rfl
theorem errW_some (c : Int) : errW (some c) = .iface 0 (.int .i64 c) := rfl

theorem info3 : (Try.prog.info? 3).map (fun i => (i.zero, i.size, i.bytes)) = some (some (.int .i64 0), 1, 8) := by kernel_rfl
theorem info5 : (Try.prog.info? 5).map (fun i => (i.zero, i.size, i.bytes)) = some (some (.int .u8 0), 1, 1) := by kernel_rfl
-- the values' own types

end Go.Proofs.Ytddbpljldinllaa.PFnCoverRects
