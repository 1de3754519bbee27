-- Laid by a program of this session (a changed copy of the printer): the functions of one law, and what they come to.
import Derived.Test.YtodldmgidaccbaaProg
import Derived.Below
import Derived.Deep.Draws
import Derived.Deep.AppendLies
import Derived.Maps.AppendAt
import Derived.OwnWalk
import Derived.Laws.BytesArg
import Derived.Laws.MakeOwn
import Derived.Laws.OwnMore
import Derived.Deep.OwnRows
import Derived.Tactics
import Derived.Lib.ConvBytes
import Derived.Laws.Slices
import Derived.WalkKit
import Derived.KernelRfl
import Derived.RowKit3
import Derived.Deep.LoopGhost
import Derived.Deep.QuietTactic
import Derived.BigQuiet
import Derived.WideLaws
import Derived.Deep.DeepCutAuto
import Derived.Deep.CutBlock
import Derived.Deep.RegionHeld3
import Derived.Laws.Rows
import Derived.Lib.AppendStr
import Derived.ArgAppend
import Derived.Laws.IdiomCopy
import Derived.OrdersHeld
import Derived.Laws.BitsLemmas
import Derived.RowKit
import Derived.Test.YtodldmgidaccbaaK
import Derived.Test.YtodldmgidaccbaaWWords
import Derived.Test.YtodldmgidaccbaaWLast
import Derived.Test.YtodldmgidaccbaaWTab
import Derived.Test.YtodldmgidaccbaaWFour
import Derived.Test.YtodldmgidaccbaaWQPut
import Derived.Test.YtodldmgidaccbaaWApart
import Derived.Test.YtodldmgidaccbaaWArr
import Derived.Test.YtodldmgidaccbaaWZeros
import Derived.Test.YtodldmgidaccbaaWFoot
import Derived.Test.YtodldmgidaccbaaWKept
import Derived.Test.YtodldmgidaccbaaWShare
import Derived.Test.YtodldmgidaccbaaWN
import Derived.Test.YtodldmgidaccbaaWFootNe
import Derived.Test.YtodldmgidaccbaaWAt
import Derived.Test.YtodldmgidaccbaaWEqStruct
import Derived.Test.YtodldmgidaccbaaWRepsOne
import Derived.Test.YtodldmgidaccbaaWInv
import Derived.Test.YtodldmgidaccbaaWInvWords
import Derived.Test.YtodldmgidaccbaaWGuard
import Derived.Test.YtodldmgidaccbaaWNEv
import Derived.Test.YtodldmgidaccbaaWMore
namespace Go.Proofs.Ytodldmgidaccbaa.PA
open Go.RowKit Go.Proofs.Ytodldmgidaccbaa.Kinds Go.Proofs.YtodldmgidaccbaaW.PrintWords Go.Proofs.YtodldmgidaccbaaW.PrintLast Go.Proofs.YtodldmgidaccbaaW.PrintMore
attribute [local go_sem] max2_int min2_int max_two min_two max_three min_three max_four min_four   -- for this text's walks alone
set_option linter.unusedVariables false
set_option linter.unusedSimpArgs false



def errW : Option Int → Value
  | none => .nilIface
  | some c => .iface 0 (.int .i64 c)
theorem errW_none : errW none = .nilIface := rfl
theorem errW_some (c : Int) : errW (some c) = .iface 0 (.int .i64 c) := rfl

theorem info3 : (Try.prog.info? 3).map (fun i => (i.zero, i.size, i.bytes)) = some (some (.int .i64 0), 1, 8) := by kernel_rfl
theorem info9 : (Try.prog.info? 9).map (fun i => (i.zero, i.size, i.bytes)) = some (some (.string ⟨#[]⟩), 1, 16) := by kernel_rfl
-- the values' own types: in <Name>K
end Go.Proofs.Ytodldmgidaccbaa.PA
