-- Laid by a program of this session (a changed copy of the printer): the functions of one law, and what they come to.
import Derived.Test.YtggdpeeiioibgaaProg
import Derived.Below
import Derived.Deep.Draws
import Derived.Deep.AppendLies
import Derived.Maps.AppendAt
import Derived.OwnWalk
import Derived.Laws.BytesArg
import Derived.Laws.MakeOwn
import Derived.Laws.OwnMore
import Derived.Deep.OwnRows
import Derived.Tactics
import Derived.Lib.ConvBytes
import Derived.Laws.Slices
import Derived.WalkKit
import Derived.KernelRfl
import Derived.RowKit3
import Derived.Deep.LoopGhost
import Derived.Deep.QuietTactic
import Derived.BigQuiet
import Derived.WideLaws
import Derived.Deep.DeepCutAuto
import Derived.Deep.CutBlock
import Derived.Deep.RegionHeld3
import Derived.Laws.Rows
import Derived.Lib.AppendStr
import Derived.ArgAppend
import Derived.Laws.IdiomCopy
import Derived.OrdersHeld
import Derived.Laws.BitsLemmas
import Derived.RowKit
import Derived.Test.YtggdpeeiioibgaaK
import Derived.Test.YtggdpeeiioibgaaX
import Derived.Test.YtggdpeeiioibgaaWWords
import Derived.Test.YtggdpeeiioibgaaWLast
import Derived.Test.YtggdpeeiioibgaaWTab
import Derived.Test.YtggdpeeiioibgaaWFour
import Derived.Test.YtggdpeeiioibgaaWQPut
import Derived.Test.YtggdpeeiioibgaaWApart
import Derived.Test.YtggdpeeiioibgaaWArr
import Derived.Test.YtggdpeeiioibgaaWZeros
import Derived.Test.YtggdpeeiioibgaaWFoot
import Derived.Test.YtggdpeeiioibgaaWKept
import Derived.Test.YtggdpeeiioibgaaWShare
import Derived.Test.YtggdpeeiioibgaaWN
import Derived.Test.YtggdpeeiioibgaaWFootNe
import Derived.Test.YtggdpeeiioibgaaWAt
import Derived.Test.YtggdpeeiioibgaaWEqStruct
import Derived.Test.YtggdpeeiioibgaaWRepsOne
import Derived.Test.YtggdpeeiioibgaaWInv
import Derived.Test.YtggdpeeiioibgaaWInvWords
import Derived.Test.YtggdpeeiioibgaaWGuard
import Derived.Test.YtggdpeeiioibgaaWNEv
import Derived.Test.YtggdpeeiioibgaaWMore
namespace Go.Proofs.Ytggdpeeiioibgaa.PA
open Go.RowKit Go.Proofs.Ytggdpeeiioibgaa.Kinds Go.Proofs.YtggdpeeiioibgaaW.PrintWords Go.Proofs.YtggdpeeiioibgaaW.PrintLast Go.Proofs.YtggdpeeiioibgaaW.PrintMore
attribute [local go_sem] max2_int min2_int max_two min_two max_three min_three max_four min_four   -- for this text's walks alone
set_option linter.unusedVariables false
set_option linter.unusedSimpArgs false



def errW : Option Int → Value
  | none => .nilIface
  | some c => .iface 0 (.int .i64 c)
theorem errW_none : errW none = .nilIface := rfl
theorem errW_some (c : Int) : errW (some c) = .iface 0 (.int .i64 c) := rfl

theorem info24 : (Try.prog.info? 24).map (fun i => (i.zero, i.size, i.bytes)) = some (some (.agg #[(.int .i64 0), (.int .i64 0), (.slice none 0 0)]), 3, 40) := by kernel_rfl
theorem info38 : (Try.prog.info? 38).map (fun i => (i.zero, i.size, i.bytes)) = some (some (.agg #[(.bool false), (.int .i64 0)]), 2, 16) := by kernel_rfl
-- the values' own types: in <Name>K
end Go.Proofs.Ytggdpeeiioibgaa.PA
