-- Laid by a program of this session (a changed copy of the printer): the functions of one law, and what they come to.
import Derived.Test.YtchmcmbglaffdaaProg
import Derived.Below
import Derived.Deep.Draws
import Derived.Deep.AppendLies
import Derived.Maps.AppendAt
import Derived.OwnWalk
import Derived.Laws.BytesArg
import Derived.Laws.MakeOwn
import Derived.Laws.OwnMore
import Derived.Deep.OwnRows
import Derived.Tactics
import Derived.Lib.ConvBytes
import Derived.Laws.Slices
import Derived.WalkKit
import Derived.KernelRfl
import Derived.RowKit3
import Derived.Deep.LoopGhost
import Derived.Deep.QuietTactic
import Derived.BigQuiet
import Derived.WideLaws
import Derived.Deep.DeepCutAuto
import Derived.Deep.CutBlock
import Derived.Deep.RegionHeld3
import Derived.Laws.Rows
import Derived.Lib.AppendStr
import Derived.ArgAppend
import Derived.Laws.IdiomCopy
import Derived.OrdersHeld
import Derived.Laws.BitsLemmas
import Derived.RowKit
import Derived.Test.YtchmcmbglaffdaaK
import Derived.Test.YtchmcmbglaffdaaWWords
import Derived.Test.YtchmcmbglaffdaaWLast
import Derived.Test.YtchmcmbglaffdaaWTab
import Derived.Test.YtchmcmbglaffdaaWFour
import Derived.Test.YtchmcmbglaffdaaWQPut
import Derived.Test.YtchmcmbglaffdaaWApart
import Derived.Test.YtchmcmbglaffdaaWArr
import Derived.Test.YtchmcmbglaffdaaWZeros
import Derived.Test.YtchmcmbglaffdaaWFoot
import Derived.Test.YtchmcmbglaffdaaWKept
import Derived.Test.YtchmcmbglaffdaaWShare
import Derived.Test.YtchmcmbglaffdaaWN
import Derived.Test.YtchmcmbglaffdaaWFootNe
import Derived.Test.YtchmcmbglaffdaaWAt
import Derived.Test.YtchmcmbglaffdaaWEqStruct
import Derived.Test.YtchmcmbglaffdaaWRepsOne
import Derived.Test.YtchmcmbglaffdaaWInv
import Derived.Test.YtchmcmbglaffdaaWInvWords
import Derived.Test.YtchmcmbglaffdaaWGuard
import Derived.Test.YtchmcmbglaffdaaWNEv
import Derived.Test.YtchmcmbglaffdaaWMore
namespace Go.Proofs.Ytchmcmbglaffdaa.PA
open Go.RowKit Go.Proofs.Ytchmcmbglaffdaa.Kinds Go.Proofs.YtchmcmbglaffdaaW.PrintWords Go.Proofs.YtchmcmbglaffdaaW.PrintLast Go.Proofs.YtchmcmbglaffdaaW.PrintMore
attribute [local go_sem] max2_int min2_int max_two min_two max_three min_three max_four min_four   -- for this text's walks alone
set_option linter.unusedVariables false
set_option linter.unusedSimpArgs false



def errW : Option Int → Value
  | none => .nilIface
  | some c => .iface 0 (.int .i64 c)
theorem errW_none : errW none = .nilIface := rfl
theorem errW_some (c : Int) : errW (some c) = .iface 0 (.int .i64 c) := rfl

theorem info36 : (Try.prog.info? 36).map (fun i => (i.zero, i.size, i.bytes)) = some (some (.agg #[(.int .i64 0), (.int .i64 0), (.int .i64 0), (.int .i64 0)]), 4, 32) := by kernel_rfl
-- the values' own types: in <Name>K
end Go.Proofs.Ytchmcmbglaffdaa.PA
