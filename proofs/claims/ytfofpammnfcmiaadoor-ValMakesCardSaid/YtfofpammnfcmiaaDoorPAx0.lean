-- Laid by a program of this session (a changed copy of the printer): the functions of one law, and what they come to.
import Derived.Test.YtfofpammnfcmiaaDoorProg
import Derived.Below
import Derived.Deep.Draws
import Derived.Deep.AppendLies
import Derived.Maps.AppendAt
import Derived.OwnWalk
import Derived.Laws.BytesArg
import Derived.Laws.MakeOwn
import Derived.Laws.OwnMore
import Derived.Deep.OwnRows
import Derived.Tactics
import Derived.Lib.ConvBytes
import Derived.Laws.Slices
import Derived.WalkKit
import Derived.KernelRfl
import Derived.RowKit3
import Derived.Deep.LoopGhost
import Derived.Deep.QuietTactic
import Derived.BigQuiet
import Derived.WideLaws
import Derived.Deep.DeepCutAuto
import Derived.Deep.CutBlock
import Derived.Deep.RegionHeld3
import Derived.Laws.Rows
import Derived.Lib.AppendStr
import Derived.ArgAppend
import Derived.Laws.IdiomCopy
import Derived.OrdersHeld
import Derived.Laws.BitsLemmas
import Derived.RowKit
import Derived.Test.YtfofpammnfcmiaaDoorK
import Derived.Test.YtfofpammnfcmiaaDoorWWords
import Derived.Test.YtfofpammnfcmiaaDoorWLast
import Derived.Test.YtfofpammnfcmiaaDoorWTab
import Derived.Test.YtfofpammnfcmiaaDoorWFour
import Derived.Test.YtfofpammnfcmiaaDoorWQPut
import Derived.Test.YtfofpammnfcmiaaDoorWApart
import Derived.Test.YtfofpammnfcmiaaDoorWArr
import Derived.Test.YtfofpammnfcmiaaDoorWZeros
import Derived.Test.YtfofpammnfcmiaaDoorWFoot
import Derived.Test.YtfofpammnfcmiaaDoorWKept
import Derived.Test.YtfofpammnfcmiaaDoorWShare
import Derived.Test.YtfofpammnfcmiaaDoorWN
import Derived.Test.YtfofpammnfcmiaaDoorWFootNe
import Derived.Test.YtfofpammnfcmiaaDoorWAt
import Derived.Test.YtfofpammnfcmiaaDoorWEqStruct
import Derived.Test.YtfofpammnfcmiaaDoorWRepsOne
import Derived.Test.YtfofpammnfcmiaaDoorWInv
import Derived.Test.YtfofpammnfcmiaaDoorWInvWords
import Derived.Test.YtfofpammnfcmiaaDoorWGuard
import Derived.Test.YtfofpammnfcmiaaDoorWNEv
import Derived.Test.YtfofpammnfcmiaaDoorWMore
namespace Go.Proofs.YtfofpammnfcmiaaDoor.PA
open Go.RowKit Go.Proofs.YtfofpammnfcmiaaDoor.Kinds Go.Proofs.YtfofpammnfcmiaaDoorW.PrintWords Go.Proofs.YtfofpammnfcmiaaDoorW.PrintLast Go.Proofs.YtfofpammnfcmiaaDoorW.PrintMore
attribute [local go_sem] max2_int min2_int max_two min_two max_three min_three max_four min_four   -- for this text's walks alone
set_option linter.unusedVariables false
set_option linter.unusedSimpArgs false



def errW : Option Int → Value
  | none => .nilIface
  | some c => .iface 158 (.int .i64 c)
theorem errW_none : errW none = .nilIface := rfl
theorem errW_some (c : Int) : errW (some c) = .iface 158 (.int .i64 c) := rfl

theorem info3 : (Tryd.prog.info? 3).map (fun i => (i.zero, i.size, i.bytes)) = some (some (.int .i64 0), 1, 8) := by kernel_rfl
theorem info9 : (Tryd.prog.info? 9).map (fun i => (i.zero, i.size, i.bytes)) = some (some (.string ⟨#[]⟩), 1, 16) := by kernel_rfl
-- the values' own types: in <Name>K
end Go.Proofs.YtfofpammnfcmiaaDoor.PA
