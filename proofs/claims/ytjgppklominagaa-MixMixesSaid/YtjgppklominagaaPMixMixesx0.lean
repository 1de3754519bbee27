-- PRINTED BY print.sh 35421559b90ae4d0a3588c463048766b98c2df88dd9212a6774a882060cdf62d: not written by this session
import Derived.Test.YtjgppklominagaaProg
import Derived.Below
import Derived.Deep.Draws
import Derived.Deep.AppendLies
import Derived.Maps.AppendAt
import Derived.OwnWalk
import Derived.Laws.BytesArg
import Derived.Laws.MakeOwn
import Derived.Laws.OwnMore
import Derived.Deep.OwnRows
import Derived.Tactics
import Derived.Lib.ConvBytes
import Derived.Laws.Slices
import Derived.WalkKit
import Derived.KernelRfl
import Derived.RowKit3
import Derived.Deep.LoopGhost
import Derived.Deep.QuietTactic
import Derived.BigQuiet
import Derived.WideLaws
import Derived.Deep.DeepCutAuto
import Derived.Deep.CutBlock
import Derived.Deep.RegionHeld3
import Derived.Laws.Rows
import Derived.Lib.AppendStr
import Derived.ArgAppend
import Derived.Laws.IdiomCopy
import Derived.OrdersHeld
import Derived.Laws.BitsLemmas
import Derived.RowKit
import Derived.Test.YtjgppklominagaaWWords
import Derived.Test.YtjgppklominagaaWLast
import Derived.Test.YtjgppklominagaaWTab
import Derived.Test.YtjgppklominagaaWFour
import Derived.Test.YtjgppklominagaaWQPut
import Derived.Test.YtjgppklominagaaWApart
import Derived.Test.YtjgppklominagaaWArr
import Derived.Test.YtjgppklominagaaWZeros
import Derived.Test.YtjgppklominagaaWFoot
import Derived.Test.YtjgppklominagaaWKept
import Derived.Test.YtjgppklominagaaWShare
import Derived.Test.YtjgppklominagaaWN
import Derived.Test.YtjgppklominagaaWFootNe
import Derived.Test.YtjgppklominagaaWAt
import Derived.Test.YtjgppklominagaaWEqStruct
import Derived.Test.YtjgppklominagaaWRepsOne
import Derived.Test.YtjgppklominagaaWInv
import Derived.Test.YtjgppklominagaaWInvWords
import Derived.Test.YtjgppklominagaaWGuard
import Derived.Test.YtjgppklominagaaWNEv
import Derived.Test.YtjgppklominagaaWMore
namespace Go.Proofs.Ytjgppklominagaa.PMixMixes
open Go.RowKit Go.Proofs.YtjgppklominagaaW.PrintWords Go.Proofs.YtjgppklominagaaW.PrintLast Go.Proofs.YtjgppklominagaaW.PrintMore
attribute [local go_sem] max2_int min2_int max_two min_two max_three min_three max_four min_four   -- for this text's walks alone
set_option linter.unusedVariables false
set_option linter.unusedSimpArgs false



def errW : Option Int → Value
  | none => .nilIface
  | some c => .iface 0 (.int .i64 c)
theorem errW_none : errW none = .nilIface := rfl
theorem errW_some (c : Int) : errW (some c) = .iface 0 (.int .i64 c) := rfl

-- the values' own types

end Go.Proofs.Ytjgppklominagaa.PMixMixes
