-- Laid by a program of this session (a changed copy of the printer): the functions of one law, and what they come to.
import Derived.Test.YtlpfgeeibbfibaaProg
import Derived.Below
import Derived.Deep.Draws
import Derived.Deep.AppendLies
import Derived.Maps.AppendAt
import Derived.OwnWalk
import Derived.Laws.BytesArg
import Derived.Laws.MakeOwn
import Derived.Laws.OwnMore
import Derived.Deep.OwnRows
import Derived.Tactics
import Derived.Lib.ConvBytes
import Derived.Laws.Slices
import Derived.WalkKit
import Derived.KernelRfl
import Derived.RowKit3
import Derived.Deep.LoopGhost
import Derived.Deep.QuietTactic
import Derived.BigQuiet
import Derived.WideLaws
import Derived.Deep.DeepCutAuto
import Derived.Deep.CutBlock
import Derived.Deep.RegionHeld3
import Derived.Laws.Rows
import Derived.Lib.AppendStr
import Derived.ArgAppend
import Derived.Laws.IdiomCopy
import Derived.OrdersHeld
import Derived.Laws.BitsLemmas
import Derived.RowKit
import Derived.Test.YtlpfgeeibbfibaaK
import Derived.Test.YtlpfgeeibbfibaaWWords
import Derived.Test.YtlpfgeeibbfibaaWLast
import Derived.Test.YtlpfgeeibbfibaaWTab
import Derived.Test.YtlpfgeeibbfibaaWFour
import Derived.Test.YtlpfgeeibbfibaaWQPut
import Derived.Test.YtlpfgeeibbfibaaWApart
import Derived.Test.YtlpfgeeibbfibaaWArr
import Derived.Test.YtlpfgeeibbfibaaWZeros
import Derived.Test.YtlpfgeeibbfibaaWFoot
import Derived.Test.YtlpfgeeibbfibaaWKept
import Derived.Test.YtlpfgeeibbfibaaWShare
import Derived.Test.YtlpfgeeibbfibaaWN
import Derived.Test.YtlpfgeeibbfibaaWFootNe
import Derived.Test.YtlpfgeeibbfibaaWAt
import Derived.Test.YtlpfgeeibbfibaaWEqStruct
import Derived.Test.YtlpfgeeibbfibaaWRepsOne
import Derived.Test.YtlpfgeeibbfibaaWInv
import Derived.Test.YtlpfgeeibbfibaaWInvWords
import Derived.Test.YtlpfgeeibbfibaaWGuard
import Derived.Test.YtlpfgeeibbfibaaWNEv
import Derived.Test.YtlpfgeeibbfibaaWMore
namespace Go.Proofs.Ytlpfgeeibbfibaa.PA
open Go.RowKit Go.Proofs.Ytlpfgeeibbfibaa.Kinds Go.Proofs.YtlpfgeeibbfibaaW.PrintWords Go.Proofs.YtlpfgeeibbfibaaW.PrintLast Go.Proofs.YtlpfgeeibbfibaaW.PrintMore
attribute [local go_sem] max2_int min2_int max_two min_two max_three min_three max_four min_four   -- for this text's walks alone
set_option linter.unusedVariables false
set_option linter.unusedSimpArgs false



def errW : Option Int → Value
  | none => .nilIface
  | some c => .iface 0 (.int .i64 c)
theorem errW_none : errW none = .nilIface := rfl
theorem errW_some (c : Int) : errW (some c) = .iface 0 (.int .i64 c) := rfl

theorem info3 : (Try.prog.info? 3).map (fun i => (i.zero, i.size, i.bytes)) = some (some (.int .i64 0), 1, 8) := by kernel_rfl
theorem info30 : (Try.prog.info? 30).map (fun i => (i.zero, i.size, i.bytes)) = some (some (.agg #[(.int .i64 0), (.int .i64 0), (.int .i64 0), (.string ⟨#[]⟩), (.slice none 0 0)]), 5, 64) := by kernel_rfl
theorem info41 : (Try.prog.info? 41).map (fun i => (i.zero, i.size, i.bytes)) = some (some (.agg #[(.string ⟨#[]⟩), (.int .i64 0), (.int .i64 0), (.int .i64 0), (.string ⟨#[]⟩), (.slice none 0 0), (.int .i64 0)]), 7, 88) := by kernel_rfl
-- the values' own types: in <Name>K
end Go.Proofs.Ytlpfgeeibbfibaa.PA
