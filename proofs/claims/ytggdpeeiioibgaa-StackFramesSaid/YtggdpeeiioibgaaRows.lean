/-
  NARROWER THAN 'FOR EVERY INPUT', by the rows' own cells (each row's printed sentence says how): PathGoes: loops · PathBeside: loops · PathMakes: loops · CellWrites: loops · CellPacks: loops · StackPlays: loops · StackFrames: loops · StackNil: loops · LogsOrder: loops · LogsJoin: loops.
  DERIVED. THE GIVEN ROWS OF THIS SEAT. 11 by the template 'for every input the law returns true; each argument reads behind the call as it read before'; 0 by the template 'total and deterministic' (their statements: YtggdpeeiioibgaaTotals.lean).
  GIVEN WITH THE SEED: the statements are not yours to turn. If you find one false, say at which input.
  Laid BY PROGRAM, IN A SANDBOX (cutbox-rows.mjs): the forced cells as the released guide's own fill.sh prints them over the translation 8ebe514ce851dbd7… (all of the seat's roots in one cut). By AI agents, Wed Nov 11 2026. No macro, syntax, notation, axiom, sorry.
-/
import Derived.Test.YtggdpeeiioibgaaChecked
import GoSem.Claim
import GoSem.ClaimJoined
import GoSem.ClaimMapViews
import Derived.JoinedTies
import Derived.KernelRfl
namespace Go.Proofs.Ytggdpeeiioibgaa
/- THE CELL 'sum', in the pinned program and in every row, IS THE sha256 OF THE DUMP (.gsa) THAT YtggdpeeiioibgaaProg.lean LOADS. Nothing in Lean hashes anything: it is a label: what it is worth is what the hold of that sum in a sandbox is worth. -/
noncomputable def Try.pinned : Pinned := { name := "ytggdpeeiioibgaa", sum := "8ebe514ce851dbd76bbf2be2be4df9c89ed35b34015831e8d022d2a5428dc617", checked := Try.checked }
namespace Rows
def none {H : Type} : Left H := { results := [], args := [] }

/-- 'marlinelaw07.PathGoes': WHATEVER THE INPUT: true; the input reads as it did. -/
def pathGoesSpec : ChangeSpec := { name := "pathGoes", fn := fun _ => fun
  | [d1, d2, d3] => { results := [.lit (.bool true)], args := [d1, d2, d3] }
  | _ => none }
def pathGoesRow : OpenClaim := { program := "ytggdpeeiioibgaa", sum := "8ebe514ce851dbd76bbf2be2be4df9c89ed35b34015831e8d022d2a5428dc617", func := "marline/marlinelaw07.PathGoes", spec := "pathGoes", recurses := true, loops := true, apart := false }
def PathGoesSaid : Prop := pathGoesRow.holds Try.pinned (OpenSpec.ofChange pathGoesSpec)

/-- ITS FALSE NEIGHBOUR: 'it returns false'. Refute it at one input. -/
def pathGoesWrong : ChangeSpec := { name := "pathGoes", fn := fun _ => fun
  | [d1, d2, d3] => { results := [.lit (.bool false)], args := [d1, d2, d3] }
  | _ => none }
def PathGoesWrongFalsely : Prop := pathGoesRow.holds Try.pinned (OpenSpec.ofChange pathGoesWrong)

/-- 'marlinelaw07.PathBeside': WHATEVER THE INPUT: true; the input reads as it did. -/
def pathBesideSpec : ChangeSpec := { name := "pathBeside", fn := fun _ => fun
  | [d1, d2, d3] => { results := [.lit (.bool true)], args := [d1, d2, d3] }
  | _ => none }
def pathBesideRow : OpenClaim := { program := "ytggdpeeiioibgaa", sum := "8ebe514ce851dbd76bbf2be2be4df9c89ed35b34015831e8d022d2a5428dc617", func := "marline/marlinelaw07.PathBeside", spec := "pathBeside", recurses := true, loops := true, apart := false }
def PathBesideSaid : Prop := pathBesideRow.holds Try.pinned (OpenSpec.ofChange pathBesideSpec)

/-- ITS FALSE NEIGHBOUR: 'it returns false'. Refute it at one input. -/
def pathBesideWrong : ChangeSpec := { name := "pathBeside", fn := fun _ => fun
  | [d1, d2, d3] => { results := [.lit (.bool false)], args := [d1, d2, d3] }
  | _ => none }
def PathBesideWrongFalsely : Prop := pathBesideRow.holds Try.pinned (OpenSpec.ofChange pathBesideWrong)

/-- 'marlinelaw07.PathMakes': WHATEVER THE INPUT: true; the input reads as it did. -/
def pathMakesSpec : ChangeSpec := { name := "pathMakes", fn := fun _ => fun
  | [d1, d2, d3] => { results := [.lit (.bool true)], args := [d1, d2, d3] }
  | _ => none }
def pathMakesRow : OpenClaim := { program := "ytggdpeeiioibgaa", sum := "8ebe514ce851dbd76bbf2be2be4df9c89ed35b34015831e8d022d2a5428dc617", func := "marline/marlinelaw07.PathMakes", spec := "pathMakes", recurses := true, loops := true, apart := false }
def PathMakesSaid : Prop := pathMakesRow.holds Try.pinned (OpenSpec.ofChange pathMakesSpec)

/-- ITS FALSE NEIGHBOUR: 'it returns false'. Refute it at one input. -/
def pathMakesWrong : ChangeSpec := { name := "pathMakes", fn := fun _ => fun
  | [d1, d2, d3] => { results := [.lit (.bool false)], args := [d1, d2, d3] }
  | _ => none }
def PathMakesWrongFalsely : Prop := pathMakesRow.holds Try.pinned (OpenSpec.ofChange pathMakesWrong)

/-- 'marlinelaw08.CellWrites': WHATEVER THE INPUT: true; the input reads as it did. -/
def cellWritesSpec : ChangeSpec := { name := "cellWrites", fn := fun _ => fun
  | [d] => { results := [.lit (.bool true)], args := [d] }
  | _ => none }
def cellWritesRow : OpenClaim := { program := "ytggdpeeiioibgaa", sum := "8ebe514ce851dbd76bbf2be2be4df9c89ed35b34015831e8d022d2a5428dc617", func := "marline/marlinelaw08.CellWrites", spec := "cellWrites", unfollowed := true, recurses := true, loops := true, apart := false }
def CellWritesSaid : Prop := cellWritesRow.holds Try.pinned (OpenSpec.ofChange cellWritesSpec)

/-- ITS FALSE NEIGHBOUR: 'it returns false'. Refute it at one input. -/
def cellWritesWrong : ChangeSpec := { name := "cellWrites", fn := fun _ => fun
  | [d] => { results := [.lit (.bool false)], args := [d] }
  | _ => none }
def CellWritesWrongFalsely : Prop := cellWritesRow.holds Try.pinned (OpenSpec.ofChange cellWritesWrong)

/-- 'marlinelaw08.CellReads': WHATEVER THE INPUT: true; the input reads as it did. -/
def cellReadsSpec : ChangeSpec := { name := "cellReads", fn := fun _ => fun
  | [d] => { results := [.lit (.bool true)], args := [d] }
  | _ => none }
def cellReadsRow : OpenClaim := { program := "ytggdpeeiioibgaa", sum := "8ebe514ce851dbd76bbf2be2be4df9c89ed35b34015831e8d022d2a5428dc617", func := "marline/marlinelaw08.CellReads", spec := "cellReads", unfollowed := true, recurses := true, apart := false }
def CellReadsSaid : Prop := cellReadsRow.holds Try.pinned (OpenSpec.ofChange cellReadsSpec)

/-- ITS FALSE NEIGHBOUR: 'it returns false'. Refute it at one input. -/
def cellReadsWrong : ChangeSpec := { name := "cellReads", fn := fun _ => fun
  | [d] => { results := [.lit (.bool false)], args := [d] }
  | _ => none }
def CellReadsWrongFalsely : Prop := cellReadsRow.holds Try.pinned (OpenSpec.ofChange cellReadsWrong)

/-- 'marlinelaw08.CellPacks': WHATEVER THE INPUT: true; the input reads as it did. -/
def cellPacksSpec : ChangeSpec := { name := "cellPacks", fn := fun _ => fun
  | [d1, d2] => { results := [.lit (.bool true)], args := [d1, d2] }
  | _ => none }
def cellPacksRow : OpenClaim := { program := "ytggdpeeiioibgaa", sum := "8ebe514ce851dbd76bbf2be2be4df9c89ed35b34015831e8d022d2a5428dc617", func := "marline/marlinelaw08.CellPacks", spec := "cellPacks", unfollowed := true, recurses := true, loops := true, apart := false }
def CellPacksSaid : Prop := cellPacksRow.holds Try.pinned (OpenSpec.ofChange cellPacksSpec)

/-- ITS FALSE NEIGHBOUR: 'it returns false'. Refute it at one input. -/
def cellPacksWrong : ChangeSpec := { name := "cellPacks", fn := fun _ => fun
  | [d1, d2] => { results := [.lit (.bool false)], args := [d1, d2] }
  | _ => none }
def CellPacksWrongFalsely : Prop := cellPacksRow.holds Try.pinned (OpenSpec.ofChange cellPacksWrong)

/-- 'marlinelaw36.StackPlays': WHATEVER THE INPUT: true; the input reads as it did. -/
def stackPlaysSpec : ChangeSpec := { name := "stackPlays", fn := fun _ => fun
  | [d] => { results := [.lit (.bool true)], args := [d] }
  | _ => none }
def stackPlaysRow : OpenClaim := { program := "ytggdpeeiioibgaa", sum := "8ebe514ce851dbd76bbf2be2be4df9c89ed35b34015831e8d022d2a5428dc617", func := "marline/marlinelaw36.StackPlays", spec := "stackPlays", recurses := true, loops := true, apart := false }
def StackPlaysSaid : Prop := stackPlaysRow.holds Try.pinned (OpenSpec.ofChange stackPlaysSpec)

/-- ITS FALSE NEIGHBOUR: 'it returns false'. Refute it at one input. -/
def stackPlaysWrong : ChangeSpec := { name := "stackPlays", fn := fun _ => fun
  | [d] => { results := [.lit (.bool false)], args := [d] }
  | _ => none }
def StackPlaysWrongFalsely : Prop := stackPlaysRow.holds Try.pinned (OpenSpec.ofChange stackPlaysWrong)

/-- 'marlinelaw36.StackFrames': WHATEVER THE INPUT: true; the input reads as it did. -/
def stackFramesSpec : ChangeSpec := { name := "stackFrames", fn := fun _ => fun
  | [d1, d2, d3] => { results := [.lit (.bool true)], args := [d1, d2, d3] }
  | _ => none }
def stackFramesRow : OpenClaim := { program := "ytggdpeeiioibgaa", sum := "8ebe514ce851dbd76bbf2be2be4df9c89ed35b34015831e8d022d2a5428dc617", func := "marline/marlinelaw36.StackFrames", spec := "stackFrames", recurses := true, loops := true, apart := false }
def StackFramesSaid : Prop := stackFramesRow.holds Try.pinned (OpenSpec.ofChange stackFramesSpec)

/-- ITS FALSE NEIGHBOUR: 'it returns false'. Refute it at one input. -/
def stackFramesWrong : ChangeSpec := { name := "stackFrames", fn := fun _ => fun
  | [d1, d2, d3] => { results := [.lit (.bool false)], args := [d1, d2, d3] }
  | _ => none }
def StackFramesWrongFalsely : Prop := stackFramesRow.holds Try.pinned (OpenSpec.ofChange stackFramesWrong)

/-- 'marlinelaw36.StackNil': WHATEVER THE INPUT: true; the input reads as it did. -/
def stackNilSpec : ChangeSpec := { name := "stackNil", fn := fun _ => fun
  | [d] => { results := [.lit (.bool true)], args := [d] }
  | _ => none }
def stackNilRow : OpenClaim := { program := "ytggdpeeiioibgaa", sum := "8ebe514ce851dbd76bbf2be2be4df9c89ed35b34015831e8d022d2a5428dc617", func := "marline/marlinelaw36.StackNil", spec := "stackNil", recurses := true, loops := true, apart := false }
def StackNilSaid : Prop := stackNilRow.holds Try.pinned (OpenSpec.ofChange stackNilSpec)

/-- ITS FALSE NEIGHBOUR: 'it returns false'. Refute it at one input. -/
def stackNilWrong : ChangeSpec := { name := "stackNil", fn := fun _ => fun
  | [d] => { results := [.lit (.bool false)], args := [d] }
  | _ => none }
def StackNilWrongFalsely : Prop := stackNilRow.holds Try.pinned (OpenSpec.ofChange stackNilWrong)

/-- 'marlinelaw35.LogsOrder': WHATEVER THE INPUT: true; the input reads as it did. -/
def logsOrderSpec : ChangeSpec := { name := "logsOrder", fn := fun _ => fun
  | [d1, d2, d3] => { results := [.lit (.bool true)], args := [d1, d2, d3] }
  | _ => none }
def logsOrderRow : OpenClaim := { program := "ytggdpeeiioibgaa", sum := "8ebe514ce851dbd76bbf2be2be4df9c89ed35b34015831e8d022d2a5428dc617", func := "marline/marlinelaw35.LogsOrder", spec := "logsOrder", unfollowed := true, recurses := true, loops := true, apart := false }
def LogsOrderSaid : Prop := logsOrderRow.holds Try.pinned (OpenSpec.ofChange logsOrderSpec)

/-- ITS FALSE NEIGHBOUR: 'it returns false'. Refute it at one input. -/
def logsOrderWrong : ChangeSpec := { name := "logsOrder", fn := fun _ => fun
  | [d1, d2, d3] => { results := [.lit (.bool false)], args := [d1, d2, d3] }
  | _ => none }
def LogsOrderWrongFalsely : Prop := logsOrderRow.holds Try.pinned (OpenSpec.ofChange logsOrderWrong)

/-- 'marlinelaw35.LogsJoin': WHATEVER THE INPUT: true; the input reads as it did. -/
def logsJoinSpec : ChangeSpec := { name := "logsJoin", fn := fun _ => fun
  | [d1, d2] => { results := [.lit (.bool true)], args := [d1, d2] }
  | _ => none }
def logsJoinRow : OpenClaim := { program := "ytggdpeeiioibgaa", sum := "8ebe514ce851dbd76bbf2be2be4df9c89ed35b34015831e8d022d2a5428dc617", func := "marline/marlinelaw35.LogsJoin", spec := "logsJoin", unfollowed := true, recurses := true, loops := true, apart := false }
def LogsJoinSaid : Prop := logsJoinRow.holds Try.pinned (OpenSpec.ofChange logsJoinSpec)

/-- ITS FALSE NEIGHBOUR: 'it returns false'. Refute it at one input. -/
def logsJoinWrong : ChangeSpec := { name := "logsJoin", fn := fun _ => fun
  | [d1, d2] => { results := [.lit (.bool false)], args := [d1, d2] }
  | _ => none }
def LogsJoinWrongFalsely : Prop := logsJoinRow.holds Try.pinned (OpenSpec.ofChange logsJoinWrong)

/- THE SECOND FORM. 'bulk': how many values and letters a reading holds, each counted each time it is reached (what is shared counts as often as it is met; a slice's spare places count too). A statement '..UptoSaid' is the law's where the arguments, and the package variables that the reading takes, are together of bulk at most 1048576: NARROWER than '..Said'. Prove '..Said' where nothing that the law and all that it calls make is longer than what came in: it says more and counts as full. Else prove '..UptoSaid'. A law counts once. -/
mutual
def uptoBulk {H : Type} : DataW H → Nat
  | .lit (.string bytes) => bytes.length + 1
  | .lit _ => 1
  | .nil => 1
  | .ptr d => uptoBulk d + 1
  | .slice elems spare => uptoBulkAll elems + uptoBulkAll spare + 1
  | .agg parts => uptoBulkAll parts + 1
  | .iface _ d => uptoBulk d + 1
  | .map entries => uptoBulkEntries entries + 1
  | .held _ => 1
def uptoBulkAll {H : Type} : List (DataW H) → Nat
  | [] => 0
  | d :: r => uptoBulk d + uptoBulkAll r
def uptoBulkEntries {H : Type} : List (Lit × DataW H) → Nat
  | [] => 0
  | x :: r => uptoBulkEntry x + uptoBulkEntries r
def uptoBulkEntry {H : Type} : Lit × DataW H → Nat
  | (.string bytes, d) => bytes.length + uptoBulk d + 1
  | (_, d) => uptoBulk d + 1
 end
def uptoSmall : (H : Type) → List (DataW H) → Bool := fun _ ds => decide (uptoBulkAll ds ≤ 1048576)
def OpenSpec.upto (s : _root_.Go.ChangeSpec) : _root_.Go.OpenSpec := { _root_.Go.OpenSpec.ofChange s with cond := some uptoSmall }

/-- 'marlinelaw07.PathGoes', WHERE WHAT IT READS IS OF BULK AT MOST 1048576: true; the input reads as it did. -/
def pathGoesUptoRow : OpenClaim := { program := "ytggdpeeiioibgaa", sum := "8ebe514ce851dbd76bbf2be2be4df9c89ed35b34015831e8d022d2a5428dc617", func := "marline/marlinelaw07.PathGoes", spec := "pathGoes", recurses := true, loops := true, apart := false, narrowed := true }
def PathGoesUptoSaid : Prop := pathGoesUptoRow.holds Try.pinned (OpenSpec.upto pathGoesSpec)

/-- 'marlinelaw07.PathBeside', WHERE WHAT IT READS IS OF BULK AT MOST 1048576: true; the input reads as it did. -/
def pathBesideUptoRow : OpenClaim := { program := "ytggdpeeiioibgaa", sum := "8ebe514ce851dbd76bbf2be2be4df9c89ed35b34015831e8d022d2a5428dc617", func := "marline/marlinelaw07.PathBeside", spec := "pathBeside", recurses := true, loops := true, apart := false, narrowed := true }
def PathBesideUptoSaid : Prop := pathBesideUptoRow.holds Try.pinned (OpenSpec.upto pathBesideSpec)

/-- 'marlinelaw07.PathMakes', WHERE WHAT IT READS IS OF BULK AT MOST 1048576: true; the input reads as it did. -/
def pathMakesUptoRow : OpenClaim := { program := "ytggdpeeiioibgaa", sum := "8ebe514ce851dbd76bbf2be2be4df9c89ed35b34015831e8d022d2a5428dc617", func := "marline/marlinelaw07.PathMakes", spec := "pathMakes", recurses := true, loops := true, apart := false, narrowed := true }
def PathMakesUptoSaid : Prop := pathMakesUptoRow.holds Try.pinned (OpenSpec.upto pathMakesSpec)

/-- 'marlinelaw08.CellWrites', WHERE WHAT IT READS IS OF BULK AT MOST 1048576: true; the input reads as it did. -/
def cellWritesUptoRow : OpenClaim := { program := "ytggdpeeiioibgaa", sum := "8ebe514ce851dbd76bbf2be2be4df9c89ed35b34015831e8d022d2a5428dc617", func := "marline/marlinelaw08.CellWrites", spec := "cellWrites", unfollowed := true, recurses := true, loops := true, apart := false, narrowed := true }
def CellWritesUptoSaid : Prop := cellWritesUptoRow.holds Try.pinned (OpenSpec.upto cellWritesSpec)

/-- 'marlinelaw08.CellReads', WHERE WHAT IT READS IS OF BULK AT MOST 1048576: true; the input reads as it did. -/
def cellReadsUptoRow : OpenClaim := { program := "ytggdpeeiioibgaa", sum := "8ebe514ce851dbd76bbf2be2be4df9c89ed35b34015831e8d022d2a5428dc617", func := "marline/marlinelaw08.CellReads", spec := "cellReads", unfollowed := true, recurses := true, apart := false, narrowed := true }
def CellReadsUptoSaid : Prop := cellReadsUptoRow.holds Try.pinned (OpenSpec.upto cellReadsSpec)

/-- 'marlinelaw08.CellPacks', WHERE WHAT IT READS IS OF BULK AT MOST 1048576: true; the input reads as it did. -/
def cellPacksUptoRow : OpenClaim := { program := "ytggdpeeiioibgaa", sum := "8ebe514ce851dbd76bbf2be2be4df9c89ed35b34015831e8d022d2a5428dc617", func := "marline/marlinelaw08.CellPacks", spec := "cellPacks", unfollowed := true, recurses := true, loops := true, apart := false, narrowed := true }
def CellPacksUptoSaid : Prop := cellPacksUptoRow.holds Try.pinned (OpenSpec.upto cellPacksSpec)

/-- 'marlinelaw36.StackPlays', WHERE WHAT IT READS IS OF BULK AT MOST 1048576: true; the input reads as it did. -/
def stackPlaysUptoRow : OpenClaim := { program := "ytggdpeeiioibgaa", sum := "8ebe514ce851dbd76bbf2be2be4df9c89ed35b34015831e8d022d2a5428dc617", func := "marline/marlinelaw36.StackPlays", spec := "stackPlays", recurses := true, loops := true, apart := false, narrowed := true }
def StackPlaysUptoSaid : Prop := stackPlaysUptoRow.holds Try.pinned (OpenSpec.upto stackPlaysSpec)

/-- 'marlinelaw36.StackFrames', WHERE WHAT IT READS IS OF BULK AT MOST 1048576: true; the input reads as it did. -/
def stackFramesUptoRow : OpenClaim := { program := "ytggdpeeiioibgaa", sum := "8ebe514ce851dbd76bbf2be2be4df9c89ed35b34015831e8d022d2a5428dc617", func := "marline/marlinelaw36.StackFrames", spec := "stackFrames", recurses := true, loops := true, apart := false, narrowed := true }
def StackFramesUptoSaid : Prop := stackFramesUptoRow.holds Try.pinned (OpenSpec.upto stackFramesSpec)

/-- 'marlinelaw36.StackNil', WHERE WHAT IT READS IS OF BULK AT MOST 1048576: true; the input reads as it did. -/
def stackNilUptoRow : OpenClaim := { program := "ytggdpeeiioibgaa", sum := "8ebe514ce851dbd76bbf2be2be4df9c89ed35b34015831e8d022d2a5428dc617", func := "marline/marlinelaw36.StackNil", spec := "stackNil", recurses := true, loops := true, apart := false, narrowed := true }
def StackNilUptoSaid : Prop := stackNilUptoRow.holds Try.pinned (OpenSpec.upto stackNilSpec)

/-- 'marlinelaw35.LogsOrder', WHERE WHAT IT READS IS OF BULK AT MOST 1048576: true; the input reads as it did. -/
def logsOrderUptoRow : OpenClaim := { program := "ytggdpeeiioibgaa", sum := "8ebe514ce851dbd76bbf2be2be4df9c89ed35b34015831e8d022d2a5428dc617", func := "marline/marlinelaw35.LogsOrder", spec := "logsOrder", unfollowed := true, recurses := true, loops := true, apart := false, narrowed := true }
def LogsOrderUptoSaid : Prop := logsOrderUptoRow.holds Try.pinned (OpenSpec.upto logsOrderSpec)

/-- 'marlinelaw35.LogsJoin', WHERE WHAT IT READS IS OF BULK AT MOST 1048576: true; the input reads as it did. -/
def logsJoinUptoRow : OpenClaim := { program := "ytggdpeeiioibgaa", sum := "8ebe514ce851dbd76bbf2be2be4df9c89ed35b34015831e8d022d2a5428dc617", func := "marline/marlinelaw35.LogsJoin", spec := "logsJoin", unfollowed := true, recurses := true, loops := true, apart := false, narrowed := true }
def LogsJoinUptoSaid : Prop := logsJoinUptoRow.holds Try.pinned (OpenSpec.upto logsJoinSpec)

end Rows
end Go.Proofs.Ytggdpeeiioibgaa
