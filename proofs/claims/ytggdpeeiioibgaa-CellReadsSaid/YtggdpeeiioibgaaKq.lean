/- Marline, values: kids that are read. Conditions: as each says. -/
import Derived.Test.YtggdpeeiioibgaaV0
namespace Go.Proofs.Ytggdpeeiioibgaa.E
open Go.RowKit Go.Proofs.YtggdpeeiioibgaaW.PrintWords Go.Proofs.YtggdpeeiioibgaaW.PrintLast Go.Proofs.YtggdpeeiioibgaaW.PrintMore Go.Proofs.Ytggdpeeiioibgaa.Kinds Go.Proofs.Ytggdpeeiioibgaa.Obj
set_option linter.unusedVariables false

/-- kids that are read. -/
def Kd24 (w : World) (A : Option Addr) (c : Nat) (x : S24) : Prop := x.f2.length ≤ c ∧ Kd.C k24 w A x.f2.length x.f2
theorem Kd24.below {w w' : World} {A : Option Addr} {c : Nat} {x : S24} (h : Kd24 w A c x) (hb : Below w.heap.size w w') : Kd24 w' A c x := ⟨h.1, Kd.C_below h.2 hb⟩
theorem Kd24.V {w : World} {A : Option Addr} {c : Nat} {x : S24} (h : Kd24 w A c x) : Kd.V k24 24 w w.heap.size (fun k => k < w.heap.size) (.slice A x.f2.length c) x.f2 := Kd.V_mk h.1 (Kd.C_F k24_heap h.2)
end Go.Proofs.Ytggdpeeiioibgaa.E
