/- Marline, layer 07: the law of Fill and Make, as its row wants it. Conditions: as it says. -/
import Derived.Test.YtggdpeeiioibgaaPmP
import Derived.Test.YtggdpeeiioibgaaOp3
namespace Go.Proofs.Ytggdpeeiioibgaa.Opn
open Go.RowKit Go.Proofs.YtggdpeeiioibgaaW.PrintWords Go.Proofs.YtggdpeeiioibgaaW.PrintLast Go.Proofs.Ytggdpeeiioibgaa.Open Go.Proofs.Ytggdpeeiioibgaa.Kinds Go.Proofs.Ytggdpeeiioibgaa.E
theorem opens22 (fuel : Nat) : OpensAt fuel Try.prog 22 (Kd.slice 24 k24) (fun xs => (xs.length * 40 ≤ 140737488351232 ∧ ∀ y ∈ xs, wf24 y)) (fun _ => 0) :=
  opens_weak (at_slice Try.underlying22 (by kernel_rfl) (by kernel_rfl) (fun q_ _ => (opens24 q_))) (fun _ h => h)
end Go.Proofs.Ytggdpeeiioibgaa.Opn
namespace Go.Proofs.Ytggdpeeiioibgaa.E
open Go.RowKit Go.Proofs.YtggdpeeiioibgaaW.PrintWords Go.Proofs.YtggdpeeiioibgaaW.PrintLast Go.Proofs.YtggdpeeiioibgaaW.PrintMore Go.Proofs.Ytggdpeeiioibgaa.Kinds Go.Proofs.Ytggdpeeiioibgaa.Obj
theorem makes_walk (n : Int) (x : S24) (A : Option Addr) (c : Nat) (l : List S24) (A2 : Option Addr) (c2 : Nat) (w : World) (_ : (Lit.int IntKind.i64 n).wf = true) (hx : Ok x) (hz : sz x ≤ 1048576) (h : Kd24 w A c x) (hC : Kd.C k24 w A2 l.length l) (hl : l.length ≤ c2)
    (hw : l.length * 40 ≤ 140737488351232 ∧ ∀ y ∈ l, Opn.wf24 y) :
    Calls Try.prog 5 #[.int .i64 n, v24 x.f0 x.f1 A x.f2.length c, .slice A2 l.length c2] w fun e w' => e = .returned (.bool true) ∧ Below w.heap.size w w' := by
  obtain ⟨k, hk⟩ := makes_pure n x l hx hz (fun c => .mk _ hw.1 (fun y hy => Opn.ok_of (hw.2 y hy)))
  exact PB.lawPM.calls k n x.f0 x.f1 A c x.f2 A2 c2 l true w h.2 h.1 hC hl hk
end Go.Proofs.Ytggdpeeiioibgaa.E
