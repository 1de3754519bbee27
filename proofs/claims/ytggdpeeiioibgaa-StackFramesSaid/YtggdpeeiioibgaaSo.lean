/- Marline, layer 36: how a call is opened as an argument. No condition. -/
import Derived.Test.YtggdpeeiioibgaaOp2
import Derived.Test.YtggdpeeiioibgaaSz
namespace Go.Proofs.Ytggdpeeiioibgaa.Opn
open Go.RowKit Go.Proofs.YtggdpeeiioibgaaW.PrintWords Go.Proofs.YtggdpeeiioibgaaW.PrintLast Go.Proofs.Ytggdpeeiioibgaa.Open Go.Proofs.Ytggdpeeiioibgaa.Kinds Go.Proofs.Ytggdpeeiioibgaa.E
set_option linter.unusedVariables false
structure S61 where
  f0 : Int
  f1 : Int
  f2 : Int
  f3 : Int
  f4 : S24
def k61 : Kd S61 := Kd.iso (Kd.pair (Kd.int .i64) (Kd.pair (Kd.int .i64) (Kd.pair (Kd.int .i64) (Kd.pair (Kd.int .i64) k24)))) (fun x : S61 => (x.f0, x.f1, x.f2, x.f3, x.f4))
def wf61 (x : S61) : Prop := (-9223372036854775808 ≤ x.f0 ∧ x.f0 ≤ 9223372036854775807) ∧ (-9223372036854775808 ≤ x.f1 ∧ x.f1 ≤ 9223372036854775807) ∧ (-9223372036854775808 ≤ x.f2 ∧ x.f2 ≤ 9223372036854775807) ∧ (-9223372036854775808 ≤ x.f3 ∧ x.f3 ≤ 9223372036854775807) ∧ wf24 x.f4
set_option maxRecDepth 100000 in
theorem opens61 (fuel : Nat) : OpensAt fuel Try.prog 61 k61 wf61 (fun _ => 0) :=
  opens_weak (at_struct (fuel := fuel) (fun x : S61 => (x.f0, x.f1, x.f2, x.f3, x.f4)) (fun z => ⟨z.1, z.2.1, z.2.2.1, z.2.2.2.1, z.2.2.2.2⟩) (fun _ => rfl) Try.underlying61 (by kernel_rfl) (fun m hm => (fields_cons rfl (by kernel_rfl) rfl (at_ini64 Try.underlying3) (fields_cons rfl (by kernel_rfl) rfl (at_ini64 Try.underlying3) (fields_cons rfl (by kernel_rfl) rfl (at_ini64 Try.underlying3) (fields_cons rfl (by kernel_rfl) rfl (at_ini64 Try.underlying3) (fields_one rfl (by kernel_rfl) (opens24 m)))))))) (fun _ h => h)
theorem open61 {W : World} {x : S61} {cs : Array Value} (h : k61.K W x cs.toList) : ∃ A c, cs = #[.int .i64 x.f0, .int .i64 x.f1, .int .i64 x.f2, .int .i64 x.f3, .int .i64 x.f4.f0, .int .i64 x.f4.f1, .slice A x.f4.f2.length c] ∧ Kd24 W A c x.f4 := by
  obtain ⟨c0, r0, e0, h0, ⟨c1, r1, e1, h1, ⟨c2, r2, e2, h2, ⟨c3, r3, e3, h3, h4⟩⟩⟩⟩ := h
  obtain ⟨A, c, he, g1, g2⟩ := k24_open h4
  have h0 : c0 = [.int .i64 x.f0] := h0
  have h1 : c1 = [.int .i64 x.f1] := h1
  have h2 : c2 = [.int .i64 x.f2] := h2
  have h3 : c3 = [.int .i64 x.f3] := h3
  subst h0 h1 h2 h3
  rw [he] at e3
  rw [e3] at e2
  rw [e2] at e1
  rw [e1] at e0
  exact ⟨A, c, by cases cs; simpa using e0, g1, g2⟩
theorem nil_row (x : S61) (A : Option Addr) (c : Nat) (W : World) (hx : wf61 x) (h : Kd24 W A c x.f4) :
    Calls Try.prog 11 #[.agg #[.int .i64 x.f0, .int .i64 x.f1, .int .i64 x.f2, .int .i64 x.f3, .int .i64 x.f4.f0, .int .i64 x.f4.f1, .slice A x.f4.f2.length c]] W fun e w' => e = .returned (.bool true) ∧ Below W.heap.size W w' :=
  nil_walk x.f0 x.f1 x.f2 x.f3 x.f4 A c W (ok_of hx.2.2.2.2) h
end Go.Proofs.Ytggdpeeiioibgaa.Opn
