/- How this seat's arguments are opened: written by a program of this session. No condition. -/
import Derived.Test.YtnbgdmeehckbcaaOpen
import Derived.Test.YtnbgdmeehckbcaaPNestTellsx0
namespace Go.Proofs.Ytnbgdmeehckbcaa.Opn
open Go.RowKit Go.Proofs.YtnbgdmeehckbcaaW.PrintWords Go.Proofs.YtnbgdmeehckbcaaW.PrintLast Go.Proofs.Ytnbgdmeehckbcaa.Open Go.Proofs.Ytnbgdmeehckbcaa.PNestTells
set_option linter.unusedVariables false
/-- what is known of a value of type 35 that was read. -/
def wf35 (x : S35) : Prop := (-9223372036854775808 ≤ x.f0 ∧ x.f0 ≤ 9223372036854775807) ∧ (-9223372036854775808 ≤ x.f1 ∧ x.f1 ≤ 9223372036854775807) ∧ (-9223372036854775808 ≤ x.f2 ∧ x.f2 ≤ 9223372036854775807) ∧ x.f3.size ≤ 140737488351232
set_option maxRecDepth 100000 in
theorem opens35 (fuel : Nat) : OpensAt fuel Try.prog 35 k35 wf35 (fun _ => 0) :=
  opens_weak (at_struct (fuel := fuel) (fun x : S35 => (x.f0, x.f1, x.f2, x.f3)) (fun z => ⟨z.1, z.2.1, z.2.2.1, z.2.2.2⟩) (fun _ => rfl) Try.underlying35 (by kernel_rfl) (fun m hm => (fields_cons rfl (by kernel_rfl) rfl (at_ini64 Try.underlying3) (fields_cons rfl (by kernel_rfl) rfl (at_ini64 Try.underlying3) (fields_cons rfl (by kernel_rfl) rfl (at_ini64 Try.underlying3) (fields_one rfl (by kernel_rfl) (at_string Try.underlying9))))))) (fun _ h => h)
theorem opens22 (fuel : Nat) : OpensAt fuel Try.prog 22 (Kd.slice 35 k35) (fun xs => (xs.length * 40 ≤ 140737488351232 ∧ ∀ y ∈ xs, wf35 y)) (fun _ => 0) :=
  opens_weak (at_slice Try.underlying22 (by kernel_rfl) (by kernel_rfl) (fun q_ _ => (opens35 q_))) (fun _ h => h)
end Go.Proofs.Ytnbgdmeehckbcaa.Opn
