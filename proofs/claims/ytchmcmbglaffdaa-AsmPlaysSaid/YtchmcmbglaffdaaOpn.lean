/- How this seat's arguments are opened: written by a program of this session. No condition. -/
import Derived.Test.YtchmcmbglaffdaaOpen
import Derived.Test.YtchmcmbglaffdaaK
namespace Go.Proofs.Ytchmcmbglaffdaa.Opn
open Go.RowKit Go.Proofs.YtchmcmbglaffdaaW.PrintWords Go.Proofs.YtchmcmbglaffdaaW.PrintLast Go.Proofs.Ytchmcmbglaffdaa.Open Go.Proofs.Ytchmcmbglaffdaa.Kinds
set_option linter.unusedVariables false
/-- what is known of a value of type 31 that was read. -/
def wf31 (x : S31) : Prop := (-9223372036854775808 ≤ x.f0 ∧ x.f0 ≤ 9223372036854775807) ∧ (-9223372036854775808 ≤ x.f1 ∧ x.f1 ≤ 9223372036854775807) ∧ (-9223372036854775808 ≤ x.f2 ∧ x.f2 ≤ 9223372036854775807) ∧ (-9223372036854775808 ≤ x.f3 ∧ x.f3 ≤ 9223372036854775807)
set_option maxRecDepth 100000 in
theorem opens31 (fuel : Nat) : OpensAt fuel Try.prog 31 k31 wf31 (fun _ => 0) :=
  opens_weak (at_struct (fuel := fuel) (fun x : S31 => (x.f0, x.f1, x.f2, x.f3)) (fun z => ⟨z.1, z.2.1, z.2.2.1, z.2.2.2⟩) (fun _ => rfl) Try.underlying31 (by kernel_rfl) (fun m hm => (fields_cons rfl (by kernel_rfl) rfl (at_ini64 Try.underlying3) (fields_cons rfl (by kernel_rfl) rfl (at_ini64 Try.underlying3) (fields_cons rfl (by kernel_rfl) rfl (at_ini64 Try.underlying3) (fields_one rfl (by kernel_rfl) (at_ini64 Try.underlying3))))))) (fun _ h => h)
theorem opens22 (fuel : Nat) : OpensAt fuel Try.prog 22 (Kd.slice 31 k31) (fun xs => (xs.length * 32 ≤ 140737488351232 ∧ ∀ y ∈ xs, wf31 y)) (fun _ => 0) :=
  opens_weak (at_slice Try.underlying22 (by kernel_rfl) (by kernel_rfl) (fun q_ _ => (opens31 q_))) (fun _ h => h)
end Go.Proofs.Ytchmcmbglaffdaa.Opn
