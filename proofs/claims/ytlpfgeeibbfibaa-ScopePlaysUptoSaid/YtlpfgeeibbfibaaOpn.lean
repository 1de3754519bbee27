/- How this seat's arguments are opened: written by a program of this session. No condition. -/
import Derived.Test.YtlpfgeeibbfibaaOpen
import Derived.Test.YtlpfgeeibbfibaaK
namespace Go.Proofs.Ytlpfgeeibbfibaa.Opn
open Go.RowKit Go.Proofs.YtlpfgeeibbfibaaW.PrintWords Go.Proofs.YtlpfgeeibbfibaaW.PrintLast Go.Proofs.Ytlpfgeeibbfibaa.Open Go.Proofs.Ytlpfgeeibbfibaa.Kinds
set_option linter.unusedVariables false
/-- what is known of a value of type 30 that was read, and of all below it. -/
inductive wf30 : S30 → Prop
  | mk (x : S30) : (-9223372036854775808 ≤ x.f0 ∧ x.f0 ≤ 9223372036854775807) → (-9223372036854775808 ≤ x.f1 ∧ x.f1 ≤ 9223372036854775807) → (-9223372036854775808 ≤ x.f2 ∧ x.f2 ≤ 9223372036854775807) → x.f3.size ≤ 140737488351232 → x.f4.length * 64 ≤ 140737488351232 → (∀ y ∈ x.f4, wf30 y) → wf30 x
set_option maxRecDepth 100000 in
theorem opens30 : ∀ fuel, OpensAt fuel Try.prog 30 k30 wf30 (fun _ => 0) := by
  intro fuel
  induction fuel using Nat.strongRecOn with
  | _ fuel ih =>
  intro H enc W base spare held cs y hy hw
  obtain ⟨x, hK, hwf, _⟩ := at_struct (fuel := fuel) (fun x : S30 => (x.f0, x.f1, x.f2, x.f3, x.f4)) (fun z => ⟨z.1, z.2.1, z.2.2.1, z.2.2.2.1, z.2.2.2.2⟩) (fun _ => rfl) Try.underlying30 (by kernel_rfl) (fun m hm => (fields_cons rfl (by kernel_rfl) rfl (at_ini64 Try.underlying3) (fields_cons rfl (by kernel_rfl) rfl (at_ini64 Try.underlying3) (fields_cons rfl (by kernel_rfl) rfl (at_ini64 Try.underlying3) (fields_cons rfl (by kernel_rfl) rfl (at_string Try.underlying9) (fields_one rfl (by kernel_rfl) (at_slice Try.underlying28 (by kernel_rfl) (by kernel_rfl) (fun q_ hq_ => ih q_ (by omega))))))))) enc W base spare held cs y hy hw
  obtain ⟨_, _, rfl, rfl, ⟨_, _, rfl, rfl, ⟨_, _, rfl, rfl, ⟨_, _, rfl, rfl, ⟨A4, c4, rfl, hl4, hC4⟩⟩⟩⟩⟩ := hK
  obtain ⟨w0, w1, w2, w3, w4⟩ := hwf
  exact ⟨x, k30_mk W x hl4 hC4, .mk x w0 w1 w2 w3 w4.1 w4.2, Nat.zero_le _⟩
/-- what is known of a value of type 32 that was read. -/
def wf32 (x : S32) : Prop := (-9223372036854775808 ≤ x.f0 ∧ x.f0 ≤ 9223372036854775807) ∧ x.f1.size ≤ 140737488351232 ∧ wf30 x.f2
set_option maxRecDepth 100000 in
theorem opens32 (fuel : Nat) : OpensAt fuel Try.prog 32 k32 wf32 (fun _ => 0) :=
  opens_weak (at_struct (fuel := fuel) (fun x : S32 => (x.f0, x.f1, x.f2)) (fun z => ⟨z.1, z.2.1, z.2.2⟩) (fun _ => rfl) Try.underlying32 (by kernel_rfl) (fun m hm => (fields_cons rfl (by kernel_rfl) rfl (at_ini64 Try.underlying3) (fields_cons rfl (by kernel_rfl) rfl (at_string Try.underlying9) (fields_one rfl (by kernel_rfl) (opens30 m)))))) (fun _ h => h)
theorem opens22 (fuel : Nat) : OpensAt fuel Try.prog 22 (Kd.slice 32 k32) (fun xs => (xs.length * 88 ≤ 140737488351232 ∧ ∀ y ∈ xs, wf32 y)) (fun _ => 0) :=
  opens_weak (at_slice Try.underlying22 (by kernel_rfl) (by kernel_rfl) (fun q_ _ => (opens32 q_))) (fun _ h => h)
end Go.Proofs.Ytlpfgeeibbfibaa.Opn
