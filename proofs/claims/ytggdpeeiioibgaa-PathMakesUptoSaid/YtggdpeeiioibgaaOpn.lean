/- How this seat's arguments are opened: written by a program of this session. No condition. -/
import Derived.Test.YtggdpeeiioibgaaOpen
import Derived.Test.YtggdpeeiioibgaaK
namespace Go.Proofs.Ytggdpeeiioibgaa.Opn
open Go.RowKit Go.Proofs.YtggdpeeiioibgaaW.PrintWords Go.Proofs.YtggdpeeiioibgaaW.PrintLast Go.Proofs.Ytggdpeeiioibgaa.Open Go.Proofs.Ytggdpeeiioibgaa.Kinds
set_option linter.unusedVariables false
/-- what is known of a value of type 24 that was read, and of all below it. -/
inductive wf24 : S24 → Prop
  | mk (x : S24) : (-9223372036854775808 ≤ x.f0 ∧ x.f0 ≤ 9223372036854775807) → (-9223372036854775808 ≤ x.f1 ∧ x.f1 ≤ 9223372036854775807) → x.f2.length * 40 ≤ 140737488351232 → (∀ y ∈ x.f2, wf24 y) → wf24 x
set_option maxRecDepth 100000 in
theorem opens24 : ∀ fuel, OpensAt fuel Try.prog 24 k24 wf24 (fun _ => 0) := by
  intro fuel
  induction fuel using Nat.strongRecOn with
  | _ fuel ih =>
  intro H enc W base spare held cs y hy hw
  obtain ⟨x, hK, hwf, _⟩ := at_struct (fuel := fuel) (fun x : S24 => (x.f0, x.f1, x.f2)) (fun z => ⟨z.1, z.2.1, z.2.2⟩) (fun _ => rfl) Try.underlying24 (by kernel_rfl) (fun m hm => (fields_cons rfl (by kernel_rfl) rfl (at_ini64 Try.underlying3) (fields_cons rfl (by kernel_rfl) rfl (at_ini64 Try.underlying3) (fields_one rfl (by kernel_rfl) (at_slice Try.underlying22 (by kernel_rfl) (by kernel_rfl) (fun q_ hq_ => ih q_ (by omega))))))) enc W base spare held cs y hy hw
  obtain ⟨_, _, rfl, rfl, ⟨_, _, rfl, rfl, ⟨A2, c2, rfl, hl2, hC2⟩⟩⟩ := hK
  obtain ⟨w0, w1, w2⟩ := hwf
  exact ⟨x, k24_mk W x hl2 hC2, .mk x w0 w1 w2.1 w2.2, Nat.zero_le _⟩
/-- what is known of a value of type 38 that was read. -/
def wf38 (x : S38) : Prop := True ∧ (-9223372036854775808 ≤ x.f1 ∧ x.f1 ≤ 9223372036854775807)
set_option maxRecDepth 100000 in
theorem opens38 (fuel : Nat) : OpensAt fuel Try.prog 38 k38 wf38 (fun _ => 0) :=
  opens_weak (at_struct (fuel := fuel) (fun x : S38 => (x.f0, x.f1)) (fun z => ⟨z.1, z.2⟩) (fun _ => rfl) Try.underlying38 (by kernel_rfl) (fun m hm => (fields_cons rfl (by kernel_rfl) rfl (at_bool Try.underlying4) (fields_one rfl (by kernel_rfl) (at_ini64 Try.underlying3))))) (fun _ h => h)
theorem opens25 (fuel : Nat) : OpensAt fuel Try.prog 25 (Kd.slice 38 k38) (fun xs => (xs.length * 16 ≤ 140737488351232 ∧ ∀ y ∈ xs, wf38 y)) (fun _ => 0) :=
  opens_weak (at_slice Try.underlying25 (by kernel_rfl) (by kernel_rfl) (fun q_ _ => (opens38 q_))) (fun _ h => h)
end Go.Proofs.Ytggdpeeiioibgaa.Opn
