/- How this seat's arguments are opened: written by a program of this session. No condition. -/
import Derived.Test.YtfofpammnfcmiaaDoorOpen
import Derived.Test.YtfofpammnfcmiaaDoorK
namespace Go.Proofs.YtfofpammnfcmiaaDoor.Opn
open Go.RowKit Go.Proofs.YtfofpammnfcmiaaDoorW.PrintWords Go.Proofs.YtfofpammnfcmiaaDoorW.PrintLast Go.Proofs.YtfofpammnfcmiaaDoor.Open Go.Proofs.YtfofpammnfcmiaaDoor.Kinds
set_option linter.unusedVariables false
/-- what is known of a value of type 32 that was read. -/
def wf32 (x : S32) : Prop := (-9223372036854775808 ≤ x.f0 ∧ x.f0 ≤ 9223372036854775807) ∧ (-9223372036854775808 ≤ x.f1 ∧ x.f1 ≤ 9223372036854775807) ∧ True
set_option maxRecDepth 100000 in
theorem opens32 (fuel : Nat) : OpensAt fuel Tryd.prog 32 k32 wf32 (fun _ => 0) :=
  opens_weak (at_struct (fuel := fuel) (fun x : S32 => (x.f0, x.f1, x.f2)) (fun z => ⟨z.1, z.2.1, z.2.2⟩) (fun _ => rfl) Tryd.underlying32 (by kernel_rfl) (fun m hm => (fields_cons rfl (by kernel_rfl) rfl (at_ini64 Tryd.underlying3) (fields_cons rfl (by kernel_rfl) rfl (at_ini64 Tryd.underlying3) (fields_one rfl (by kernel_rfl) (at_bool Tryd.underlying4)))))) (fun _ h => h)
theorem opens23 (fuel : Nat) : OpensAt fuel Tryd.prog 23 (Kd.slice 32 k32) (fun xs => (xs.length * 24 ≤ 140737488351232 ∧ ∀ y ∈ xs, wf32 y)) (fun _ => 0) :=
  opens_weak (at_slice Tryd.underlying23 (by kernel_rfl) (by kernel_rfl) (fun q_ _ => (opens32 q_))) (fun _ h => h)
theorem opens35 (fuel : Nat) : OpensAt fuel Tryd.prog 35 (Kd.slice 3 (Kd.int .i64)) (fun xs => (xs.length * 8 ≤ 140737488351232 ∧ ∀ y ∈ xs, (-9223372036854775808 ≤ y ∧ y ≤ 9223372036854775807))) (fun _ => 0) :=
  opens_weak (at_slice Tryd.underlying35 (by kernel_rfl) (by kernel_rfl) (fun q_ _ => (at_ini64 Tryd.underlying3))) (fun _ h => h)
end Go.Proofs.YtfofpammnfcmiaaDoor.Opn
