/- How this seat's arguments are opened: written by a program of this session. No condition. -/
import Derived.Test.YtfofpammnfcmiaaDoorOpen
import Derived.Test.YtfofpammnfcmiaaDoorK
namespace Go.Proofs.YtfofpammnfcmiaaDoor.Opn
open Go.RowKit Go.Proofs.YtfofpammnfcmiaaDoorW.PrintWords Go.Proofs.YtfofpammnfcmiaaDoorW.PrintLast Go.Proofs.YtfofpammnfcmiaaDoor.Open Go.Proofs.YtfofpammnfcmiaaDoor.Kinds
set_option linter.unusedVariables false
structure S61 where
  f0 : List S48
  f1 : List S104
  f2 : List S226
  f3 : List (List Int)
def k61 : Kd S61 := Kd.iso (Kd.pair (Kd.slice 48 k48) (Kd.pair (Kd.slice 104 k104) (Kd.pair (Kd.slice 226 k226) (Kd.slice 35 (Kd.slice 3 (Kd.int .i64)))))) (fun x : S61 => (x.f0, x.f1, x.f2, x.f3))
/-- what is known of a value of type 48 that was read. -/
def wf48 (x : S48) : Prop := (-9223372036854775808 ≤ x.f0 ∧ x.f0 ≤ 9223372036854775807) ∧ (-9223372036854775808 ≤ x.f1 ∧ x.f1 ≤ 9223372036854775807) ∧ (-9223372036854775808 ≤ x.f2 ∧ x.f2 ≤ 9223372036854775807) ∧ (-9223372036854775808 ≤ x.f3 ∧ x.f3 ≤ 9223372036854775807)
set_option maxRecDepth 100000 in
theorem opens48 (fuel : Nat) : OpensAt fuel Tryd.prog 48 k48 wf48 (fun _ => 0) :=
  opens_weak (at_struct (fuel := fuel) (fun x : S48 => (x.f0, x.f1, x.f2, x.f3)) (fun z => ⟨z.1, z.2.1, z.2.2.1, z.2.2.2⟩) (fun _ => rfl) Tryd.underlying48 (by kernel_rfl) (fun m hm => (fields_cons rfl (by kernel_rfl) rfl (at_ini64 Tryd.underlying3) (fields_cons rfl (by kernel_rfl) rfl (at_ini64 Tryd.underlying3) (fields_cons rfl (by kernel_rfl) rfl (at_ini64 Tryd.underlying3) (fields_one rfl (by kernel_rfl) (at_ini64 Tryd.underlying3))))))) (fun _ h => h)
/-- what is known of a value of type 104 that was read. -/
def wf104 (x : S104) : Prop := x.f0.size ≤ 140737488351232 ∧ (-9223372036854775808 ≤ x.f1 ∧ x.f1 ≤ 9223372036854775807) ∧ (-9223372036854775808 ≤ x.f2 ∧ x.f2 ≤ 9223372036854775807) ∧ (-9223372036854775808 ≤ x.f3 ∧ x.f3 ≤ 9223372036854775807) ∧ True
set_option maxRecDepth 100000 in
theorem opens104 (fuel : Nat) : OpensAt fuel Tryd.prog 104 k104 wf104 (fun _ => 0) :=
  opens_weak (at_struct (fuel := fuel) (fun x : S104 => (x.f0, x.f1, x.f2, x.f3, x.f4)) (fun z => ⟨z.1, z.2.1, z.2.2.1, z.2.2.2.1, z.2.2.2.2⟩) (fun _ => rfl) Tryd.underlying104 (by kernel_rfl) (fun m hm => (fields_cons rfl (by kernel_rfl) rfl (at_string Tryd.underlying9) (fields_cons rfl (by kernel_rfl) rfl (at_ini64 Tryd.underlying3) (fields_cons rfl (by kernel_rfl) rfl (at_ini64 Tryd.underlying3) (fields_cons rfl (by kernel_rfl) rfl (at_ini64 Tryd.underlying3) (fields_one rfl (by kernel_rfl) (at_bool Tryd.underlying4)))))))) (fun _ h => h)
/-- what is known of a value of type 67 that was read, and of all below it. -/
inductive wf67 : S67 → Prop
  | mk (x : S67) : (-9223372036854775808 ≤ x.f0 ∧ x.f0 ≤ 9223372036854775807) → (-9223372036854775808 ≤ x.f1 ∧ x.f1 ≤ 9223372036854775807) → x.f2.length * 40 ≤ 140737488351232 → (∀ y ∈ x.f2, wf67 y) → wf67 x
set_option maxRecDepth 100000 in
theorem opens67 : ∀ fuel, OpensAt fuel Tryd.prog 67 k67 wf67 (fun _ => 0) := by
  intro fuel
  induction fuel using Nat.strongRecOn with
  | _ fuel ih =>
  intro H enc W base spare held cs y hy hw
  obtain ⟨x, hK, hwf, _⟩ := at_struct (fuel := fuel) (fun x : S67 => (x.f0, x.f1, x.f2)) (fun z => ⟨z.1, z.2.1, z.2.2⟩) (fun _ => rfl) Tryd.underlying67 (by kernel_rfl) (fun m hm => (fields_cons rfl (by kernel_rfl) rfl (at_ini64 Tryd.underlying3) (fields_cons rfl (by kernel_rfl) rfl (at_ini64 Tryd.underlying3) (fields_one rfl (by kernel_rfl) (at_slice Tryd.underlying65 (by kernel_rfl) (by kernel_rfl) (fun q_ hq_ => ih q_ (by omega))))))) enc W base spare held cs y hy hw
  obtain ⟨_, _, rfl, rfl, ⟨_, _, rfl, rfl, ⟨A2, c2, rfl, hl2, hC2⟩⟩⟩ := hK
  obtain ⟨w0, w1, w2⟩ := hwf
  exact ⟨x, k67_mk W x hl2 hC2, .mk x w0 w1 w2.1 w2.2, Nat.zero_le _⟩
/-- what is known of a value of type 226 that was read. -/
def wf226 (x : S226) : Prop := (-9223372036854775808 ≤ x.f0 ∧ x.f0 ≤ 9223372036854775807) ∧ (-9223372036854775808 ≤ x.f1 ∧ x.f1 ≤ 9223372036854775807) ∧ True ∧ wf67 x.f3 ∧ (-9223372036854775808 ≤ x.f4 ∧ x.f4 ≤ 9223372036854775807)
set_option maxRecDepth 100000 in
theorem opens226 (fuel : Nat) : OpensAt fuel Tryd.prog 226 k226 wf226 (fun _ => 0) :=
  opens_weak (at_struct (fuel := fuel) (fun x : S226 => (x.f0, x.f1, x.f2, x.f3, x.f4)) (fun z => ⟨z.1, z.2.1, z.2.2.1, z.2.2.2.1, z.2.2.2.2⟩) (fun _ => rfl) Tryd.underlying226 (by kernel_rfl) (fun m hm => (fields_cons rfl (by kernel_rfl) rfl (at_ini64 Tryd.underlying3) (fields_cons rfl (by kernel_rfl) rfl (at_ini64 Tryd.underlying3) (fields_cons rfl (by kernel_rfl) rfl (at_bool Tryd.underlying4) (fields_cons rfl (by kernel_rfl) rfl (opens67 m) (fields_one rfl (by kernel_rfl) (at_ini64 Tryd.underlying3)))))))) (fun _ h => h)
/-- what is known of a value of type 61 that was read. -/
def wf61 (x : S61) : Prop := (x.f0.length * 32 ≤ 140737488351232 ∧ ∀ y ∈ x.f0, wf48 y) ∧ (x.f1.length * 48 ≤ 140737488351232 ∧ ∀ y ∈ x.f1, wf104 y) ∧ (x.f2.length * 72 ≤ 140737488351232 ∧ ∀ y ∈ x.f2, wf226 y) ∧ (x.f3.length * 24 ≤ 140737488351232 ∧ ∀ y ∈ x.f3, (y.length * 8 ≤ 140737488351232 ∧ ∀ z ∈ y, (-9223372036854775808 ≤ z ∧ z ≤ 9223372036854775807)))
set_option maxRecDepth 100000 in
theorem opens61 (fuel : Nat) : OpensAt fuel Tryd.prog 61 k61 wf61 (fun _ => 0) :=
  opens_weak (at_struct (fuel := fuel) (fun x : S61 => (x.f0, x.f1, x.f2, x.f3)) (fun z => ⟨z.1, z.2.1, z.2.2.1, z.2.2.2⟩) (fun _ => rfl) Tryd.underlying61 (by kernel_rfl) (fun m hm => (fields_cons rfl (by kernel_rfl) rfl (at_slice Tryd.underlying56 (by kernel_rfl) (by kernel_rfl) (fun q_ hq_ => (opens48 q_))) (fields_cons rfl (by kernel_rfl) rfl (at_slice Tryd.underlying57 (by kernel_rfl) (by kernel_rfl) (fun q_ hq_ => (opens104 q_))) (fields_cons rfl (by kernel_rfl) rfl (at_slice Tryd.underlying58 (by kernel_rfl) (by kernel_rfl) (fun q_ hq_ => (opens226 q_))) (fields_one rfl (by kernel_rfl) (at_slice Tryd.underlying59 (by kernel_rfl) (by kernel_rfl) (fun q_ hq_ => (at_slice Tryd.underlying35 (by kernel_rfl) (by kernel_rfl) (fun q_ hq_ => (at_ini64 Tryd.underlying3))))))))))) (fun _ h => h)
theorem open48 {W : World} {x : S48} {cs : Array Value} (h : k48.K W x cs.toList) : cs = #[.int .i64 x.f0, .int .i64 x.f1, .int .i64 x.f2, .int .i64 x.f3] := by
  obtain ⟨l⟩ := cs
  have := k48_open h
  simp only at this
  rw [this]
theorem open61 {W : World} {x : S61} {cs : Array Value} (h : k61.K W x cs.toList) : ∃ A0 c0 A1 c1 A2 c2 A3 c3, cs = #[.slice A0 x.f0.length c0, .slice A1 x.f1.length c1, .slice A2 x.f2.length c2, .slice A3 x.f3.length c3] ∧
    Kd.C k48 W A0 x.f0.length x.f0 ∧ x.f0.length ≤ c0 ∧ Kd.C k104 W A1 x.f1.length x.f1 ∧ x.f1.length ≤ c1 ∧ Kd.C k226 W A2 x.f2.length x.f2 ∧ x.f2.length ≤ c2 ∧ Kd.C (Kd.slice 3 (Kd.int .i64)) W A3 x.f3.length x.f3 ∧ x.f3.length ≤ c3 := by
  obtain ⟨l⟩ := cs
  obtain ⟨a0, b0, h0, ⟨A0, c0, rfl, l0, C0⟩, ⟨a1, b1, h1, ⟨A1, c1, rfl, l1, C1⟩, ⟨a2, b2, h2, ⟨A2, c2, rfl, l2, C2⟩, ⟨A3, c3, rfl, l3, C3⟩⟩⟩⟩ := h
  subst h2; subst h1
  refine ⟨A0, c0, A1, c1, A2, c2, A3, c3, ?_, C0, l0, C1, l1, C2, l2, C3, l3⟩
  simp only at h0
  rw [h0]; rfl
end Go.Proofs.YtfofpammnfcmiaaDoor.Opn
