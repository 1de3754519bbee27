/- How this seat's arguments are opened, and of what bulk they are. No condition. -/
import Derived.Test.YtlpfgeeibbfibaaOpn
import Derived.Test.YtlpfgeeibbfibaaSm
namespace Go.Proofs.Ytlpfgeeibbfibaa.Opn
open Go.RowKit Go.Proofs.YtlpfgeeibbfibaaW.PrintWords Go.Proofs.YtlpfgeeibbfibaaW.PrintLast Go.Proofs.Ytlpfgeeibbfibaa.Open Go.Proofs.Ytlpfgeeibbfibaa.Kinds Go.Proofs.Ytlpfgeeibbfibaa.E
set_option linter.unusedVariables false
set_option maxRecDepth 100000 in
theorem opens30b : ∀ fuel, OpensAt fuel Try.prog 30 k30 wf30 ns := by
  intro fuel
  induction fuel using Nat.strongRecOn with
  | _ fuel ih =>
  intro H enc W base spare held cs y hy hw
  obtain ⟨x, hK, hwf, hB⟩ := at_struct (fuel := fuel) (fun x : S30 => (x.f0, x.f1, x.f2, x.f3, x.f4)) (fun z => ⟨z.1, z.2.1, z.2.2.1, z.2.2.2.1, z.2.2.2.2⟩) (fun _ => rfl) Try.underlying30 (by kernel_rfl) (fun m hm => (fields_cons rfl (by kernel_rfl) rfl (at_ini64 Try.underlying3) (fields_cons rfl (by kernel_rfl) rfl (at_ini64 Try.underlying3) (fields_cons rfl (by kernel_rfl) rfl (at_ini64 Try.underlying3) (fields_cons rfl (by kernel_rfl) rfl (at_string Try.underlying9) (fields_one rfl (by kernel_rfl) (at_slice Try.underlying28 (by kernel_rfl) (by kernel_rfl) (fun q_ hq_ => ih q_ (by omega))))))))) enc W base spare held cs y hy hw
  obtain ⟨_, _, rfl, rfl, ⟨_, _, rfl, rfl, ⟨_, _, rfl, rfl, ⟨_, _, rfl, rfl, ⟨A4, c4, rfl, hl4, hC4⟩⟩⟩⟩⟩ := hK
  obtain ⟨w0, w1, w2, w3, w4⟩ := hwf
  refine ⟨x, k30_mk W x hl4 hC4, .mk x w0 w1 w2 w3 w4.1 w4.2, Nat.le_trans ?_ hB⟩
  have e := nsL_sum x.f4
  have e1 := ns_eq x
  show ns x ≤ 1 + (1 + (1 + (x.f3.size + 1 + ((x.f4.map ns).sum + 1)))) + 1
  omega
set_option maxRecDepth 100000 in
theorem opens32b (fuel : Nat) : OpensAt fuel Try.prog 32 k32 wf32 (fun x => ns x.f2) := by
  intro H enc W base spare held cs y hy hw
  obtain ⟨x, hK, hwf, hB⟩ := (at_struct (fuel := fuel) (fun x : S32 => (x.f0, x.f1, x.f2)) (fun z => ⟨z.1, z.2.1, z.2.2⟩) (fun _ => rfl) Try.underlying32 (by kernel_rfl) (fun m hm => (fields_cons rfl (by kernel_rfl) rfl (at_ini64 Try.underlying3) (fields_cons rfl (by kernel_rfl) rfl (at_string Try.underlying9) (fields_one rfl (by kernel_rfl) (opens30b m)))))) enc W base spare held cs y hy hw
  refine ⟨x, hK, hwf, Nat.le_trans ?_ hB⟩
  show ns x.f2 ≤ 1 + (x.f1.size + 1 + ns x.f2) + 1
  omega
theorem opens22b (fuel : Nat) : OpensAt fuel Try.prog 22 (Kd.slice 32 k32) (fun xs => (xs.length * 88 ≤ 140737488351232 ∧ ∀ y ∈ xs, wf32 y)) (fun xs => (xs.map (fun x => ns x.f2)).sum + 1) :=
  at_slice Try.underlying22 (by kernel_rfl) (by kernel_rfl) (fun q_ _ => (opens32b q_))
theorem sum_mem {l : List S32} {y : S32} (h : y ∈ l) : ns y.f2 ≤ (l.map (fun x => ns x.f2)).sum := by
  induction l with
  | nil => simp at h
  | cons x l ih =>
    rw [List.map_cons, List.sum_cons]
    rcases List.mem_cons.1 h with rfl | h
    · omega
    · have := ih h; omega
theorem plays_row (l : List S32) (A : Option Addr) (c : Nat) (nm : ByteArray) (W : World) (hB : (l.map (fun x => ns x.f2)).sum + 1 ≤ 1048576) (hC : Kd.C k32 W A l.length l) (hc : l.length ≤ c) :
    Calls Try.prog 3 #[.slice A l.length c, .string nm] W fun e w' => e = .returned (.bool true) ∧ Below W.heap.size W w' :=
  plays_walk l A c nm W (fun y hy => by have := sum_mem hy; omega) hC hc
end Go.Proofs.Ytlpfgeeibbfibaa.Opn
