/- How this seat's values are opened, and of what bulk they are. No condition. -/
import Derived.Test.YtggdpeeiioibgaaOp2
namespace Go.Proofs.Ytggdpeeiioibgaa.Opn
open Go.RowKit Go.Proofs.YtggdpeeiioibgaaW.PrintWords Go.Proofs.YtggdpeeiioibgaaW.PrintLast Go.Proofs.Ytggdpeeiioibgaa.Open Go.Proofs.Ytggdpeeiioibgaa.Kinds Go.Proofs.Ytggdpeeiioibgaa.E
set_option linter.unusedVariables false
theorem szL_sum : ∀ l : List S24, szL l = (l.map sz).sum
  | [] => rfl
  | x :: l => by simp only [szL, List.map_cons, List.sum_cons, szL_sum l]
set_option maxRecDepth 100000 in
theorem opens24b : ∀ fuel, OpensAt fuel Try.prog 24 k24 wf24 sz := by
  intro fuel
  induction fuel using Nat.strongRecOn with
  | _ fuel ih =>
  intro H enc W base spare held cs y hy hw
  obtain ⟨x, hK, hwf, hB⟩ := at_struct (fuel := fuel) (fun x : S24 => (x.f0, x.f1, x.f2)) (fun z => ⟨z.1, z.2.1, z.2.2⟩) (fun _ => rfl) Try.underlying24 (by kernel_rfl) (fun m hm => (fields_cons rfl (by kernel_rfl) rfl (at_ini64 Try.underlying3) (fields_cons rfl (by kernel_rfl) rfl (at_ini64 Try.underlying3) (fields_one rfl (by kernel_rfl) (at_slice Try.underlying22 (by kernel_rfl) (by kernel_rfl) (fun q_ hq_ => ih q_ (by omega))))))) enc W base spare held cs y hy hw
  obtain ⟨_, _, rfl, rfl, ⟨_, _, rfl, rfl, ⟨A2, c2, rfl, hl2, hC2⟩⟩⟩ := hK
  obtain ⟨w0, w1, w2⟩ := hwf
  refine ⟨x, k24_mk W x hl2 hC2, .mk x w0 w1 w2.1 w2.2, Nat.le_trans ?_ hB⟩
  have e := szL_sum x.f2
  have e1 := sz_eq x
  show sz x ≤ 1 + (1 + ((x.f2.map sz).sum + 1)) + 1
  omega
end Go.Proofs.Ytggdpeeiioibgaa.Opn
