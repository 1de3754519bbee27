/- Marline, values: slices.Repeat of one value, as a printed function is told. Conditions: as each says. -/
import Derived.Test.YtggdpeeiioibgaaRq
namespace Go.Proofs.Ytggdpeeiioibgaa.E
open Go.RowKit Go.Proofs.YtggdpeeiioibgaaW.PrintWords Go.Proofs.YtggdpeeiioibgaaW.PrintLast Go.Proofs.YtggdpeeiioibgaaW.PrintMore Go.Proofs.Ytggdpeeiioibgaa.Kinds Go.Proofs.Ytggdpeeiioibgaa.Obj
set_option linter.unusedVariables false

def Repeat.f (l : List S24) (n : Int) : Option (List S24) := if l.length = 1 ∧ 0 ≤ n ∧ n ≤ 256 then some (List.replicate n.toNat (l.getD 0 z24)) else none
theorem Repeat.calls (P0_ : Nat → Prop) (A0 : Option Addr) (c0 : Nat) (l0 : List S24) (a1 : Int) (r : List S24) (w : World) (hs0 : Kd.V k24 24 w w.heap.size (fun k_ => P0_ k_) (.slice A0 l0.length c0) l0) (h : Repeat.f l0 a1 = some r) :
    Calls Try.prog 66 #[.slice A0 l0.length c0, .int .i64 a1] w fun e w' => ∃ v0_ : Value, e = .returned (v0_) ∧ Kd.V k24 24 w' w.heap.size (fun k_ => (P0_ k_ ∨ w.heap.size ≤ k_)) v0_ r ∧ Below w.heap.size w w' := by
  obtain ⟨_, h2, h3⟩ := Kd.V_at hs0
  unfold Repeat.f at h
  split at h
  · rename_i hb
    obtain ⟨h1, n0, n1⟩ := hb
    obtain rfl := Option.some.inj h
    obtain ⟨n, rfl⟩ := Int.eq_ofNat_of_zero_le n0
    match l0, h1, h2, h3 with
    | [x], h1, h2, h3 =>
      refine (repeat_is P0_ A0 c0 x n w (by omega) h3 h2).mono ?_
      rintro e w' ⟨B, d, rfl, g1, g2, g3⟩
      refine ⟨_, rfl, ?_, g3⟩
      have e1 : n = (List.replicate (n : Int).toNat ([x].getD 0 z24)).length := by simp
      have e2 : List.replicate n x = List.replicate (n : Int).toNat ([x].getD 0 z24) := by simp
      rw [e2] at g2
      generalize List.replicate (n : Int).toNat ([x].getD 0 z24) = r at *
      subst e1
      exact Kd.V_mk g1 (Kd.F_mono g2 (fun k hk => hk.imp (fun q => q.1) id))
  · cases h
end Go.Proofs.Ytggdpeeiioibgaa.E
