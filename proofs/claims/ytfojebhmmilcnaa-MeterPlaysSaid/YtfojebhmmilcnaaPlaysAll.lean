/- Marline, layer 33: the walk of MeterPlays for lists of any length, and how its list of calls is opened. No condition. -/
import Derived.Test.YtfojebhmmilcnaaPlays
import Derived.Test.YtfojebhmmilcnaaOpen
namespace Go.Proofs.Ytfojebhmmilcnaa.M
open Go.RowKit Go.Proofs.YtfojebhmmilcnaaW.PrintWords Go.Proofs.YtfojebhmmilcnaaW.PrintLast Go.Proofs.YtfojebhmmilcnaaW.PrintMore Go.Proofs.Ytfojebhmmilcnaa.Kinds Go.Proofs.Ytfojebhmmilcnaa.Open
set_option linter.unusedVariables false

set_option maxHeartbeats 1000000 in
theorem plays_long (a : Int) (l : List S30) (A : Option Addr) (c : Nat) (w : World) (hl : 150 < l.length) (hm : l.length ≤ 9223372036854775807) :
    Calls Try.prog 3 #[.int .i64 a, .slice A l.length c] w fun e w' => e = .returned (.bool true) ∧ Below w.heap.size w w' := by
  have hlen : decide (150 < (l.length : Int)) = true := decide_eq_true (by omega)
  have hlen2 : decide (150 < l.length) = true := decide_eq_true (by omega)
  go_enter Try.func3, Try.ntmps3
  go_wp2_with fail
  refine (works_yes _).mono ?_
  rintro e w1 ⟨rfl, hB⟩
  have B0 := Lib.hid hB; clear hB
  go_wp2_with fail
  refine (works_yes _).mono ?_
  rintro e w2 ⟨rfl, hB⟩
  have B1 := Lib.hid (below_then B0.out B0.out.size hB); clear hB
  go_wp2_with fail
  go_ret
  exact ⟨rfl, B1.out⟩

theorem opens30 (fuel : Nat) : OpensAt fuel Try.prog 30 k30 (fun _ => True) (fun _ => 0) := by
  have hf : ∀ m, FieldsAt m Try.prog #[(⟨"Kind", 3, 0, false, "", "", 0⟩ : Field), ⟨"N", 3, 1, false, "", "", 8⟩, ⟨"In", 3, 2, false, "", "", 16⟩].toList 0 (Kd.pair (Kd.int .i64) (Kd.pair (Kd.int .i64) (Kd.int .i64))) _ _ := fun m =>
    fields_cons rfl (by kernel_rfl) rfl (at_int .i64 Try.underlying3) (fields_cons rfl (by kernel_rfl) rfl (at_int .i64 Try.underlying3) (fields_one rfl (by kernel_rfl) (at_int .i64 Try.underlying3)))
  intro H enc W base spare held cs y hy hw
  obtain ⟨x, hK, _, _⟩ := at_struct (fuel := fuel) (fun x : S30 => (x.f0, x.f1, x.f2)) (fun z => ⟨z.1, z.2.1, z.2.2⟩) (fun _ => rfl) Try.underlying30 (by kernel_rfl) (fun m _ => hf m) enc W base spare held cs y hy hw
  exact ⟨x, hK, trivial, Nat.zero_le _⟩
theorem opens22 (fuel : Nat) : OpensAt fuel Try.prog 22 (Kd.slice 30 k30) (fun xs => xs.length * 24 ≤ 140737488351232 ∧ ∀ x ∈ xs, True) (fun xs => (xs.map fun _ => 0).sum + 1) :=
  at_slice Try.underlying22 (by kernel_rfl) (by kernel_rfl) (fun m _ => opens30 m)

theorem plays_walk (a : Int) (l : List S30) (A : Option Addr) (c : Nat) (w : World) (ha : (Lit.int .i64 a).wf = true) (hC : Kd.C k30 w A l.length l) (hc : l.length ≤ c) (hw : l.length * 24 ≤ 140737488351232 ∧ ∀ x ∈ l, True) :
    Calls Try.prog 3 #[.int .i64 a, .slice A l.length c] w fun e w' => e = .returned (.bool true) ∧ Below w.heap.size w w' := by
  have b0 : -9223372036854775808 ≤ a ∧ a ≤ 9223372036854775807 := by simpa [Lit.wf, IntKind.min, IntKind.max, IntKind.signed, IntKind.bits] using ha
  by_cases h : 150 < l.length
  · exact plays_long a l A c w h (by omega)
  · exact plays_core a _ l A c w hC hc (by omega) b0.2 rfl
end Go.Proofs.Ytfojebhmmilcnaa.M
