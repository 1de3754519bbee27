/- Marline, layer 27: the walk of AsmPlays for lists of any length. No condition. -/
import Derived.Test.YtchmcmbglaffdaaT
import Derived.Test.YtchmcmbglaffdaaOpn
namespace Go.Proofs.Ytchmcmbglaffdaa.M
open Go.RowKit Go.Proofs.YtchmcmbglaffdaaW.PrintWords Go.Proofs.YtchmcmbglaffdaaW.PrintLast Go.Proofs.YtchmcmbglaffdaaW.PrintMore Go.Proofs.Ytchmcmbglaffdaa.Kinds Go.Proofs.Ytchmcmbglaffdaa.Open Go.Proofs.Ytchmcmbglaffdaa.Opn
set_option linter.unusedVariables false

set_option maxHeartbeats 1000000 in
set_option maxRecDepth 100000 in
theorem plays_long (l : List S31) (A : Option Addr) (c : Nat) (w : World) (hl : 150 < l.length) (hm : l.length ≤ 9223372036854775807) :
    Calls Try.prog 3 #[.slice A l.length c] w fun e w' => e = .returned (.bool true) ∧ Below w.heap.size w w' := by
  have hlen : decide (150 < (l.length : Int)) = true := decide_eq_true (by omega)
  have hlen2 : decide (150 < l.length) = true := decide_eq_true (by omega)
  go_enter Try.func3, Try.ntmps3
  go_wp2_with fail
  refine (works_yes _).mono ?_
  rintro e w1 ⟨rfl, hB⟩
  have B0 := Lib.hid hB; clear hB
  go_wp2_with fail
  refine (works_yes _).mono ?_
  rintro e w2 ⟨rfl, hB⟩
  have B1 := Lib.hid (below_then B0.out B0.out.size hB); clear hB
  go_wp2_with fail
  go_ret
  exact ⟨rfl, B1.out⟩
theorem plays_walk (l : List S31) (A : Option Addr) (c : Nat) (w : World) (hC : Kd.C k31 w A l.length l) (hc : l.length ≤ c) (hw : (l.length * 32 ≤ 140737488351232 ∧ ∀ y ∈ l, wf31 y)) :
    Calls Try.prog 3 #[.slice A l.length c] w fun e w' => e = .returned (.bool true) ∧ Below w.heap.size w w' := by
  by_cases h : 150 < l.length
  · exact plays_long l A c w h (by omega)
  · exact plays_core l A c w hC hc (by omega) (fun x hx => (hw.2 x hx).2.2.2)
end Go.Proofs.Ytchmcmbglaffdaa.M
