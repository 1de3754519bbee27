/- Marline, values: the document's text of a number, in the form of a printed function. No condition. -/
import Derived.Test.YtfofpammnfcmiaaDoorNb
import Derived.Test.YtfofpammnfcmiaaDoorPVx0
namespace Go.Proofs.YtfofpammnfcmiaaDoor.PV
open Go.RowKit Go.Proofs.YtfofpammnfcmiaaDoor.Kinds Go.Proofs.YtfofpammnfcmiaaDoorW.PrintWords Go.Proofs.YtfofpammnfcmiaaDoorW.PrintLast Go.Proofs.YtfofpammnfcmiaaDoorW.PrintMore
set_option linter.unusedVariables false
set_option linter.unusedSimpArgs false
def marlineref01_Text.f (k : Nat) (a0 : Int) : Option ByteArray := if -9223372036854775808 ≤ a0 ∧ a0 ≤ 9223372036854775807 then some ⟨(Lib.itoa a0).toArray⟩ else none
theorem marlineref01_Text.mono : ∀ a0 k, LeO (marlineref01_Text.f k a0) (marlineref01_Text.f (k + 1) a0) := fun a0 k => LeO.refl _
theorem marlineref01_Text.calls (k : Nat) (a0 : Int) (r : ByteArray) (w : World) (h : marlineref01_Text.f k a0 = some r) :
    Calls Tryd.prog 61 #[.int .i64 a0] w fun e w' => e = .returned (.string r) ∧ Drawn0 w w' := by
  unfold marlineref01_Text.f at h
  by_cases hn : -9223372036854775808 ≤ a0 ∧ a0 ≤ 9223372036854775807
  · rw [if_pos hn] at h
    obtain rfl := Option.some.inj h
    exact E.refText_quiet a0 w hn
  · rw [if_neg hn] at h; cases h
end Go.Proofs.YtfofpammnfcmiaaDoor.PV
