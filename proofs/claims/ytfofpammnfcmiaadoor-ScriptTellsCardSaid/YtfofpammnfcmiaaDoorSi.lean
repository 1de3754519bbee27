/- Marline, layer 41: the law of texts, as its row opens it. No condition. -/
import Derived.Test.YtfofpammnfcmiaaDoorSh
import Derived.Test.YtfofpammnfcmiaaDoorOpn
namespace Go.Proofs.YtfofpammnfcmiaaDoor.E
open Go.RowKit Go.Proofs.YtfofpammnfcmiaaDoorW.PrintWords Go.Proofs.YtfofpammnfcmiaaDoor.Kinds Go.Proofs.YtfofpammnfcmiaaDoor.Sp Go.Proofs.YtfofpammnfcmiaaDoor.Opn
theorem oks_of {l : List S32} (h : ∀ y ∈ l, wf32 y) : ∀ x ∈ l, (tk x).ok := fun x hx => ⟨(h x hx).1, (h x hx).2.1⟩
theorem tells_row (l : List S32) (A : Option Addr) (c : Nat) (k : Int) (W : World) (hr : Kd.C k32 W A l.length l) (hc : l.length ≤ c) (hx : l.length * 24 ≤ 140737488351232 ∧ ∀ y ∈ l, wf32 y) (hk : (Lit.int .i64 k).wf = true) (h : Lw W) :
    Calls Tryd.prog 4 #[.slice A l.length c, .int .i64 k] W fun e w' => e = .returned (.bool true) ∧ Below W.heap.size W w' := tells_walk A c l k W hr hc (oks_of hx.2) (in_of hk) h
end Go.Proofs.YtfofpammnfcmiaaDoor.E
