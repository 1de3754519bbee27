/- Marline, layer 41: the law of turning Gc, as its row opens it. No condition. -/
import Derived.Test.YtfofpammnfcmiaaDoorSl
import Derived.Test.YtfofpammnfcmiaaDoorOpn
namespace Go.Proofs.YtfofpammnfcmiaaDoor.E
open Go.RowKit Go.Proofs.YtfofpammnfcmiaaDoorW.PrintWords Go.Proofs.YtfofpammnfcmiaaDoor.Kinds Go.Proofs.YtfofpammnfcmiaaDoor.Sp Go.Proofs.YtfofpammnfcmiaaDoor.Opn
theorem turns_row (l : List S32) (A : Option Addr) (c : Nat) (q : List Int) (A2 : Option Addr) (c2 : Nat) (W : World) (hr : Kd.C k32 W A l.length l) (hc : l.length ≤ c) (_hx : l.length * 24 ≤ 140737488351232 ∧ ∀ y ∈ l, wf32 y) (hr2 : Kd.C (Kd.int .i64) W A2 q.length q) (hc2 : q.length ≤ c2) (_hx2 : q.length * 8 ≤ 140737488351232 ∧ ∀ y ∈ q, (-9223372036854775808 ≤ y ∧ y ≤ 9223372036854775807)) (h : Lw W) :
    Calls Tryd.prog 5 #[.slice A l.length c, .slice A2 q.length c2] W fun e w' => e = .returned (.bool true) ∧ Below W.heap.size W w' := turns_walk A c l A2 c2 q W hr hc hr2 hc2 h
end Go.Proofs.YtfofpammnfcmiaaDoor.E
