/- Marline, layer 41: the law of texts and entries. Conditions: as each says. -/
import Derived.Test.YtfofpammnfcmiaaDoorSg
import Derived.Test.YtfofpammnfcmiaaDoorPAx1
namespace Go.Proofs.YtfofpammnfcmiaaDoor.E
open Go.RowKit Go.Proofs.YtfofpammnfcmiaaDoorW.PrintWords Go.Proofs.YtfofpammnfcmiaaDoorW.PrintLast Go.Proofs.YtfofpammnfcmiaaDoorW.PrintMore Go.Proofs.YtfofpammnfcmiaaDoor.Kinds Go.Proofs.YtfofpammnfcmiaaDoor.Obj Go.Proofs.YtfofpammnfcmiaaDoor.Sp
attribute [local go_sem high] PA.eqA32
set_option linter.unusedVariables false
set_option linter.unusedSimpArgs false

theorem mk_tk (l : List S32) : (l.map tk).map mk = l := by
  rw [List.map_map]
  exact (List.map_congr_left (fun x _ => rfl)).trans (List.map_id l)
set_option maxHeartbeats 4000000 in
set_option maxRecDepth 100000 in
theorem tells_walk (A : Option Addr) (c : Nat) (l : List S32) (k : Int) (w : World) (hr : Kd.C k32 w A l.length l) (hc : l.length ≤ c) (hx : ∀ x ∈ l, (tk x).ok) (hk : In k) (h : Lw w) :
    Calls Tryd.prog 4 #[.slice A l.length c, .int .i64 k] w fun e w' => e = .returned (.bool true) ∧ Below w.heap.size w w' := by
  have hu32 := Tryd.underlying32
  have W1 := Lib.hid (works_calls w h)
  have HL := Lib.hid h; have HR := Lib.hid hr; have HC := Lib.hid hc; have HX := Lib.hid hx; have HK := Lib.hid hk
  obtain ⟨n, hn⟩ : ∃ n, l.length = n := ⟨_, rfl⟩
  have HN := Lib.hid hn
  rw [hn]
  by_cases hl : n ≤ 200
  · have hl2 : decide ((200 : Int) < (n : Int)) = false := decide_eq_false (by omega)
    have HS := Lib.hid (show l.length ≤ 200 by omega)
    have hz := tx_size l hx
    have HZ := Lib.hid (show (tx l).size ≤ 1000000000 by omega)
    have hp : parseS (tx l).data.toList = some (l.map tk) := by
      rw [tx_data]
      refine parse_text _ ?_
      intro p hp
      obtain ⟨x, hx', rfl⟩ := List.mem_map.1 hp
      exact hx x hx'
    have C2 := Lib.hid (fun w h => parse_calls (tx l) w HZ.out h)
    rw [hp, errP_some, show ((some (l.map tk)).getD []).map mk = l from mk_tk l] at C2
    clear h hr hc hx hk hn hl hz hp
    go_enter Tryd.func4, Tryd.ntmps4
    go_wp2_with fail
    refine W1.out.mono ?_
    rintro e w1 ⟨rfl, b1⟩
    have B1 := Lib.hid b1
    have HR1 := Lib.hid (Kd.C_below HR.out b1)
    clear b1 W1
    go_wp2_with fail
    have C1 := text41_calls A c l w1 HR1.out HC.out HX.out (by have := HS.out; omega) (HL.out.below B1.out)
    rw [HN.out] at C1
    refine C1.mono ?_
    rintro e w2 ⟨rfl, b2⟩
    have B2 := Lib.hid (B1.out.trans (b2.mono B1.out.size))
    have HR2 := Lib.hid (Kd.C_below HR1.out b2)
    clear b2 C1 HR1
    go_wp2_with fail
    refine (C2.out w2 (HL.out.below B2.out)).mono ?_
    rintro e w3 ⟨v, rfl, r3, b3⟩
    obtain ⟨B, d, rfl⟩ := Kd.R_slice r3
    obtain ⟨_, hd, hC⟩ := Kd.R_reads' r3
    have B3 := Lib.hid (B2.out.trans (b3.mono B2.out.size))
    have HR3 := Lib.hid (Kd.C_below HR2.out b3)
    have HD := Lib.hid hd; have HP := Lib.hid hC
    rw [HN.out]
    clear b3 C2 HR2 r3 hd hC
    go_wp2_with fail
    have C3 := refText41_calls A c l w3 HR3.out HC.out HX.out (by have := HS.out; omega)
    rw [HN.out] at C3
    refine C3.mono ?_
    rintro e w4 ⟨rfl, d4⟩
    have B4 := Lib.hid (B3.out.trans (Below.mono d4.below B3.out.size))
    have HR4 := Lib.hid (Kd.C_below HR3.out d4.below)
    have HP4 := Lib.hid (Kd.C_below HP.out d4.below)
    clear d4 C3 HR3 HP
    go_wp2_with fail
    have C4 := same_calls A B c d l l w4 HR4.out HC.out HP4.out HD.out (by have := HS.out; omega)
    rw [HN.out, show decide (l = l) = true from decide_eq_true rfl] at C4
    refine C4.mono ?_
    rintro e w5 ⟨rfl, d5⟩
    have B5 := Lib.hid (B4.out.trans (Below.mono d5.below B4.out.size))
    have HR5 := Lib.hid (Kd.C_below HR4.out d5.below)
    clear d5 C4 HR4 HP4
    go_wp2_with fail
    have C5 := at_calls A c l k w5 HR5.out HC.out (by have := HS.out; omega) HK.out
    rw [HN.out] at C5
    refine C5.mono ?_
    rintro e w6 ⟨rfl, b6⟩
    have B6 := Lib.hid (B5.out.trans (b6.mono B5.out.size))
    have HR6 := Lib.hid (Kd.C_below HR5.out b6)
    clear b6 C5 HR5
    go_wp2_with fail
    have C6 := refAt_calls A c l k w6 HR6.out HC.out (by have := HS.out; omega) HK.out
    rw [HN.out] at C6
    refine C6.mono ?_
    rintro e w7 ⟨rfl, b7⟩
    have B7 := Lib.hid (B6.out.trans (b7.mono B6.out.size))
    clear b7 C6 HR6
    obtain ⟨y, hy⟩ : ∃ y, atS l k = y := ⟨_, rfl⟩
    rw [hy]
    clear hy
    unfold ev
    go_wp2_with fail
    go_ret
    exact ⟨rfl, B7.out⟩
  · have hl2 : decide ((200 : Int) < (n : Int)) = true := decide_eq_true (by omega)
    clear h hr hc hx hk hn hl
    go_enter Tryd.func4, Tryd.ntmps4
    go_wp2_with fail
    refine W1.out.mono ?_
    rintro e w1 ⟨rfl, b1⟩
    have B1 := Lib.hid b1
    clear b1 W1
    go_wp2_with fail
    refine (works_calls w1 (HL.out.below B1.out)).mono ?_
    rintro e w2 ⟨rfl, b2⟩
    have B2 := Lib.hid (B1.out.trans (b2.mono B1.out.size))
    clear b2
    go_wp2_with fail
    go_ret
    exact ⟨rfl, B2.out⟩
end Go.Proofs.YtfofpammnfcmiaaDoor.E
