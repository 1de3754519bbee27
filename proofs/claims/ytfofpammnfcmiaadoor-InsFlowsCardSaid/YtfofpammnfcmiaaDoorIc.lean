/- Marline, layer 26: what the document's Name, Args and Right come to. No condition. -/
import Derived.Test.YtfofpammnfcmiaaDoorIa
import Derived.Test.YtfofpammnfcmiaaDoorNc
namespace Go.Proofs.YtfofpammnfcmiaaDoor.Ip
open Go.RowKit Go.Proofs.YtfofpammnfcmiaaDoorW.PrintWords Go.Proofs.YtfofpammnfcmiaaDoorW.PrintLast Go.Proofs.YtfofpammnfcmiaaDoorW.PrintMore Go.Proofs.YtfofpammnfcmiaaDoor.Kinds Go.Proofs.YtfofpammnfcmiaaDoor.Obj Go.Proofs.YtfofpammnfcmiaaDoor.Sp Go.Proofs.YtfofpammnfcmiaaDoor.E
set_option linter.unusedVariables false
set_option linter.unusedSimpArgs false
set_option maxRecDepth 100000
theorem name_calls (n : Int) (w : World) (h : Ops w) : Calls Tryd.prog 28 #[.int .i64 n] w fun e w' => e = .returned (.string ⟨(nameI n).toArray⟩) ∧ Below w.heap.size w w' := by
  have hu94 := Tryd.underlying94
  have C := Lib.hid (of_calls n w h)
  unfold opV at C
  have ff : ∀ W : World, (Instr.field 94 (.agg #[.string ⟨(nameI n).toArray⟩, .int .i64 (argsI n : Nat), .int .i64 (takesI n : Nat), .int .i64 (laysI n : Nat)]) 0).run Tryd.prog W = .ok (.string ⟨(nameI n).toArray⟩) W := fun W => rfl
  clear h
  go_enter Tryd.func28, Tryd.ntmps28
  go_wp2_with fail
  refine C.out.mono ?_
  rintro e w1 ⟨rfl, b1⟩
  have B1 := Lib.hid b1
  clear b1 C
  go_wp2_with fail
  go_ret
  exact ⟨rfl, B1.out⟩
theorem args_calls (n : Int) (w : World) (h : Ops w) : Calls Tryd.prog 30 #[.int .i64 n] w fun e w' => e = .returned (.int .i64 (argsI n : Nat)) ∧ Below w.heap.size w w' := by
  have hu94 := Tryd.underlying94
  have C := Lib.hid (of_calls n w h)
  unfold opV at C
  have ff : ∀ W : World, (Instr.field 94 (.agg #[.string ⟨(nameI n).toArray⟩, .int .i64 (argsI n : Nat), .int .i64 (takesI n : Nat), .int .i64 (laysI n : Nat)]) 1).run Tryd.prog W = .ok (.int .i64 (argsI n : Nat)) W := fun W => rfl
  clear h
  go_enter Tryd.func30, Tryd.ntmps30
  go_wp2_with fail
  refine C.out.mono ?_
  rintro e w1 ⟨rfl, b1⟩
  have B1 := Lib.hid b1
  clear b1 C
  go_wp2_with fail
  go_ret
  exact ⟨rfl, B1.out⟩
def insV (op a b d : Int) : Value := .agg #[.int .i64 op, .int .i64 a, .int .i64 b, .int .i64 d]
theorem args_le (op : Int) : argsI op ≤ 2 := by
  unfold argsI
  split
  · omega
  · exact args_two ⟨op.toNat, by omega⟩
/-- Right, under the facts of one case. -/
def RightP (op a b d : Int) (r : Bool) : Prop := ∀ w : World, Ops w → Calls Tryd.prog 32 #[insV op a b d] w fun e w' => e = .returned (.bool r) ∧ Below w.heap.size w w'
set_option maxHeartbeats 4000000 in
theorem right_c1 (op a b d : Int) (x : Int) (s : ByteArray) (hx : ((argsI op : Nat) : Int) = x) (hn : (⟨(nameI op).toArray⟩ : ByteArray) = s) (n0 : (s.toList == ([] : List UInt8)) = true) : RightP op a b d false := by
  intro w h
  unfold insV
  have hu48 := Tryd.underlying48
  obtain ⟨g, hg⟩ : ∃ g, w.heap.size = g := ⟨_, rfl⟩
  have G : Hid (∃ w1 : World, w.alloc (.cells #[.int .i64 op, .int .i64 a, .int .i64 b, .int .i64 d] 48) = w1 ∧ Q4 w1 g 48 (.int .i64 op) (.int .i64 a) (.int .i64 b) (.int .i64 d) ∧ Below w.heap.size w w1) :=
    Lib.hid ⟨_, rfl, by rw [← hg]; exact blk_new _ _, below_alloc (Below.refl _ _) _⟩
  have E1 := Lib.hid hg; have HO := Lib.hid h; have HX := Lib.hid hx; have HN := Lib.hid hn
  clear hg h hx hn
  go_enter Tryd.func32, Tryd.ntmps32
  go_upto_region 1 with (fail)
  rw [E1.out]
  obtain ⟨w1, hw1, v1, b1⟩ := G.out
  rw [hw1]
  have V1 := Lib.hid v1; have B1 := Lib.hid b1
  obtain ⟨m0, m1, m2, m3, t0, t1, t2, t3⟩ := v1.cells
  clear v1 b1 hw1
  go_wp2_with fail
  refine (args_calls op w1 (HO.out.below B1.out)).mono ?_
  rintro e w2 ⟨rfl, b2⟩
  rw [HX.out]
  have V2 := Lib.hid (V1.out.below b2); have B2 := Lib.hid (B1.out.trans (b2.mono B1.out.size))
  obtain ⟨m0, m1, m2, m3, t0, t1, t2, t3⟩ := V2.out.cells
  clear b2 V1 B1
  go_wp2_with fail
  refine (name_calls op w2 (HO.out.below B2.out)).mono ?_
  rintro e w3 ⟨rfl, b3⟩
  rw [HN.out]
  have V3 := Lib.hid (V2.out.below b3); have B3 := Lib.hid (B2.out.trans (b3.mono B2.out.size))
  obtain ⟨m0, m1, m2, m3, t0, t1, t2, t3⟩ := V3.out.cells
  clear b3 V2 B2
  go_wp2_with fail
  go_ret
  exact ⟨rfl, B3.out⟩
set_option maxHeartbeats 4000000 in
theorem right_c2 (op a b d : Int) (x : Int) (s : ByteArray) (hx : ((argsI op : Nat) : Int) = x) (hn : (⟨(nameI op).toArray⟩ : ByteArray) = s) (n0 : (s.toList == ([] : List UInt8)) = false) (p1 : decide (x < 1) = true) (q1 : (a == 0) = false) : RightP op a b d false := by
  intro w h
  unfold insV
  have hu48 := Tryd.underlying48
  obtain ⟨g, hg⟩ : ∃ g, w.heap.size = g := ⟨_, rfl⟩
  have G : Hid (∃ w1 : World, w.alloc (.cells #[.int .i64 op, .int .i64 a, .int .i64 b, .int .i64 d] 48) = w1 ∧ Q4 w1 g 48 (.int .i64 op) (.int .i64 a) (.int .i64 b) (.int .i64 d) ∧ Below w.heap.size w w1) :=
    Lib.hid ⟨_, rfl, by rw [← hg]; exact blk_new _ _, below_alloc (Below.refl _ _) _⟩
  have E1 := Lib.hid hg; have HO := Lib.hid h; have HX := Lib.hid hx; have HN := Lib.hid hn
  clear hg h hx hn
  go_enter Tryd.func32, Tryd.ntmps32
  go_upto_region 1 with (fail)
  rw [E1.out]
  obtain ⟨w1, hw1, v1, b1⟩ := G.out
  rw [hw1]
  have V1 := Lib.hid v1; have B1 := Lib.hid b1
  obtain ⟨m0, m1, m2, m3, t0, t1, t2, t3⟩ := v1.cells
  clear v1 b1 hw1
  go_wp2_with fail
  refine (args_calls op w1 (HO.out.below B1.out)).mono ?_
  rintro e w2 ⟨rfl, b2⟩
  rw [HX.out]
  have V2 := Lib.hid (V1.out.below b2); have B2 := Lib.hid (B1.out.trans (b2.mono B1.out.size))
  obtain ⟨m0, m1, m2, m3, t0, t1, t2, t3⟩ := V2.out.cells
  clear b2 V1 B1
  go_wp2_with fail
  refine (name_calls op w2 (HO.out.below B2.out)).mono ?_
  rintro e w3 ⟨rfl, b3⟩
  rw [HN.out]
  have V3 := Lib.hid (V2.out.below b3); have B3 := Lib.hid (B2.out.trans (b3.mono B2.out.size))
  obtain ⟨m0, m1, m2, m3, t0, t1, t2, t3⟩ := V3.out.cells
  clear b3 V2 B2
  go_wp2_with fail
  go_ret
  exact ⟨rfl, B3.out⟩
set_option maxHeartbeats 4000000 in
theorem right_c3a (op a b d : Int) (x : Int) (s : ByteArray) (hx : ((argsI op : Nat) : Int) = x) (hn : (⟨(nameI op).toArray⟩ : ByteArray) = s) (n0 : (s.toList == ([] : List UInt8)) = false) (p1 : decide (x < 1) = true) (q1 : (a == 0) = true) (p2 : decide (x < 2) = true) (q2 : (b == 0) = false) : RightP op a b d false := by
  intro w h
  unfold insV
  have hu48 := Tryd.underlying48
  obtain ⟨g, hg⟩ : ∃ g, w.heap.size = g := ⟨_, rfl⟩
  have G : Hid (∃ w1 : World, w.alloc (.cells #[.int .i64 op, .int .i64 a, .int .i64 b, .int .i64 d] 48) = w1 ∧ Q4 w1 g 48 (.int .i64 op) (.int .i64 a) (.int .i64 b) (.int .i64 d) ∧ Below w.heap.size w w1) :=
    Lib.hid ⟨_, rfl, by rw [← hg]; exact blk_new _ _, below_alloc (Below.refl _ _) _⟩
  have E1 := Lib.hid hg; have HO := Lib.hid h; have HX := Lib.hid hx; have HN := Lib.hid hn
  clear hg h hx hn
  go_enter Tryd.func32, Tryd.ntmps32
  go_upto_region 1 with (fail)
  rw [E1.out]
  obtain ⟨w1, hw1, v1, b1⟩ := G.out
  rw [hw1]
  have V1 := Lib.hid v1; have B1 := Lib.hid b1
  obtain ⟨m0, m1, m2, m3, t0, t1, t2, t3⟩ := v1.cells
  clear v1 b1 hw1
  go_wp2_with fail
  refine (args_calls op w1 (HO.out.below B1.out)).mono ?_
  rintro e w2 ⟨rfl, b2⟩
  rw [HX.out]
  have V2 := Lib.hid (V1.out.below b2); have B2 := Lib.hid (B1.out.trans (b2.mono B1.out.size))
  obtain ⟨m0, m1, m2, m3, t0, t1, t2, t3⟩ := V2.out.cells
  clear b2 V1 B1
  go_wp2_with fail
  refine (name_calls op w2 (HO.out.below B2.out)).mono ?_
  rintro e w3 ⟨rfl, b3⟩
  rw [HN.out]
  have V3 := Lib.hid (V2.out.below b3); have B3 := Lib.hid (B2.out.trans (b3.mono B2.out.size))
  obtain ⟨m0, m1, m2, m3, t0, t1, t2, t3⟩ := V3.out.cells
  clear b3 V2 B2
  go_wp2_with fail
  go_ret
  exact ⟨rfl, B3.out⟩
set_option maxHeartbeats 4000000 in
theorem right_c3b (op a b d : Int) (x : Int) (s : ByteArray) (hx : ((argsI op : Nat) : Int) = x) (hn : (⟨(nameI op).toArray⟩ : ByteArray) = s) (n0 : (s.toList == ([] : List UInt8)) = false) (p1 : decide (x < 1) = false) (p2 : decide (x < 2) = true) (q2 : (b == 0) = false) : RightP op a b d false := by
  intro w h
  unfold insV
  have hu48 := Tryd.underlying48
  obtain ⟨g, hg⟩ : ∃ g, w.heap.size = g := ⟨_, rfl⟩
  have G : Hid (∃ w1 : World, w.alloc (.cells #[.int .i64 op, .int .i64 a, .int .i64 b, .int .i64 d] 48) = w1 ∧ Q4 w1 g 48 (.int .i64 op) (.int .i64 a) (.int .i64 b) (.int .i64 d) ∧ Below w.heap.size w w1) :=
    Lib.hid ⟨_, rfl, by rw [← hg]; exact blk_new _ _, below_alloc (Below.refl _ _) _⟩
  have E1 := Lib.hid hg; have HO := Lib.hid h; have HX := Lib.hid hx; have HN := Lib.hid hn
  clear hg h hx hn
  go_enter Tryd.func32, Tryd.ntmps32
  go_upto_region 1 with (fail)
  rw [E1.out]
  obtain ⟨w1, hw1, v1, b1⟩ := G.out
  rw [hw1]
  have V1 := Lib.hid v1; have B1 := Lib.hid b1
  obtain ⟨m0, m1, m2, m3, t0, t1, t2, t3⟩ := v1.cells
  clear v1 b1 hw1
  go_wp2_with fail
  refine (args_calls op w1 (HO.out.below B1.out)).mono ?_
  rintro e w2 ⟨rfl, b2⟩
  rw [HX.out]
  have V2 := Lib.hid (V1.out.below b2); have B2 := Lib.hid (B1.out.trans (b2.mono B1.out.size))
  obtain ⟨m0, m1, m2, m3, t0, t1, t2, t3⟩ := V2.out.cells
  clear b2 V1 B1
  go_wp2_with fail
  refine (name_calls op w2 (HO.out.below B2.out)).mono ?_
  rintro e w3 ⟨rfl, b3⟩
  rw [HN.out]
  have V3 := Lib.hid (V2.out.below b3); have B3 := Lib.hid (B2.out.trans (b3.mono B2.out.size))
  obtain ⟨m0, m1, m2, m3, t0, t1, t2, t3⟩ := V3.out.cells
  clear b3 V2 B2
  go_wp2_with fail
  go_ret
  exact ⟨rfl, B3.out⟩
set_option maxHeartbeats 4000000 in
theorem right_c4 (op a b d : Int) (x : Int) (s : ByteArray) (hx : ((argsI op : Nat) : Int) = x) (hn : (⟨(nameI op).toArray⟩ : ByteArray) = s) (n0 : (s.toList == ([] : List UInt8)) = false) (p1 : decide (x < 1) = false) (p2 : decide (x < 2) = false) (p3 : decide (b < 0) = true) : RightP op a b d false := by
  intro w h
  unfold insV
  have hu48 := Tryd.underlying48
  obtain ⟨g, hg⟩ : ∃ g, w.heap.size = g := ⟨_, rfl⟩
  have G : Hid (∃ w1 : World, w.alloc (.cells #[.int .i64 op, .int .i64 a, .int .i64 b, .int .i64 d] 48) = w1 ∧ Q4 w1 g 48 (.int .i64 op) (.int .i64 a) (.int .i64 b) (.int .i64 d) ∧ Below w.heap.size w w1) :=
    Lib.hid ⟨_, rfl, by rw [← hg]; exact blk_new _ _, below_alloc (Below.refl _ _) _⟩
  have E1 := Lib.hid hg; have HO := Lib.hid h; have HX := Lib.hid hx; have HN := Lib.hid hn
  clear hg h hx hn
  go_enter Tryd.func32, Tryd.ntmps32
  go_upto_region 1 with (fail)
  rw [E1.out]
  obtain ⟨w1, hw1, v1, b1⟩ := G.out
  rw [hw1]
  have V1 := Lib.hid v1; have B1 := Lib.hid b1
  obtain ⟨m0, m1, m2, m3, t0, t1, t2, t3⟩ := v1.cells
  clear v1 b1 hw1
  go_wp2_with fail
  refine (args_calls op w1 (HO.out.below B1.out)).mono ?_
  rintro e w2 ⟨rfl, b2⟩
  rw [HX.out]
  have V2 := Lib.hid (V1.out.below b2); have B2 := Lib.hid (B1.out.trans (b2.mono B1.out.size))
  obtain ⟨m0, m1, m2, m3, t0, t1, t2, t3⟩ := V2.out.cells
  clear b2 V1 B1
  go_wp2_with fail
  refine (name_calls op w2 (HO.out.below B2.out)).mono ?_
  rintro e w3 ⟨rfl, b3⟩
  rw [HN.out]
  have V3 := Lib.hid (V2.out.below b3); have B3 := Lib.hid (B2.out.trans (b3.mono B2.out.size))
  obtain ⟨m0, m1, m2, m3, t0, t1, t2, t3⟩ := V3.out.cells
  clear b3 V2 B2
  go_wp2_with fail
  go_ret
  exact ⟨rfl, B3.out⟩
set_option maxHeartbeats 4000000 in
theorem right_o1 (op a b d : Int) (x : Int) (s : ByteArray) (hx : ((argsI op : Nat) : Int) = x) (hn : (⟨(nameI op).toArray⟩ : ByteArray) = s) (n0 : (s.toList == ([] : List UInt8)) = false) (p1 : decide (x < 1) = false) (p2 : decide (x < 2) = true) (q2 : (b == 0) = true) (p3 : decide (b < 0) = false) (e1 : (op == 1) = true) : RightP op a b d true := by
  intro w h
  unfold insV
  have hu48 := Tryd.underlying48
  obtain ⟨g, hg⟩ : ∃ g, w.heap.size = g := ⟨_, rfl⟩
  have G : Hid (∃ w1 : World, w.alloc (.cells #[.int .i64 op, .int .i64 a, .int .i64 b, .int .i64 d] 48) = w1 ∧ Q4 w1 g 48 (.int .i64 op) (.int .i64 a) (.int .i64 b) (.int .i64 d) ∧ Below w.heap.size w w1) :=
    Lib.hid ⟨_, rfl, by rw [← hg]; exact blk_new _ _, below_alloc (Below.refl _ _) _⟩
  have E1 := Lib.hid hg; have HO := Lib.hid h; have HX := Lib.hid hx; have HN := Lib.hid hn
  clear hg h hx hn
  go_enter Tryd.func32, Tryd.ntmps32
  go_upto_region 1 with (fail)
  rw [E1.out]
  obtain ⟨w1, hw1, v1, b1⟩ := G.out
  rw [hw1]
  have V1 := Lib.hid v1; have B1 := Lib.hid b1
  obtain ⟨m0, m1, m2, m3, t0, t1, t2, t3⟩ := v1.cells
  clear v1 b1 hw1
  go_wp2_with fail
  refine (args_calls op w1 (HO.out.below B1.out)).mono ?_
  rintro e w2 ⟨rfl, b2⟩
  rw [HX.out]
  have V2 := Lib.hid (V1.out.below b2); have B2 := Lib.hid (B1.out.trans (b2.mono B1.out.size))
  obtain ⟨m0, m1, m2, m3, t0, t1, t2, t3⟩ := V2.out.cells
  clear b2 V1 B1
  go_wp2_with fail
  refine (name_calls op w2 (HO.out.below B2.out)).mono ?_
  rintro e w3 ⟨rfl, b3⟩
  rw [HN.out]
  have V3 := Lib.hid (V2.out.below b3); have B3 := Lib.hid (B2.out.trans (b3.mono B2.out.size))
  obtain ⟨m0, m1, m2, m3, t0, t1, t2, t3⟩ := V3.out.cells
  clear b3 V2 B2
  go_wp2_with fail
  go_ret
  exact ⟨rfl, B3.out⟩
set_option maxHeartbeats 4000000 in
theorem right_o2a (op a b d : Int) (x : Int) (s : ByteArray) (hx : ((argsI op : Nat) : Int) = x) (hn : (⟨(nameI op).toArray⟩ : ByteArray) = s) (n0 : (s.toList == ([] : List UInt8)) = false) (p1 : decide (x < 1) = false) (p2 : decide (x < 2) = true) (q2 : (b == 0) = true) (p3 : decide (b < 0) = false) (e1 : (op == 1) = false) (e2 : (op == 2) = true) (q1 : (a == 0) = true) : RightP op a b d true := by
  intro w h
  unfold insV
  have hu48 := Tryd.underlying48
  obtain ⟨g, hg⟩ : ∃ g, w.heap.size = g := ⟨_, rfl⟩
  have G : Hid (∃ w1 : World, w.alloc (.cells #[.int .i64 op, .int .i64 a, .int .i64 b, .int .i64 d] 48) = w1 ∧ Q4 w1 g 48 (.int .i64 op) (.int .i64 a) (.int .i64 b) (.int .i64 d) ∧ Below w.heap.size w w1) :=
    Lib.hid ⟨_, rfl, by rw [← hg]; exact blk_new _ _, below_alloc (Below.refl _ _) _⟩
  have E1 := Lib.hid hg; have HO := Lib.hid h; have HX := Lib.hid hx; have HN := Lib.hid hn
  clear hg h hx hn
  go_enter Tryd.func32, Tryd.ntmps32
  go_upto_region 1 with (fail)
  rw [E1.out]
  obtain ⟨w1, hw1, v1, b1⟩ := G.out
  rw [hw1]
  have V1 := Lib.hid v1; have B1 := Lib.hid b1
  obtain ⟨m0, m1, m2, m3, t0, t1, t2, t3⟩ := v1.cells
  clear v1 b1 hw1
  go_wp2_with fail
  refine (args_calls op w1 (HO.out.below B1.out)).mono ?_
  rintro e w2 ⟨rfl, b2⟩
  rw [HX.out]
  have V2 := Lib.hid (V1.out.below b2); have B2 := Lib.hid (B1.out.trans (b2.mono B1.out.size))
  obtain ⟨m0, m1, m2, m3, t0, t1, t2, t3⟩ := V2.out.cells
  clear b2 V1 B1
  go_wp2_with fail
  refine (name_calls op w2 (HO.out.below B2.out)).mono ?_
  rintro e w3 ⟨rfl, b3⟩
  rw [HN.out]
  have V3 := Lib.hid (V2.out.below b3); have B3 := Lib.hid (B2.out.trans (b3.mono B2.out.size))
  obtain ⟨m0, m1, m2, m3, t0, t1, t2, t3⟩ := V3.out.cells
  clear b3 V2 B2
  go_wp2_with fail
  go_ret
  exact ⟨rfl, B3.out⟩
set_option maxHeartbeats 4000000 in
theorem right_o2b (op a b d : Int) (x : Int) (s : ByteArray) (hx : ((argsI op : Nat) : Int) = x) (hn : (⟨(nameI op).toArray⟩ : ByteArray) = s) (n0 : (s.toList == ([] : List UInt8)) = false) (p1 : decide (x < 1) = false) (p2 : decide (x < 2) = true) (q2 : (b == 0) = true) (p3 : decide (b < 0) = false) (e1 : (op == 1) = false) (e2 : (op == 2) = true) (q1 : (a == 0) = false) : RightP op a b d (a == 1) := by
  intro w h
  unfold insV
  have hu48 := Tryd.underlying48
  obtain ⟨g, hg⟩ : ∃ g, w.heap.size = g := ⟨_, rfl⟩
  have G : Hid (∃ w1 : World, w.alloc (.cells #[.int .i64 op, .int .i64 a, .int .i64 b, .int .i64 d] 48) = w1 ∧ Q4 w1 g 48 (.int .i64 op) (.int .i64 a) (.int .i64 b) (.int .i64 d) ∧ Below w.heap.size w w1) :=
    Lib.hid ⟨_, rfl, by rw [← hg]; exact blk_new _ _, below_alloc (Below.refl _ _) _⟩
  have E1 := Lib.hid hg; have HO := Lib.hid h; have HX := Lib.hid hx; have HN := Lib.hid hn
  clear hg h hx hn
  go_enter Tryd.func32, Tryd.ntmps32
  go_upto_region 1 with (fail)
  rw [E1.out]
  obtain ⟨w1, hw1, v1, b1⟩ := G.out
  rw [hw1]
  have V1 := Lib.hid v1; have B1 := Lib.hid b1
  obtain ⟨m0, m1, m2, m3, t0, t1, t2, t3⟩ := v1.cells
  clear v1 b1 hw1
  go_wp2_with fail
  refine (args_calls op w1 (HO.out.below B1.out)).mono ?_
  rintro e w2 ⟨rfl, b2⟩
  rw [HX.out]
  have V2 := Lib.hid (V1.out.below b2); have B2 := Lib.hid (B1.out.trans (b2.mono B1.out.size))
  obtain ⟨m0, m1, m2, m3, t0, t1, t2, t3⟩ := V2.out.cells
  clear b2 V1 B1
  go_wp2_with fail
  refine (name_calls op w2 (HO.out.below B2.out)).mono ?_
  rintro e w3 ⟨rfl, b3⟩
  rw [HN.out]
  have V3 := Lib.hid (V2.out.below b3); have B3 := Lib.hid (B2.out.trans (b3.mono B2.out.size))
  obtain ⟨m0, m1, m2, m3, t0, t1, t2, t3⟩ := V3.out.cells
  clear b3 V2 B2
  go_wp2_with fail
  go_ret
  exact ⟨rfl, B3.out⟩
set_option maxHeartbeats 4000000 in
theorem right_o10a (op a b d : Int) (x : Int) (s : ByteArray) (hx : ((argsI op : Nat) : Int) = x) (hn : (⟨(nameI op).toArray⟩ : ByteArray) = s) (n0 : (s.toList == ([] : List UInt8)) = false) (p1 : decide (x < 1) = false) (p2 : decide (x < 2) = true) (q2 : (b == 0) = true) (p3 : decide (b < 0) = false) (e1 : (op == 1) = false) (e2 : (op == 2) = false) (e10 : (op == 10) = true) (q1 : (a == 0) = true) : RightP op a b d true := by
  intro w h
  unfold insV
  have hu48 := Tryd.underlying48
  obtain ⟨g, hg⟩ : ∃ g, w.heap.size = g := ⟨_, rfl⟩
  have G : Hid (∃ w1 : World, w.alloc (.cells #[.int .i64 op, .int .i64 a, .int .i64 b, .int .i64 d] 48) = w1 ∧ Q4 w1 g 48 (.int .i64 op) (.int .i64 a) (.int .i64 b) (.int .i64 d) ∧ Below w.heap.size w w1) :=
    Lib.hid ⟨_, rfl, by rw [← hg]; exact blk_new _ _, below_alloc (Below.refl _ _) _⟩
  have E1 := Lib.hid hg; have HO := Lib.hid h; have HX := Lib.hid hx; have HN := Lib.hid hn
  clear hg h hx hn
  go_enter Tryd.func32, Tryd.ntmps32
  go_upto_region 1 with (fail)
  rw [E1.out]
  obtain ⟨w1, hw1, v1, b1⟩ := G.out
  rw [hw1]
  have V1 := Lib.hid v1; have B1 := Lib.hid b1
  obtain ⟨m0, m1, m2, m3, t0, t1, t2, t3⟩ := v1.cells
  clear v1 b1 hw1
  go_wp2_with fail
  refine (args_calls op w1 (HO.out.below B1.out)).mono ?_
  rintro e w2 ⟨rfl, b2⟩
  rw [HX.out]
  have V2 := Lib.hid (V1.out.below b2); have B2 := Lib.hid (B1.out.trans (b2.mono B1.out.size))
  obtain ⟨m0, m1, m2, m3, t0, t1, t2, t3⟩ := V2.out.cells
  clear b2 V1 B1
  go_wp2_with fail
  refine (name_calls op w2 (HO.out.below B2.out)).mono ?_
  rintro e w3 ⟨rfl, b3⟩
  rw [HN.out]
  have V3 := Lib.hid (V2.out.below b3); have B3 := Lib.hid (B2.out.trans (b3.mono B2.out.size))
  obtain ⟨m0, m1, m2, m3, t0, t1, t2, t3⟩ := V3.out.cells
  clear b3 V2 B2
  go_wp2_with fail
  go_ret
  exact ⟨rfl, B3.out⟩
set_option maxHeartbeats 4000000 in
theorem right_o10b (op a b d : Int) (x : Int) (s : ByteArray) (hx : ((argsI op : Nat) : Int) = x) (hn : (⟨(nameI op).toArray⟩ : ByteArray) = s) (n0 : (s.toList == ([] : List UInt8)) = false) (p1 : decide (x < 1) = false) (p2 : decide (x < 2) = true) (q2 : (b == 0) = true) (p3 : decide (b < 0) = false) (e1 : (op == 1) = false) (e2 : (op == 2) = false) (e10 : (op == 10) = true) (q1 : (a == 0) = false) : RightP op a b d (a == 1) := by
  intro w h
  unfold insV
  have hu48 := Tryd.underlying48
  obtain ⟨g, hg⟩ : ∃ g, w.heap.size = g := ⟨_, rfl⟩
  have G : Hid (∃ w1 : World, w.alloc (.cells #[.int .i64 op, .int .i64 a, .int .i64 b, .int .i64 d] 48) = w1 ∧ Q4 w1 g 48 (.int .i64 op) (.int .i64 a) (.int .i64 b) (.int .i64 d) ∧ Below w.heap.size w w1) :=
    Lib.hid ⟨_, rfl, by rw [← hg]; exact blk_new _ _, below_alloc (Below.refl _ _) _⟩
  have E1 := Lib.hid hg; have HO := Lib.hid h; have HX := Lib.hid hx; have HN := Lib.hid hn
  clear hg h hx hn
  go_enter Tryd.func32, Tryd.ntmps32
  go_upto_region 1 with (fail)
  rw [E1.out]
  obtain ⟨w1, hw1, v1, b1⟩ := G.out
  rw [hw1]
  have V1 := Lib.hid v1; have B1 := Lib.hid b1
  obtain ⟨m0, m1, m2, m3, t0, t1, t2, t3⟩ := v1.cells
  clear v1 b1 hw1
  go_wp2_with fail
  refine (args_calls op w1 (HO.out.below B1.out)).mono ?_
  rintro e w2 ⟨rfl, b2⟩
  rw [HX.out]
  have V2 := Lib.hid (V1.out.below b2); have B2 := Lib.hid (B1.out.trans (b2.mono B1.out.size))
  obtain ⟨m0, m1, m2, m3, t0, t1, t2, t3⟩ := V2.out.cells
  clear b2 V1 B1
  go_wp2_with fail
  refine (name_calls op w2 (HO.out.below B2.out)).mono ?_
  rintro e w3 ⟨rfl, b3⟩
  rw [HN.out]
  have V3 := Lib.hid (V2.out.below b3); have B3 := Lib.hid (B2.out.trans (b3.mono B2.out.size))
  obtain ⟨m0, m1, m2, m3, t0, t1, t2, t3⟩ := V3.out.cells
  clear b3 V2 B2
  go_wp2_with fail
  go_ret
  exact ⟨rfl, B3.out⟩
set_option maxHeartbeats 4000000 in
theorem right_o6a (op a b d : Int) (x : Int) (s : ByteArray) (hx : ((argsI op : Nat) : Int) = x) (hn : (⟨(nameI op).toArray⟩ : ByteArray) = s) (n0 : (s.toList == ([] : List UInt8)) = false) (p1 : decide (x < 1) = false) (p2 : decide (x < 2) = true) (q2 : (b == 0) = true) (p3 : decide (b < 0) = false) (e1 : (op == 1) = false) (e2 : (op == 2) = false) (e10 : (op == 10) = false) (e6 : (op == 6) = true) (l1 : decide (1 ≤ a) = true) : RightP op a b d (decide (a ≤ 5)) := by
  intro w h
  unfold insV
  have hu48 := Tryd.underlying48
  obtain ⟨g, hg⟩ : ∃ g, w.heap.size = g := ⟨_, rfl⟩
  have G : Hid (∃ w1 : World, w.alloc (.cells #[.int .i64 op, .int .i64 a, .int .i64 b, .int .i64 d] 48) = w1 ∧ Q4 w1 g 48 (.int .i64 op) (.int .i64 a) (.int .i64 b) (.int .i64 d) ∧ Below w.heap.size w w1) :=
    Lib.hid ⟨_, rfl, by rw [← hg]; exact blk_new _ _, below_alloc (Below.refl _ _) _⟩
  have E1 := Lib.hid hg; have HO := Lib.hid h; have HX := Lib.hid hx; have HN := Lib.hid hn
  clear hg h hx hn
  go_enter Tryd.func32, Tryd.ntmps32
  go_upto_region 1 with (fail)
  rw [E1.out]
  obtain ⟨w1, hw1, v1, b1⟩ := G.out
  rw [hw1]
  have V1 := Lib.hid v1; have B1 := Lib.hid b1
  obtain ⟨m0, m1, m2, m3, t0, t1, t2, t3⟩ := v1.cells
  clear v1 b1 hw1
  go_wp2_with fail
  refine (args_calls op w1 (HO.out.below B1.out)).mono ?_
  rintro e w2 ⟨rfl, b2⟩
  rw [HX.out]
  have V2 := Lib.hid (V1.out.below b2); have B2 := Lib.hid (B1.out.trans (b2.mono B1.out.size))
  obtain ⟨m0, m1, m2, m3, t0, t1, t2, t3⟩ := V2.out.cells
  clear b2 V1 B1
  go_wp2_with fail
  refine (name_calls op w2 (HO.out.below B2.out)).mono ?_
  rintro e w3 ⟨rfl, b3⟩
  rw [HN.out]
  have V3 := Lib.hid (V2.out.below b3); have B3 := Lib.hid (B2.out.trans (b3.mono B2.out.size))
  obtain ⟨m0, m1, m2, m3, t0, t1, t2, t3⟩ := V3.out.cells
  clear b3 V2 B2
  go_wp2_with fail
  go_ret
  exact ⟨rfl, B3.out⟩
set_option maxHeartbeats 4000000 in
theorem right_o6b (op a b d : Int) (x : Int) (s : ByteArray) (hx : ((argsI op : Nat) : Int) = x) (hn : (⟨(nameI op).toArray⟩ : ByteArray) = s) (n0 : (s.toList == ([] : List UInt8)) = false) (p1 : decide (x < 1) = false) (p2 : decide (x < 2) = true) (q2 : (b == 0) = true) (p3 : decide (b < 0) = false) (e1 : (op == 1) = false) (e2 : (op == 2) = false) (e10 : (op == 10) = false) (e6 : (op == 6) = true) (l1 : decide (1 ≤ a) = false) : RightP op a b d false := by
  intro w h
  unfold insV
  have hu48 := Tryd.underlying48
  obtain ⟨g, hg⟩ : ∃ g, w.heap.size = g := ⟨_, rfl⟩
  have G : Hid (∃ w1 : World, w.alloc (.cells #[.int .i64 op, .int .i64 a, .int .i64 b, .int .i64 d] 48) = w1 ∧ Q4 w1 g 48 (.int .i64 op) (.int .i64 a) (.int .i64 b) (.int .i64 d) ∧ Below w.heap.size w w1) :=
    Lib.hid ⟨_, rfl, by rw [← hg]; exact blk_new _ _, below_alloc (Below.refl _ _) _⟩
  have E1 := Lib.hid hg; have HO := Lib.hid h; have HX := Lib.hid hx; have HN := Lib.hid hn
  clear hg h hx hn
  go_enter Tryd.func32, Tryd.ntmps32
  go_upto_region 1 with (fail)
  rw [E1.out]
  obtain ⟨w1, hw1, v1, b1⟩ := G.out
  rw [hw1]
  have V1 := Lib.hid v1; have B1 := Lib.hid b1
  obtain ⟨m0, m1, m2, m3, t0, t1, t2, t3⟩ := v1.cells
  clear v1 b1 hw1
  go_wp2_with fail
  refine (args_calls op w1 (HO.out.below B1.out)).mono ?_
  rintro e w2 ⟨rfl, b2⟩
  rw [HX.out]
  have V2 := Lib.hid (V1.out.below b2); have B2 := Lib.hid (B1.out.trans (b2.mono B1.out.size))
  obtain ⟨m0, m1, m2, m3, t0, t1, t2, t3⟩ := V2.out.cells
  clear b2 V1 B1
  go_wp2_with fail
  refine (name_calls op w2 (HO.out.below B2.out)).mono ?_
  rintro e w3 ⟨rfl, b3⟩
  rw [HN.out]
  have V3 := Lib.hid (V2.out.below b3); have B3 := Lib.hid (B2.out.trans (b3.mono B2.out.size))
  obtain ⟨m0, m1, m2, m3, t0, t1, t2, t3⟩ := V3.out.cells
  clear b3 V2 B2
  go_wp2_with fail
  go_ret
  exact ⟨rfl, B3.out⟩
set_option maxHeartbeats 4000000 in
theorem right_o9a (op a b d : Int) (x : Int) (s : ByteArray) (hx : ((argsI op : Nat) : Int) = x) (hn : (⟨(nameI op).toArray⟩ : ByteArray) = s) (n0 : (s.toList == ([] : List UInt8)) = false) (p1 : decide (x < 1) = false) (p2 : decide (x < 2) = true) (q2 : (b == 0) = true) (p3 : decide (b < 0) = false) (e1 : (op == 1) = false) (e2 : (op == 2) = false) (e10 : (op == 10) = false) (e6 : (op == 6) = false) (e9 : (op == 9) = true) (l1 : decide (8 ≤ a) = true) : RightP op a b d (decide (a ≤ 11)) := by
  intro w h
  unfold insV
  have hu48 := Tryd.underlying48
  obtain ⟨g, hg⟩ : ∃ g, w.heap.size = g := ⟨_, rfl⟩
  have G : Hid (∃ w1 : World, w.alloc (.cells #[.int .i64 op, .int .i64 a, .int .i64 b, .int .i64 d] 48) = w1 ∧ Q4 w1 g 48 (.int .i64 op) (.int .i64 a) (.int .i64 b) (.int .i64 d) ∧ Below w.heap.size w w1) :=
    Lib.hid ⟨_, rfl, by rw [← hg]; exact blk_new _ _, below_alloc (Below.refl _ _) _⟩
  have E1 := Lib.hid hg; have HO := Lib.hid h; have HX := Lib.hid hx; have HN := Lib.hid hn
  clear hg h hx hn
  go_enter Tryd.func32, Tryd.ntmps32
  go_upto_region 1 with (fail)
  rw [E1.out]
  obtain ⟨w1, hw1, v1, b1⟩ := G.out
  rw [hw1]
  have V1 := Lib.hid v1; have B1 := Lib.hid b1
  obtain ⟨m0, m1, m2, m3, t0, t1, t2, t3⟩ := v1.cells
  clear v1 b1 hw1
  go_wp2_with fail
  refine (args_calls op w1 (HO.out.below B1.out)).mono ?_
  rintro e w2 ⟨rfl, b2⟩
  rw [HX.out]
  have V2 := Lib.hid (V1.out.below b2); have B2 := Lib.hid (B1.out.trans (b2.mono B1.out.size))
  obtain ⟨m0, m1, m2, m3, t0, t1, t2, t3⟩ := V2.out.cells
  clear b2 V1 B1
  go_wp2_with fail
  refine (name_calls op w2 (HO.out.below B2.out)).mono ?_
  rintro e w3 ⟨rfl, b3⟩
  rw [HN.out]
  have V3 := Lib.hid (V2.out.below b3); have B3 := Lib.hid (B2.out.trans (b3.mono B2.out.size))
  obtain ⟨m0, m1, m2, m3, t0, t1, t2, t3⟩ := V3.out.cells
  clear b3 V2 B2
  go_wp2_with fail
  go_ret
  exact ⟨rfl, B3.out⟩
set_option maxHeartbeats 4000000 in
theorem right_o9b (op a b d : Int) (x : Int) (s : ByteArray) (hx : ((argsI op : Nat) : Int) = x) (hn : (⟨(nameI op).toArray⟩ : ByteArray) = s) (n0 : (s.toList == ([] : List UInt8)) = false) (p1 : decide (x < 1) = false) (p2 : decide (x < 2) = true) (q2 : (b == 0) = true) (p3 : decide (b < 0) = false) (e1 : (op == 1) = false) (e2 : (op == 2) = false) (e10 : (op == 10) = false) (e6 : (op == 6) = false) (e9 : (op == 9) = true) (l1 : decide (8 ≤ a) = false) : RightP op a b d false := by
  intro w h
  unfold insV
  have hu48 := Tryd.underlying48
  obtain ⟨g, hg⟩ : ∃ g, w.heap.size = g := ⟨_, rfl⟩
  have G : Hid (∃ w1 : World, w.alloc (.cells #[.int .i64 op, .int .i64 a, .int .i64 b, .int .i64 d] 48) = w1 ∧ Q4 w1 g 48 (.int .i64 op) (.int .i64 a) (.int .i64 b) (.int .i64 d) ∧ Below w.heap.size w w1) :=
    Lib.hid ⟨_, rfl, by rw [← hg]; exact blk_new _ _, below_alloc (Below.refl _ _) _⟩
  have E1 := Lib.hid hg; have HO := Lib.hid h; have HX := Lib.hid hx; have HN := Lib.hid hn
  clear hg h hx hn
  go_enter Tryd.func32, Tryd.ntmps32
  go_upto_region 1 with (fail)
  rw [E1.out]
  obtain ⟨w1, hw1, v1, b1⟩ := G.out
  rw [hw1]
  have V1 := Lib.hid v1; have B1 := Lib.hid b1
  obtain ⟨m0, m1, m2, m3, t0, t1, t2, t3⟩ := v1.cells
  clear v1 b1 hw1
  go_wp2_with fail
  refine (args_calls op w1 (HO.out.below B1.out)).mono ?_
  rintro e w2 ⟨rfl, b2⟩
  rw [HX.out]
  have V2 := Lib.hid (V1.out.below b2); have B2 := Lib.hid (B1.out.trans (b2.mono B1.out.size))
  obtain ⟨m0, m1, m2, m3, t0, t1, t2, t3⟩ := V2.out.cells
  clear b2 V1 B1
  go_wp2_with fail
  refine (name_calls op w2 (HO.out.below B2.out)).mono ?_
  rintro e w3 ⟨rfl, b3⟩
  rw [HN.out]
  have V3 := Lib.hid (V2.out.below b3); have B3 := Lib.hid (B2.out.trans (b3.mono B2.out.size))
  obtain ⟨m0, m1, m2, m3, t0, t1, t2, t3⟩ := V3.out.cells
  clear b3 V2 B2
  go_wp2_with fail
  go_ret
  exact ⟨rfl, B3.out⟩
set_option maxHeartbeats 4000000 in
theorem right_z0 (op a b d : Int) (x : Int) (s : ByteArray) (hx : ((argsI op : Nat) : Int) = x) (hn : (⟨(nameI op).toArray⟩ : ByteArray) = s) (n0 : (s.toList == ([] : List UInt8)) = false) (p1 : decide (x < 1) = true) (q1 : (a == 0) = true) (p2 : decide (x < 2) = true) (q2 : (b == 0) = true) (p3 : decide (b < 0) = false) (e1 : (op == 1) = false) (e2 : (op == 2) = false) (e10 : (op == 10) = false) (e6 : (op == 6) = false) (e9 : (op == 9) = false) : RightP op a b d (decide (0 ≤ a)) := by
  intro w h
  unfold insV
  have hu48 := Tryd.underlying48
  obtain ⟨g, hg⟩ : ∃ g, w.heap.size = g := ⟨_, rfl⟩
  have G : Hid (∃ w1 : World, w.alloc (.cells #[.int .i64 op, .int .i64 a, .int .i64 b, .int .i64 d] 48) = w1 ∧ Q4 w1 g 48 (.int .i64 op) (.int .i64 a) (.int .i64 b) (.int .i64 d) ∧ Below w.heap.size w w1) :=
    Lib.hid ⟨_, rfl, by rw [← hg]; exact blk_new _ _, below_alloc (Below.refl _ _) _⟩
  have E1 := Lib.hid hg; have HO := Lib.hid h; have HX := Lib.hid hx; have HN := Lib.hid hn
  clear hg h hx hn
  go_enter Tryd.func32, Tryd.ntmps32
  go_upto_region 1 with (fail)
  rw [E1.out]
  obtain ⟨w1, hw1, v1, b1⟩ := G.out
  rw [hw1]
  have V1 := Lib.hid v1; have B1 := Lib.hid b1
  obtain ⟨m0, m1, m2, m3, t0, t1, t2, t3⟩ := v1.cells
  clear v1 b1 hw1
  go_wp2_with fail
  refine (args_calls op w1 (HO.out.below B1.out)).mono ?_
  rintro e w2 ⟨rfl, b2⟩
  rw [HX.out]
  have V2 := Lib.hid (V1.out.below b2); have B2 := Lib.hid (B1.out.trans (b2.mono B1.out.size))
  obtain ⟨m0, m1, m2, m3, t0, t1, t2, t3⟩ := V2.out.cells
  clear b2 V1 B1
  go_wp2_with fail
  refine (name_calls op w2 (HO.out.below B2.out)).mono ?_
  rintro e w3 ⟨rfl, b3⟩
  rw [HN.out]
  have V3 := Lib.hid (V2.out.below b3); have B3 := Lib.hid (B2.out.trans (b3.mono B2.out.size))
  obtain ⟨m0, m1, m2, m3, t0, t1, t2, t3⟩ := V3.out.cells
  clear b3 V2 B2
  go_wp2_with fail
  go_ret
  exact ⟨rfl, B3.out⟩
set_option maxHeartbeats 4000000 in
theorem right_z1 (op a b d : Int) (x : Int) (s : ByteArray) (hx : ((argsI op : Nat) : Int) = x) (hn : (⟨(nameI op).toArray⟩ : ByteArray) = s) (n0 : (s.toList == ([] : List UInt8)) = false) (p1 : decide (x < 1) = false) (p2 : decide (x < 2) = true) (q2 : (b == 0) = true) (p3 : decide (b < 0) = false) (e1 : (op == 1) = false) (e2 : (op == 2) = false) (e10 : (op == 10) = false) (e6 : (op == 6) = false) (e9 : (op == 9) = false) : RightP op a b d (decide (0 ≤ a)) := by
  intro w h
  unfold insV
  have hu48 := Tryd.underlying48
  obtain ⟨g, hg⟩ : ∃ g, w.heap.size = g := ⟨_, rfl⟩
  have G : Hid (∃ w1 : World, w.alloc (.cells #[.int .i64 op, .int .i64 a, .int .i64 b, .int .i64 d] 48) = w1 ∧ Q4 w1 g 48 (.int .i64 op) (.int .i64 a) (.int .i64 b) (.int .i64 d) ∧ Below w.heap.size w w1) :=
    Lib.hid ⟨_, rfl, by rw [← hg]; exact blk_new _ _, below_alloc (Below.refl _ _) _⟩
  have E1 := Lib.hid hg; have HO := Lib.hid h; have HX := Lib.hid hx; have HN := Lib.hid hn
  clear hg h hx hn
  go_enter Tryd.func32, Tryd.ntmps32
  go_upto_region 1 with (fail)
  rw [E1.out]
  obtain ⟨w1, hw1, v1, b1⟩ := G.out
  rw [hw1]
  have V1 := Lib.hid v1; have B1 := Lib.hid b1
  obtain ⟨m0, m1, m2, m3, t0, t1, t2, t3⟩ := v1.cells
  clear v1 b1 hw1
  go_wp2_with fail
  refine (args_calls op w1 (HO.out.below B1.out)).mono ?_
  rintro e w2 ⟨rfl, b2⟩
  rw [HX.out]
  have V2 := Lib.hid (V1.out.below b2); have B2 := Lib.hid (B1.out.trans (b2.mono B1.out.size))
  obtain ⟨m0, m1, m2, m3, t0, t1, t2, t3⟩ := V2.out.cells
  clear b2 V1 B1
  go_wp2_with fail
  refine (name_calls op w2 (HO.out.below B2.out)).mono ?_
  rintro e w3 ⟨rfl, b3⟩
  rw [HN.out]
  have V3 := Lib.hid (V2.out.below b3); have B3 := Lib.hid (B2.out.trans (b3.mono B2.out.size))
  obtain ⟨m0, m1, m2, m3, t0, t1, t2, t3⟩ := V3.out.cells
  clear b3 V2 B2
  go_wp2_with fail
  go_ret
  exact ⟨rfl, B3.out⟩
set_option maxHeartbeats 4000000 in
theorem right_z2 (op a b d : Int) (x : Int) (s : ByteArray) (hx : ((argsI op : Nat) : Int) = x) (hn : (⟨(nameI op).toArray⟩ : ByteArray) = s) (n0 : (s.toList == ([] : List UInt8)) = false) (p1 : decide (x < 1) = false) (p2 : decide (x < 2) = false) (p3 : decide (b < 0) = false) (e1 : (op == 1) = false) (e2 : (op == 2) = false) (e10 : (op == 10) = false) (e6 : (op == 6) = false) (e9 : (op == 9) = false) : RightP op a b d (decide (0 ≤ a)) := by
  intro w h
  unfold insV
  have hu48 := Tryd.underlying48
  obtain ⟨g, hg⟩ : ∃ g, w.heap.size = g := ⟨_, rfl⟩
  have G : Hid (∃ w1 : World, w.alloc (.cells #[.int .i64 op, .int .i64 a, .int .i64 b, .int .i64 d] 48) = w1 ∧ Q4 w1 g 48 (.int .i64 op) (.int .i64 a) (.int .i64 b) (.int .i64 d) ∧ Below w.heap.size w w1) :=
    Lib.hid ⟨_, rfl, by rw [← hg]; exact blk_new _ _, below_alloc (Below.refl _ _) _⟩
  have E1 := Lib.hid hg; have HO := Lib.hid h; have HX := Lib.hid hx; have HN := Lib.hid hn
  clear hg h hx hn
  go_enter Tryd.func32, Tryd.ntmps32
  go_upto_region 1 with (fail)
  rw [E1.out]
  obtain ⟨w1, hw1, v1, b1⟩ := G.out
  rw [hw1]
  have V1 := Lib.hid v1; have B1 := Lib.hid b1
  obtain ⟨m0, m1, m2, m3, t0, t1, t2, t3⟩ := v1.cells
  clear v1 b1 hw1
  go_wp2_with fail
  refine (args_calls op w1 (HO.out.below B1.out)).mono ?_
  rintro e w2 ⟨rfl, b2⟩
  rw [HX.out]
  have V2 := Lib.hid (V1.out.below b2); have B2 := Lib.hid (B1.out.trans (b2.mono B1.out.size))
  obtain ⟨m0, m1, m2, m3, t0, t1, t2, t3⟩ := V2.out.cells
  clear b2 V1 B1
  go_wp2_with fail
  refine (name_calls op w2 (HO.out.below B2.out)).mono ?_
  rintro e w3 ⟨rfl, b3⟩
  rw [HN.out]
  have V3 := Lib.hid (V2.out.below b3); have B3 := Lib.hid (B2.out.trans (b3.mono B2.out.size))
  obtain ⟨m0, m1, m2, m3, t0, t1, t2, t3⟩ := V3.out.cells
  clear b3 V2 B2
  go_wp2_with fail
  go_ret
  exact ⟨rfl, B3.out⟩
theorem beq_no {a b : Int} (h : a ≠ b) : (a == b) = false := by simpa using h
theorem right_is (op a b d : Int) : RightP op a b d (rightS op a b) := by
  obtain ⟨x, hx⟩ : ∃ x : Int, ((argsI op : Nat) : Int) = x := ⟨_, rfl⟩
  obtain ⟨s, hs⟩ : ∃ s : ByteArray, (⟨(nameI op).toArray⟩ : ByteArray) = s := ⟨_, rfl⟩
  have hsl : s.toList = nameI op := by rw [ByteArray.toList_eq, ← hs]
  have hle := args_le op
  unfold rightS
  by_cases h0 : nameI op = []
  · rw [if_pos (.inl h0)]; exact right_c1 op a b d x s hx hs (by rw [hsl, h0]; rfl)
  · have n0 : (s.toList == ([] : List UInt8)) = false := by rw [hsl]; exact beq_eq_false_iff_ne.2 h0
    by_cases h1 : argsI op < 1 ∧ a ≠ 0
    · rw [if_pos (.inr (.inl h1))]; exact right_c2 op a b d x s hx hs n0 (decide_eq_true (by omega)) (beq_no h1.2)
    · by_cases h2 : argsI op < 2 ∧ b ≠ 0
      · rw [if_pos (.inr (.inr (.inl h2)))]
        by_cases hz : argsI op < 1
        · have ha : a = 0 := Classical.byContradiction fun e => h1 ⟨hz, e⟩
          exact right_c3a op a b d x s hx hs n0 (decide_eq_true (by omega)) (by rw [ha]; rfl) (decide_eq_true (by omega)) (beq_no h2.2)
        · exact right_c3b op a b d x s hx hs n0 (decide_eq_false (by omega)) (decide_eq_true (by omega)) (beq_no h2.2)
      · have hb0 : argsI op < 2 → b = 0 := fun h => Classical.byContradiction fun e => h2 ⟨h, e⟩
        have ha0 : argsI op < 1 → a = 0 := fun h => Classical.byContradiction fun e => h1 ⟨h, e⟩
        by_cases h3 : b < 0
        · rw [if_pos (.inr (.inr (.inr h3)))]
          have : ¬ argsI op < 2 := fun h => by have := hb0 h; omega
          exact right_c4 op a b d x s hx hs n0 (decide_eq_false (by omega)) (decide_eq_false (by omega)) (decide_eq_true h3)
        · rw [if_neg (fun h => h.elim h0 (fun h => h.elim h1 (fun h => h.elim h2 h3)))]
          by_cases g1 : op = 1
          · subst g1
            have e : argsI 1 = 1 := rfl
            rw [if_pos rfl]
            exact right_o1 1 a b d x s hx hs n0 (decide_eq_false (by omega)) (decide_eq_true (by omega)) (by rw [hb0 (by omega)]; rfl) (decide_eq_false h3) rfl
          · rw [if_neg g1]
            by_cases g2 : op = 2
            · subst g2
              have e : argsI 2 = 1 := rfl
              rw [if_pos (.inl rfl)]
              by_cases ga : a = 0
              · rw [decide_eq_true (show a = 0 ∨ a = 1 from .inl ga)]
                exact right_o2a 2 a b d x s hx hs n0 (decide_eq_false (by omega)) (decide_eq_true (by omega)) (by rw [hb0 (by omega)]; rfl) (decide_eq_false h3) rfl rfl (by rw [ga]; rfl)
              · rw [show decide (a = 0 ∨ a = 1) = (a == 1) by rw [Bool.eq_iff_iff]; simp [ga]]
                exact right_o2b 2 a b d x s hx hs n0 (decide_eq_false (by omega)) (decide_eq_true (by omega)) (by rw [hb0 (by omega)]; rfl) (decide_eq_false h3) rfl rfl (beq_no ga)
            · by_cases g10 : op = 10
              · subst g10
                have e : argsI 10 = 1 := rfl
                rw [if_pos (.inr rfl)]
                by_cases ga : a = 0
                · rw [decide_eq_true (show a = 0 ∨ a = 1 from .inl ga)]
                  exact right_o10a 10 a b d x s hx hs n0 (decide_eq_false (by omega)) (decide_eq_true (by omega)) (by rw [hb0 (by omega)]; rfl) (decide_eq_false h3) rfl rfl rfl (by rw [ga]; rfl)
                · rw [show decide (a = 0 ∨ a = 1) = (a == 1) by rw [Bool.eq_iff_iff]; simp [ga]]
                  exact right_o10b 10 a b d x s hx hs n0 (decide_eq_false (by omega)) (decide_eq_true (by omega)) (by rw [hb0 (by omega)]; rfl) (decide_eq_false h3) rfl rfl rfl (beq_no ga)
              · rw [if_neg (fun h => h.elim g2 g10)]
                by_cases g6 : op = 6
                · subst g6
                  have e : argsI 6 = 1 := rfl
                  rw [if_pos rfl]
                  by_cases ga : 1 ≤ a
                  · rw [show decide (1 ≤ a ∧ a ≤ 5) = decide (a ≤ 5) by rw [Bool.eq_iff_iff]; simp [ga]]
                    exact right_o6a 6 a b d x s hx hs n0 (decide_eq_false (by omega)) (decide_eq_true (by omega)) (by rw [hb0 (by omega)]; rfl) (decide_eq_false h3) rfl rfl rfl rfl (decide_eq_true ga)
                  · rw [decide_eq_false (show ¬ (1 ≤ a ∧ a ≤ 5) from fun h => ga h.1)]
                    exact right_o6b 6 a b d x s hx hs n0 (decide_eq_false (by omega)) (decide_eq_true (by omega)) (by rw [hb0 (by omega)]; rfl) (decide_eq_false h3) rfl rfl rfl rfl (decide_eq_false ga)
                · rw [if_neg g6]
                  by_cases g9 : op = 9
                  · subst g9
                    have e : argsI 9 = 1 := rfl
                    rw [if_pos rfl]
                    by_cases ga : 8 ≤ a
                    · rw [show decide (8 ≤ a ∧ a ≤ 11) = decide (a ≤ 11) by rw [Bool.eq_iff_iff]; simp [ga]]
                      exact right_o9a 9 a b d x s hx hs n0 (decide_eq_false (by omega)) (decide_eq_true (by omega)) (by rw [hb0 (by omega)]; rfl) (decide_eq_false h3) rfl rfl rfl rfl rfl (decide_eq_true ga)
                    · rw [decide_eq_false (show ¬ (8 ≤ a ∧ a ≤ 11) from fun h => ga h.1)]
                      exact right_o9b 9 a b d x s hx hs n0 (decide_eq_false (by omega)) (decide_eq_true (by omega)) (by rw [hb0 (by omega)]; rfl) (decide_eq_false h3) rfl rfl rfl rfl rfl (decide_eq_false ga)
                  · rw [if_neg g9]
                    by_cases y0 : argsI op < 1
                    · exact right_z0 op a b d x s hx hs n0 (decide_eq_true (by omega)) (by rw [ha0 y0]; rfl) (decide_eq_true (by omega)) (by rw [hb0 (by omega)]; rfl) (decide_eq_false h3) (beq_no g1) (beq_no g2) (beq_no g10) (beq_no g6) (beq_no g9)
                    · by_cases y1 : argsI op < 2
                      · exact right_z1 op a b d x s hx hs n0 (decide_eq_false (by omega)) (decide_eq_true (by omega)) (by rw [hb0 (by omega)]; rfl) (decide_eq_false h3) (beq_no g1) (beq_no g2) (beq_no g10) (beq_no g6) (beq_no g9)
                      · exact right_z2 op a b d x s hx hs n0 (decide_eq_false (by omega)) (decide_eq_false (by omega)) (decide_eq_false h3) (beq_no g1) (beq_no g2) (beq_no g10) (beq_no g6) (beq_no g9)
theorem right_calls (op a b d : Int) (w : World) (h : Ops w) : Calls Tryd.prog 32 #[insV op a b d] w fun e w' => e = .returned (.bool (rightS op a b)) ∧ Below w.heap.size w w' := right_is op a b d w h
end Go.Proofs.YtfofpammnfcmiaaDoor.Ip
namespace Go.Proofs.YtfofpammnfcmiaaDoor.Ip
open Go.RowKit Go.Proofs.YtfofpammnfcmiaaDoorW.PrintWords Go.Proofs.YtfofpammnfcmiaaDoorW.PrintLast Go.Proofs.YtfofpammnfcmiaaDoorW.PrintMore Go.Proofs.YtfofpammnfcmiaaDoor.Kinds Go.Proofs.YtfofpammnfcmiaaDoor.Obj Go.Proofs.YtfofpammnfcmiaaDoor.Sp Go.Proofs.YtfofpammnfcmiaaDoor.E
set_option linter.unusedVariables false
set_option linter.unusedSimpArgs false
set_option maxRecDepth 100000
theorem refName_in : ∀ n : Fin 34, PA.marlineref26_Name.f (n.val : Int) = some ⟨(nm n.val).toArray⟩ := by decide +kernel
theorem refArgs_in : ∀ n : Fin 34, PA.marlineref26_Args.f (n.val : Int) = some (ag n.val : Int) := by decide +kernel
theorem refName_ev (op : Int) : PA.marlineref26_Name.f op = some ⟨(nameI op).toArray⟩ := by
  by_cases h : op < 0 ∨ 34 ≤ op
  · have e : nameI op = [] := by unfold nameI; rw [if_pos h]
    rw [e]
    unfold PA.marlineref26_Name.f
    by_cases h1 : op < 1
    · rw [if_pos h1]
    · rw [if_neg h1, if_pos (by omega)]
  · obtain ⟨m, rfl⟩ : ∃ m : Nat, op = m := ⟨op.toNat, by omega⟩
    rw [name_at (by omega)]
    exact refName_in ⟨m, by omega⟩
theorem refArgs_ev (op : Int) : PA.marlineref26_Args.f op = some (argsI op : Int) := by
  by_cases h : op < 0 ∨ 34 ≤ op
  · have e : argsI op = 0 := by unfold argsI; rw [if_pos h]
    rw [e]
    unfold PA.marlineref26_Args.f
    rw [Option.bind_some]
    by_cases h1 : op < 1
    · rw [if_pos h1]; rfl
    · rw [if_neg h1, if_pos (by omega)]; rfl
  · obtain ⟨m, rfl⟩ : ∃ m : Nat, op = m := ⟨op.toNat, by omega⟩
    rw [args_at (by omega)]
    exact refArgs_in ⟨m, by omega⟩
theorem refName_calls (n : Int) (w : World) : Calls Tryd.prog 29 #[.int .i64 n] w fun e w' => e = .returned (.string ⟨(nameI n).toArray⟩) ∧ Below w.heap.size w w' := PA.marlineref26_Name.calls n _ w (refName_ev n)
theorem refArgs_calls (n : Int) (w : World) : Calls Tryd.prog 31 #[.int .i64 n] w fun e w' => e = .returned (.int .i64 (argsI n : Nat)) ∧ Below w.heap.size w w' := PA.marlineref26_Args.calls n _ w (refArgs_ev n)
def badS (op a b : Int) : Prop := nameI op = [] ∨ (argsI op < 1 ∧ a ≠ 0) ∨ (argsI op < 2 ∧ b ≠ 0) ∨ b < 0
theorem rightS_no {op a b : Int} (h : badS op a b) : rightS op a b = false := by unfold rightS; exact if_pos h
theorem rightS_yes {op a b : Int} (h : ¬ badS op a b) : rightS op a b = if op = 1 then true else if op = 2 ∨ op = 10 then decide (a = 0 ∨ a = 1) else if op = 6 then decide (1 ≤ a ∧ a ≤ 5) else if op = 9 then decide (8 ≤ a ∧ a ≤ 11) else decide (0 ≤ a) := by unfold rightS; exact if_neg h
theorem refRight_ev (q : Nat) (op a b d : Int) : PA.marlineref26_Right.f (q + 3) op a b d = some (rightS op a b) := by
  unfold PA.marlineref26_Right.f
  rw [refName_ev, Option.bind_some, refArgs_ev, Option.bind_some]
  have hl : (⟨(nameI op).toArray⟩ : ByteArray).toList = nameI op := by rw [ByteArray.toList_eq]
  rw [hl]
  have hle := args_le op
  have hj0 : ∀ b1 : Bool, PA.marlineref26_Right.j0 (q + 3) b1 op a b d = if b1 = true then some false else (PA.marlineref26_Args.f op).bind fun t => (if t = 0 then some (a == 0) else if op = 2 then PA.marlineref26_Right.j1 (q + 2) true op a b d else PA.marlineref26_Right.j1 (q + 2) (op == 10) op a b d) := fun _ => rfl
  have ht : PA.marlineref26_Right.j0 (q + 3) true op a b d = some false := by rw [hj0, if_pos rfl]
  have hj : PA.marlineref26_Right.j0 (q + 3) false op a b d = (if (argsI op : Int) = 0 then some (a == 0) else if op = 2 then PA.marlineref26_Right.j1 (q + 2) true op a b d else PA.marlineref26_Right.j1 (q + 2) (op == 10) op a b d) := by
    rw [hj0, if_neg Bool.false_ne_true, refArgs_ev, Option.bind_some]
  by_cases h0 : nameI op = []
  · rw [if_pos h0, rightS_no (.inl h0), ht]
  · rw [if_neg h0]
    by_cases h3 : b < 0
    · rw [rightS_no (.inr (.inr (.inr h3))), decide_eq_true h3, ht]; simp
    · rw [decide_eq_false h3]
      by_cases h2 : argsI op < 2 ∧ b ≠ 0
      · rw [rightS_no (.inr (.inr (.inl h2))), if_pos (by omega), if_neg h2.2, ht]
      · have e1 : (if (argsI op : Int) < 2 then (if b = 0 then PA.marlineref26_Right.j0 (q + 3) false op a b d else PA.marlineref26_Right.j0 (q + 3) true op a b d) else PA.marlineref26_Right.j0 (q + 3) false op a b d) = PA.marlineref26_Right.j0 (q + 3) false op a b d := by
          by_cases h : argsI op < 2
          · have hb : b = 0 := Classical.byContradiction fun e => h2 ⟨h, e⟩
            rw [if_pos (by omega), if_pos hb]
          · rw [if_neg (by omega)]
        rw [e1, hj]
        by_cases h1 : argsI op < 1 ∧ a ≠ 0
        · rw [rightS_no (.inr (.inl h1)), if_pos (by omega), beq_no h1.2]
        · rw [rightS_yes (show ¬ badS op a b from fun h => h.elim h0 (fun h => h.elim h1 (fun h => h.elim h2 h3)))]
          have j1 : ∀ b1 : Bool, PA.marlineref26_Right.j1 (q + 2) b1 op a b d = if b1 = true then (if a ≥ 0 then some (decide (a ≤ 1)) else some false) else if op = 6 then (if a ≥ 1 then some (decide (a ≤ 5)) else some false) else if op = 9 then (if a ≥ 8 then some (decide (a ≤ 11)) else some false) else if op = 1 then some true else some (decide (a ≥ 0)) := fun b1 => rfl
          have s01 : (if a ≥ 0 then some (decide (a ≤ 1)) else some false) = some (decide (a = 0 ∨ a = 1)) := by
            split <;> (congr 1; rw [Bool.eq_iff_iff]; simp; omega)
          by_cases y0 : argsI op = 0
          · have ha : a = 0 := Classical.byContradiction fun e => h1 ⟨by omega, e⟩
            rw [if_pos (by omega)]
            have k1 : op ≠ 1 := by rintro rfl; exact absurd y0 (by decide)
            have k2 : ¬ (op = 2 ∨ op = 10) := by rintro (rfl | rfl) <;> exact absurd y0 (by decide)
            have k6 : op ≠ 6 := by rintro rfl; exact absurd y0 (by decide)
            have k9 : op ≠ 9 := by rintro rfl; exact absurd y0 (by decide)
            rw [if_neg k1, if_neg k2, if_neg k6, if_neg k9, ha]; rfl
          · rw [if_neg (by omega)]
            by_cases g1 : op = 1
            · rw [if_pos g1, if_neg (by omega), beq_no (by omega), j1, if_neg Bool.false_ne_true, if_neg (by omega), if_neg (by omega), if_pos g1]
            · rw [if_neg g1]
              by_cases g2 : op = 2
              · rw [if_pos g2, if_pos (.inl g2), j1, if_pos rfl, s01]
              · rw [if_neg g2]
                by_cases g10 : op = 10
                · rw [if_pos (.inr g10), j1, if_pos (by rw [g10]; rfl), s01]
                · rw [if_neg (fun h => h.elim g2 g10), j1, beq_no g10, if_neg Bool.false_ne_true]
                  by_cases g6 : op = 6
                  · rw [if_pos g6, if_pos g6]; split <;> (congr 1; rw [Bool.eq_iff_iff]; simp; omega)
                  · rw [if_neg g6, if_neg g6]
                    by_cases g9 : op = 9
                    · rw [if_pos g9, if_pos g9]; split <;> (congr 1; rw [Bool.eq_iff_iff]; simp; omega)
                    · rw [if_neg g9, if_neg g9, if_neg g1]
theorem refRight_calls (op a b d : Int) (w : World) : Calls Tryd.prog 33 #[insV op a b d] w fun e w' => e = .returned (.bool (rightS op a b)) ∧ Below w.heap.size w w' := PA.marlineref26_Right.calls 3 op a b d _ w (refRight_ev 0 op a b d)
end Go.Proofs.YtfofpammnfcmiaaDoor.Ip
