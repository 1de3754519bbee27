/- Marline, layer 36: no stack. Conditions: as each says. -/
import Derived.Test.YtggdpeeiioibgaaSw
import Derived.Test.YtggdpeeiioibgaaB
namespace Go.Proofs.Ytggdpeeiioibgaa.E
open Go.RowKit Go.Proofs.YtggdpeeiioibgaaW.PrintWords Go.Proofs.YtggdpeeiioibgaaW.PrintLast Go.Proofs.YtggdpeeiioibgaaW.PrintMore Go.Proofs.Ytggdpeeiioibgaa.Kinds Go.Proofs.Ytggdpeeiioibgaa.Obj
set_option linter.unusedVariables false
set_option linter.unusedSimpArgs false

theorem refTake_nil (n : Int) (w : World) : Calls Try.prog 73 #[.slice none 0 0, .int .i64 n] w fun e w' => e = .returned (.tuple #[.slice none 0 0, .slice none 0 0, .bool false]) ∧ Below w.heap.size w w' := by
  go_enter Try.func73, Try.ntmps73
  go_wp2_with fail
  refine bodyPost_ret (results_tmp3 rfl _ _ _) rfl ?_
  exact ⟨rfl, Below.refl _ _⟩
theorem same0 (w : World) : Calls Try.prog 22 #[v24 0 0 none 0 0, v24 0 0 none 0 0] w fun e w' => e = .returned (.bool true) ∧ Below w.heap.size w w' := by
  have h0 : Kd24 w none 0 z24 := ⟨Nat.le_refl _, Kd.F_now (Kd.F_nil k24 w (fun _ => True))⟩
  have h := same24 z24 none 0 z24 none 0 w h0 h0
  have e : same z24 z24 = true := (same_iff _ _).2 rfl
  rw [e] at h
  exact h
theorem sameNil (w : World) : Calls Try.prog 36 #[.slice none 0 0, .slice none 0 0] w fun e w' => e = .returned (.bool true) ∧ Below w.heap.size w w' := by
  have h := sameAll_n 1 none 0 [] none 0 [] w (by decide) (Nat.le_refl _) (Kd.F_now (Kd.F_nil k24 w (fun _ => True))) (Nat.le_refl _) (Kd.F_now (Kd.F_nil k24 w (fun _ => True)))
  exact h
abbrev op61 (K a b c : Int) (y : S24) (A : Option Addr) (cy : Nat) : Value := .agg #[.int .i64 K, .int .i64 a, .int .i64 b, .int .i64 c, .int .i64 y.f0, .int .i64 y.f1, .slice A y.f2.length cy]
def StepP (w : World) (e : Ending) (w' : World) : Prop := ∃ v, e = .returned (.tuple #[v, .bool true]) ∧ Below w.heap.size w w'
/-- what the boxed call holds. -/
structure Op (w : World) (g : Nat) (K a b c : Int) (y : S24) (A : Option Addr) (cy : Nat) : Prop where
  blk : w.heap[g]? = some (.cells #[.int .i64 K, .int .i64 a, .int .i64 b, .int .i64 c, .int .i64 y.f0, .int .i64 y.f1, .slice A y.f2.length cy] 61 (0, 0))
theorem Op.below {w w' : World} {g : Nat} {K a b c : Int} {y : S24} {A : Option Addr} {cy : Nat} (h : Op w g K a b c y A cy) (hb : Below w.heap.size w w') : Op w' g K a b c y A cy := ⟨(hb.block g (blk_lt h.blk)).trans h.blk⟩
theorem Op.cells {w : World} {g : Nat} {K a b c : Int} {y : S24} {A : Option Addr} {cy : Nat} (h : Op w g K a b c y A cy) : w.cell? ⟨g, 0, none⟩ = some (.int .i64 K) ∧ w.cell? ⟨g, 1, none⟩ = some (.int .i64 a) ∧ w.cell? ⟨g, 2, none⟩ = some (.int .i64 b) ∧ w.cell? ⟨g, 3, none⟩ = some (.int .i64 c) ∧ w.cell? ⟨g, 4, none⟩ = some (.int .i64 y.f0) ∧ w.cell? ⟨g, 5, none⟩ = some (.int .i64 y.f1) ∧ w.cell? ⟨g, 6, none⟩ = some (.slice A y.f2.length cy) := by
  have hb := h.blk
  refine ⟨?_, ?_, ?_, ?_, ?_, ?_, ?_⟩
  all_goals simp [World.cell?, hb]
set_option maxHeartbeats 4000000 in
set_option maxRecDepth 100000 in
theorem step1 (w : World) (a b c : Int) (y : S24) (A : Option Addr) (cy : Nat) : Calls Try.prog 39 #[.pointer none, .slice none 0 0, op61 1 a b c y A cy] w (StepP w) := by
  have hu24 := Try.underlying24
  obtain ⟨g, hg⟩ : ∃ g, w.heap.size = g := ⟨_, rfl⟩
  have G : Hid (∃ w1 : World, w.alloc (.cells #[.int .i64 1, .int .i64 a, .int .i64 b, .int .i64 c, .int .i64 y.f0, .int .i64 y.f1, .slice A y.f2.length cy] 61) = w1 ∧ Op w1 g 1 a b c y A cy ∧ Below w.heap.size w w1) :=
    Lib.hid ⟨_, rfl, ⟨by rw [← hg]; exact blk_new _ _⟩, below_alloc (Below.refl _ _) _⟩
  have GA := Lib.hid hg
  clear hg
  go_enter Try.func39, Try.ntmps39
  go_upto_region 1 with (fail)
  rw [GA.out]
  obtain ⟨w1, hw1, v1, b1⟩ := G.out
  rw [hw1]
  have V1 := Lib.hid v1; have B1 := Lib.hid b1
  clear G GA hw1 v1 b1
  obtain ⟨k0, k1, k2, k3, k4, k5, k6⟩ := V1.out.cells
  go_wp2_with fail
  refine (refTake_nil b w1).mono ?_
  rintro e w2 ⟨rfl, hb⟩
  have V2 := Lib.hid (V1.out.below hb); have B2 := Lib.hid (B1.out.trans (hb.mono B1.out.size))
  clear hb V1 B1
  obtain ⟨k0, k1, k2, k3, k4, k5, k6⟩ := V2.out.cells
  go_wp2_with fail
  refine (enter_no (top_nil w2) a a c b).mono ?_
  rintro e w3 ⟨rfl, hb⟩
  have V3 := Lib.hid (V2.out.below hb); have B3 := Lib.hid (B2.out.trans (hb.mono B2.out.size))
  clear hb V2 B2
  obtain ⟨k0, k1, k2, k3, k4, k5, k6⟩ := V3.out.cells
  go_wp2_with fail
  go_ret2
  exact ⟨_, rfl, B3.out⟩
set_option maxHeartbeats 4000000 in
set_option maxRecDepth 100000 in
theorem step2 (w : World) (a b c : Int) (y : S24) (A : Option Addr) (cy : Nat) : Calls Try.prog 39 #[.pointer none, .slice none 0 0, op61 2 a b c y A cy] w (StepP w) := by
  have hu24 := Try.underlying24
  obtain ⟨g, hg⟩ : ∃ g, w.heap.size = g := ⟨_, rfl⟩
  have G : Hid (∃ w1 : World, w.alloc (.cells #[.int .i64 2, .int .i64 a, .int .i64 b, .int .i64 c, .int .i64 y.f0, .int .i64 y.f1, .slice A y.f2.length cy] 61) = w1 ∧ Op w1 g 2 a b c y A cy ∧ Below w.heap.size w w1) :=
    Lib.hid ⟨_, rfl, ⟨by rw [← hg]; exact blk_new _ _⟩, below_alloc (Below.refl _ _) _⟩
  have GA := Lib.hid hg
  clear hg
  go_enter Try.func39, Try.ntmps39
  go_upto_region 1 with (fail)
  rw [GA.out]
  obtain ⟨w1, hw1, v1, b1⟩ := G.out
  rw [hw1]
  have V1 := Lib.hid v1; have B1 := Lib.hid b1
  clear G GA hw1 v1 b1
  obtain ⟨k0, k1, k2, k3, k4, k5, k6⟩ := V1.out.cells
  go_wp2_with fail
  refine (leave_no (top_nil w1)).mono ?_
  rintro e w2 ⟨rfl, hb⟩
  have V2 := Lib.hid (V1.out.below hb); have B2 := Lib.hid (B1.out.trans (hb.mono B1.out.size))
  clear hb V1 B1
  obtain ⟨k0, k1, k2, k3, k4, k5, k6⟩ := V2.out.cells
  go_wp2_with fail
  go_ret2
  exact ⟨_, rfl, B2.out⟩
set_option maxHeartbeats 4000000 in
set_option maxRecDepth 100000 in
theorem step3 (w : World) (a b c : Int) (y : S24) (A : Option Addr) (cy : Nat) : Calls Try.prog 39 #[.pointer none, .slice none 0 0, op61 3 a b c y A cy] w (StepP w) := by
  have hu24 := Try.underlying24
  obtain ⟨g, hg⟩ : ∃ g, w.heap.size = g := ⟨_, rfl⟩
  have G : Hid (∃ w1 : World, w.alloc (.cells #[.int .i64 3, .int .i64 a, .int .i64 b, .int .i64 c, .int .i64 y.f0, .int .i64 y.f1, .slice A y.f2.length cy] 61) = w1 ∧ Op w1 g 3 a b c y A cy ∧ Below w.heap.size w w1) :=
    Lib.hid ⟨_, rfl, ⟨by rw [← hg]; exact blk_new _ _⟩, below_alloc (Below.refl _ _) _⟩
  have GA := Lib.hid hg
  clear hg
  go_enter Try.func39, Try.ntmps39
  go_upto_region 1 with (fail)
  rw [GA.out]
  obtain ⟨w1, hw1, v1, b1⟩ := G.out
  rw [hw1]
  have V1 := Lib.hid v1; have B1 := Lib.hid b1
  clear G GA hw1 v1 b1
  obtain ⟨k0, k1, k2, k3, k4, k5, k6⟩ := V1.out.cells
  go_wp2_with fail
  refine (push_no (top_nil w1) y A cy).mono ?_
  rintro e w2 ⟨rfl, hb⟩
  have V2 := Lib.hid (V1.out.below hb); have B2 := Lib.hid (B1.out.trans (hb.mono B1.out.size))
  clear hb V1 B1
  obtain ⟨k0, k1, k2, k3, k4, k5, k6⟩ := V2.out.cells
  go_wp2_with fail
  go_ret2
  exact ⟨_, rfl, B2.out⟩
set_option maxHeartbeats 4000000 in
set_option maxRecDepth 100000 in
theorem step4 (w : World) (a b c : Int) (y : S24) (A : Option Addr) (cy : Nat) : Calls Try.prog 39 #[.pointer none, .slice none 0 0, op61 4 a b c y A cy] w (StepP w) := by
  have hu24 := Try.underlying24
  obtain ⟨g, hg⟩ : ∃ g, w.heap.size = g := ⟨_, rfl⟩
  have G : Hid (∃ w1 : World, w.alloc (.cells #[.int .i64 4, .int .i64 a, .int .i64 b, .int .i64 c, .int .i64 y.f0, .int .i64 y.f1, .slice A y.f2.length cy] 61) = w1 ∧ Op w1 g 4 a b c y A cy ∧ Below w.heap.size w w1) :=
    Lib.hid ⟨_, rfl, ⟨by rw [← hg]; exact blk_new _ _⟩, below_alloc (Below.refl _ _) _⟩
  have GA := Lib.hid hg
  clear hg
  go_enter Try.func39, Try.ntmps39
  go_upto_region 1 with (fail)
  rw [GA.out]
  obtain ⟨w1, hw1, v1, b1⟩ := G.out
  rw [hw1]
  have V1 := Lib.hid v1; have B1 := Lib.hid b1
  clear G GA hw1 v1 b1
  obtain ⟨k0, k1, k2, k3, k4, k5, k6⟩ := V1.out.cells
  go_wp2_with fail
  refine (push_no (top_nil w1) y A cy).mono ?_
  rintro e w2 ⟨rfl, hb⟩
  have V2 := Lib.hid (V1.out.below hb); have B2 := Lib.hid (B1.out.trans (hb.mono B1.out.size))
  clear hb V1 B1
  obtain ⟨k0, k1, k2, k3, k4, k5, k6⟩ := V2.out.cells
  go_wp2_with fail
  go_ret2
  exact ⟨_, rfl, B2.out⟩
set_option maxHeartbeats 4000000 in
set_option maxRecDepth 100000 in
theorem step5 (w : World) (a b c : Int) (y : S24) (A : Option Addr) (cy : Nat) : Calls Try.prog 39 #[.pointer none, .slice none 0 0, op61 5 a b c y A cy] w (StepP w) := by
  have hu24 := Try.underlying24
  obtain ⟨g, hg⟩ : ∃ g, w.heap.size = g := ⟨_, rfl⟩
  have G : Hid (∃ w1 : World, w.alloc (.cells #[.int .i64 5, .int .i64 a, .int .i64 b, .int .i64 c, .int .i64 y.f0, .int .i64 y.f1, .slice A y.f2.length cy] 61) = w1 ∧ Op w1 g 5 a b c y A cy ∧ Below w.heap.size w w1) :=
    Lib.hid ⟨_, rfl, ⟨by rw [← hg]; exact blk_new _ _⟩, below_alloc (Below.refl _ _) _⟩
  have GA := Lib.hid hg
  clear hg
  go_enter Try.func39, Try.ntmps39
  go_upto_region 1 with (fail)
  rw [GA.out]
  obtain ⟨w1, hw1, v1, b1⟩ := G.out
  rw [hw1]
  have V1 := Lib.hid v1; have B1 := Lib.hid b1
  clear G GA hw1 v1 b1
  obtain ⟨k0, k1, k2, k3, k4, k5, k6⟩ := V1.out.cells
  go_wp2_with fail
  refine (push_no (top_nil w1) y A cy).mono ?_
  rintro e w2 ⟨rfl, hb⟩
  have V2 := Lib.hid (V1.out.below hb); have B2 := Lib.hid (B1.out.trans (hb.mono B1.out.size))
  clear hb V1 B1
  obtain ⟨k0, k1, k2, k3, k4, k5, k6⟩ := V2.out.cells
  go_wp2_with fail
  go_ret2
  exact ⟨_, rfl, B2.out⟩
set_option maxHeartbeats 4000000 in
set_option maxRecDepth 100000 in
theorem step7 (w : World) (a b c : Int) (y : S24) (A : Option Addr) (cy : Nat) : Calls Try.prog 39 #[.pointer none, .slice none 0 0, op61 7 a b c y A cy] w (StepP w) := by
  have hu24 := Try.underlying24
  obtain ⟨g, hg⟩ : ∃ g, w.heap.size = g := ⟨_, rfl⟩
  have G : Hid (∃ w1 : World, w.alloc (.cells #[.int .i64 7, .int .i64 a, .int .i64 b, .int .i64 c, .int .i64 y.f0, .int .i64 y.f1, .slice A y.f2.length cy] 61) = w1 ∧ Op w1 g 7 a b c y A cy ∧ Below w.heap.size w w1) :=
    Lib.hid ⟨_, rfl, ⟨by rw [← hg]; exact blk_new _ _⟩, below_alloc (Below.refl _ _) _⟩
  have GA := Lib.hid hg
  clear hg
  go_enter Try.func39, Try.ntmps39
  go_upto_region 1 with (fail)
  rw [GA.out]
  obtain ⟨w1, hw1, v1, b1⟩ := G.out
  rw [hw1]
  have V1 := Lib.hid v1; have B1 := Lib.hid b1
  clear G GA hw1 v1 b1
  obtain ⟨k0, k1, k2, k3, k4, k5, k6⟩ := V1.out.cells
  go_wp2_with fail
  refine (take_no (top_nil w1) a).mono ?_
  rintro e w2 ⟨rfl, hb⟩
  have V2 := Lib.hid (V1.out.below hb); have B2 := Lib.hid (B1.out.trans (hb.mono B1.out.size))
  clear hb V1 B1
  obtain ⟨k0, k1, k2, k3, k4, k5, k6⟩ := V2.out.cells
  go_wp2_with fail
  refine (refTake_nil a w2).mono ?_
  rintro e w3 ⟨rfl, hb⟩
  have V3 := Lib.hid (V2.out.below hb); have B3 := Lib.hid (B2.out.trans (hb.mono B2.out.size))
  clear hb V2 B2
  obtain ⟨k0, k1, k2, k3, k4, k5, k6⟩ := V3.out.cells
  go_wp2_with fail
  refine (sameNil w3).mono ?_
  rintro e w4 ⟨rfl, hb⟩
  have V4 := Lib.hid (V3.out.below hb); have B4 := Lib.hid (B3.out.trans (hb.mono B3.out.size))
  clear hb V3 B3
  obtain ⟨k0, k1, k2, k3, k4, k5, k6⟩ := V4.out.cells
  go_wp2_with fail
  go_ret2
  exact ⟨_, rfl, B4.out⟩
set_option maxHeartbeats 4000000 in
set_option maxRecDepth 100000 in
theorem step8 (w : World) (a b c : Int) (y : S24) (A : Option Addr) (cy : Nat) : Calls Try.prog 39 #[.pointer none, .slice none 0 0, op61 8 a b c y A cy] w (StepP w) := by
  have hu24 := Try.underlying24
  obtain ⟨g, hg⟩ : ∃ g, w.heap.size = g := ⟨_, rfl⟩
  have G : Hid (∃ w1 : World, w.alloc (.cells #[.int .i64 8, .int .i64 a, .int .i64 b, .int .i64 c, .int .i64 y.f0, .int .i64 y.f1, .slice A y.f2.length cy] 61) = w1 ∧ Op w1 g 8 a b c y A cy ∧ Below w.heap.size w w1) :=
    Lib.hid ⟨_, rfl, ⟨by rw [← hg]; exact blk_new _ _⟩, below_alloc (Below.refl _ _) _⟩
  have GA := Lib.hid hg
  clear hg
  go_enter Try.func39, Try.ntmps39
  go_upto_region 1 with (fail)
  rw [GA.out]
  obtain ⟨w1, hw1, v1, b1⟩ := G.out
  rw [hw1]
  have V1 := Lib.hid v1; have B1 := Lib.hid b1
  clear G GA hw1 v1 b1
  obtain ⟨k0, k1, k2, k3, k4, k5, k6⟩ := V1.out.cells
  go_wp2_with fail
  refine (load_no (top_nil w1) a).mono ?_
  rintro e w2 ⟨rfl, hb⟩
  have V2 := Lib.hid (V1.out.below hb); have B2 := Lib.hid (B1.out.trans (hb.mono B1.out.size))
  clear hb V1 B1 k0 k1 k2 k3 k4 k5 k6
  obtain ⟨h, hh⟩ : ∃ h, w2.heap.size = h := ⟨_, rfl⟩
  have G3 : Hid (∃ w3 : World, w2.alloc (.cells #[.int .i64 0, .int .i64 0, .slice none 0 0] 24) = w3 ∧ Var w3 h z24 none 0 ∧ Below w2.heap.size w2 w3) := Lib.hid ⟨_, rfl, by rw [← hh]; exact blk_new _ _, below_alloc (Below.refl _ _) _⟩
  have HH := Lib.hid hh
  clear hh
  go_upto_region 41 with (fail)
  rw [HH.out]
  obtain ⟨w3, hw3, v3, hb⟩ := G3.out
  rw [hw3]
  have U3 := Lib.hid v3; have V3 := Lib.hid (V2.out.below hb); have B3 := Lib.hid (B2.out.trans (hb.mono B2.out.size))
  clear G3 HH hw3 v3 hb V2 B2
  obtain ⟨k0, k1, k2, k3, k4, k5, k6⟩ := V3.out.cells
  obtain ⟨m0, m1, m2, _, _, _⟩ := U3.out.cells
  simp only [z24] at m0 m1 m2
  simp only [List.length_nil] at m2
  go_wp2_with fail
  go_quiet (fail)
  have V4 := Lib.hid (V3.out.below (pw_below_drewN (Below.refl w3.heap.size w3) nq)); have B4 := Lib.hid (pw_below_drewN B3.out nq); have U4 := Lib.hid (show Var (w3.drewN nq) h z24 none 0 from U3.out)
  generalize w3.drewN nq = w4 at *
  clear k0 k1 k2 k3 k4 k5 k6 m0 m1 m2 V3 B3 U3
  obtain ⟨m0, m1, m2, _, _, _⟩ := U4.out.cells
  simp only [z24] at m0 m1 m2
  simp only [List.length_nil] at m2
  go_wp2_with fail
  refine (same0 w4).mono ?_
  rintro e w5 ⟨rfl, hb⟩
  have B5 := Lib.hid (B4.out.trans (hb.mono B4.out.size))
  clear hb
  go_wp2_with fail
  go_ret2
  exact ⟨_, rfl, B5.out⟩
set_option maxHeartbeats 4000000 in
set_option maxRecDepth 100000 in
theorem step9 (w : World) (a b c : Int) (y : S24) (A : Option Addr) (cy : Nat) : Calls Try.prog 39 #[.pointer none, .slice none 0 0, op61 9 a b c y A cy] w (StepP w) := by
  have hu24 := Try.underlying24
  obtain ⟨g, hg⟩ : ∃ g, w.heap.size = g := ⟨_, rfl⟩
  have G : Hid (∃ w1 : World, w.alloc (.cells #[.int .i64 9, .int .i64 a, .int .i64 b, .int .i64 c, .int .i64 y.f0, .int .i64 y.f1, .slice A y.f2.length cy] 61) = w1 ∧ Op w1 g 9 a b c y A cy ∧ Below w.heap.size w w1) :=
    Lib.hid ⟨_, rfl, ⟨by rw [← hg]; exact blk_new _ _⟩, below_alloc (Below.refl _ _) _⟩
  have GA := Lib.hid hg
  clear hg
  go_enter Try.func39, Try.ntmps39
  go_upto_region 1 with (fail)
  rw [GA.out]
  obtain ⟨w1, hw1, v1, b1⟩ := G.out
  rw [hw1]
  have V1 := Lib.hid v1; have B1 := Lib.hid b1
  clear G GA hw1 v1 b1
  obtain ⟨k0, k1, k2, k3, k4, k5, k6⟩ := V1.out.cells
  go_wp2_with fail
  refine (store_no (top_nil w1) a y A cy).mono ?_
  rintro e w2 ⟨rfl, hb⟩
  have V2 := Lib.hid (V1.out.below hb); have B2 := Lib.hid (B1.out.trans (hb.mono B1.out.size))
  clear hb V1 B1
  obtain ⟨k0, k1, k2, k3, k4, k5, k6⟩ := V2.out.cells
  go_wp2_with fail
  go_quiet (fail)
  have B3 := Lib.hid (pw_below_drewN B2.out nq)
  generalize w2.drewN nq = w3 at *
  go_wp2_with fail
  go_ret2
  exact ⟨_, rfl, B3.out⟩
set_option maxHeartbeats 4000000 in
set_option maxRecDepth 100000 in
theorem stepX (w : World) (K : Int) (a b c : Int) (y : S24) (A : Option Addr) (cy : Nat) (h0 : K ≠ 0) (h1 : K ≠ 1) (h2 : K ≠ 2) (h3 : K ≠ 3) (h4 : K ≠ 4) (h5 : K ≠ 5) (h6 : K ≠ 6) (h7 : K ≠ 7) (h8 : K ≠ 8) (h9 : K ≠ 9) : Calls Try.prog 39 #[.pointer none, .slice none 0 0, op61 K a b c y A cy] w (StepP w) := by
  have hu24 := Try.underlying24
  have p0 : (K == 0) = false := beq_eq_false_iff_ne.2 h0
  have p1 : (K == 1) = false := beq_eq_false_iff_ne.2 h1
  have p2 : (K == 2) = false := beq_eq_false_iff_ne.2 h2
  have p3 : (K == 3) = false := beq_eq_false_iff_ne.2 h3
  have p4 : (K == 4) = false := beq_eq_false_iff_ne.2 h4
  have p5 : (K == 5) = false := beq_eq_false_iff_ne.2 h5
  have p6 : (K == 6) = false := beq_eq_false_iff_ne.2 h6
  have p7 : (K == 7) = false := beq_eq_false_iff_ne.2 h7
  have p8 : (K == 8) = false := beq_eq_false_iff_ne.2 h8
  have p9 : (K == 9) = false := beq_eq_false_iff_ne.2 h9
  obtain ⟨g, hg⟩ : ∃ g, w.heap.size = g := ⟨_, rfl⟩
  have G : Hid (∃ w1 : World, w.alloc (.cells #[.int .i64 K, .int .i64 a, .int .i64 b, .int .i64 c, .int .i64 y.f0, .int .i64 y.f1, .slice A y.f2.length cy] 61) = w1 ∧ Op w1 g K a b c y A cy ∧ Below w.heap.size w w1) :=
    Lib.hid ⟨_, rfl, ⟨by rw [← hg]; exact blk_new _ _⟩, below_alloc (Below.refl _ _) _⟩
  have GA := Lib.hid hg
  clear hg
  go_enter Try.func39, Try.ntmps39
  go_upto_region 1 with (fail)
  rw [GA.out]
  obtain ⟨w1, hw1, v1, b1⟩ := G.out
  rw [hw1]
  have V1 := Lib.hid v1; have B1 := Lib.hid b1
  clear G GA hw1 v1 b1
  obtain ⟨k0, k1, k2, k3, k4, k5, k6⟩ := V1.out.cells
  go_wp2_with fail
  go_ret2
  exact ⟨_, rfl, B1.out⟩
end Go.Proofs.Ytggdpeeiioibgaa.E
