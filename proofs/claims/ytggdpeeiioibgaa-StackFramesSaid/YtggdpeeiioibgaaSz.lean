/- Marline, layer 36: the law of no stack. Conditions: as it says. -/
import Derived.Test.YtggdpeeiioibgaaSr
namespace Go.Proofs.Ytggdpeeiioibgaa.E
open Go.RowKit Go.Proofs.YtggdpeeiioibgaaW.PrintWords Go.Proofs.YtggdpeeiioibgaaW.PrintLast Go.Proofs.YtggdpeeiioibgaaW.PrintMore Go.Proofs.Ytggdpeeiioibgaa.Kinds Go.Proofs.Ytggdpeeiioibgaa.Obj
set_option linter.unusedVariables false
set_option linter.unusedSimpArgs false
attribute [local go_sem] max2_int min2_int max_two min_two max_three min_three max_four min_four

theorem step_nil (w : World) (K : Int) (h0 : K ≠ 0) (a b c : Int) (y : S24) (A : Option Addr) (cy : Nat) : Calls Try.prog 39 #[.pointer none, .slice none 0 0, op61 K a b c y A cy] w (StepP w) := by
  by_cases h1 : K = 1; · subst h1; exact step1 w a b c y A cy
  by_cases h2 : K = 2; · subst h2; exact step2 w a b c y A cy
  by_cases h3 : K = 3; · subst h3; exact step3 w a b c y A cy
  by_cases h4 : K = 4; · subst h4; exact step4 w a b c y A cy
  by_cases h5 : K = 5; · subst h5; exact step5 w a b c y A cy
  by_cases h6 : K = 6; · subst h6; exact step6 w a b c y A cy
  by_cases h7 : K = 7; · subst h7; exact step7 w a b c y A cy
  by_cases h8 : K = 8; · subst h8; exact step8 w a b c y A cy
  by_cases h9 : K = 9; · subst h9; exact step9 w a b c y A cy
  exact stepX w K a b c y A cy h0 h1 h2 h3 h4 h5 h6 h7 h8 h9
theorem Op.set3 {w : World} {g : Nat} {K a b c : Int} {y : S24} {A : Option Addr} {cy : Nat} (h : Op w g K a b c y A cy) (d : Int) : Op (w.setCell ⟨g, 3, none⟩ (.int .i64 d)) g K a b d y A cy := ⟨blk_set h.blk 3 _⟩
theorem Op.froz {w : World} {g : Nat} {K a b c : Int} {y : S24} {A : Option Addr} {cy : Nat} (h : Op w g K a b c y A cy) : w.frozen? ⟨g, 3, none⟩ = false := by have hb := h.blk; simp [World.frozen?, hb]
set_option maxHeartbeats 4000000 in
set_option maxRecDepth 100000 in
theorem nil_walk (K a b c : Int) (y : S24) (A : Option Addr) (cy : Nat) (w : World) (hy : Ok y) (h : Kd24 w A cy y) :
    Calls Try.prog 11 #[op61 K a b c y A cy] w fun e w' => e = .returned (.bool true) ∧ Below w.heap.size w w' := by
  have hu24 := Try.underlying24
  obtain ⟨g, hg⟩ : ∃ g, w.heap.size = g := ⟨_, rfl⟩
  have G : Hid (∃ w1 : World, w.alloc (.cells #[.int .i64 K, .int .i64 a, .int .i64 b, .int .i64 c, .int .i64 y.f0, .int .i64 y.f1, .slice A y.f2.length cy] 61) = w1 ∧ Op w1 g K a b c y A cy ∧ Below w.heap.size w w1) :=
    Lib.hid ⟨_, rfl, ⟨by rw [← hg]; exact blk_new _ _⟩, below_alloc (Below.refl _ _) _⟩
  have GA := Lib.hid hg
  have gw : w.heap.size ≤ g := by omega
  have HY := Lib.hid hy; have HK := Lib.hid h
  clear hg hy h
  obtain ⟨z, hz⟩ : ∃ z : Int, (if szw y > 300 then 0 else 1) = z := ⟨_, rfl⟩
  have hz01 : z = 0 ∨ z = 1 := by rw [← hz]; split <;> simp
  have HZ := Lib.hid hz
  clear hz
  obtain ⟨m, hm⟩ : ∃ m, (if (20 : Int) < c then (20 : Int) else c) = m := ⟨_, rfl⟩
  obtain ⟨n, hn⟩ : ∃ n, (if (-5 : Int) < m then m else (-5 : Int)) = n := ⟨_, rfl⟩
  go_enter Try.func11, Try.ntmps11
  go_upto_region 1 with (fail)
  rw [GA.out]
  obtain ⟨w1, hw1, v1, b1⟩ := G.out
  rw [hw1]
  have V1 := Lib.hid v1; have B1 := Lib.hid b1
  clear G GA hw1 v1 b1
  go_wp2_with fail
  refine (works37 w1).mono ?_
  rintro e w2 ⟨rfl, hb⟩
  have V2 := Lib.hid (V1.out.below hb); have B2 := Lib.hid (B1.out.trans (hb.mono B1.out.size))
  clear hb V1 B1
  obtain ⟨k0, k1, k2, k3, k4, k5, k6⟩ := V2.out.cells
  go_wp2_with fail
  refine (small24 y A cy w2 HY.out (HK.out.below B2.out) z HZ.out).mono ?_
  rintro e w3 ⟨rfl, hb⟩
  have V3 := Lib.hid (V2.out.below hb); have B3 := Lib.hid (B2.out.trans (hb.mono B2.out.size))
  clear hb V2 B2 k0 k1 k2 k3 k4 k5 k6
  rcases hz01 with hz | hz
  · subst hz
    go_wp2_with fail
    refine (works37 w3).mono ?_
    rintro e w4 ⟨rfl, hb⟩
    have B4 := Lib.hid (B3.out.trans (hb.mono B3.out.size))
    clear hb
    go_wp2_with fail
    go_ret
    exact ⟨rfl, B4.out⟩
  · subst hz
    obtain ⟨k0, k1, k2, k3, k4, k5, k6⟩ := V3.out.cells
    have f3 := V3.out.froz
    go_upto_region 5 with (fail)
    obtain ⟨w4, hw4, v4, b4⟩ : ∃ w4 : World, w3.setCell ⟨g, 3, none⟩ (.int .i64 n) = w4 ∧ Op w4 g K a b n y A cy ∧ Below w.heap.size w w4 := ⟨_, rfl, V3.out.set3 n, below_set B3.out gw⟩
    rw [hw4]
    have V4 := Lib.hid v4; have B4 := Lib.hid b4
    clear hw4 v4 b4 V3 B3 k0 k1 k2 k3 k4 k5 k6 f3 hm hn
    obtain ⟨k0, k1, k2, k3, k4, k5, k6⟩ := V4.out.cells
    by_cases h0 : K = 0
    · subst h0
      go_wp2_with fail
      refine (start_nil a n none 0 0 w4).mono ?_
      rintro e w5 ⟨rfl, hb⟩
      have B5 := Lib.hid (B4.out.trans (hb.mono B4.out.size))
      clear hb
      go_wp2_with fail
      go_ret
      exact ⟨rfl, B5.out⟩
    · have p0 : (K == 0) = false := beq_eq_false_iff_ne.2 h0
      have H0 := Lib.hid h0
      clear h0
      go_wp2_with fail
      refine (step_nil w4 K H0.out a b n y A cy).mono ?_
      rintro e w5 ⟨v, rfl, hb⟩
      have B5 := Lib.hid (B4.out.trans (hb.mono B4.out.size))
      clear hb
      go_wp2_with fail
      refine (height_no (top_nil w5)).mono ?_
      rintro e w6 ⟨rfl, hb⟩
      have B6 := Lib.hid (B5.out.trans (hb.mono B5.out.size))
      clear hb
      go_wp2_with fail
      refine (depth_nil w6).mono ?_
      rintro e w7 ⟨rfl, hb⟩
      have B7 := Lib.hid (B6.out.trans (hb.mono B6.out.size))
      clear hb
      go_wp2_with fail
      refine (fun_no (top_nil w7)).mono ?_
      rintro e w8 ⟨rfl, hb⟩
      have B8 := Lib.hid (B7.out.trans (hb.mono B7.out.size))
      clear hb
      go_wp2_with fail
      go_ret
      exact ⟨rfl, B8.out⟩
end Go.Proofs.Ytggdpeeiioibgaa.E
