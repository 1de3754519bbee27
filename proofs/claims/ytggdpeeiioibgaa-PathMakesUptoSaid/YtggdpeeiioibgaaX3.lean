/- Marline, layer 07: Make, as a printed function is told. Conditions: as each says. -/
import Derived.Test.YtggdpeeiioibgaaMk
import Derived.Test.YtggdpeeiioibgaaWk
import Derived.Test.YtggdpeeiioibgaaPF
namespace Go.Proofs.Ytggdpeeiioibgaa.E
open Go.RowKit Go.Proofs.YtggdpeeiioibgaaW.PrintWords Go.Proofs.YtggdpeeiioibgaaW.PrintLast Go.Proofs.YtggdpeeiioibgaaW.PrintMore Go.Proofs.Ytggdpeeiioibgaa.Kinds Go.Proofs.Ytggdpeeiioibgaa.Obj
set_option linter.unusedVariables false
set_option linter.unusedSimpArgs false

set_option maxHeartbeats 8000000 in
set_option maxRecDepth 100000 in
theorem make_v (P : Nat → Prop) (k : Int) (l : List S24) (A : Option Addr) (c : Nat) (w : World) (h : Ok ⟨k, 0, l⟩) (hl : l.length ≤ c) (hr : Kd.F k24 w P A l.length l) :
    Calls Try.prog 25 #[.int .i64 k, .slice A l.length c] w fun e w' => ∃ B d, e = .returned (.tuple #[v24 (make_ k l).1.f0 (make_ k l).1.f1 B (make_ k l).1.f2.length d, .int .i64 (make_ k l).2]) ∧ (make_ k l).1.f2.length ≤ d ∧ Kd.F k24 w' (fun j => (P j ∧ j < w.heap.size) ∨ w.heap.size ≤ j) B (make_ k l).1.f2.length (make_ k l).1.f2 ∧ Below w.heap.size w w' := by
  have hu24 := Try.underlying24
  obtain ⟨g, hg⟩ : ∃ g, w.heap.size = g := ⟨_, rfl⟩
  have G : Hid (∃ w1 : World, w.alloc (.cells #[.int .i64 0, .int .i64 0, .slice none 0 0] 24) = w1 ∧ Var w1 g z24 none 0 ∧ Below w.heap.size w w1) :=
    Lib.hid ⟨_, rfl, by rw [← hg]; exact blk_new _ _, below_alloc (Below.refl _ _) _⟩
  obtain ⟨x, hx⟩ : ∃ x : S24, (⟨k, 0, l⟩ : S24) = x := ⟨_, rfl⟩
  have x0 : x.f0 = k := by rw [← hx]
  have x1 : x.f1 = 0 := by rw [← hx]
  have x2 : x.f2 = l := by rw [← hx]
  have em := make_yes k l
  rw [hx] at h em
  have HK := Lib.hid h; have HL := Lib.hid hl; have HR := Lib.hid hr
  have hb : l.length * 40 ≤ 140737488351232 := by rw [← x2]; exact h.len
  have wg : w.heap.size ≤ g := by omega
  have WG := Lib.hid wg
  have E1 := Lib.hid hg
  have X0 := Lib.hid x0; have X1 := Lib.hid x1; have X2 := Lib.hid x2
  clear h hl hr hg hx x0 x1 x2
  by_cases hk : k = 3 ∨ (k = 2 ∧ l.length ≤ 256)
  · replace em := em hk
    rw [em]
    have p : (k = 3 ∧ (k == 3) = true ∧ (k != 3) = false) ∨ (k = 2 ∧ decide ((256 : Int) < (l.length : Int)) = false) := by
      rcases hk with rfl | ⟨rfl, h2⟩
      · exact .inl ⟨rfl, by decide, by decide⟩
      · exact .inr ⟨rfl, decide_eq_false (by omega)⟩
    clear hk em wg
    rcases p with ⟨rfl, _, _⟩ | ⟨rfl, p2⟩
    all_goals
      go_enter Try.func25, Try.ntmps25
      go_upto_region 1 with (fail)
      rw [E1.out]
      obtain ⟨w1, hw1, v1, b1⟩ := G.out
      rw [hw1]
      have V1 := Lib.hid v1; have B1 := Lib.hid b1
      clear G v1 b1 hw1
      go_wp2_with fail
      refine (clone_is (fun j => P j ∧ j < w.heap.size) A c l w1 HL.out (Kd.F_below (Kd.F_bound HR.out) B1.out) (by omega)).mono ?_
      rintro e w2 ⟨v, rfl, n2, b2⟩
      obtain ⟨B, d, rfl⟩ := Kd.N_slice n2
      obtain ⟨_, q2, q3⟩ := Kd.N_reads' n2
      have V2 := Lib.hid (V1.out.below b2)
      have B2 := Lib.hid (B1.out.trans (Below.mono b2 B1.out.size))
      have S1 : g < w1.heap.size := blk_lt V1.out
      have q4 : Kd.F k24 w2 (fun j => ((P j ∧ j < w.heap.size) ∨ w.heap.size ≤ j) ∧ j ≠ g) B l.length l := Kd.F_mono (Kd.N_F n2) (fun k hk => by
        have := WG.out; have := E1.out
        rcases hk with ⟨h, _⟩ | h
        · exact ⟨.inl h, by have := h.2; omega⟩
        · exact ⟨.inr (by omega), by omega⟩)
      have Q2 := Lib.hid q2; have Q3 := Lib.hid q3; have Q4 := Lib.hid q4
      clear n2 b2 q2 q3 q4 V1 B1 S1
      go_upto_region 4 with (fail)
      obtain ⟨g2, hg2⟩ : ∃ g, w2.heap.size = g := ⟨_, rfl⟩
      rw [hg2]
      have H3 : ∃ w3 : World, w2.alloc (.cells #[.int .i64 x.f0, .int .i64 x.f1, .slice B x.f2.length d] 24) = w3 ∧ Var w3 g z24 none 0 ∧ Var w3 g2 x B d ∧ Kd24 w3 B d x ∧ Kd.F k24 w3 (fun j => ((P j ∧ j < w.heap.size) ∨ w.heap.size ≤ j) ∧ j ≠ g) B x.f2.length x.f2 ∧ Below w.heap.size w w3 :=
        ⟨_, rfl, Var.alloc V2.out _, by rw [← hg2]; exact blk_new w2 _, by unfold Kd24; rw [X2.out]; exact ⟨Q2.out, Kd.C_below Q3.out (below_alloc (Below.refl _ _) _)⟩, by rw [X2.out]; exact Kd.F_alloc Q4.out _, below_alloc B2.out _⟩
      obtain ⟨w3, hw3, v3, y3, k3, f3, b3⟩ := H3
      rw [X0.out, X1.out, X2.out] at hw3
      rw [hw3]
      have V3 := Lib.hid v3; have Y3 := Lib.hid y3; have K3 := Lib.hid k3; have F3 := Lib.hid f3; have B3 := Lib.hid b3
      clear hw3 v3 y3 k3 f3 b3 V2 B2 Q2 Q3 Q4 hg2
      obtain ⟨k0, k1, k2, _⟩ := Y3.out.cells
      go_wp2_with fail
      refine (vsz24 x B d w3 HK.out K3.out).mono ?_
      rintro e w4 ⟨rfl, b4⟩
      have V4 := Lib.hid (V3.out.below b4); have Y4 := Lib.hid (Y3.out.below b4); have F4 := Lib.hid (Kd.F_below F3.out b4); have L4 := Lib.hid K3.out.1
      have B4 := Lib.hid (B3.out.trans (Below.mono b4 B3.out.size))
      clear b4 k0 k1 k2 V3 Y3 K3 F3 B3
      obtain ⟨k0, k1, k2, f0, f1, f2⟩ := Y4.out.cells
      obtain ⟨m0, m1, m2, t0, t1, t2⟩ := V4.out.cells
      by_cases hc : szw x > 4096
      · have HF := Lib.hid (fits_big x hc)
        have c1 := decide_eq_true hc
        have V5 := Lib.hid (V4.out.set z24 none 0)
        clear hc
        go_wp2_with fail
        rw [HF.out]
        refine bodyPost_ret (results_ct rfl _ _ g 24 #[.int .i64 0, .int .i64 0, .slice none 0 0] (0, 0) _ rfl V5.out Try.underlying24 rfl (by kernel_rfl)) rfl ?_
        exact ⟨none, 0, rfl, Nat.le_refl _, Kd.F_nil k24 _ _, below3 B4.out WG.out⟩
      · have HF := Lib.hid (fits_ok x hc)
        have c1 := decide_eq_false hc
        have V5 := Lib.hid (V4.out.set x B d)
        clear hc
        go_wp2_with fail
        rw [HF.out]
        refine bodyPost_ret (results_ct rfl _ _ g 24 #[.int .i64 x.f0, .int .i64 x.f1, .slice B x.f2.length d] (0, 0) _ rfl V5.out Try.underlying24 rfl (by kernel_rfl)) rfl ?_
        exact ⟨B, d, rfl, L4.out, Kd.F_mono (Kd.F_far (Kd.F_far (Kd.F_far F4.out (fun _ hk => hk.2) _) (fun _ hk => hk.2) _) (fun _ hk => hk.2) _) (fun _ hk => hk.1), below3 B4.out WG.out⟩
  · rw [make_no k l hk]
    have p : ((k != 3) = true ∧ (k == 3) = false ∧ (k != 2) = true ∧ (k == 2) = false) ∨ (k = 2 ∧ decide ((256 : Int) < (l.length : Int)) = true) := by
      by_cases h2 : k = 2
      · exact .inr ⟨h2, decide_eq_true (by omega)⟩
      · have h3 : ¬ k = 3 := fun h => hk (.inl h)
        exact .inl ⟨by simp [h3], by simp [h3], by simp [h2], by simp [h2]⟩
    clear hk em wg
    rcases p with ⟨_, _, _, _⟩ | ⟨rfl, p2⟩
    all_goals
      go_enter Try.func25, Try.ntmps25
      go_upto_region 1 with (fail)
      rw [E1.out]
      obtain ⟨w1, hw1, v1, b1⟩ := G.out
      rw [hw1]
      have V1 := Lib.hid v1; have B1 := Lib.hid b1
      obtain ⟨m0, m1, m2, t0, t1, t2⟩ := v1.cells
      have V5 := Lib.hid (v1.set z24 none 0)
      clear G v1 b1 hw1
      go_wp2_with fail
      refine bodyPost_ret (results_ct rfl _ _ g 24 #[.int .i64 0, .int .i64 0, .slice none 0 0] (0, 0) _ rfl V5.out Try.underlying24 rfl (by kernel_rfl)) rfl ?_
      exact ⟨none, 0, rfl, Nat.le_refl _, Kd.F_nil k24 _ _, below3 B1.out WG.out⟩
open Classical in
noncomputable def Make.f (k : Int) (l : List S24) : Option (Int × Int × List S24 × Int) := if Ok ⟨k, 0, l⟩ then some ((make_ k l).1.f0, (make_ k l).1.f1, (make_ k l).1.f2, (make_ k l).2) else none
theorem Make.calls (a0 : Int) (P1_ : Nat → Prop) (A1 : Option Addr) (c1 : Nat) (l1 : List S24) (r1 r2 : Int) (r3 : List S24) (r4 : Int) (w : World) (hs1 : Kd.V k24 24 w w.heap.size (fun k_ => P1_ k_) (.slice A1 l1.length c1) l1) (h : Make.f a0 l1 = some (r1, r2, r3, r4)) :
    Calls Try.prog 25 #[.int .i64 a0, .slice A1 l1.length c1] w fun e w' => ∃ v2_ : Value, e = .returned (.tuple #[.agg #[.int .i64 r1, .int .i64 r2, v2_], .int .i64 r4]) ∧ Kd.V k24 24 w' w.heap.size (fun k_ => (P1_ k_ ∨ w.heap.size ≤ k_)) v2_ r3 ∧ Below w.heap.size w w' := by
  obtain ⟨_, h2, h3⟩ := Kd.V_at hs1
  unfold Make.f at h
  split at h
  · rename_i hb
    simp only [Option.some.injEq, Prod.mk.injEq] at h
    obtain ⟨rfl, rfl, rfl, rfl⟩ := h
    refine (make_v P1_ a0 l1 A1 c1 w hb h2 h3).mono ?_
    rintro e w' ⟨B, d, rfl, g1, g2, g3⟩
    exact ⟨_, rfl, Kd.V_mk g1 (Kd.F_mono g2 (fun k hk => hk.imp (fun q => q.1) id)), g3⟩
  · cases h
def Works.f : Option Bool := some true
theorem Works.calls (r : Bool) (w : World) (h : Works.f = some r) : Calls Try.prog 14 #[] w fun e w' => e = .returned (.bool r) ∧ Below w.heap.size w w' := by
  obtain rfl := Option.some.inj h
  exact works_is w
end Go.Proofs.Ytggdpeeiioibgaa.E
