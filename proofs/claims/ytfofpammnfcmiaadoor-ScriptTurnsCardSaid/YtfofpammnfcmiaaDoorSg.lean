/- Marline, layer 41: the entry of a turn; the law of texts. Conditions: as each says. -/
import Derived.Test.YtfofpammnfcmiaaDoorSf
namespace Go.Proofs.YtfofpammnfcmiaaDoor.E
open Go.RowKit Go.Proofs.YtfofpammnfcmiaaDoorW.PrintWords Go.Proofs.YtfofpammnfcmiaaDoorW.PrintLast Go.Proofs.YtfofpammnfcmiaaDoorW.PrintMore Go.Proofs.YtfofpammnfcmiaaDoor.Kinds Go.Proofs.YtfofpammnfcmiaaDoor.Obj Go.Proofs.YtfofpammnfcmiaaDoor.Sp
set_option linter.unusedVariables false
set_option linter.unusedSimpArgs false

def clamp (n : Int) : Int := if n < 1 then 1 else if 1000 < n then 1000 else n
def atS (l : List S32) (k : Int) : S32 :=
  if l = [] then ⟨0, 1, false⟩
  else ⟨(rd_T32 l (if 0 < k then k % l.length else 0)).f0, clamp (rd_T32 l (if 0 < k then k % l.length else 0)).f1, (rd_T32 l (if 0 < k then k % l.length else 0)).f2⟩
set_option maxHeartbeats 4000000 in
set_option maxRecDepth 100000 in
theorem at_calls (A : Option Addr) (c : Nat) (l : List S32) (k : Int) (w : World) (hr : Kd.C k32 w A l.length l) (hc : l.length ≤ c) (hl : l.length ≤ 100000) (hk : In k) :
    Calls Tryd.prog 20 #[.slice A l.length c, .int .i64 k] w fun e w' => e = .returned (ev (atS l k)) ∧ Below w.heap.size w w' := by
  have hu32 := Tryd.underlying32
  obtain ⟨g, hg⟩ : ∃ g, w.heap.size = g := ⟨_, rfl⟩
  have G : Hid (∃ w1 : World, w.alloc (.cells #[.int .i64 0, .int .i64 0, .bool false] 32) = w1 ∧ Pv w1 g z32 ∧ Below w.heap.size w w1) :=
    Lib.hid ⟨_, rfl, by rw [← hg]; exact blk_new _ _, below_alloc (Below.refl _ _) _⟩
  have wg : w.heap.size ≤ g := by omega
  have WG := Lib.hid wg; have E1 := Lib.hid hg; have HR := Lib.hid hr; have HC := Lib.hid hc
  by_cases h0 : l = []
  · subst h0
    have hz : atS [] k = ⟨0, 1, false⟩ := rfl
    rw [hz]
    clear wg hg hr hc
    go_enter Tryd.func20, Tryd.ntmps20
    go_upto_region 1 with (fail)
    rw [E1.out]
    obtain ⟨w1, hw1, v1, b1⟩ := G.out
    rw [hw1]
    have V1 := Lib.hid v1; have B1 := Lib.hid b1
    obtain ⟨m0, m1, m2, t0, t1, t2⟩ := v1.cells
    clear G v1 b1 hw1
    go_wp2_with fail
    refine bodyPost_ret (results_cell_row rfl _ _ g 32 #[.int .i64 0, .int .i64 1, .bool false] (0, 0) _ rfl (V1.out.set ⟨0, 1, false⟩) Tryd.underlying32 rfl (by kernel_rfl)) rfl ?_
    exact ⟨rfl, below3 B1.out WG.out⟩
  · obtain ⟨n, hn⟩ : ∃ n, l.length = n := ⟨_, rfl⟩
    have hn0 : 0 < n := by rw [← hn]; exact List.length_pos_iff.2 h0
    obtain ⟨i, hi⟩ : ∃ i : Nat, (if 0 < k then k % (n : Int) else 0) = (i : Int) := ⟨(if 0 < k then k % (n : Int) else 0).toNat, by
      have := Int.emod_nonneg k (show (n : Int) ≠ 0 by omega)
      split <;> omega⟩
    have hin : i < n := by
      have := Int.emod_lt_of_pos k (show (0 : Int) < n by omega)
      split at hi <;> omega
    have hz : atS l k = ⟨(rd_T32 l i).f0, clamp (rd_T32 l i).f1, (rd_T32 l i).f2⟩ := by
      unfold atS; rw [if_neg h0, hn, hi]
    have hq : max 0 k % (n : Int) = (i : Int) := by
      by_cases h : 0 < k
      · rw [if_pos h] at hi; rw [show max 0 k = k by omega]; exact hi
      · rw [if_neg h] at hi; rw [show max 0 k = 0 by omega]; simpa using hi
    have hne : ((n : Int) == 0) = false := by rw [beq_eq_false_iff_ne]; omega
    have hne2 : ¬ (n = 0) := by omega
    have hne3 : ¬ ((n : Int) = 0) := by omega
    obtain ⟨y, hy⟩ : ∃ y, rd_T32 l i = y := ⟨_, rfl⟩
    rw [hz, hy]
    have HN := Lib.hid hn; have HY := Lib.hid hy; have HL0 := Lib.hid h0
    have i0 : (0 : Int) ≤ (i : Int) := by omega
    have i1 : (i : Int) < (n : Int) := by omega
    rw [hn] at hc hl ⊢
    clear wg hg hr hz hy h0 hn hi
    go_enter Tryd.func20, Tryd.ntmps20
    go_upto_region 1 with (fail)
    rw [E1.out]
    obtain ⟨w1, hw1, v1, b1⟩ := G.out
    rw [hw1]
    have V1 := Lib.hid v1; have B1 := Lib.hid b1
    obtain ⟨ad, he, k0, k1, k2⟩ := at_T32 (Kd.C_below HR.out b1) (i : Int) (by omega) (by rw [HN.out]; exact i1)
    rw [Int.toNat_natCast, HY.out] at k0 k1 k2
    subst he
    clear G v1 b1 hw1
    go_upto_region 4 with (fail)
    obtain ⟨g2, hg2⟩ : ∃ g, w1.heap.size = g := ⟨_, rfl⟩
    have H2 : ∃ w2 : World, w1.alloc (.cells #[.int .i64 y.f0, .int .i64 y.f1, .bool y.f2] 32) = w2 ∧ Pv w2 g z32 ∧ Pv w2 g2 y ∧ Below w.heap.size w w2 :=
      ⟨_, rfl, V1.out.alloc _, by rw [← hg2]; exact blk_new w1 _, below_alloc B1.out _⟩
    rw [hg2]
    obtain ⟨w2, hw2, v2, y2, b2⟩ := H2
    rw [hw2]
    have NE := Lib.hid (show g ≠ g2 by
      have h1 := blk_lt V1.out
      omega)
    have V2 := Lib.hid v2; have Y2 := Lib.hid y2; have B2 := Lib.hid b2
    have WG2 := Lib.hid (show w.heap.size ≤ g2 by have := B1.out.size; omega)
    obtain ⟨m0, m1, m2, t0, t1, t2⟩ := y2.cells
    clear hw2 v2 y2 b2 V1 B1 k0 k1 k2 hg2
    go_upto_region 5 with (fail)
    have hcl : max 1 (min y.f1 1000) = clamp y.f1 := by
      unfold clamp
      split
      · omega
      · split <;> omega
    have Y3 := Y2.out.set1 (clamp y.f1)
    have V3 := Lib.hid (V2.out.far (p := ⟨g2, 1, none⟩) NE.out (.int .i64 (clamp y.f1)))
    have B3 := Lib.hid (below_set (j := 1) (v := .int .i64 (clamp y.f1)) B2.out WG2.out)
    rw [hcl]
    clear hcl
    generalize w2.setCell ⟨g2, 1, none⟩ (.int .i64 (clamp y.f1)) = w3 at Y3 V3 B3 ⊢
    have V4 := Lib.hid (V3.out.set ⟨y.f0, clamp y.f1, y.f2⟩)
    obtain ⟨p0, p1, p2, r0, r1, r2⟩ := Y3.cells
    obtain ⟨s0, s1, s2, u0, u1, u2⟩ := V3.out.cells
    clear m0 m1 m2 t0 t1 t2 Y2 V2 B2 Y3
    go_wp2_with fail
    refine bodyPost_ret (results_cell_row rfl _ _ g 32 #[.int .i64 y.f0, .int .i64 (clamp y.f1), .bool y.f2] (0, 0) _ rfl V4.out Tryd.underlying32 rfl (by kernel_rfl)) rfl ?_
    exact ⟨rfl, below3 B3.out WG.out⟩
/-- what is left of an entry whose second number is turned twice. -/
theorem clamp_two (n : Int) : (if 1000 < (if n < 1 then 1 else n) then 1000 else (if n < 1 then 1 else n)) = clamp n := by
  unfold clamp; split <;> (try split) <;> (try split) <;> omega
set_option maxHeartbeats 4000000 in
set_option maxRecDepth 100000 in
theorem refAt_calls (A : Option Addr) (c : Nat) (l : List S32) (k : Int) (w : World) (hr : Kd.C k32 w A l.length l) (hc : l.length ≤ c) (hl : l.length ≤ 100000) (hk : In k) :
    Calls Tryd.prog 21 #[.slice A l.length c, .int .i64 k] w fun e w' => e = .returned (ev (atS l k)) ∧ Below w.heap.size w w' := by
  have hu32 := Tryd.underlying32
  obtain ⟨g, hg⟩ : ∃ g, w.heap.size = g := ⟨_, rfl⟩
  have G : Hid (∃ w1 : World, w.alloc (.cells #[.int .i64 0, .int .i64 0, .bool false] 32) = w1 ∧ Pv w1 g z32 ∧ Below w.heap.size w w1) :=
    Lib.hid ⟨_, rfl, by rw [← hg]; exact blk_new _ _, below_alloc (Below.refl _ _) _⟩
  have wg : w.heap.size ≤ g := by omega
  have WG := Lib.hid wg; have E1 := Lib.hid hg; have HR := Lib.hid hr; have HC := Lib.hid hc
  by_cases h0 : l = []
  · subst h0
    have hz : atS [] k = ⟨0, 1, false⟩ := rfl
    rw [hz]
    clear wg hg hr hc
    go_enter Tryd.func21, Tryd.ntmps21
    go_upto_region 1 with (fail)
    rw [E1.out]
    obtain ⟨w1, hw1, v1, b1⟩ := G.out
    rw [hw1]
    have V1 := Lib.hid v1; have B1 := Lib.hid b1
    obtain ⟨m0, m1, m2, t0, t1, t2⟩ := v1.cells
    clear G v1 b1 hw1
    go_wp2_with fail
    refine bodyPost_ret (results_cell_row rfl _ _ g 32 #[.int .i64 0, .int .i64 1, .bool false] (0, 0) _ rfl (V1.out.set ⟨0, 1, false⟩) Tryd.underlying32 rfl (by kernel_rfl)) rfl ?_
    exact ⟨rfl, below3 B1.out WG.out⟩
  · obtain ⟨n, hn⟩ : ∃ n, l.length = n := ⟨_, rfl⟩
    have hn0 : 0 < n := by rw [← hn]; exact List.length_pos_iff.2 h0
    obtain ⟨i, hi⟩ : ∃ i : Nat, (if 0 < k then k % (n : Int) else 0) = (i : Int) := ⟨(if 0 < k then k % (n : Int) else 0).toNat, by
      have := Int.emod_nonneg k (show (n : Int) ≠ 0 by omega)
      split <;> omega⟩
    have hin : i < n := by
      have := Int.emod_lt_of_pos k (show (0 : Int) < n by omega)
      split at hi <;> omega
    have hz : atS l k = ⟨(rd_T32 l i).f0, clamp (rd_T32 l i).f1, (rd_T32 l i).f2⟩ := by
      unfold atS; rw [if_neg h0, hn, hi]
    have hm : (0 < k ∧ Int.tmod k n = (i : Int) ∧ k % n = (i : Int)) ∨ (¬ 0 < k ∧ i = 0) := by
      by_cases h : 0 < k
      · rw [if_pos h] at hi
        exact .inl ⟨h, by rw [Int.tmod_eq_emod_of_nonneg (by omega)]; exact hi, hi⟩
      · rw [if_neg h] at hi
        exact .inr ⟨h, by omega⟩
    have hne : ((n : Int) == 0) = false := by rw [beq_eq_false_iff_ne]; omega
    have hne2 : ¬ (n = 0) := by omega
    have hne3 : ¬ ((n : Int) = 0) := by omega
    obtain ⟨y, hy⟩ : ∃ y, rd_T32 l i = y := ⟨_, rfl⟩
    obtain ⟨z, hzz⟩ : ∃ y, rd_T32 l ((0 : Nat) : Int) = y := ⟨_, rfl⟩
    rw [hz, hy]
    have HN := Lib.hid hn; have HY := Lib.hid hy; have HL0 := Lib.hid h0; have HZ := Lib.hid hzz
    have i0 : (0 : Int) ≤ (i : Int) := by omega
    have i1 : (i : Int) < (n : Int) := by omega
    have nn : (0 : Int) < (n : Int) := by omega
    have HM := Lib.hid hm
    rw [hn] at hc hl ⊢
    clear wg hg hr hz hy h0 hn hi hm hzz
    go_enter Tryd.func21, Tryd.ntmps21
    go_upto_region 1 with (fail)
    rw [E1.out]
    obtain ⟨w1, hw1, v1, b1⟩ := G.out
    rw [hw1]
    have V1 := Lib.hid v1; have B1 := Lib.hid b1
    obtain ⟨ad, he, k0, k1, k2⟩ := at_T32 (Kd.C_below HR.out b1) ((0 : Nat) : Int) (by omega) (by rw [HN.out]; exact nn)
    obtain ⟨ad2, he2, j0, j1, j2⟩ := at_T32 (Kd.C_below HR.out b1) (i : Int) (by omega) (by rw [HN.out]; exact i1)
    rw [Int.toNat_natCast, HZ.out] at k0 k1 k2
    rw [Int.toNat_natCast, HY.out] at j0 j1 j2
    subst he
    injection he2 with he2
    subst he2
    have J0 := Lib.hid j0; have J1 := Lib.hid j1; have J2 := Lib.hid j2
    rw [Nat.zero_mul, Addr.add_zero'] at k0 k1 k2
    clear G v1 b1 hw1 j0 j1 j2
    go_upto_region 4 with (fail)
    obtain ⟨g2, hg2⟩ : ∃ g, w1.heap.size = g := ⟨_, rfl⟩
    have H2 : ∃ w2 : World, w1.alloc (.cells #[.int .i64 z.f0, .int .i64 z.f1, .bool z.f2] 32) = w2 ∧ Pv w2 g z32 ∧ Pv w2 g2 z ∧ Below w.heap.size w w2 ∧ Below w1.heap.size w1 w2 :=
      ⟨_, rfl, V1.out.alloc _, by rw [← hg2]; exact blk_new w1 _, below_alloc B1.out _, below_alloc (Below.refl _ _) _⟩
    rw [hg2]
    obtain ⟨w2, hw2, v2, z2, b2, b12⟩ := H2
    rw [hw2]
    have NE := Lib.hid (show g ≠ g2 by
      have h1 := blk_lt V1.out
      omega)
    have V2 := Lib.hid v2; have Z2 := Lib.hid z2; have B2 := Lib.hid b2
    have WG2 := Lib.hid (show w.heap.size ≤ g2 by have := B1.out.size; omega)
    have j0 := pw_cell_below b12 J0.out
    have j1 := pw_cell_below b12 J1.out
    have j2 := pw_cell_below b12 J2.out
    obtain ⟨m0, m1, m2, t0, t1, t2⟩ := z2.cells
    clear hw2 v2 z2 b2 b12 V1 B1 k0 k1 k2 hg2 J0 J1 J2
    have HX : ∃ w3 : World, (if 0 < k then ((w2.setCell ⟨g2, 0, none⟩ (.int .i64 y.f0)).setCell ⟨g2, 1, none⟩ (.int .i64 y.f1)).setCell ⟨g2, 2, none⟩ (.bool y.f2) else w2) = w3 ∧ Pv w3 g z32 ∧ Pv w3 g2 y ∧ Below w.heap.size w w3 := by
      rcases HM.out with ⟨q0, _, _⟩ | ⟨q0, rfl⟩
      · rw [if_pos q0]
        exact ⟨_, rfl, ((V2.out.far NE.out _).far NE.out _).far NE.out _, Z2.out.set y, below3 B2.out WG2.out⟩
      · rw [if_neg q0]
        refine ⟨_, rfl, V2.out, ?_, B2.out⟩
        have : y = z := by rw [← HY.out, ← HZ.out]
        rw [this]; exact Z2.out
    obtain ⟨w3, hw3, v3, y3, b3⟩ := HX
    have V3 := Lib.hid v3; have B3 := Lib.hid b3; have Y3 := Lib.hid y3
    clear v3 b3 y3
    rcases HM.out with ⟨q0, q1, q2⟩ | ⟨q0, q1⟩
    · have d0 := decide_eq_true q0
      rw [if_pos q0] at hw3
      have HW := Lib.hid hw3
      clear hw3 HM
      go_upto_region 6 with (fail)
      rw [HW.out]
      obtain ⟨p0, p1, p2, r0, r1, r2⟩ := Y3.out.cells
      clear m0 m1 m2 t0 t1 t2 j0 j1 j2
      by_cases a : y.f1 < 1
      · have c1 := decide_eq_true a
        have hcl : clamp y.f1 = 1 := if_pos a
        have HCL := Lib.hid hcl
        clear hcl a
        go_upto_region 8 with (fail)
        have Y4 := Y3.out.set1 1
        have V4 := Lib.hid (V3.out.far (p := ⟨g2, 1, none⟩) NE.out (.int .i64 1))
        have B4 := Lib.hid (below_set (j := 1) (v := .int .i64 1) B3.out WG2.out)
        clear p0 p1 p2 r0 r1 r2
        generalize World.setCell _ ⟨g2, 1, none⟩ (.int .i64 1) = w4 at Y4 V4 B4 ⊢
        obtain ⟨p0, p1, p2, r0, r1, r2⟩ := Y4.cells
        obtain ⟨s0, s1, s2, u0, u1, u2⟩ := V4.out.cells
        clear Y4
        go_wp2_with fail
        refine bodyPost_ret (results_cell_row rfl _ _ g 32 #[.int .i64 y.f0, .int .i64 1, .bool y.f2] (0, 0) _ rfl (V4.out.set ⟨y.f0, 1, y.f2⟩) Tryd.underlying32 rfl (by kernel_rfl)) rfl ?_
        exact ⟨by rw [HCL.out]; rfl, below3 B4.out WG.out⟩
      · by_cases b : 1000 < y.f1
        · have c1 := decide_eq_false a
          have c2 := decide_eq_true b
          have hcl : clamp y.f1 = 1000 := by unfold clamp; rw [if_neg a, if_pos b]
          have HCL := Lib.hid hcl
          clear hcl a b
          go_upto_region 10 with (fail)
          have Y4 := Y3.out.set1 1000
          have V4 := Lib.hid (V3.out.far (p := ⟨g2, 1, none⟩) NE.out (.int .i64 1000))
          have B4 := Lib.hid (below_set (j := 1) (v := .int .i64 1000) B3.out WG2.out)
          clear p0 p1 p2 r0 r1 r2
          generalize World.setCell _ ⟨g2, 1, none⟩ (.int .i64 1000) = w4 at Y4 V4 B4 ⊢
          obtain ⟨p0, p1, p2, r0, r1, r2⟩ := Y4.cells
          obtain ⟨s0, s1, s2, u0, u1, u2⟩ := V4.out.cells
          clear Y4
          go_wp2_with fail
          refine bodyPost_ret (results_cell_row rfl _ _ g 32 #[.int .i64 y.f0, .int .i64 1000, .bool y.f2] (0, 0) _ rfl (V4.out.set ⟨y.f0, 1000, y.f2⟩) Tryd.underlying32 rfl (by kernel_rfl)) rfl ?_
          exact ⟨by rw [HCL.out]; rfl, below3 B4.out WG.out⟩
        · have c1 := decide_eq_false a
          have c2 := decide_eq_false b
          have hcl : clamp y.f1 = y.f1 := by unfold clamp; rw [if_neg a, if_neg b]
          have HCL := Lib.hid hcl
          clear hcl a b
          obtain ⟨s0, s1, s2, u0, u1, u2⟩ := V3.out.cells
          go_wp2_with fail
          refine bodyPost_ret (results_cell_row rfl _ _ g 32 #[.int .i64 y.f0, .int .i64 y.f1, .bool y.f2] (0, 0) _ rfl (V3.out.set ⟨y.f0, y.f1, y.f2⟩) Tryd.underlying32 rfl (by kernel_rfl)) rfl ?_
          exact ⟨by rw [HCL.out]; rfl, below3 B3.out WG.out⟩
    · have d0 := decide_eq_false q0
      rw [if_neg q0] at hw3
      subst hw3
      clear HM
      go_upto_region 6 with (fail)
      obtain ⟨p0, p1, p2, r0, r1, r2⟩ := Y3.out.cells
      clear m0 m1 m2 t0 t1 t2 j0 j1 j2
      by_cases a : y.f1 < 1
      · have c1 := decide_eq_true a
        have hcl : clamp y.f1 = 1 := if_pos a
        have HCL := Lib.hid hcl
        clear hcl a
        go_upto_region 8 with (fail)
        have Y4 := Y3.out.set1 1
        have V4 := Lib.hid (V3.out.far (p := ⟨g2, 1, none⟩) NE.out (.int .i64 1))
        have B4 := Lib.hid (below_set (j := 1) (v := .int .i64 1) B3.out WG2.out)
        clear p0 p1 p2 r0 r1 r2
        generalize World.setCell _ ⟨g2, 1, none⟩ (.int .i64 1) = w4 at Y4 V4 B4 ⊢
        obtain ⟨p0, p1, p2, r0, r1, r2⟩ := Y4.cells
        obtain ⟨s0, s1, s2, u0, u1, u2⟩ := V4.out.cells
        clear Y4
        go_wp2_with fail
        refine bodyPost_ret (results_cell_row rfl _ _ g 32 #[.int .i64 y.f0, .int .i64 1, .bool y.f2] (0, 0) _ rfl (V4.out.set ⟨y.f0, 1, y.f2⟩) Tryd.underlying32 rfl (by kernel_rfl)) rfl ?_
        exact ⟨by rw [HCL.out]; rfl, below3 B4.out WG.out⟩
      · by_cases b : 1000 < y.f1
        · have c1 := decide_eq_false a
          have c2 := decide_eq_true b
          have hcl : clamp y.f1 = 1000 := by unfold clamp; rw [if_neg a, if_pos b]
          have HCL := Lib.hid hcl
          clear hcl a b
          go_upto_region 10 with (fail)
          have Y4 := Y3.out.set1 1000
          have V4 := Lib.hid (V3.out.far (p := ⟨g2, 1, none⟩) NE.out (.int .i64 1000))
          have B4 := Lib.hid (below_set (j := 1) (v := .int .i64 1000) B3.out WG2.out)
          clear p0 p1 p2 r0 r1 r2
          generalize World.setCell _ ⟨g2, 1, none⟩ (.int .i64 1000) = w4 at Y4 V4 B4 ⊢
          obtain ⟨p0, p1, p2, r0, r1, r2⟩ := Y4.cells
          obtain ⟨s0, s1, s2, u0, u1, u2⟩ := V4.out.cells
          clear Y4
          go_wp2_with fail
          refine bodyPost_ret (results_cell_row rfl _ _ g 32 #[.int .i64 y.f0, .int .i64 1000, .bool y.f2] (0, 0) _ rfl (V4.out.set ⟨y.f0, 1000, y.f2⟩) Tryd.underlying32 rfl (by kernel_rfl)) rfl ?_
          exact ⟨by rw [HCL.out]; rfl, below3 B4.out WG.out⟩
        · have c1 := decide_eq_false a
          have c2 := decide_eq_false b
          have hcl : clamp y.f1 = y.f1 := by unfold clamp; rw [if_neg a, if_neg b]
          have HCL := Lib.hid hcl
          clear hcl a b
          obtain ⟨s0, s1, s2, u0, u1, u2⟩ := V3.out.cells
          go_wp2_with fail
          refine bodyPost_ret (results_cell_row rfl _ _ g 32 #[.int .i64 y.f0, .int .i64 y.f1, .bool y.f2] (0, 0) _ rfl (V3.out.set ⟨y.f0, y.f1, y.f2⟩) Tryd.underlying32 rfl (by kernel_rfl)) rfl ?_
          exact ⟨by rw [HCL.out]; rfl, below3 B3.out WG.out⟩
end Go.Proofs.YtfofpammnfcmiaaDoor.E
