/- Marline, layer 07: where steps lead, and a value with another one there. Conditions: as each says. -/
import Derived.Test.YtggdpeeiioibgaaBs
import Derived.Test.YtggdpeeiioibgaaT
namespace Go.Proofs.Ytggdpeeiioibgaa.E
open Go.RowKit Go.Proofs.YtggdpeeiioibgaaW.PrintWords Go.Proofs.YtggdpeeiioibgaaW.PrintLast Go.Proofs.YtggdpeeiioibgaaW.PrintMore Go.Proofs.Ytggdpeeiioibgaa.Kinds Go.Proofs.Ytggdpeeiioibgaa.Obj
set_option linter.unusedVariables false
set_option linter.unusedSimpArgs false

theorem size24 (x : S24) (A : Option Addr) (c : Nat) (w : World) (hx : Ok x) (h : Kd24 w A c x) :
    Calls Try.prog 16 #[v24 x.f0 x.f1 A x.f2.length c] w fun e w' => e = .returned (.int .i64 (szw x)) ∧ Below w.heap.size w w' := by
  exact PA.marlineref06_Size.calls _ x.f0 x.f1 A c x.f2 _ w h.2 h.1 (rsize_ev x hx _ (Nat.le_refl _))
set_option maxHeartbeats 8000000 in
set_option maxRecDepth 100000 in
theorem goes_walk (x y : S24) (A : Option Addr) (c : Nat) (A' : Option Addr) (c' : Nat) (l : List S38) (Aa : Option Addr) (ca : Nat) (w : World) (hx : Ok x) (hy : Ok y) (hz : sz x ≤ 1000000000000) (h : Kd24 w A c x) (h' : Kd24 w A' c' y)
    (ha : l.length ≤ ca) (hra : Kd.C k38 w Aa l.length l) :
    Calls Try.prog 3 #[v24 x.f0 x.f1 A x.f2.length c, v24 y.f0 y.f1 A' y.f2.length c', .slice Aa l.length ca] w fun e w' => e = .returned (.bool true) ∧ Below w.heap.size w w' := by
  have hu24 := Try.underlying24
  have hu38 := Try.underlying38
  have HX := Lib.hid h; have HY := Lib.hid h'; have RA := Lib.hid hra
  have HA := Lib.hid ha; have OX := Lib.hid hx; have OY := Lib.hid hy
  have ma : l.length ≤ 9223372036854775807 := hra.2.1
  obtain ⟨s, hs⟩ := text24 x hz
  have TX := Lib.hid hs
  clear h h' hra ha hx hy hz hs
  obtain ⟨g3, hg3⟩ : ∃ g, w.heap.size = g := ⟨_, rfl⟩
  obtain ⟨g4, hg4⟩ : ∃ g, w.heap.size + 1 = g := ⟨_, rfl⟩
  have G : Hid (∃ w3 : World, (w.alloc (.cells #[.int .i64 x.f0, .int .i64 x.f1, .slice A x.f2.length c] 24)).alloc (.cells #[.int .i64 y.f0, .int .i64 y.f1, .slice A' y.f2.length c'] 24) = w3 ∧ Var w3 g3 x A c ∧ Var w3 g4 y A' c' ∧ Below w.heap.size w w3) := by
    refine Lib.hid ⟨_, rfl, ?_, ?_, below_alloc (below_alloc (Below.refl _ _) _) _⟩
    · rw [← hg3]; exact blk_alloc (blk_new _ _) _
    · rw [← hg4, ← size_al w (.cells #[.int .i64 x.f0, .int .i64 x.f1, .slice A x.f2.length c] 24)]; exact blk_new _ _
  have E3 := Lib.hid hg3; have E4 := Lib.hid hg4
  clear hg3 hg4
  go_enter Try.func3, Try.ntmps3
  go_upto_region 1 with (fail)
  rw [E4.out, E3.out]
  obtain ⟨w3, hw3, v3, u3, b3⟩ := G.out
  rw [hw3]
  have V3 := Lib.hid v3; have U3 := Lib.hid u3; have B3 := Lib.hid b3
  clear G v3 u3 b3 hw3
  by_cases s1 : szw x > 300
  · go_wp2_with fail
    refine (works_is w3).mono ?_
    rintro e w4 ⟨rfl, b4⟩
    have V4 := Lib.hid (V3.out.below b4); have B4 := Lib.hid (B3.out.trans (Below.mono b4 B3.out.size))
    clear b4
    obtain ⟨k0, k1, k2, _⟩ := V4.out.cells
    go_wp2_with fail
    refine (small24 x A c w4 OX.out (HX.out.below B4.out) 0 (if_pos s1)).mono ?_
    rintro e w5 ⟨rfl, b5⟩
    have B5 := Lib.hid (B4.out.trans (Below.mono b5 B4.out.size))
    clear b5
    go_wp2_with fail
    refine (works_is w5).mono ?_
    rintro e w6 ⟨rfl, b⟩
    have B5' := Lib.hid (B5.out.trans (Below.mono b B5.out.size))
    clear b
    go_wp2_with fail
    go_ret
    exact ⟨rfl, B5'.out⟩
  · have S1 := Lib.hid s1
    clear s1
    go_wp2_with fail
    refine (works_is w3).mono ?_
    rintro e w4 ⟨rfl, b4⟩
    have V4 := Lib.hid (V3.out.below b4); have U4 := Lib.hid (U3.out.below b4); have B4 := Lib.hid (B3.out.trans (Below.mono b4 B3.out.size))
    clear b4 V3 U3 B3
    obtain ⟨k0, k1, k2, _⟩ := V4.out.cells
    go_wp2_with fail
    refine (small24 x A c w4 OX.out (HX.out.below B4.out) 1 (if_neg (by have := S1.out; omega))).mono ?_
    rintro e w5 ⟨rfl, b5⟩
    have V5 := Lib.hid (V4.out.below b5); have U5 := Lib.hid (U4.out.below b5); have B5 := Lib.hid (B4.out.trans (Below.mono b5 B4.out.size))
    clear b5 V4 U4 B4 k0 k1 k2
    obtain ⟨k0, k1, k2, _⟩ := U5.out.cells
    go_wp2_with fail
    refine (size24 y A' c' w5 OY.out (HY.out.below B5.out)).mono ?_
    obtain ⟨n, hn⟩ : ∃ n, szw y = n := ⟨_, rfl⟩
    rw [hn]
    clear hn
    rintro e w6 ⟨rfl, b6⟩
    have V6 := Lib.hid (V5.out.below b6); have U6 := Lib.hid (U5.out.below b6); have B6 := Lib.hid (B5.out.trans (Below.mono b6 B5.out.size))
    clear b6 V5 U5 B5 k0 k1 k2
    by_cases s2 : 5000 < n
    · have p2 : decide ((5000 : Int) < n) = true := decide_eq_true s2
      clear s2
      go_wp2_with fail
      refine (works_is w6).mono ?_
      rintro e w7 ⟨rfl, b⟩
      have B6' := Lib.hid (B6.out.trans (Below.mono b B6.out.size))
      clear b
      go_wp2_with fail
      go_ret
      exact ⟨rfl, B6'.out⟩
    · have p2 : decide ((5000 : Int) < n) = false := decide_eq_false s2
      clear s2
      by_cases l1 : 20 < l.length
      · have p1 : decide ((20 : Int) < (l.length : Int)) = true := decide_eq_true (by omega)
        go_wp2_with fail
        refine (works_is w6).mono ?_
        rintro e w7 ⟨rfl, b⟩
        have B6' := Lib.hid (B6.out.trans (Below.mono b B6.out.size))
        clear b
        go_wp2_with fail
        go_ret
        exact ⟨rfl, B6'.out⟩
      · have p1 : decide ((20 : Int) < (l.length : Int)) = false := decide_eq_false (by omega)
        obtain ⟨k0, k1, k2, _⟩ := V6.out.cells
        go_wp2_with fail
        refine (TX.out A c w6 (HX.out.below B6.out)).mono ?_
        rintro e w7 ⟨rfl, b7⟩
        have V7 := Lib.hid (V6.out.below b7); have U7 := Lib.hid (U6.out.below b7); have B7 := Lib.hid (B6.out.trans (Below.mono b7 B6.out.size))
        clear b7 V6 U6 B6 k0 k1 k2
        obtain ⟨k0, k1, k2, _⟩ := V7.out.cells
        go_wp2_with fail
        refine (at24 x A c l Aa ca w7 (HX.out.below B7.out) HA.out (Kd.C_below RA.out B7.out)).mono ?_
        obtain ⟨r, hr⟩ : ∃ r, at_ x l = r := ⟨_, rfl⟩
        rw [hr]
        have HO := Lib.hid hr
        clear hr k0 k1 k2
        obtain ⟨o, t⟩ := r
        rintro e w8 ⟨Bo, do_, rfl, h8, b8⟩
        have V8 := Lib.hid (V7.out.below b8); have U8 := Lib.hid (U7.out.below b8)
        have B8 := Lib.hid (B7.out.trans (Below.mono b8 B7.out.size))
        have O8 := Lib.hid h8
        clear h8 b8 V7 U7 B7
        dsimp only
        go_upto_region 5 with (fail)
        obtain ⟨g8, hg8⟩ : ∃ g, w8.heap.size = g := ⟨_, rfl⟩
        have H9 : ∃ w9 : World, w8.alloc (.cells #[.int .i64 o.f0, .int .i64 o.f1, .slice Bo o.f2.length do_] 24) = w9 ∧ Var w9 g3 x A c ∧ Var w9 g4 y A' c' ∧ Var w9 g8 o Bo do_ ∧ Kd24 w9 Bo do_ o ∧ Below w.heap.size w w9 :=
          ⟨_, rfl, Var.alloc V8.out _, Var.alloc U8.out _, by rw [← hg8]; exact blk_new w8 _, O8.out.below (below_alloc (Below.refl _ _) _), below_alloc B8.out _⟩
        rw [hg8]
        obtain ⟨w9, hw9, v9, u9, x9, o9, b9⟩ := H9
        rw [hw9]
        have V9 := Lib.hid v9; have U9 := Lib.hid u9; have X9 := Lib.hid x9; have O9 := Lib.hid o9; have B9 := Lib.hid b9
        clear hg8 hw9 v9 u9 x9 o9 b9 V8 U8 B8 O8
        obtain ⟨k0, k1, k2, _⟩ := V9.out.cells
        go_wp2_with fail
        refine (refAt24 x A c l Aa ca w9 (HX.out.below B9.out) HA.out (Kd.C_below RA.out B9.out)).mono ?_
        rw [HO.out]
        clear k0 k1 k2
        rintro e w10 ⟨Bp, dp, rfl, h10, b10⟩
        have V10 := Lib.hid (V9.out.below b10); have U10 := Lib.hid (U9.out.below b10); have X10 := Lib.hid (X9.out.below b10)
        have O10 := Lib.hid (O9.out.below b10)
        have B10 := Lib.hid (B9.out.trans (Below.mono b10 B9.out.size))
        have P10 := Lib.hid h10
        clear h10 b10 V9 U9 X9 O9 B9
        dsimp only
        go_upto_region 6 with (fail)
        obtain ⟨g10, hg10⟩ : ∃ g, w10.heap.size = g := ⟨_, rfl⟩
        have H11 : ∃ w11 : World, w10.alloc (.cells #[.int .i64 o.f0, .int .i64 o.f1, .slice Bp o.f2.length dp] 24) = w11 ∧ Var w11 g3 x A c ∧ Var w11 g4 y A' c' ∧ Var w11 g8 o Bo do_ ∧ Var w11 g10 o Bp dp ∧ Kd24 w11 Bo do_ o ∧ Kd24 w11 Bp dp o ∧ Below w.heap.size w w11 :=
          ⟨_, rfl, Var.alloc V10.out _, Var.alloc U10.out _, Var.alloc X10.out _, by rw [← hg10]; exact blk_new w10 _, O10.out.below (below_alloc (Below.refl _ _) _), P10.out.below (below_alloc (Below.refl _ _) _), below_alloc B10.out _⟩
        rw [hg10]
        obtain ⟨w11, hw11, v11, u11, x11, y11, o11, p11, b11⟩ := H11
        rw [hw11]
        have V11 := Lib.hid v11; have U11 := Lib.hid u11; have X11 := Lib.hid x11; have Y11 := Lib.hid y11; have O11 := Lib.hid o11; have P11 := Lib.hid p11; have B11 := Lib.hid b11
        clear hg10 hw11 v11 u11 x11 y11 o11 p11 b11 V10 U10 X10 B10 O10 P10
        obtain ⟨k0, k1, k2, _⟩ := V11.out.cells
        obtain ⟨m0, m1, m2, _⟩ := U11.out.cells
        go_wp2_with fail
        refine (set24 x A c y A' c' l Aa ca w11 OX.out OY.out (HX.out.below B11.out) (HY.out.below B11.out) HA.out (Kd.C_below RA.out B11.out)).mono ?_
        obtain ⟨r, hr⟩ : ∃ r, set_ x y l = r := ⟨_, rfl⟩
        rw [hr]
        have HR := Lib.hid hr
        clear hr k0 k1 k2 m0 m1 m2
        obtain ⟨p, q⟩ := r
        rintro e w12 ⟨Bq, dq, rfl, h12, b12⟩
        have V12 := Lib.hid (V11.out.below b12); have U12 := Lib.hid (U11.out.below b12); have X12 := Lib.hid (X11.out.below b12); have Y12 := Lib.hid (Y11.out.below b12)
        have O12 := Lib.hid (O11.out.below b12); have P12 := Lib.hid (P11.out.below b12)
        have B12 := Lib.hid (B11.out.trans (Below.mono b12 B11.out.size))
        have Q12 := Lib.hid h12
        clear h12 b12 V11 U11 X11 Y11 O11 P11 B11
        dsimp only
        go_upto_region 7 with (fail)
        obtain ⟨g12, hg12⟩ : ∃ g, w12.heap.size = g := ⟨_, rfl⟩
        have H13 : ∃ w13 : World, w12.alloc (.cells #[.int .i64 p.f0, .int .i64 p.f1, .slice Bq p.f2.length dq] 24) = w13 ∧ Var w13 g3 x A c ∧ Var w13 g4 y A' c' ∧ Var w13 g8 o Bo do_ ∧ Var w13 g10 o Bp dp ∧ Var w13 g12 p Bq dq ∧ Kd24 w13 Bo do_ o ∧ Kd24 w13 Bp dp o ∧ Kd24 w13 Bq dq p ∧ Below w.heap.size w w13 :=
          ⟨_, rfl, Var.alloc V12.out _, Var.alloc U12.out _, Var.alloc X12.out _, Var.alloc Y12.out _, by rw [← hg12]; exact blk_new w12 _, O12.out.below (below_alloc (Below.refl _ _) _), P12.out.below (below_alloc (Below.refl _ _) _), Q12.out.below (below_alloc (Below.refl _ _) _), below_alloc B12.out _⟩
        rw [hg12]
        obtain ⟨w13, hw13, v13, u13, x13, y13, z13, o13, p13, q13, b13⟩ := H13
        rw [hw13]
        have V13 := Lib.hid v13; have U13 := Lib.hid u13; have X13 := Lib.hid x13; have Y13 := Lib.hid y13; have Z13 := Lib.hid z13; have O13 := Lib.hid o13; have P13 := Lib.hid p13; have Q13 := Lib.hid q13; have B13 := Lib.hid b13
        clear hg12 hw13 v13 u13 x13 y13 z13 o13 p13 q13 b13 V12 U12 X12 Y12 B12 O12 P12 Q12
        obtain ⟨k0, k1, k2, _⟩ := V13.out.cells
        obtain ⟨m0, m1, m2, _⟩ := U13.out.cells
        go_wp2_with fail
        refine (refSet24 x A c y A' c' l Aa ca w13 OX.out OY.out (HX.out.below B13.out) (HY.out.below B13.out) HA.out (Kd.C_below RA.out B13.out)).mono ?_
        rw [HR.out]
        clear k0 k1 k2 m0 m1 m2
        rintro e w14 ⟨Br, dr, rfl, h14, b14⟩
        have V14 := Lib.hid (V13.out.below b14); have U14 := Lib.hid (U13.out.below b14); have X14 := Lib.hid (X13.out.below b14); have Y14 := Lib.hid (Y13.out.below b14); have Z14 := Lib.hid (Z13.out.below b14)
        have O14 := Lib.hid (O13.out.below b14); have P14 := Lib.hid (P13.out.below b14); have Q14 := Lib.hid (Q13.out.below b14)
        have B14 := Lib.hid (B13.out.trans (Below.mono b14 B13.out.size))
        have R14 := Lib.hid h14
        clear h14 b14 V13 U13 X13 Y13 Z13 O13 P13 Q13 B13
        dsimp only
        go_upto_region 8 with (fail)
        obtain ⟨g14, hg14⟩ : ∃ g, w14.heap.size = g := ⟨_, rfl⟩
        have H15 : ∃ w15 : World, w14.alloc (.cells #[.int .i64 p.f0, .int .i64 p.f1, .slice Br p.f2.length dr] 24) = w15 ∧ Var w15 g3 x A c ∧ Var w15 g4 y A' c' ∧ Var w15 g8 o Bo do_ ∧ Var w15 g10 o Bp dp ∧ Var w15 g12 p Bq dq ∧ Var w15 g14 p Br dr ∧ Kd24 w15 Bo do_ o ∧ Kd24 w15 Bp dp o ∧ Kd24 w15 Bq dq p ∧ Kd24 w15 Br dr p ∧ Below w.heap.size w w15 :=
          ⟨_, rfl, Var.alloc V14.out _, Var.alloc U14.out _, Var.alloc X14.out _, Var.alloc Y14.out _, Var.alloc Z14.out _, by rw [← hg14]; exact blk_new w14 _, O14.out.below (below_alloc (Below.refl _ _) _), P14.out.below (below_alloc (Below.refl _ _) _), Q14.out.below (below_alloc (Below.refl _ _) _), R14.out.below (below_alloc (Below.refl _ _) _), below_alloc B14.out _⟩
        rw [hg14]
        obtain ⟨w15, hw15, v15, u15, x15, y15, z15, t15, o15, p15, q15, r15, b15⟩ := H15
        rw [hw15]
        have V15 := Lib.hid v15; have U15 := Lib.hid u15; have Z15 := Lib.hid z15; have T15 := Lib.hid t15; have Q15 := Lib.hid q15; have R15 := Lib.hid r15; have B15 := Lib.hid b15
        have O15 := Lib.hid o15; have P15 := Lib.hid p15
        obtain ⟨k0, k1, k2, _⟩ := x15.cells
        obtain ⟨m0, m1, m2, _⟩ := y15.cells
        clear hg14 hw15 v15 u15 x15 y15 z15 t15 o15 p15 q15 r15 b15 V14 U14 X14 Y14 Z14 B14 O14 P14 Q14 R14
        go_wp2_with fail
        refine (same24 o Bo do_ o Bp dp w15 O15.out P15.out).mono ?_
        rintro e w16 ⟨rfl, b16⟩
        rw [same_refl]
        have V16 := Lib.hid (V15.out.below b16); have U16 := Lib.hid (U15.out.below b16); have Z16 := Lib.hid (Z15.out.below b16)
        have Q16 := Lib.hid (Q15.out.below b16); have R16 := Lib.hid (R15.out.below b16)
        have B16 := Lib.hid (B15.out.trans (Below.mono b16 B15.out.size))
        have T16 := Lib.hid (T15.out.below b16)
        clear b16 k0 k1 k2 m0 m1 m2 V15 U15 Z15 T15 Q15 R15 B15 O15 P15
        obtain ⟨k0, k1, k2, _⟩ := Z16.out.cells
        obtain ⟨m0, m1, m2, _⟩ := T16.out.cells
        go_wp2_with fail
        refine (same24 p Bq dq p Br dr w16 Q16.out R16.out).mono ?_
        rintro e w17 ⟨rfl, b17⟩
        rw [same_refl]
        have V17 := Lib.hid (V16.out.below b17); have U17 := Lib.hid (U16.out.below b17); have Z17 := Lib.hid (Z16.out.below b17)
        have Q17 := Lib.hid (Q16.out.below b17)
        have B17 := Lib.hid (B16.out.trans (Below.mono b17 B16.out.size))
        clear b17 k0 k1 k2 m0 m1 m2 V16 U16 Z16 T16 Q16 R16 B16
        obtain ⟨k0, k1, k2, _⟩ := V17.out.cells
        go_wp2_with fail
        refine (TX.out A c w17 (HX.out.below B17.out)).mono ?_
        rintro e w18 ⟨rfl, b18⟩
        have U18 := Lib.hid (U17.out.below b18); have Z18 := Lib.hid (Z17.out.below b18)
        have Q18 := Lib.hid (Q17.out.below b18)
        have B18 := Lib.hid (B17.out.trans (Below.mono b18 B17.out.size))
        clear b18 k0 k1 k2 V17 U17 Z17 Q17 B17
        by_cases hq : q = 0
        · subst hq
          obtain ⟨k0, k1, k2, _⟩ := Z18.out.cells
          go_wp2_with fail
          refine (at24 p Bq dq l Aa ca w18 Q18.out HA.out (Kd.C_below RA.out B18.out)).mono ?_
          have e1 : at_ p l = (y, 0) := by
            have h1 : (set_ x y l).2 = 0 := by rw [HR.out]
            obtain ⟨h2, h3⟩ := set_zero x y l h1
            have h4 : p = put_ x y l := by rw [← h3, HR.out]
            rw [h4]
            exact put_at l x y h2
          rw [e1]
          clear e1 k0 k1 k2
          rintro e w19 ⟨Bs, ds, rfl, h19, b19⟩
          have U19 := Lib.hid (U18.out.below b19)
          have B19 := Lib.hid (B18.out.trans (Below.mono b19 B18.out.size))
          have S19 := Lib.hid h19
          clear h19 b19 U18 Z18 Q18 B18
          dsimp only
          go_upto_region 13 with (fail)
          obtain ⟨g19, hg19⟩ : ∃ g, w19.heap.size = g := ⟨_, rfl⟩
          have H20 : ∃ w20 : World, w19.alloc (.cells #[.int .i64 y.f0, .int .i64 y.f1, .slice Bs y.f2.length ds] 24) = w20 ∧ Var w20 g4 y A' c' ∧ Var w20 g19 y Bs ds ∧ Kd24 w20 Bs ds y ∧ Below w.heap.size w w20 :=
            ⟨_, rfl, Var.alloc U19.out _, by rw [← hg19]; exact blk_new w19 _, S19.out.below (below_alloc (Below.refl _ _) _), below_alloc B19.out _⟩
          rw [hg19]
          obtain ⟨w20, hw20, u20, x20, s20, b20⟩ := H20
          rw [hw20]
          have B20 := Lib.hid b20; have S20 := Lib.hid s20
          obtain ⟨k0, k1, k2, _⟩ := x20.cells
          obtain ⟨m0, m1, m2, _⟩ := u20.cells
          clear hg19 hw20 u20 x20 s20 b20 U19 B19 S19
          go_wp2_with fail
          refine (same24 y Bs ds y A' c' w20 S20.out (HY.out.below B20.out)).mono ?_
          rintro e w21 ⟨rfl, b21⟩
          rw [same_refl]
          have B21 := Lib.hid (B20.out.trans (Below.mono b21 B20.out.size))
          clear b21
          go_wp2_with fail
          go_ret
          exact ⟨rfl, B21.out⟩
        · have q1 : (q == 0) = false := beq_eq_false_iff_ne.2 hq
          have q2 : (q != 0) = true := by simp [hq]
          clear hq
          go_wp2_with fail
          go_ret
          exact ⟨rfl, B18.out⟩
end Go.Proofs.Ytggdpeeiioibgaa.E
