/- Marline, layer 07: what is set at one place leaves what lies at another one. Conditions: as each says. -/
import Derived.Test.YtggdpeeiioibgaaWk
namespace Go.Proofs.Ytggdpeeiioibgaa.E
open Go.RowKit Go.Proofs.YtggdpeeiioibgaaW.PrintWords Go.Proofs.YtggdpeeiioibgaaW.PrintLast Go.Proofs.YtggdpeeiioibgaaW.PrintMore Go.Proofs.Ytggdpeeiioibgaa.Kinds Go.Proofs.Ytggdpeeiioibgaa.Obj
set_option linter.unusedVariables false
set_option linter.unusedSimpArgs false

theorem set_zero (x y : S24) (m : List S38) (h : (set_ x y m).2 = 0) : (at_ x m).2 = 0 ∧ (set_ x y m).1 = put_ x y m := by
  obtain ⟨r, hr⟩ : ∃ r, at_ x m = r := ⟨_, rfl⟩
  obtain ⟨o, t⟩ := r
  by_cases ht : t = 0
  · subst ht
    by_cases h4 : szw (put_ x y m) > 4096
    · rw [set_big x y o m hr _ rfl h4] at h
      exact absurd h (by decide)
    · rw [set_yes x y o m hr _ rfl h4, hr]
      exact ⟨rfl, rfl⟩
  · rw [set_no x y o m t hr ht] at h
    exact absurd h ht
theorem same_refl (x : S24) : same x x = true := (same_iff x x).2 rfl
theorem rd38_eq (l : List S38) (n : Nat) (h : n < l.length) : rd_T38 l n = l[n] := by
  unfold rd_T38
  rw [Int.toNat_natCast, List.getD_eq_getElem?_getD, List.getElem?_eq_getElem h]
  rfl
theorem parts_step (a b : List S38) (n : Nat) (h : n < a.length) (k : n < b.length) : parts (a.drop n) (b.drop n) = (decide ((rd_T38 a n).f1 ≠ (rd_T38 b n).f1) || parts (a.drop (n + 1)) (b.drop (n + 1))) := by
  rw [List.drop_eq_getElem_cons h, List.drop_eq_getElem_cons k, rd38_eq a n h, rd38_eq b n k]
  rfl
theorem parts_end (a b : List S38) (n : Nat) (h : a.length ≤ n ∨ b.length ≤ n) : parts (a.drop n) (b.drop n) = false := by
  rcases h with h | h
  · rw [List.drop_of_length_le h]; rfl
  · rw [List.drop_of_length_le h]
    cases a.drop n <;> rfl

set_option maxHeartbeats 8000000 in
set_option maxRecDepth 100000 in
theorem beside_walk (x y : S24) (A : Option Addr) (c : Nat) (A' : Option Addr) (c' : Nat) (a b : List S38) (Aa : Option Addr) (ca : Nat) (Ab : Option Addr) (cb : Nat) (w : World) (hx : Ok x) (hy : Ok y) (h : Kd24 w A c x) (h' : Kd24 w A' c' y)
    (ha : a.length ≤ ca) (hra : Kd.C k38 w Aa a.length a) (hb : b.length ≤ cb) (hrb : Kd.C k38 w Ab b.length b) :
    Calls Try.prog 4 #[v24 x.f0 x.f1 A x.f2.length c, v24 y.f0 y.f1 A' y.f2.length c', .agg #[.slice Aa a.length ca, .slice Ab b.length cb]] w fun e w' => e = .returned (.bool true) ∧ Below w.heap.size w w' := by
  have hu24 := Try.underlying24
  have hu38 := Try.underlying38
  have hu36 := Try.underlying36
  have HX := Lib.hid h; have HY := Lib.hid h'; have RA := Lib.hid hra; have RB := Lib.hid hrb
  have HA := Lib.hid ha; have HB := Lib.hid hb; have OX := Lib.hid hx; have OY := Lib.hid hy
  have ma : a.length ≤ 9223372036854775807 := hra.2.1
  have mb : b.length ≤ 9223372036854775807 := hrb.2.1
  clear h h' hra hrb ha hb hx hy
  obtain ⟨g3, hg3⟩ : ∃ g, w.heap.size = g := ⟨_, rfl⟩
  obtain ⟨g4, hg4⟩ : ∃ g, w.heap.size + 1 = g := ⟨_, rfl⟩
  obtain ⟨g5, hg5⟩ : ∃ g, w.heap.size + 1 + 1 = g := ⟨_, rfl⟩
  have G : Hid (∃ w3 : World, ((w.alloc (.cells #[.int .i64 x.f0, .int .i64 x.f1, .slice A x.f2.length c] 24)).alloc (.cells #[.int .i64 y.f0, .int .i64 y.f1, .slice A' y.f2.length c'] 24)).alloc (.cells #[.slice Aa a.length ca, .slice Ab b.length cb] 36) = w3 ∧ Var w3 g3 x A c ∧ Var w3 g4 y A' c' ∧ w3.heap[g5]? = some (.cells #[.slice Aa a.length ca, .slice Ab b.length cb] 36 (0, 0)) ∧ Below w.heap.size w w3) := by
    refine Lib.hid ⟨_, rfl, ?_, ?_, ?_, below_alloc (below_alloc (below_alloc (Below.refl _ _) _) _) _⟩
    · rw [← hg3]; exact blk_alloc (blk_alloc (blk_new _ _) _) _
    · rw [← hg4, ← size_al w (.cells #[.int .i64 x.f0, .int .i64 x.f1, .slice A x.f2.length c] 24)]; exact blk_alloc (blk_new _ _) _
    · rw [← hg5, ← size_al w (.cells #[.int .i64 x.f0, .int .i64 x.f1, .slice A x.f2.length c] 24), ← size_al _ (.cells #[.int .i64 y.f0, .int .i64 y.f1, .slice A' y.f2.length c'] 24)]; exact blk_new _ _
  have E3 := Lib.hid hg3; have E4 := Lib.hid hg4; have E5 := Lib.hid hg5
  clear hg3 hg4 hg5
  go_enter Try.func4, Try.ntmps4
  go_upto_region 1 with (fail)
  rw [E5.out, E4.out, E3.out]
  obtain ⟨w3, hw3, v3, u3, o3, b3⟩ := G.out
  rw [hw3]
  have V3 := Lib.hid v3; have U3 := Lib.hid u3; have O3 := Lib.hid o3; have B3 := Lib.hid b3
  clear G v3 u3 o3 b3 hw3
  by_cases s1 : szw x > 300
  · go_wp2_with fail
    refine (works_is w3).mono ?_
    rintro e w4 ⟨rfl, b4⟩
    have V4 := Lib.hid (V3.out.below b4); have B4 := Lib.hid (B3.out.trans (Below.mono b4 B3.out.size))
    clear b4
    obtain ⟨k0, k1, k2, _⟩ := V4.out.cells
    go_wp2_with fail
    refine (small24 x A c w4 OX.out (HX.out.below B4.out) 0 (if_pos s1)).mono ?_
    rintro e w5 ⟨rfl, b5⟩
    have B5 := Lib.hid (B4.out.trans (Below.mono b5 B4.out.size))
    clear b5
    go_wp2_with fail
    refine (works_is w5).mono ?_
    rintro e w6 ⟨rfl, b6⟩
    have B6 := Lib.hid (B5.out.trans (Below.mono b6 B5.out.size))
    clear b6
    go_wp2_with fail
    go_ret
    exact ⟨rfl, B6.out⟩
  · have S1 := Lib.hid s1
    clear s1
    go_wp2_with fail
    refine (works_is w3).mono ?_
    rintro e w4 ⟨rfl, b4⟩
    have V4 := Lib.hid (V3.out.below b4); have U4 := Lib.hid (U3.out.below b4); have O4 := Lib.hid (blk_below O3.out b4); have B4 := Lib.hid (B3.out.trans (Below.mono b4 B3.out.size))
    clear b4 V3 U3 O3 B3
    obtain ⟨k0, k1, k2, _⟩ := V4.out.cells
    go_wp2_with fail
    refine (small24 x A c w4 OX.out (HX.out.below B4.out) 1 (if_neg (by have := S1.out; omega))).mono ?_
    rintro e w5 ⟨rfl, b5⟩
    have V5 := Lib.hid (V4.out.below b5); have U5 := Lib.hid (U4.out.below b5); have O5 := Lib.hid (blk_below O4.out b5); have B5 := Lib.hid (B4.out.trans (Below.mono b5 B4.out.size))
    clear b5 V4 U4 O4 B4 k0 k1 k2
    obtain ⟨k0, k1, k2, _⟩ := U5.out.cells
    by_cases s2 : szw y > 300
    · go_wp2_with fail
      refine (small24 y A' c' w5 OY.out (HY.out.below B5.out) 0 (if_pos s2)).mono ?_
      rintro e w6 ⟨rfl, b6⟩
      have B6 := Lib.hid (B5.out.trans (Below.mono b6 B5.out.size))
      clear b6
      go_wp2_with fail
      refine (works_is w6).mono ?_
      rintro e w7 ⟨rfl, b7⟩
      have B7 := Lib.hid (B6.out.trans (Below.mono b7 B6.out.size))
      clear b7
      go_wp2_with fail
      go_ret
      exact ⟨rfl, B7.out⟩
    · have S2 := Lib.hid s2
      clear s2
      go_wp2_with fail
      refine (small24 y A' c' w5 OY.out (HY.out.below B5.out) 1 (if_neg (by have := S2.out; omega))).mono ?_
      rintro e w6 ⟨rfl, b6⟩
      have V6 := Lib.hid (V5.out.below b6); have U6 := Lib.hid (U5.out.below b6); have O6 := Lib.hid (blk_below O5.out b6); have B6 := Lib.hid (B5.out.trans (Below.mono b6 B5.out.size))
      clear b6 V5 U5 O5 B5 k0 k1 k2
      have n0 : w6.cell? ⟨g5, 0, none⟩ = some (.slice Aa a.length ca) := (blk_cell O6.out 0).trans rfl
      have n1 : w6.cell? ⟨g5, 1, none⟩ = some (.slice Ab b.length cb) := (blk_cell O6.out 1).trans rfl
      by_cases l1 : 20 < a.length
      · have p1 : decide ((20 : Int) < (a.length : Int)) = true := decide_eq_true (by omega)
        go_wp2_with fail
        refine (works_is w6).mono ?_
        rintro e w7 ⟨rfl, b7⟩
        have B7 := Lib.hid (B6.out.trans (Below.mono b7 B6.out.size))
        clear b7
        go_wp2_with fail
        go_ret
        exact ⟨rfl, B7.out⟩
      · have p1 : decide ((20 : Int) < (a.length : Int)) = false := decide_eq_false (by omega)
        by_cases l2 : 20 < b.length
        · have p2 : decide ((20 : Int) < (b.length : Int)) = true := decide_eq_true (by omega)
          go_wp2_with fail
          refine (works_is w6).mono ?_
          rintro e w7 ⟨rfl, b7⟩
          have B7 := Lib.hid (B6.out.trans (Below.mono b7 B6.out.size))
          clear b7
          go_wp2_with fail
          go_ret
          exact ⟨rfl, B7.out⟩
        · have p2 : decide ((20 : Int) < (b.length : Int)) = false := decide_eq_false (by omega)
          go_wp2_with fail
          go_quiet (fail)
          have V7 := Lib.hid (show Var (w6.drewN nq) g3 x A c from V6.out); have U7 := Lib.hid (show Var (w6.drewN nq) g4 y A' c' from U6.out); have B7 := Lib.hid (pw_below_drewN B6.out nq)
          clear n0 n1 V6 U6 O6 B6
          generalize w6.drewN nq = w7 at *
          go_wp2_with fail
          go_loopw [9, 10] (fun u i wr => ∃ (n : Nat) (f : Bool), u = .bool f ∧ i = .int .i64 n ∧ n ≤ 20 ∧ Hid (parts a b = (f || parts (a.drop n) (b.drop n))) ∧ Hid (∃ q, wr = w7.drewN q)) (fun _ i _ => 21 - (intOf i).toNat)
          case atStart => exact ⟨0, false, rfl, rfl, by omega, Lib.hid rfl, Lib.hid ⟨0, rfl⟩⟩
          case round =>
            obtain ⟨n, f, rfl, rfl, hn, HS, HQ⟩ := hrel
            obtain ⟨q, hq⟩ := HQ.out
            subst hq
            clear HQ
            by_cases ia : n < a.length
            · have i1 : decide ((n : Int) < (a.length : Int)) = true := decide_eq_true (by omega)
              by_cases ib : n < b.length
              · have i2 : decide ((n : Int) < (b.length : Int)) = true := decide_eq_true (by omega)
                have hst := parts_step a b n ia ib
                obtain ⟨ad, ea, s0, s1⟩ := at_T38 RA.out (n : Int) (by omega) (by omega)
                obtain ⟨ad', eb, t0, t1⟩ := at_T38 RB.out (n : Int) (by omega) (by omega)
                cases ea; cases eb
                obtain ⟨z, ez⟩ : ∃ z, rd_T38 a n = z := ⟨_, rfl⟩
                obtain ⟨z', ez'⟩ : ∃ z, rd_T38 b n = z := ⟨_, rfl⟩
                rw [ez] at s0 s1 hst
                rw [ez'] at t0 t1 hst
                replace s1 := at_later B7.out s1; replace t1 := at_later B7.out t1
                rw [Int.toNat_natCast] at s1 t1
                have HST := Lib.hid hst
                have pa := eq_true (show (n : Int) < (a.length : Int) by omega)
                have pb := eq_true (show (n : Int) < (b.length : Int) by omega)
                have qn := eq_true (show (0 : Int) ≤ (n : Int) by omega)
                have e1 : IntKind.i64.wrap ((n : Int) + 1) = (n : Int) + 1 := IntWalk.i64_in _ (by omega)
                clear hst ez ez' s0 t0
                cases f with
                | true =>
                  go_wp2_with fail
                  go_quiet (fail)
                  go_wp2_with fail
                  go_roundw
                  case rel => exact ⟨n + 1, true, rfl, by push_cast; rfl, by omega, Lib.hid (by rw [HS.out]; rfl), Lib.hid ⟨_, rfl⟩⟩
                  case measure => simp [intOf]; omega
                | false =>
                  by_cases hz : z.f1 = z'.f1
                  · have z1 : (z.f1 == z'.f1) = true := beq_iff_eq.2 hz
                    have z2 : (z.f1 != z'.f1) = false := by simp [hz]
                    have HZ := Lib.hid hz
                    clear hz
                    go_wp2_with fail
                    go_quiet (fail)
                    go_wp2_with fail
                    go_roundw
                    case rel => exact ⟨n + 1, false, rfl, by push_cast; rfl, by omega, Lib.hid (by rw [HS.out, HST.out, decide_eq_false (fun h => h HZ.out)]; rfl), Lib.hid ⟨_, rfl⟩⟩
                    case measure => simp [intOf]; omega
                  · have z1 : (z.f1 == z'.f1) = false := beq_eq_false_iff_ne.2 hz
                    have z2 : (z.f1 != z'.f1) = true := by simp [hz]
                    have HZ := Lib.hid hz
                    clear hz
                    go_wp2_with fail
                    go_quiet (fail)
                    go_wp2_with fail
                    go_roundw
                    case rel => exact ⟨n + 1, true, rfl, by push_cast; rfl, by omega, Lib.hid (by rw [HS.out, HST.out, decide_eq_true HZ.out]; rfl), Lib.hid ⟨_, rfl⟩⟩
                    case measure => simp [intOf]; omega
              · have hend := parts_end a b n (.inr (by omega))
                have HE := Lib.hid (show parts a b = f by rw [HS.out, hend]; simp)
                have i2 : decide ((n : Int) < (b.length : Int)) = false := decide_eq_false (by omega)
                clear hend
                have V8 := Lib.hid (show Var (w7.drewN q) g3 x A c from V7.out)
                have U8 := Lib.hid (show Var (w7.drewN q) g4 y A' c' from U7.out)
                have B8 := Lib.hid (pw_below_drewN B7.out q)
                clear V7 U7 B7 HS
                generalize w7.drewN q = w8 at *
                obtain ⟨k0, k1, k2, _⟩ := V8.out.cells
                obtain ⟨m0, m1, m2, _⟩ := U8.out.cells
                go_wp2_with fail
                refine (set24 x A c y A' c' a Aa ca w8 OX.out OY.out (HX.out.below B8.out) (HY.out.below B8.out) HA.out (Kd.C_below RA.out B8.out)).mono ?_
                obtain ⟨r, hr⟩ : ∃ r, set_ x y a = r := ⟨_, rfl⟩
                rw [hr]
                have HR := Lib.hid hr
                clear hr k0 k1 k2 m0 m1 m2
                obtain ⟨p, t⟩ := r
                rintro e w9 ⟨Bp, dp, rfl, h9, b9⟩
                have V9 := Lib.hid (V8.out.below b9)
                have B9 := Lib.hid (B8.out.trans (Below.mono b9 B8.out.size))
                have P9 := Lib.hid h9
                clear h9 b9 V8 U8 B8
                dsimp only
                go_upto_region 10 with (fail)
                obtain ⟨g9, hg9⟩ : ∃ g, w9.heap.size = g := ⟨_, rfl⟩
                have H10 : ∃ w10 : World, w9.alloc (.cells #[.int .i64 p.f0, .int .i64 p.f1, .slice Bp p.f2.length dp] 24) = w10 ∧ Var w10 g3 x A c ∧ Var w10 g9 p Bp dp ∧ Kd24 w10 Bp dp p ∧ Below w.heap.size w w10 :=
                  ⟨_, rfl, Var.alloc V9.out _, by rw [← hg9]; exact blk_new w9 _, P9.out.below (below_alloc (Below.refl _ _) _), below_alloc B9.out _⟩
                rw [hg9]
                obtain ⟨w10, hw10, v10, x10, p10, b10⟩ := H10
                rw [hw10]
                have V10 := Lib.hid v10; have X10 := Lib.hid x10; have P10 := Lib.hid p10; have B10 := Lib.hid b10
                clear hg9 hw10 v10 x10 p10 b10 V9 B9 P9
                obtain ⟨k0, k1, k2, _⟩ := V10.out.cells
                go_wp2_with fail
                refine (at24 x A c b Ab cb w10 (HX.out.below B10.out) HB.out (Kd.C_below RB.out B10.out)).mono ?_
                obtain ⟨r, hr⟩ : ∃ r, at_ x b = r := ⟨_, rfl⟩
                rw [hr]
                have HO := Lib.hid hr
                clear hr k0 k1 k2
                obtain ⟨o, u⟩ := r
                rintro e w11 ⟨Bo, do_, rfl, h11, b11⟩
                have X11 := Lib.hid (X10.out.below b11)
                have P11 := Lib.hid (P10.out.below b11)
                have B11 := Lib.hid (B10.out.trans (Below.mono b11 B10.out.size))
                have O11 := Lib.hid h11
                clear h11 b11 V10 X10 P10 B10
                dsimp only
                go_upto_region 11 with (fail)
                obtain ⟨g11, hg11⟩ : ∃ g, w11.heap.size = g := ⟨_, rfl⟩
                have H12 : ∃ w12 : World, w11.alloc (.cells #[.int .i64 o.f0, .int .i64 o.f1, .slice Bo o.f2.length do_] 24) = w12 ∧ Var w12 g9 p Bp dp ∧ Var w12 g11 o Bo do_ ∧ Kd24 w12 Bp dp p ∧ Kd24 w12 Bo do_ o ∧ Below w.heap.size w w12 :=
                  ⟨_, rfl, Var.alloc X11.out _, by rw [← hg11]; exact blk_new w11 _, P11.out.below (below_alloc (Below.refl _ _) _), O11.out.below (below_alloc (Below.refl _ _) _), below_alloc B11.out _⟩
                rw [hg11]
                obtain ⟨w12, hw12, x12, y12, p12, o12, b12⟩ := H12
                rw [hw12]
                have X12 := Lib.hid x12; have Y12 := Lib.hid y12; have P12 := Lib.hid p12; have O12 := Lib.hid o12; have B12 := Lib.hid b12
                clear hg11 hw12 x12 y12 p12 o12 b12 X11 P11 B11 O11
                cases f with
                | false =>
                  go_wp2_with fail
                  go_ret
                  exact ⟨rfl, B12.out⟩
                | true =>
                  by_cases ht : t = 0
                  · have HT := Lib.hid ht
                    have t1 : (t == 0) = true := beq_iff_eq.2 ht
                    have t2 : (t != 0) = false := by simp [ht]
                    clear ht
                    by_cases hu : u = 0
                    · have HU := Lib.hid hu
                      have u1 : (u == 0) = true := beq_iff_eq.2 hu
                      have u2 : (u != 0) = false := by simp [hu]
                      clear hu
                      obtain ⟨k0, k1, k2, _⟩ := X12.out.cells
                      go_wp2_with fail
                      refine (at24 p Bp dp b Ab cb w12 P12.out HB.out (Kd.C_below RB.out B12.out)).mono ?_
                      have e1 : at_ p b = (o, 0) := by
                        have h1 : (set_ x y a).2 = 0 := by rw [HR.out]; exact HT.out
                        obtain ⟨h2, h3⟩ := set_zero x y a h1
                        have h4 : p = put_ x y a := by rw [← h3, HR.out]
                        have h5 : (at_ x b).2 = 0 := by rw [HO.out]; exact HU.out
                        rw [h4, put_beside a b x y HE.out h2 h5, HO.out, HU.out]
                      rw [e1]
                      clear e1 k0 k1 k2
                      rintro e w13 ⟨Bq, dq, rfl, h13, b13⟩
                      have Y13 := Lib.hid (Y12.out.below b13)
                      have O13 := Lib.hid (O12.out.below b13)
                      have B13 := Lib.hid (B12.out.trans (Below.mono b13 B12.out.size))
                      have Q13 := Lib.hid h13
                      clear h13 b13 X12 Y12 P12 O12 B12
                      dsimp only
                      go_upto_region 14 with (fail)
                      obtain ⟨g13, hg13⟩ : ∃ g, w13.heap.size = g := ⟨_, rfl⟩
                      have H14 : ∃ w14 : World, w13.alloc (.cells #[.int .i64 o.f0, .int .i64 o.f1, .slice Bq o.f2.length dq] 24) = w14 ∧ Var w14 g11 o Bo do_ ∧ Var w14 g13 o Bq dq ∧ Kd24 w14 Bo do_ o ∧ Kd24 w14 Bq dq o ∧ Below w.heap.size w w14 :=
                        ⟨_, rfl, Var.alloc Y13.out _, by rw [← hg13]; exact blk_new w13 _, O13.out.below (below_alloc (Below.refl _ _) _), Q13.out.below (below_alloc (Below.refl _ _) _), below_alloc B13.out _⟩
                      rw [hg13]
                      obtain ⟨w14, hw14, y14, z14, o14, q14, b14⟩ := H14
                      rw [hw14]
                      have B14 := Lib.hid b14; have O14 := Lib.hid o14; have Q14 := Lib.hid q14
                      obtain ⟨k0, k1, k2, _⟩ := y14.cells
                      obtain ⟨m0, m1, m2, _⟩ := z14.cells
                      clear hg13 hw14 y14 z14 o14 q14 b14 Y13 O13 B13 Q13
                      go_wp2_with fail
                      refine (same24 o Bo do_ o Bq dq w14 O14.out Q14.out).mono ?_
                      rintro e w15 ⟨rfl, b15⟩
                      rw [same_refl]
                      have B15 := Lib.hid (B14.out.trans (Below.mono b15 B14.out.size))
                      clear b15
                      go_wp2_with fail
                      go_ret
                      exact ⟨rfl, B15.out⟩
                    · have u1 : (u == 0) = false := beq_eq_false_iff_ne.2 hu
                      have u2 : (u != 0) = true := by simp [hu]
                      clear hu
                      go_wp2_with fail
                      go_ret
                      exact ⟨rfl, B12.out⟩
                  · have t1 : (t == 0) = false := beq_eq_false_iff_ne.2 ht
                    have t2 : (t != 0) = true := by simp [ht]
                    clear ht
                    go_wp2_with fail
                    go_ret
                    exact ⟨rfl, B12.out⟩
            · have hend := parts_end a b n (.inl (by omega))
              have HE := Lib.hid (show parts a b = f by rw [HS.out, hend]; simp)
              have i1 : decide ((n : Int) < (a.length : Int)) = false := decide_eq_false (by omega)
              clear hend
              have V8 := Lib.hid (show Var (w7.drewN q) g3 x A c from V7.out)
              have U8 := Lib.hid (show Var (w7.drewN q) g4 y A' c' from U7.out)
              have B8 := Lib.hid (pw_below_drewN B7.out q)
              clear V7 U7 B7 HS
              generalize w7.drewN q = w8 at *
              obtain ⟨k0, k1, k2, _⟩ := V8.out.cells
              obtain ⟨m0, m1, m2, _⟩ := U8.out.cells
              go_wp2_with fail
              refine (set24 x A c y A' c' a Aa ca w8 OX.out OY.out (HX.out.below B8.out) (HY.out.below B8.out) HA.out (Kd.C_below RA.out B8.out)).mono ?_
              obtain ⟨r, hr⟩ : ∃ r, set_ x y a = r := ⟨_, rfl⟩
              rw [hr]
              have HR := Lib.hid hr
              clear hr k0 k1 k2 m0 m1 m2
              obtain ⟨p, t⟩ := r
              rintro e w9 ⟨Bp, dp, rfl, h9, b9⟩
              have V9 := Lib.hid (V8.out.below b9)
              have B9 := Lib.hid (B8.out.trans (Below.mono b9 B8.out.size))
              have P9 := Lib.hid h9
              clear h9 b9 V8 U8 B8
              dsimp only
              go_upto_region 10 with (fail)
              obtain ⟨g9, hg9⟩ : ∃ g, w9.heap.size = g := ⟨_, rfl⟩
              have H10 : ∃ w10 : World, w9.alloc (.cells #[.int .i64 p.f0, .int .i64 p.f1, .slice Bp p.f2.length dp] 24) = w10 ∧ Var w10 g3 x A c ∧ Var w10 g9 p Bp dp ∧ Kd24 w10 Bp dp p ∧ Below w.heap.size w w10 :=
                ⟨_, rfl, Var.alloc V9.out _, by rw [← hg9]; exact blk_new w9 _, P9.out.below (below_alloc (Below.refl _ _) _), below_alloc B9.out _⟩
              rw [hg9]
              obtain ⟨w10, hw10, v10, x10, p10, b10⟩ := H10
              rw [hw10]
              have V10 := Lib.hid v10; have X10 := Lib.hid x10; have P10 := Lib.hid p10; have B10 := Lib.hid b10
              clear hg9 hw10 v10 x10 p10 b10 V9 B9 P9
              obtain ⟨k0, k1, k2, _⟩ := V10.out.cells
              go_wp2_with fail
              refine (at24 x A c b Ab cb w10 (HX.out.below B10.out) HB.out (Kd.C_below RB.out B10.out)).mono ?_
              obtain ⟨r, hr⟩ : ∃ r, at_ x b = r := ⟨_, rfl⟩
              rw [hr]
              have HO := Lib.hid hr
              clear hr k0 k1 k2
              obtain ⟨o, u⟩ := r
              rintro e w11 ⟨Bo, do_, rfl, h11, b11⟩
              have X11 := Lib.hid (X10.out.below b11)
              have P11 := Lib.hid (P10.out.below b11)
              have B11 := Lib.hid (B10.out.trans (Below.mono b11 B10.out.size))
              have O11 := Lib.hid h11
              clear h11 b11 V10 X10 P10 B10
              dsimp only
              go_upto_region 11 with (fail)
              obtain ⟨g11, hg11⟩ : ∃ g, w11.heap.size = g := ⟨_, rfl⟩
              have H12 : ∃ w12 : World, w11.alloc (.cells #[.int .i64 o.f0, .int .i64 o.f1, .slice Bo o.f2.length do_] 24) = w12 ∧ Var w12 g9 p Bp dp ∧ Var w12 g11 o Bo do_ ∧ Kd24 w12 Bp dp p ∧ Kd24 w12 Bo do_ o ∧ Below w.heap.size w w12 :=
                ⟨_, rfl, Var.alloc X11.out _, by rw [← hg11]; exact blk_new w11 _, P11.out.below (below_alloc (Below.refl _ _) _), O11.out.below (below_alloc (Below.refl _ _) _), below_alloc B11.out _⟩
              rw [hg11]
              obtain ⟨w12, hw12, x12, y12, p12, o12, b12⟩ := H12
              rw [hw12]
              have X12 := Lib.hid x12; have Y12 := Lib.hid y12; have P12 := Lib.hid p12; have O12 := Lib.hid o12; have B12 := Lib.hid b12
              clear hg11 hw12 x12 y12 p12 o12 b12 X11 P11 B11 O11
              cases f with
              | false =>
                go_wp2_with fail
                go_ret
                exact ⟨rfl, B12.out⟩
              | true =>
                by_cases ht : t = 0
                · have HT := Lib.hid ht
                  have t1 : (t == 0) = true := beq_iff_eq.2 ht
                  have t2 : (t != 0) = false := by simp [ht]
                  clear ht
                  by_cases hu : u = 0
                  · have HU := Lib.hid hu
                    have u1 : (u == 0) = true := beq_iff_eq.2 hu
                    have u2 : (u != 0) = false := by simp [hu]
                    clear hu
                    obtain ⟨k0, k1, k2, _⟩ := X12.out.cells
                    go_wp2_with fail
                    refine (at24 p Bp dp b Ab cb w12 P12.out HB.out (Kd.C_below RB.out B12.out)).mono ?_
                    have e1 : at_ p b = (o, 0) := by
                      have h1 : (set_ x y a).2 = 0 := by rw [HR.out]; exact HT.out
                      obtain ⟨h2, h3⟩ := set_zero x y a h1
                      have h4 : p = put_ x y a := by rw [← h3, HR.out]
                      have h5 : (at_ x b).2 = 0 := by rw [HO.out]; exact HU.out
                      rw [h4, put_beside a b x y HE.out h2 h5, HO.out, HU.out]
                    rw [e1]
                    clear e1 k0 k1 k2
                    rintro e w13 ⟨Bq, dq, rfl, h13, b13⟩
                    have Y13 := Lib.hid (Y12.out.below b13)
                    have O13 := Lib.hid (O12.out.below b13)
                    have B13 := Lib.hid (B12.out.trans (Below.mono b13 B12.out.size))
                    have Q13 := Lib.hid h13
                    clear h13 b13 X12 Y12 P12 O12 B12
                    dsimp only
                    go_upto_region 14 with (fail)
                    obtain ⟨g13, hg13⟩ : ∃ g, w13.heap.size = g := ⟨_, rfl⟩
                    have H14 : ∃ w14 : World, w13.alloc (.cells #[.int .i64 o.f0, .int .i64 o.f1, .slice Bq o.f2.length dq] 24) = w14 ∧ Var w14 g11 o Bo do_ ∧ Var w14 g13 o Bq dq ∧ Kd24 w14 Bo do_ o ∧ Kd24 w14 Bq dq o ∧ Below w.heap.size w w14 :=
                      ⟨_, rfl, Var.alloc Y13.out _, by rw [← hg13]; exact blk_new w13 _, O13.out.below (below_alloc (Below.refl _ _) _), Q13.out.below (below_alloc (Below.refl _ _) _), below_alloc B13.out _⟩
                    rw [hg13]
                    obtain ⟨w14, hw14, y14, z14, o14, q14, b14⟩ := H14
                    rw [hw14]
                    have B14 := Lib.hid b14; have O14 := Lib.hid o14; have Q14 := Lib.hid q14
                    obtain ⟨k0, k1, k2, _⟩ := y14.cells
                    obtain ⟨m0, m1, m2, _⟩ := z14.cells
                    clear hg13 hw14 y14 z14 o14 q14 b14 Y13 O13 B13 Q13
                    go_wp2_with fail
                    refine (same24 o Bo do_ o Bq dq w14 O14.out Q14.out).mono ?_
                    rintro e w15 ⟨rfl, b15⟩
                    rw [same_refl]
                    have B15 := Lib.hid (B14.out.trans (Below.mono b15 B14.out.size))
                    clear b15
                    go_wp2_with fail
                    go_ret
                    exact ⟨rfl, B15.out⟩
                  · have u1 : (u == 0) = false := beq_eq_false_iff_ne.2 hu
                    have u2 : (u != 0) = true := by simp [hu]
                    clear hu
                    go_wp2_with fail
                    go_ret
                    exact ⟨rfl, B12.out⟩
                · have t1 : (t == 0) = false := beq_eq_false_iff_ne.2 ht
                  have t2 : (t != 0) = true := by simp [ht]
                  clear ht
                  go_wp2_with fail
                  go_ret
                  exact ⟨rfl, B12.out⟩
end Go.Proofs.Ytggdpeeiioibgaa.E
