/- Marline, layer 26: the law of texts. Condition: the tables are laid. -/
import Derived.Test.YtfofpammnfcmiaaDoorIk
import Derived.Test.YtfofpammnfcmiaaDoorOpo
namespace Go.Proofs.YtfofpammnfcmiaaDoor.Ip
open Go.RowKit Go.Proofs.YtfofpammnfcmiaaDoorW.PrintWords Go.Proofs.YtfofpammnfcmiaaDoorW.PrintLast Go.Proofs.YtfofpammnfcmiaaDoorW.PrintMore Go.Proofs.YtfofpammnfcmiaaDoor.Kinds Go.Proofs.YtfofpammnfcmiaaDoor.Obj Go.Proofs.YtfofpammnfcmiaaDoor.Sp Go.Proofs.YtfofpammnfcmiaaDoor.E Go.Proofs.YtfofpammnfcmiaaDoor.Opn
set_option linter.unusedVariables false
set_option linter.unusedSimpArgs false
set_option maxRecDepth 100000
set_option maxHeartbeats 8000000 in
theorem itells_walk (op a b d k : Int) (ha : In a) (hb : In b) (w : World) (h : Li w) :
    Calls Tryd.prog 9 #[.agg #[.int .i64 op, .int .i64 a, .int .i64 b, .int .i64 d], .int .i64 k] w fun e w' => e = .returned (.bool true) ∧ Below w.heap.size w w' := by
  have hu48 := Tryd.underlying48
  obtain ⟨g, hg⟩ : ∃ g, w.heap.size = g := ⟨_, rfl⟩
  have G : Hid (∃ w1 : World, w.alloc (.cells #[.int .i64 op, .int .i64 a, .int .i64 b, .int .i64 d] 48) = w1 ∧ Q4 w1 g 48 (.int .i64 op) (.int .i64 a) (.int .i64 b) (.int .i64 d) ∧ Below w.heap.size w w1) :=
    Lib.hid ⟨_, rfl, by rw [← hg]; exact blk_new _ _, below_alloc (Below.refl _ _) _⟩
  have WG := Lib.hid (show w.heap.size ≤ g by omega)
  have E1 := Lib.hid hg; have HL := Lib.hid h; have HA := Lib.hid ha; have HB := Lib.hid hb
  obtain ⟨r, hr⟩ : ∃ r, rightS op a b = r := ⟨_, rfl⟩
  have HR := Lib.hid hr
  clear hg h ha hb hr
  go_enter Tryd.func9, Tryd.ntmps9
  go_upto_region 1 with (fail)
  rw [E1.out]
  obtain ⟨w1, hw1, v1, b1⟩ := G.out
  rw [hw1]
  have V1 := Lib.hid v1; have B1 := Lib.hid b1
  obtain ⟨m0, m1, m2, m3, t0, t1, t2, t3⟩ := v1.cells
  clear v1 b1 hw1 G
  go_region_held3 (fun w' => w'.cell? ⟨g, 0, none⟩ = some (.int .i64 op) ∧ w'.cell? ⟨g, 1, none⟩ = some (.int .i64 a) ∧ w'.cell? ⟨g, 2, none⟩ = some (.int .i64 b) ∧ w'.cell? ⟨g, 3, none⟩ = some (.int .i64 d)) (first | exact ⟨m0, m1, m2, m3⟩ | exact ⟨qa0, qa1, qa2, qa3⟩ | exact ⟨qb0, qb1, qb2, qb3⟩ | exact ⟨qc0, qc1, qc2, qc3⟩ | exact ⟨qx0, qx1, qx2, qx3⟩ | exact ⟨qy0, qy1, qy2, qy3⟩ | exact ⟨qz0, qz1, qz2, qz3⟩)
    (first
      | (go_at_call 28; refine (name_calls k w1.drew (Ops.below (w := w1) (HL.out.below B1.out).o (below_drew1 (Below.refl _ _)))).mono ?_; rintro e w2 ⟨rfl, b2⟩; have qa0 := pw_cell_below b2 (show w1.drew.cell? _ = _ from m0); have qa1 := pw_cell_below b2 (show w1.drew.cell? _ = _ from m1); have qa2 := pw_cell_below b2 (show w1.drew.cell? _ = _ from m2); have qa3 := pw_cell_below b2 (show w1.drew.cell? _ = _ from m3); have B2 := Lib.hid (Below.trans (below_drew1 B1.out) (Below.mono b2 (by exact B1.out.size))); have V2 := Lib.hid (Q4.below (w := w1.drew) V1.out b2); clear b2)
      | (go_at_call 29; refine (refName_calls k w2).mono ?_; rintro e w3 ⟨rfl, b3⟩; have qb0 := pw_cell_below b3 (show w2.cell? _ = _ from qa0); have qb1 := pw_cell_below b3 (show w2.cell? _ = _ from qa1); have qb2 := pw_cell_below b3 (show w2.cell? _ = _ from qa2); have qb3 := pw_cell_below b3 (show w2.cell? _ = _ from qa3); have B3 := Lib.hid (Below.trans B2.out (Below.mono b3 (by exact B2.out.size))); have V3 := Lib.hid (Q4.below (w := w2) V2.out b3); clear b3)
      | (go_at_call 30; refine (args_calls k w3 (HL.out.below B3.out).o).mono ?_; rintro e w4 ⟨rfl, b4⟩; have qc0 := pw_cell_below b4 (show w3.cell? _ = _ from qb0); have qc1 := pw_cell_below b4 (show w3.cell? _ = _ from qb1); have qc2 := pw_cell_below b4 (show w3.cell? _ = _ from qb2); have qc3 := pw_cell_below b4 (show w3.cell? _ = _ from qb3); have B4 := Lib.hid (Below.trans B3.out (Below.mono b4 (by exact B3.out.size))); have V4 := Lib.hid (Q4.below (w := w3) V3.out b4); clear b4)
      | (go_at_call 31; refine (refArgs_calls k w4).mono ?_; rintro e w5 ⟨rfl, b5⟩; have qx0 := pw_cell_below b5 (show w4.cell? _ = _ from qc0); have qx1 := pw_cell_below b5 (show w4.cell? _ = _ from qc1); have qx2 := pw_cell_below b5 (show w4.cell? _ = _ from qc2); have qx3 := pw_cell_below b5 (show w4.cell? _ = _ from qc3); have B5 := Lib.hid (Below.trans B4.out (Below.mono b5 (by exact B4.out.size))); have V5 := Lib.hid (Q4.below (w := w4) V4.out b5); clear b5)
      | (go_at_call 32; refine (right_calls op a b d w5 (HL.out.below B5.out).o).mono ?_; rintro e w6 ⟨rfl, b6⟩; have qy0 := pw_cell_below b6 (show w5.cell? _ = _ from qx0); have qy1 := pw_cell_below b6 (show w5.cell? _ = _ from qx1); have qy2 := pw_cell_below b6 (show w5.cell? _ = _ from qx2); have qy3 := pw_cell_below b6 (show w5.cell? _ = _ from qx3); have B6 := Lib.hid (Below.trans B5.out (Below.mono b6 (by exact B5.out.size))); have V6 := Lib.hid (Q4.below (w := w5) V5.out b6); clear b6)
      | (go_at_call 33; refine (refRight_calls op a b d w6).mono ?_; rintro e w7 ⟨rfl, b7⟩; have qz0 := pw_cell_below b7 (show w6.cell? _ = _ from qy0); have qz1 := pw_cell_below b7 (show w6.cell? _ = _ from qy1); have qz2 := pw_cell_below b7 (show w6.cell? _ = _ from qy2); have qz3 := pw_cell_below b7 (show w6.cell? _ = _ from qy3); have B7 := Lib.hid (Below.trans B6.out (Below.mono b7 (by exact B6.out.size))); have V7 := Lib.hid (Q4.below (w := w6) V6.out b7); clear b7))
  obtain ⟨m0, m1, m2, m3, t0, t1, t2, t3⟩ := V7.out.cells
  clear V1 V2 V3 V4 V5 V6 B1 B2 B3 B4 B5 B6 qa0 qa1 qa2 qa3 qb0 qb1 qb2 qb3 qc0 qc1 qc2 qc3 qx0 qx1 qx2 qx3 qy0 qy1 qy2 qy3 qz0 qz1 qz2 qz3
  rw [HR.out]
  go_wp2_with fail
  refine (refRight_calls op a b d w7).mono ?_
  rintro e w8 ⟨rfl, b8⟩
  rw [HR.out]
  have V8 := Lib.hid (V7.out.below b8); have B8 := Lib.hid (B7.out.trans (b8.mono B7.out.size))
  obtain ⟨m0, m1, m2, m3, t0, t1, t2, t3⟩ := V8.out.cells
  clear b8 V7 B7
  cases r with
  | false =>
    go_wp2_with fail
    refine (itext_calls op a b d w8 HA.out HB.out (HL.out.below B8.out)).mono ?_
    rintro e w9 ⟨rfl, b9⟩
    rw [show textI op a b = ⟨#[]⟩ by unfold textI; rw [if_neg (by rw [HR.out]; decide)]]
    have B9 := Lib.hid (B8.out.trans (b9.mono B8.out.size))
    clear b9 V8 B8
    go_wp2_with fail
    refine (iworks_calls w9 (HL.out.below B9.out)).mono ?_
    rintro e w10 ⟨rfl, b10⟩
    have B10 := Lib.hid (B9.out.trans (b10.mono B9.out.size))
    clear b10 B9
    go_wp2_with fail
    go_ret
    exact ⟨rfl, B10.out⟩
  | true =>
    obtain ⟨tx, htx⟩ : ∃ tx : ByteArray, textI op a b = tx := ⟨_, rfl⟩
    have hT : tx = ⟨(textS op a b).toArray⟩ := by rw [← htx]; unfold textI; rw [if_pos HR.out]
    have hsz : tx.size ≤ 60 := by rw [hT]; show (textS op a b).toArray.size ≤ 60; have := textS_len op a b HA.out HB.out; simpa using this
    have hP : parseS tx.data.toList = some (op, a, b) := by rw [hT]; simpa using parse_text HR.out HA.out HB.out
    have C1 := itext_calls op a b d w8 HA.out HB.out (HL.out.below B8.out)
    rw [htx] at C1
    have HT := Lib.hid hT; have HSZ := Lib.hid hsz; have HP := Lib.hid hP
    clear htx hT hsz hP
    go_wp2_with fail
    refine C1.mono ?_
    rintro e w9 ⟨rfl, b9⟩
    have V9 := Lib.hid (V8.out.below b9); have B9 := Lib.hid (B8.out.trans (b9.mono B8.out.size))
    obtain ⟨m0, m1, m2, m3, t0, t1, t2, t3⟩ := V9.out.cells
    clear b9 C1 V8 B8
    go_wp2_with fail
    have C2 := iparse_calls tx w9 (by have := HSZ.out; omega) (HL.out.below B9.out)
    rw [HP.out, show errO (some (op, a, b)) = 0 from rfl, show insO (some (op, a, b)) = .agg #[.int .i64 op, .int .i64 a, .int .i64 b, .int .i64 0] from rfl] at C2
    refine C2.mono ?_
    rintro e w10 ⟨rfl, b10⟩
    have V10 := Lib.hid (V9.out.below b10); have B10 := Lib.hid (B9.out.trans (b10.mono B9.out.size))
    clear b10 C2 V9 B9
    go_upto_region 7 with (fail)
    obtain ⟨g2, hg2⟩ : ∃ g, w10.heap.size = g := ⟨_, rfl⟩
    have H2 : ∃ w11 : World, w10.alloc (.cells #[.int .i64 op, .int .i64 a, .int .i64 b, .int .i64 0] 48) = w11 ∧ Q4 w11 g2 48 (.int .i64 op) (.int .i64 a) (.int .i64 b) (.int .i64 0) ∧ Q4 w11 g 48 (.int .i64 op) (.int .i64 a) (.int .i64 b) (.int .i64 d) ∧ Below w.heap.size w w11 :=
      ⟨_, rfl, by rw [← hg2]; exact blk_new w10 _, V10.out.alloc _, below_alloc B10.out _⟩
    have NG := Lib.hid (show g2 ≠ g by have := V10.out.lt; omega)
    rw [hg2]
    obtain ⟨w11, hw11, j11, v11, b11⟩ := H2
    rw [hw11]
    obtain ⟨m0, m1, m2, m3, t0, t1, t2, t3⟩ := v11.cells
    have J12 := Lib.hid (j11.far (p := ⟨g, 3, none⟩) NG.out (.int .i64 0))
    have V12 : Hid (Q4 (w11.setCell ⟨g, 3, none⟩ (.int .i64 0)) g 48 (.int .i64 op) (.int .i64 a) (.int .i64 b) (.int .i64 0)) := Lib.hid (by have h1 := blk_set v11 3 (.int .i64 0); unfold Q4; simpa using h1)
    have B12 := Lib.hid (below_set (j := 3) (v := .int .i64 0) b11 WG.out)
    clear hw11 j11 v11 b11 hg2 V10 B10
    go_upto_region 8 with (fail)
    generalize w11.setCell ⟨g, 3, none⟩ (.int .i64 0) = w12 at J12 V12 B12 ⊢
    clear m0 m1 m2 m3 t0 t1 t2 t3
    obtain ⟨m0, m1, m2, m3, t0, t1, t2, t3⟩ := V12.out.cells
    have C3 := refText26_calls op a b 0 w12 HA.out HB.out
    rw [← HT.out] at C3
    go_wp2_with fail
    refine C3.mono ?_
    rintro e w13 ⟨rfl, b13⟩
    have V13 := Lib.hid (V12.out.below b13); have J13 := Lib.hid (J12.out.below b13); have B13 := Lib.hid (B12.out.trans (b13.mono B12.out.size))
    obtain ⟨m0, m1, m2, m3, t0, t1, t2, t3⟩ := V13.out.cells
    obtain ⟨j0, j1, j2, j3, u0, u1, u2, u3⟩ := J13.out.cells
    clear b13 C3 V12 J12 B12
    go_wp2_with fail
    refine (iworks_calls w13 (HL.out.below B13.out)).mono ?_
    rintro e w14 ⟨rfl, b14⟩
    have B14 := Lib.hid (B13.out.trans (b14.mono B13.out.size))
    clear b14 B13
    go_wp2_with fail
    go_ret
    exact ⟨rfl, B14.out⟩
theorem itells_row (x : S48) (k : Int) (W : World) (wf : wf48 x) (_hk : (Lit.int .i64 k).wf = true) (h : Li W) :
    Calls Tryd.prog 9 #[.agg #[.int .i64 x.f0, .int .i64 x.f1, .int .i64 x.f2, .int .i64 x.f3], .int .i64 k] W fun e w' => e = .returned (.bool true) ∧ Below W.heap.size W w' := itells_walk x.f0 x.f1 x.f2 x.f3 k wf.2.1 wf.2.2.1 W h
end Go.Proofs.YtfofpammnfcmiaaDoor.Ip
