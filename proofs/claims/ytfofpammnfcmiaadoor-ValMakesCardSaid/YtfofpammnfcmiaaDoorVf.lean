/- Marline, values: the law ValReads. Conditions: sizes, the tables and the errors of the library. -/
import Derived.Test.YtfofpammnfcmiaaDoorVd
namespace Go.Proofs.YtfofpammnfcmiaaDoor.Vl
open Go.RowKit Go.Proofs.YtfofpammnfcmiaaDoorW.PrintWords Go.Proofs.YtfofpammnfcmiaaDoorW.PrintLast Go.Proofs.YtfofpammnfcmiaaDoorW.PrintMore Go.Proofs.YtfofpammnfcmiaaDoor.Kinds Go.Proofs.YtfofpammnfcmiaaDoor.Obj
set_option linter.unusedVariables false
set_option linter.unusedSimpArgs false
set_option maxRecDepth 100000
open Go.Proofs.YtfofpammnfcmiaaDoor.E
open PV (IsS107 info67)
/-- a row laid as one block. -/
theorem C_blk {α : Type} {d : Kd α} {w : World} {b : Nat} {cs : Array Value} {t : TypeId} (hb : w.heap[b]? = some (.cells cs t (0, 0))) (xs : List α) (hs : 0 < d.sz) (hl : xs.length ≤ 1000)
    (h : ∀ j x, xs[j]? = some x → d.K w x ((cs.toList.drop (j * d.sz)).take d.sz)) : Kd.C d w (some ⟨b, 0, none⟩) xs.length xs := by
  refine ⟨rfl, by omega, fun hp => ⟨_, rfl, fun j p hj => ⟨_, d.K_len (h j p hj), h j p hj, fun i u hu => ?_⟩⟩⟩
  have hi : i < d.sz := by have := (List.getElem?_eq_some_iff.1 hu).1; rw [List.length_take] at this; omega
  have e : (⟨b, 0, none⟩ : Addr).add (j * d.sz + i) = ⟨b, j * d.sz + i, none⟩ := add_plain b _
  rw [e, blk_cell hb]
  rw [List.getElem?_take_of_lt hi, List.getElem?_drop] at hu
  simpa using hu
/-- a row of two values. -/
theorem C_two {w : World} {b : Nat} (x y : S67) {A1 A2 : Option Addr} {c1 c2 : Nat} (hb : w.heap[b]? = some (.cells #[.int .i64 x.f0, .int .i64 x.f1, .slice A1 x.f2.length c1, .int .i64 y.f0, .int .i64 y.f1, .slice A2 y.f2.length c2] 67 (0, 0)))
    (h1 : x.f2.length ≤ c1) (h2 : Kd.C k67 w A1 x.f2.length x.f2) (h3 : y.f2.length ≤ c2) (h4 : Kd.C k67 w A2 y.f2.length y.f2) : Kd.C k67 w (some ⟨b, 0, none⟩) [x, y].length [x, y] :=
  C_blk hb [x, y] (by decide) (by simp) (fun j z hj => by
    match j, hj with
    | 0, hj => simp at hj; subst hj; exact k67_mk w x h1 h2
    | 1, hj => simp at hj; subst hj; exact k67_mk w y h3 h4
    | n + 2, hj => simp at hj)
def i1 : S67 := ⟨0, 1, []⟩
def i2 : S67 := ⟨0, -2, []⟩
def bT : S67 := ⟨1, 1, []⟩
def e0 : S67 := ⟨2, 0, []⟩
def va : S67 := ⟨2, 0, [i1, i2]⟩
def vb : S67 := ⟨3, 0, [bT, e0]⟩
theorem leaf (k n : Int) (h : In n) : Wv ⟨k, n, []⟩ := wv_of k n [] h (fun y hy => by simp at hy)
theorem va_wv : Wv va := wv_of 2 0 _ in0 (fun y hy => by
  simp only [List.mem_cons, List.not_mem_nil, or_false] at hy
  rcases hy with rfl | rfl
  · exact leaf 0 1 in1
  · exact leaf 0 (-2) ⟨by decide, by decide⟩)
theorem vb_wv : Wv vb := wv_of 3 0 _ in0 (fun y hy => by
  simp only [List.mem_cons, List.not_mem_nil, or_false] at hy
  rcases hy with rfl | rfl
  · exact leaf 1 1 in1
  · exact leaf 2 0 in0)
theorem va_right : right va = true := by simp [va, i1, i2, right, rightL]
theorem vb_right : right vb = true := by simp [vb, bT, e0, right, rightL]
theorem va_sz : sz va = 3 := by simp [va, i1, i2, sz, szL]
theorem vb_sz : sz vb = 3 := by simp [vb, bT, e0, sz, szL]
theorem vb_dp : dp vb = 2 := by simp [vb, bT, e0, dp, dpL]
theorem it1 : Lib.itoa 1 = [49] := by decide +kernel
theorem it2 : Lib.itoa (-2) = [45, 50] := by decide +kernel
theorem va_txt : textV va = [91, 49, 44, 32, 45, 50, 93] := by
  unfold textV
  rw [if_pos va_right, va, txt_list 2 (.inl rfl)]
  simp [i1, i2, txts, jt, txt_int, it1, it2]
theorem vb_txt : textV vb = [123, 116, 114, 117, 101, 44, 32, 91, 93, 125] := by
  unfold textV
  rw [if_pos vb_right, vb, txt_list 3 (.inr rfl)]
  simp [bT, e0, txts, jt, txt, tT]
theorem vb_read : readS [123, 116, 114, 117, 101, 44, 32, 91, 93, 125] = (vb, 0) := by
  have h := vb_txt
  unfold textV at h
  rw [if_pos vb_right] at h
  rw [← h]
  exact readS_txt vb ⟨vb_right, vb_wv⟩
theorem ba_self (l : List UInt8) : ((ba l).toList == l) = true := by rw [ByteArray.toList_eq, beq_iff_eq]; rfl
theorem vab : same va vb = false := by
  cases h : same va vb with
  | false => rfl
  | true =>
    have h1 := congrArg S67.f0 ((same_iff _ _).1 h)
    exact absurd h1 (by decide)
theorem vbb : same vb vb = true := (same_iff _ _).2 rfl
set_option maxHeartbeats 16000000 in
theorem works_is (w : World) (hP : Pow w) (hE : Errs w) : Calls Tryd.prog 40 #[] w fun e w' => e = .returned (.bool true) ∧ Below w.heap.size w w' := by
  have hu67 := Tryd.underlying67
  have HP := Lib.hid hP; have HE := Lib.hid hE
  clear hP hE
  go_enter Tryd.func40, Tryd.ntmps40
  go_wp2_with fail
  refine (PV.val_Int.calls 1 0 1 [] w rfl).mono ?_
  rintro e w1 ⟨u1, rfl, r1, b1⟩
  obtain ⟨A1, c1, rfl, l1, h1⟩ := r_reads r1
  have L1 := Lib.hid l1; have H1 := Lib.hid h1; have B1 := Lib.hid b1
  clear r1 l1 h1 b1
  go_wp2_with fail
  refine (PV.val_Int.calls (-2) 0 (-2) [] w1 rfl).mono ?_
  rintro e w2 ⟨u2, rfl, r2, b2⟩
  obtain ⟨A2, c2, rfl, l2, h2⟩ := r_reads r2
  have L2 := Lib.hid l2; have H2 := Lib.hid h2; have K1 := Lib.hid (c_later H1.out b2); have B2 := Lib.hid (B1.out.trans (b2.mono B1.out.size))
  clear r2 l2 h2 b2 H1 B1
  go_wp2_with fail
  obtain ⟨w3, hw3, k3, b3⟩ : ∃ w3 : World, w2.alloc (.cells #[.int .i64 0, .int .i64 1, .slice A1 0 c1, .int .i64 0, .int .i64 (-2), .slice A2 0 c2] 67) = w3 ∧ Kd.C k67 w3 (some ⟨w2.heap.size, 0, none⟩) [i1, i2].length [i1, i2] ∧ Below w.heap.size w w3 :=
    ⟨_, rfl, C_two i1 i2 (blk_new w2 _) L1.out (c_later K1.out (below_alloc (Below.refl _ _) _)) L2.out (c_later H2.out (below_alloc (Below.refl _ _) _)), below_alloc B2.out _⟩
  rw [hw3]
  refine (arr_calls _ 2 [i1, i2] w3 (by decide) k3 (by decide)).mono ?_
  have B3 := Lib.hid b3
  clear hw3 k3 b3 L1 L2 H2 K1 B2
  rintro e w4 ⟨A3, c3, rfl, l3, h3, b4⟩
  have L3 := Lib.hid l3; have H3 := Lib.hid h3; have B4 := Lib.hid (B3.out.trans (b4.mono B3.out.size))
  clear l3 h3 b4 B3
  go_upto_region 2 with (fail)
  obtain ⟨ba1, hba1⟩ : ∃ b, w4.heap.size = b := ⟨_, rfl⟩
  obtain ⟨w5, hw5, x5, k5, b5⟩ : ∃ w5 : World, w4.alloc (.cells #[.int .i64 2, .int .i64 0, .slice A3 2 c3] 67) = w5 ∧ Bx w5 ba1 2 0 (.slice A3 2 c3) ∧ Kd.C k67 w5 A3 va.f2.length va.f2 ∧ Below w.heap.size w w5 :=
    ⟨_, rfl, by rw [← hba1]; exact blk_new w4 _, c_later H3.out (below_alloc (Below.refl _ _) _), below_alloc B4.out _⟩
  rw [hba1, hw5]
  have X5 := Lib.hid x5; have K5 := Lib.hid k5; have B5 := Lib.hid b5
  clear hba1 hw5 x5 k5 b5 H3 B4
  go_wp2_with fail
  refine (PV.val_Bool.calls true 1 1 [] w5 rfl).mono ?_
  rintro e w6 ⟨u1, rfl, r1, b1⟩
  obtain ⟨A1, c1, rfl, l1, h1⟩ := r_reads r1
  have L1 := Lib.hid l1; have H1 := Lib.hid h1; have B6 := Lib.hid (B5.out.trans (b1.mono B5.out.size)); have X6 := Lib.hid (X5.out.below b1); have K6 := Lib.hid (c_later K5.out b1)
  clear r1 l1 h1 b1 B5 X5 K5
  go_wp2_with fail
  refine (arr_calls none 0 [] w6 (by decide) (Kd.C_nil k67 w6) (by decide)).mono ?_
  rintro e w7 ⟨A2, c2, rfl, l2, h2, b2⟩
  have L2 := Lib.hid l2; have H2 := Lib.hid h2; have B7 := Lib.hid (B6.out.trans (b2.mono B6.out.size)); have X7 := Lib.hid (X6.out.below b2); have K7 := Lib.hid (c_later K6.out b2); have J1 := Lib.hid (c_later H1.out b2)
  clear l2 h2 b2 B6 X6 K6 H1
  go_wp2_with fail
  obtain ⟨w8, hw8, k8, x8, j8, b8⟩ : ∃ w8 : World, w7.alloc (.cells #[.int .i64 1, .int .i64 1, .slice A1 0 c1, .int .i64 2, .int .i64 0, .slice A2 0 c2] 67) = w8 ∧ Kd.C k67 w8 (some ⟨w7.heap.size, 0, none⟩) [bT, e0].length [bT, e0] ∧ Bx w8 ba1 2 0 (.slice A3 2 c3) ∧ Kd.C k67 w8 A3 va.f2.length va.f2 ∧ Below w.heap.size w w8 :=
    ⟨_, rfl, C_two bT e0 (blk_new w7 _) L1.out (c_later J1.out (below_alloc (Below.refl _ _) _)) L2.out (c_later H2.out (below_alloc (Below.refl _ _) _)), X7.out.alloc _, c_later K7.out (below_alloc (Below.refl _ _) _), below_alloc B7.out _⟩
  rw [hw8]
  refine (rec_calls _ 2 [bT, e0] w8 (by decide) k8 (by decide)).mono ?_
  have X8 := Lib.hid x8; have K8 := Lib.hid j8; have B8 := Lib.hid b8
  clear hw8 k8 x8 j8 b8 L1 L2 H2 J1 B7 X7 K7
  rintro e w9 ⟨A4, c4, rfl, l4, h4, b9⟩
  have L4 := Lib.hid l4; have H4 := Lib.hid h4; have B9 := Lib.hid (B8.out.trans (b9.mono B8.out.size)); have X9 := Lib.hid (X8.out.below b9); have K9 := Lib.hid (c_later K8.out b9)
  clear l4 h4 b9 B8 X8 K8
  go_upto_region 3 with (fail)
  obtain ⟨ba2, hba2⟩ : ∃ b, w9.heap.size = b := ⟨_, rfl⟩
  obtain ⟨w10, hw10, x10, k10, y10, j10, b10⟩ : ∃ w10 : World, w9.alloc (.cells #[.int .i64 3, .int .i64 0, .slice A4 2 c4] 67) = w10 ∧ Bx w10 ba2 3 0 (.slice A4 2 c4) ∧ Kd.C k67 w10 A4 vb.f2.length vb.f2 ∧ Bx w10 ba1 2 0 (.slice A3 2 c3) ∧ Kd.C k67 w10 A3 va.f2.length va.f2 ∧ Below w.heap.size w w10 :=
    ⟨_, rfl, by rw [← hba2]; exact blk_new w9 _, c_later H4.out (below_alloc (Below.refl _ _) _), X9.out.alloc _, c_later K9.out (below_alloc (Below.refl _ _) _), below_alloc B9.out _⟩
  rw [hba2, hw10]
  have X10 := Lib.hid x10; have K10 := Lib.hid k10; have Y10 := Lib.hid y10; have J10 := Lib.hid j10; have B10 := Lib.hid b10
  clear hba2 hw10 x10 k10 y10 j10 b10 H4 B9 X9 K9
  go_wp2_with fail
  have RC := Lib.hid (read_calls ⟨#[123, 116, 114, 117, 101, 44, 32, 91, 93, 125]⟩ w10 (by decide) (HP.out.below B10.out) (HE.out.below B10.out))
  rw [show (⟨#[123, 116, 114, 117, 101, 44, 32, 91, 93, 125]⟩ : ByteArray).data.toList = [123, 116, 114, 117, 101, 44, 32, 91, 93, 125] from rfl, vb_read] at RC
  refine RC.out.mono ?_
  rintro e w11 ⟨u5, rfl, r5, b11⟩
  obtain ⟨A5, c5, rfl, l5, h5⟩ := r_reads r5
  have L5 := Lib.hid l5; have H5 := Lib.hid h5; have B11 := Lib.hid (B10.out.trans (b11.mono B10.out.size)); have X11 := Lib.hid (X10.out.below b11); have K11 := Lib.hid (c_later K10.out b11); have Y11 := Lib.hid (Y10.out.below b11); have J11 := Lib.hid (c_later J10.out b11)
  clear r5 l5 h5 b11 B10 X10 K10 Y10 J10 RC
  go_upto_region 4 with (fail)
  obtain ⟨ba3, hba3⟩ : ∃ b, w11.heap.size = b := ⟨_, rfl⟩
  obtain ⟨w12, hw12, z12, i12, x12, k12, y12, j12, b12⟩ : ∃ w12 : World, w11.alloc (.cells #[.int .i64 3, .int .i64 0, .slice A5 2 c5] 67) = w12 ∧ Bx w12 ba3 3 0 (.slice A5 2 c5) ∧ Kd.C k67 w12 A5 vb.f2.length vb.f2 ∧ Bx w12 ba2 3 0 (.slice A4 2 c4) ∧ Kd.C k67 w12 A4 vb.f2.length vb.f2 ∧ Bx w12 ba1 2 0 (.slice A3 2 c3) ∧ Kd.C k67 w12 A3 va.f2.length va.f2 ∧ Below w.heap.size w w12 :=
    ⟨_, rfl, by rw [← hba3]; exact blk_new w11 _, c_later H5.out (below_alloc (Below.refl _ _) _), X11.out.alloc _, c_later K11.out (below_alloc (Below.refl _ _) _), Y11.out.alloc _, c_later J11.out (below_alloc (Below.refl _ _) _), below_alloc B11.out _⟩
  rw [show vb.f0 = 3 from rfl, show vb.f1 = 0 from rfl, show vb.f2.length = 2 from rfl, hba3, hw12]
  have Z12 := Lib.hid z12; have I12 := Lib.hid i12; have X12 := Lib.hid x12; have K12 := Lib.hid k12; have Y12 := Lib.hid y12; have J12 := Lib.hid j12; have B12 := Lib.hid b12
  clear hba3 hw12 z12 i12 x12 k12 y12 j12 b12 H5 B11 X11 K11 Y11 J11
  have S0 := Lib.hid (Below.refl w12.heap.size w12)
  have TA := Lib.hid (fun (W : World) (h : Below w12.heap.size w12 W) => vtext_calls va A3 c3 W (by rw [va_sz]; decide) va_wv L3.out (c_later J12.out h) (HP.out.below (B12.out.trans (h.mono B12.out.size))))
  have TB := Lib.hid (fun (W : World) (h : Below w12.heap.size w12 W) => vtext_calls vb A4 c4 W (by rw [vb_sz]; decide) vb_wv L4.out (c_later K12.out h) (HP.out.below (B12.out.trans (h.mono B12.out.size))))
  have SM := Lib.hid (fun (W : World) (h : Below w12.heap.size w12 W) => vsame_calls vb vb A5 c5 A4 c4 W L5.out (c_later I12.out h) L4.out (c_later K12.out h))
  have SZ := Lib.hid (fun (W : World) (h : Below w12.heap.size w12 W) => size_calls va A3 c3 W (by rw [va_sz]; decide) L3.out (c_later J12.out h))
  have DP := Lib.hid (fun (W : World) (h : Below w12.heap.size w12 W) => deep_calls vb A4 c4 W (by rw [vb_sz]; decide) L4.out (c_later K12.out h))
  have SN := Lib.hid (fun (W : World) (h : Below w12.heap.size w12 W) => vsame_calls va vb A3 c3 A4 c4 W L3.out (c_later J12.out h) L4.out (c_later K12.out h))
  have qa := ba_self [91, 49, 44, 32, 45, 50, 93]
  have qb := ba_self [123, 116, 114, 117, 101, 44, 32, 91, 93, 125]
  rw [va_txt] at TA
  rw [vb_txt] at TB
  rw [vbb] at SM
  rw [va_sz] at SZ
  rw [vb_dp] at DP
  rw [vab] at SN
  have qc := (Z12.out.below S0.out).cells; obtain ⟨mc0, mc1, mc2, fc0, fc1, fc2⟩ := qc
  have qb := (X12.out.below S0.out).cells; obtain ⟨mb0, mb1, mb2, fb0, fb1, fb2⟩ := qb
  have qa := (Y12.out.below S0.out).cells; obtain ⟨ma0, ma1, ma2, fa0, fa1, fa2⟩ := qa
  go_wp2_with fail
  refine (TA.out _ S0.out).mono ?_
  rintro e s0w1 ⟨rfl, hb⟩
  have S0n1 := Lib.hid (S0.out.trans (hb.mono S0.out.size))
  clear hb
  clear mc0 fc0 mc1 fc1 mc2 fc2 mb0 fb0 mb1 fb1 mb2 fb2 ma0 fa0 ma1 fa1 ma2 fa2
  have qc := (Z12.out.below S0n1.out).cells; obtain ⟨mc0, mc1, mc2, fc0, fc1, fc2⟩ := qc
  have qb := (X12.out.below S0n1.out).cells; obtain ⟨mb0, mb1, mb2, fb0, fb1, fb2⟩ := qb
  have qa := (Y12.out.below S0n1.out).cells; obtain ⟨ma0, ma1, ma2, fa0, fa1, fa2⟩ := qa
  go_wp2_with fail
  refine (TB.out _ S0n1.out).mono ?_
  rintro e s0w2 ⟨rfl, hb⟩
  have S0n2 := Lib.hid (S0n1.out.trans (hb.mono S0n1.out.size))
  clear hb
  clear mc0 fc0 mc1 fc1 mc2 fc2 mb0 fb0 mb1 fb1 mb2 fb2 ma0 fa0 ma1 fa1 ma2 fa2
  have qc := (Z12.out.below S0n2.out).cells; obtain ⟨mc0, mc1, mc2, fc0, fc1, fc2⟩ := qc
  have qb := (X12.out.below S0n2.out).cells; obtain ⟨mb0, mb1, mb2, fb0, fb1, fb2⟩ := qb
  have qa := (Y12.out.below S0n2.out).cells; obtain ⟨ma0, ma1, ma2, fa0, fa1, fa2⟩ := qa
  go_wp2_with fail
  refine (SM.out _ S0n2.out).mono ?_
  rintro e s0w3 ⟨rfl, hb⟩
  have S0n3 := Lib.hid (S0n2.out.trans (hb.mono S0n2.out.size))
  clear hb
  clear mc0 fc0 mc1 fc1 mc2 fc2 mb0 fb0 mb1 fb1 mb2 fb2 ma0 fa0 ma1 fa1 ma2 fa2
  have qc := (Z12.out.below S0n3.out).cells; obtain ⟨mc0, mc1, mc2, fc0, fc1, fc2⟩ := qc
  have qb := (X12.out.below S0n3.out).cells; obtain ⟨mb0, mb1, mb2, fb0, fb1, fb2⟩ := qb
  have qa := (Y12.out.below S0n3.out).cells; obtain ⟨ma0, ma1, ma2, fa0, fa1, fa2⟩ := qa
  go_wp2_with fail
  refine (SZ.out _ S0n3.out).mono ?_
  rintro e s0w4 ⟨rfl, hb⟩
  have S0n4 := Lib.hid (S0n3.out.trans (hb.mono S0n3.out.size))
  clear hb
  clear mc0 fc0 mc1 fc1 mc2 fc2 mb0 fb0 mb1 fb1 mb2 fb2 ma0 fa0 ma1 fa1 ma2 fa2
  have qc := (Z12.out.below S0n4.out).cells; obtain ⟨mc0, mc1, mc2, fc0, fc1, fc2⟩ := qc
  have qb := (X12.out.below S0n4.out).cells; obtain ⟨mb0, mb1, mb2, fb0, fb1, fb2⟩ := qb
  have qa := (Y12.out.below S0n4.out).cells; obtain ⟨ma0, ma1, ma2, fa0, fa1, fa2⟩ := qa
  go_wp2_with fail
  refine (DP.out _ S0n4.out).mono ?_
  rintro e s0w5 ⟨rfl, hb⟩
  have S0n5 := Lib.hid (S0n4.out.trans (hb.mono S0n4.out.size))
  clear hb
  clear mc0 fc0 mc1 fc1 mc2 fc2 mb0 fb0 mb1 fb1 mb2 fb2 ma0 fa0 ma1 fa1 ma2 fa2
  have qc := (Z12.out.below S0n5.out).cells; obtain ⟨mc0, mc1, mc2, fc0, fc1, fc2⟩ := qc
  have qb := (X12.out.below S0n5.out).cells; obtain ⟨mb0, mb1, mb2, fb0, fb1, fb2⟩ := qb
  have qa := (Y12.out.below S0n5.out).cells; obtain ⟨ma0, ma1, ma2, fa0, fa1, fa2⟩ := qa
  go_wp2_with fail
  refine (SN.out _ S0n5.out).mono ?_
  rintro e s0w6 ⟨rfl, hb⟩
  have S0n6 := Lib.hid (S0n5.out.trans (hb.mono S0n5.out.size))
  clear hb
  clear mc0 fc0 mc1 fc1 mc2 fc2 mb0 fb0 mb1 fb1 mb2 fb2 ma0 fa0 ma1 fa1 ma2 fa2
  have qc := (Z12.out.below S0n6.out).cells; obtain ⟨mc0, mc1, mc2, fc0, fc1, fc2⟩ := qc
  have qb := (X12.out.below S0n6.out).cells; obtain ⟨mb0, mb1, mb2, fb0, fb1, fb2⟩ := qb
  have qa := (Y12.out.below S0n6.out).cells; obtain ⟨ma0, ma1, ma2, fa0, fa1, fa2⟩ := qa
  go_wp2_with fail
  go_ret
  exact ⟨rfl, B12.out.trans (S0n6.out.mono B12.out.size)⟩
end Go.Proofs.YtfofpammnfcmiaaDoor.Vl
namespace Go.Proofs.YtfofpammnfcmiaaDoor.Vl
open Go.RowKit Go.Proofs.YtfofpammnfcmiaaDoorW.PrintWords Go.Proofs.YtfofpammnfcmiaaDoorW.PrintLast Go.Proofs.YtfofpammnfcmiaaDoorW.PrintMore Go.Proofs.YtfofpammnfcmiaaDoor.Kinds Go.Proofs.YtfofpammnfcmiaaDoor.Obj
set_option linter.unusedVariables false
set_option linter.unusedSimpArgs false
set_option maxRecDepth 100000
open Go.Proofs.YtfofpammnfcmiaaDoor.E
open PV (IsS107 info67)
def t11T : Bool × List (List Nat × List Nat) := (true, [([], []), ([0], [0]), ([1], [1]), ([2, 1], [2]), ([3], [3]), ([4, 3, 3], [3, 4]), ([3], [3]), ([6, 5, 3], [3, 6]), ([5, 7, 3], [3, 5, 7]), ([3], [3]), ([3], [3]), ([9, 10, 7, 3], [3, 9, 10]), ([8, 11, 3], [3, 8, 11]), ([3, 12], [3, 12]), ([13, 11, 0, 1, 2, 3, 4, 5, 6, 7, 8, 9, 10, 11, 12, 13], [13])])
def b11B : List Nat := [0, 1, 3, 7, 15, 31, 15, 79, 255, 15, 15, 1551, 4095, 8191, 16383]
theorem t11 : rtab .any (opsOf Tryd.f12 11) = t11T := by kernel_rfl
theorem b11 : waitsOk t11T.2 b11B = true := by kernel_rfl
theorem text_same (x y : S67) (hx : Good x) (hy : Good y) : ((ba (txt x)).toList == (ba (txt y)).toList) = same x y := by
  rw [ByteArray.toList_eq, ByteArray.toList_eq]
  show (txt x == txt y) = _
  cases h : same x y with
  | true => rw [(same_iff _ _).1 h]; exact beq_self_eq_true _
  | false =>
    rw [beq_eq_false_iff_ne]
    intro h2
    rw [txt_inj hx hy h2, (same_iff y y).2 rfl] at h
    cases h
theorem ba_data (s : ByteArray) {l : List UInt8} (h : l = s.data.toList) : ba l = s := by subst h; rfl
def z67 : S67 := ⟨0, 0, []⟩
theorem txt_fits (x : S67) (h : sz x ≤ 300) (hw : Wv x) : (ba (txt x)).size ≤ 1048576 := by
  rw [ba_size]; have := txt_len _ x (Nat.le_refl _) hw; omega
set_option maxHeartbeats 16000000 in
theorem reads_walk (x y : S67) (A : Option Addr) (c : Nat) (A2 : Option Addr) (c2 : Nat) (s : ByteArray) (w : World) (hx : sz x ≤ 1048576) (hwx : Wv x) (h1 : x.f2.length ≤ c) (h2 : Kd.C k67 w A x.f2.length x.f2) (hy : sz y ≤ 1048576) (hwy : Wv y) (h3 : y.f2.length ≤ c2) (h4 : Kd.C k67 w A2 y.f2.length y.f2) (hP : Pow w) (hE : Errs w) :
    Calls Tryd.prog 12 #[v67 x.f0 x.f1 A x.f2.length c, v67 y.f0 y.f1 A2 y.f2.length c2, .string s] w fun e w' => e = .returned (.bool true) ∧ Below w.heap.size w w' := by
  have hu67 := Tryd.underlying67
  obtain ⟨g3, hg3⟩ : ∃ g, w.heap.size = g := ⟨_, rfl⟩
  obtain ⟨g4, hg4⟩ : ∃ g, w.heap.size + 1 = g := ⟨_, rfl⟩
  have G := Lib.hid (show ∃ w1 : World, (w.alloc (.cells #[.int .i64 x.f0, .int .i64 x.f1, .slice A x.f2.length c] 67)).alloc (.cells #[.int .i64 y.f0, .int .i64 y.f1, .slice A2 y.f2.length c2] 67) = w1 ∧ Bx w1 g3 x.f0 x.f1 (.slice A x.f2.length c) ∧ Bx w1 g4 y.f0 y.f1 (.slice A2 y.f2.length c2) ∧ Below w.heap.size w w1 from
    ⟨_, rfl, by rw [← hg3]; exact blk_alloc (blk_new w _) _, by
      rw [← hg4]
      have := blk_new (w.alloc (.cells #[.int .i64 x.f0, .int .i64 x.f1, .slice A x.f2.length c] 67)) (.cells #[.int .i64 y.f0, .int .i64 y.f1, .slice A2 y.f2.length c2] 67)
      rw [show (w.alloc (.cells #[.int .i64 x.f0, .int .i64 x.f1, .slice A x.f2.length c] 67)).heap.size = w.heap.size + 1 by simp] at this
      exact this, below_alloc (below_alloc (Below.refl _ _) _) _⟩)
  have WO := Lib.hid (fun (W : World) (h : Below w.heap.size w W) => works_is W (hP.below h) (hE.below h))
  have SX := Lib.hid (fun (W : World) (h : Below w.heap.size w W) => small_calls x A c W hx h1 (c_later h2 h))
  have SY := Lib.hid (fun (W : World) (h : Below w.heap.size w W) => small_calls y A2 c2 W hy h3 (c_later h4 h))
  have RX := Lib.hid (fun (W : World) (h : Below w.heap.size w W) => rright_calls x A c W hx h1 (c_later h2 h))
  have RY := Lib.hid (fun (W : World) (h : Below w.heap.size w W) => rright_calls y A2 c2 W hy h3 (c_later h4 h))
  have TX := Lib.hid (fun (W : World) (h : Below w.heap.size w W) => vtext_calls x A c W hx hwx h1 (c_later h2 h) (hP.below h))
  have TY := Lib.hid (fun (W : World) (h : Below w.heap.size w W) => vtext_calls y A2 c2 W hy hwy h3 (c_later h4 h) (hP.below h))
  have SXY := Lib.hid (fun (W : World) (h : Below w.heap.size w W) => rsame_calls x y A c A2 c2 W h1 (c_later h2 h) h3 (c_later h4 h))
  have SZX := Lib.hid (fun (W : World) (B : Option Addr) (d : Nat) (h : Below w.heap.size w W) (l : x.f2.length ≤ d) (k : Kd.C k67 W B x.f2.length x.f2) => rsame_calls x x B d A c W l k h1 (c_later h2 h))
  have RD := Lib.hid (fun (W : World) (q : ByteArray) (hq : q.size ≤ 1048576) (h : Below w.heap.size w W) => read_calls q W hq (hP.below h) (hE.below h))
  rw [(same_iff x x).2 rfl] at SZX
  have HWX := Lib.hid hwx; have HWY := Lib.hid hwy; have HG3 := Lib.hid hg3; have HG4 := Lib.hid hg4
  clear hx hwx h1 h2 hy hwy h3 h4 hP hE hg3 hg4
  go_enter Tryd.func12, Tryd.ntmps12
  go_upto_region 1 with (fail)
  rw [HG4.out, HG3.out]
  obtain ⟨w1, hw1, x3, x4, b1⟩ := G.out
  rw [hw1]
  have X3 := Lib.hid x3; have X4 := Lib.hid x4; have B0 := Lib.hid b1
  clear G hw1 x3 x4 b1
  have S0 := Lib.hid (Below.refl w1.heap.size w1)
  by_cases hb : sz x > 300
  · rw [if_pos hb] at SX
    have q3 := (X3.out.below S0.out).cells; obtain ⟨m30, m31, m32, f30, f31, f32⟩ := q3
    have q4 := (X4.out.below S0.out).cells; obtain ⟨m40, m41, m42, f40, f41, f42⟩ := q4
    go_wp2_with fail
    refine (WO.out _ (B0.out.trans (S0.out.mono B0.out.size))).mono ?_
    rintro e s0w1 ⟨rfl, hb⟩
    have S0n1 := Lib.hid (S0.out.trans (hb.mono S0.out.size))
    clear hb
    clear m30 f30 m31 f31 m32 f32 m40 f40 m41 f41 m42 f42
    have q3 := (X3.out.below S0n1.out).cells; obtain ⟨m30, m31, m32, f30, f31, f32⟩ := q3
    have q4 := (X4.out.below S0n1.out).cells; obtain ⟨m40, m41, m42, f40, f41, f42⟩ := q4
    go_wp2_with fail
    refine (SX.out _ (B0.out.trans (S0n1.out.mono B0.out.size))).mono ?_
    rintro e s0w2 ⟨rfl, hb⟩
    have S0n2 := Lib.hid (S0n1.out.trans (hb.mono S0n1.out.size))
    clear hb
    clear m30 f30 m31 f31 m32 f32 m40 f40 m41 f41 m42 f42
    have q3 := (X3.out.below S0n2.out).cells; obtain ⟨m30, m31, m32, f30, f31, f32⟩ := q3
    have q4 := (X4.out.below S0n2.out).cells; obtain ⟨m40, m41, m42, f40, f41, f42⟩ := q4
    go_wp2_with fail
    refine (WO.out _ (B0.out.trans (S0n2.out.mono B0.out.size))).mono ?_
    rintro e s0w3 ⟨rfl, hb⟩
    have S0n3 := Lib.hid (S0n2.out.trans (hb.mono S0n2.out.size))
    clear hb
    clear m30 f30 m31 f31 m32 f32 m40 f40 m41 f41 m42 f42
    have q3 := (X3.out.below S0n3.out).cells; obtain ⟨m30, m31, m32, f30, f31, f32⟩ := q3
    have q4 := (X4.out.below S0n3.out).cells; obtain ⟨m40, m41, m42, f40, f41, f42⟩ := q4
    go_wp2_with fail
    go_ret
    exact ⟨rfl, B0.out.trans (S0n3.out.mono B0.out.size)⟩
  rw [if_neg hb] at SX
  have HZX := Lib.hid hb
  clear hb
  by_cases hb : sz y > 300
  · rw [if_pos hb] at SY
    have q3 := (X3.out.below S0.out).cells; obtain ⟨m30, m31, m32, f30, f31, f32⟩ := q3
    have q4 := (X4.out.below S0.out).cells; obtain ⟨m40, m41, m42, f40, f41, f42⟩ := q4
    go_wp2_with fail
    refine (WO.out _ (B0.out.trans (S0.out.mono B0.out.size))).mono ?_
    rintro e s0w1 ⟨rfl, hb⟩
    have S0n1 := Lib.hid (S0.out.trans (hb.mono S0.out.size))
    clear hb
    clear m30 f30 m31 f31 m32 f32 m40 f40 m41 f41 m42 f42
    have q3 := (X3.out.below S0n1.out).cells; obtain ⟨m30, m31, m32, f30, f31, f32⟩ := q3
    have q4 := (X4.out.below S0n1.out).cells; obtain ⟨m40, m41, m42, f40, f41, f42⟩ := q4
    go_wp2_with fail
    refine (SX.out _ (B0.out.trans (S0n1.out.mono B0.out.size))).mono ?_
    rintro e s0w2 ⟨rfl, hb⟩
    have S0n2 := Lib.hid (S0n1.out.trans (hb.mono S0n1.out.size))
    clear hb
    clear m30 f30 m31 f31 m32 f32 m40 f40 m41 f41 m42 f42
    have q3 := (X3.out.below S0n2.out).cells; obtain ⟨m30, m31, m32, f30, f31, f32⟩ := q3
    have q4 := (X4.out.below S0n2.out).cells; obtain ⟨m40, m41, m42, f40, f41, f42⟩ := q4
    go_wp2_with fail
    refine (SY.out _ (B0.out.trans (S0n2.out.mono B0.out.size))).mono ?_
    rintro e s0w3 ⟨rfl, hb⟩
    have S0n3 := Lib.hid (S0n2.out.trans (hb.mono S0n2.out.size))
    clear hb
    clear m30 f30 m31 f31 m32 f32 m40 f40 m41 f41 m42 f42
    have q3 := (X3.out.below S0n3.out).cells; obtain ⟨m30, m31, m32, f30, f31, f32⟩ := q3
    have q4 := (X4.out.below S0n3.out).cells; obtain ⟨m40, m41, m42, f40, f41, f42⟩ := q4
    go_wp2_with fail
    refine (WO.out _ (B0.out.trans (S0n3.out.mono B0.out.size))).mono ?_
    rintro e s0w4 ⟨rfl, hb⟩
    have S0n4 := Lib.hid (S0n3.out.trans (hb.mono S0n3.out.size))
    clear hb
    clear m30 f30 m31 f31 m32 f32 m40 f40 m41 f41 m42 f42
    have q3 := (X3.out.below S0n4.out).cells; obtain ⟨m30, m31, m32, f30, f31, f32⟩ := q3
    have q4 := (X4.out.below S0n4.out).cells; obtain ⟨m40, m41, m42, f40, f41, f42⟩ := q4
    go_wp2_with fail
    go_ret
    exact ⟨rfl, B0.out.trans (S0n4.out.mono B0.out.size)⟩
  rw [if_neg hb] at SY
  have HZY := Lib.hid hb
  clear hb
  by_cases he : 300 < s.size
  · have p1 : decide ((300 : Int) < (s.size : Int)) = true := decide_eq_true (by omega)
    have q3 := (X3.out.below S0.out).cells; obtain ⟨m30, m31, m32, f30, f31, f32⟩ := q3
    have q4 := (X4.out.below S0.out).cells; obtain ⟨m40, m41, m42, f40, f41, f42⟩ := q4
    go_wp2_with fail
    refine (WO.out _ (B0.out.trans (S0.out.mono B0.out.size))).mono ?_
    rintro e s0w1 ⟨rfl, hb⟩
    have S0n1 := Lib.hid (S0.out.trans (hb.mono S0.out.size))
    clear hb
    clear m30 f30 m31 f31 m32 f32 m40 f40 m41 f41 m42 f42
    have q3 := (X3.out.below S0n1.out).cells; obtain ⟨m30, m31, m32, f30, f31, f32⟩ := q3
    have q4 := (X4.out.below S0n1.out).cells; obtain ⟨m40, m41, m42, f40, f41, f42⟩ := q4
    go_wp2_with fail
    refine (SX.out _ (B0.out.trans (S0n1.out.mono B0.out.size))).mono ?_
    rintro e s0w2 ⟨rfl, hb⟩
    have S0n2 := Lib.hid (S0n1.out.trans (hb.mono S0n1.out.size))
    clear hb
    clear m30 f30 m31 f31 m32 f32 m40 f40 m41 f41 m42 f42
    have q3 := (X3.out.below S0n2.out).cells; obtain ⟨m30, m31, m32, f30, f31, f32⟩ := q3
    have q4 := (X4.out.below S0n2.out).cells; obtain ⟨m40, m41, m42, f40, f41, f42⟩ := q4
    go_wp2_with fail
    refine (SY.out _ (B0.out.trans (S0n2.out.mono B0.out.size))).mono ?_
    rintro e s0w3 ⟨rfl, hb⟩
    have S0n3 := Lib.hid (S0n2.out.trans (hb.mono S0n2.out.size))
    clear hb
    clear m30 f30 m31 f31 m32 f32 m40 f40 m41 f41 m42 f42
    have q3 := (X3.out.below S0n3.out).cells; obtain ⟨m30, m31, m32, f30, f31, f32⟩ := q3
    have q4 := (X4.out.below S0n3.out).cells; obtain ⟨m40, m41, m42, f40, f41, f42⟩ := q4
    go_wp2_with fail
    refine (WO.out _ (B0.out.trans (S0n3.out.mono B0.out.size))).mono ?_
    rintro e s0w4 ⟨rfl, hb⟩
    have S0n4 := Lib.hid (S0n3.out.trans (hb.mono S0n3.out.size))
    clear hb
    clear m30 f30 m31 f31 m32 f32 m40 f40 m41 f41 m42 f42
    have q3 := (X3.out.below S0n4.out).cells; obtain ⟨m30, m31, m32, f30, f31, f32⟩ := q3
    have q4 := (X4.out.below S0n4.out).cells; obtain ⟨m40, m41, m42, f40, f41, f42⟩ := q4
    go_wp2_with fail
    go_ret
    exact ⟨rfl, B0.out.trans (S0n4.out.mono B0.out.size)⟩
  have p1 : decide ((300 : Int) < (s.size : Int)) = false := decide_eq_false (by omega)
  obtain ⟨⟨v, er⟩, hr⟩ : ∃ r, readS s.data.toList = r := ⟨_, rfl⟩
  have RS := Lib.hid (fun (W : World) (h : Below w.heap.size w W) => RD.out W s (by omega) h)
  rw [hr] at RS
  have H2 := Lib.hid (readS_two s.data.toList)
  rw [hr] at H2
  clear hr
  have q3 := (X3.out.below S0.out).cells; obtain ⟨m30, m31, m32, f30, f31, f32⟩ := q3
  have q4 := (X4.out.below S0.out).cells; obtain ⟨m40, m41, m42, f40, f41, f42⟩ := q4
  go_wp2_with fail
  refine (WO.out _ (B0.out.trans (S0.out.mono B0.out.size))).mono ?_
  rintro e s0w1 ⟨rfl, hb⟩
  have S0n1 := Lib.hid (S0.out.trans (hb.mono S0.out.size))
  clear hb
  clear m30 f30 m31 f31 m32 f32 m40 f40 m41 f41 m42 f42
  have q3 := (X3.out.below S0n1.out).cells; obtain ⟨m30, m31, m32, f30, f31, f32⟩ := q3
  have q4 := (X4.out.below S0n1.out).cells; obtain ⟨m40, m41, m42, f40, f41, f42⟩ := q4
  go_wp2_with fail
  refine (SX.out _ (B0.out.trans (S0n1.out.mono B0.out.size))).mono ?_
  rintro e s0w2 ⟨rfl, hb⟩
  have S0n2 := Lib.hid (S0n1.out.trans (hb.mono S0n1.out.size))
  clear hb
  clear m30 f30 m31 f31 m32 f32 m40 f40 m41 f41 m42 f42
  have q3 := (X3.out.below S0n2.out).cells; obtain ⟨m30, m31, m32, f30, f31, f32⟩ := q3
  have q4 := (X4.out.below S0n2.out).cells; obtain ⟨m40, m41, m42, f40, f41, f42⟩ := q4
  go_wp2_with fail
  refine (SY.out _ (B0.out.trans (S0n2.out.mono B0.out.size))).mono ?_
  rintro e s0w3 ⟨rfl, hb⟩
  have S0n3 := Lib.hid (S0n2.out.trans (hb.mono S0n2.out.size))
  clear hb
  clear m30 f30 m31 f31 m32 f32 m40 f40 m41 f41 m42 f42
  have q3 := (X3.out.below S0n3.out).cells; obtain ⟨m30, m31, m32, f30, f31, f32⟩ := q3
  have q4 := (X4.out.below S0n3.out).cells; obtain ⟨m40, m41, m42, f40, f41, f42⟩ := q4
  go_wp2_with fail
  skip
  refine (RS.out _ (B0.out.trans (S0n3.out.mono B0.out.size))).mono ?_
  rintro e w5 ⟨u, rfl, ru, hb⟩
  obtain ⟨A5, c5, rfl, l5, h5⟩ := r_reads ru
  have L5 := Lib.hid l5
  have B5 := Lib.hid (S0n3.out.trans (hb.mono S0n3.out.size))
  have H5 := Lib.hid h5
  clear hb l5 h5 ru
  clear m30 f30 m31 f31 m32 f32 m40 f40 m41 f41 m42 f42
  go_upto_region 4 with (fail)
  obtain ⟨g7, hg7⟩ : ∃ b, w5.heap.size = b := ⟨_, rfl⟩
  obtain ⟨w6, hw6, x7, k6, y3, y4, b6⟩ : ∃ w6 : World, w5.alloc (.cells #[.int .i64 v.f0, .int .i64 v.f1, .slice A5 v.f2.length c5] 67) = w6 ∧ Bx w6 g7 v.f0 v.f1 (.slice A5 v.f2.length c5) ∧ Kd.C k67 w6 A5 v.f2.length v.f2 ∧ Bx w6 g3 x.f0 x.f1 (.slice A x.f2.length c) ∧ Bx w6 g4 y.f0 y.f1 (.slice A2 y.f2.length c2) ∧ Below w.heap.size w w6 :=
    ⟨_, rfl, by rw [← hg7]; exact blk_new w5 _, c_later H5.out (below_alloc (Below.refl _ _) _), (X3.out.below B5.out).alloc _, (X4.out.below B5.out).alloc _, below_alloc (B0.out.trans (B5.out.mono B0.out.size)) _⟩
  rw [hg7, hw6]
  clear X3 X4 H5 B5 B0
  have X7 := Lib.hid x7; have K6 := Lib.hid k6; have X3 := Lib.hid y3; have X4 := Lib.hid y4; have B0 := Lib.hid b6
  clear hg7 hw6 x7 k6 y3 y4 b6
  have T0 := Lib.hid (Below.refl w6.heap.size w6)
  rcases H2.out with h | h
  · obtain ⟨rfl, hg, ht⟩ := h
    have hvz : sz v ≤ 1048576 := by
      have h1 := sz_txt _ v (Nat.le_refl _) hg.1
      have h2 := congrArg List.length ht
      have h3 : s.data.toList.length = s.size := rfl
      omega
    have HGV := Lib.hid hg; have HTV := Lib.hid ht
    have RV := Lib.hid (fun (W : World) (h : Below w6.heap.size w6 W) => rright_calls v A5 c5 W hvz L5.out (c_later K6.out h))
    have TV := Lib.hid (fun (W : World) (h : Below w6.heap.size w6 W) => rtext_calls v A5 c5 W hvz hg.2 hg.1 L5.out (c_later K6.out h))
    rw [hg.1] at RV
    rw [ba_data s ht] at TV
    clear hg ht hvz
    have q3 := (X3.out.below T0.out).cells; obtain ⟨m30, m31, m32, f30, f31, f32⟩ := q3
    have q4 := (X4.out.below T0.out).cells; obtain ⟨m40, m41, m42, f40, f41, f42⟩ := q4
    have q7 := (X7.out.below T0.out).cells; obtain ⟨m70, m71, m72, f70, f71, f72⟩ := q7
    go_wp2_with fail
    refine (RV.out _ T0.out).mono ?_
    rintro e t0w1 ⟨rfl, hb⟩
    have T0n1 := Lib.hid (T0.out.trans (hb.mono T0.out.size))
    clear hb
    clear m30 f30 m31 f31 m32 f32 m40 f40 m41 f41 m42 f42 m70 f70 m71 f71 m72 f72
    have q3 := (X3.out.below T0n1.out).cells; obtain ⟨m30, m31, m32, f30, f31, f32⟩ := q3
    have q4 := (X4.out.below T0n1.out).cells; obtain ⟨m40, m41, m42, f40, f41, f42⟩ := q4
    have q7 := (X7.out.below T0n1.out).cells; obtain ⟨m70, m71, m72, f70, f71, f72⟩ := q7
    go_wp2_with fail
    refine (TV.out _ T0n1.out).mono ?_
    rintro e t0w2 ⟨rfl, hb⟩
    have T0n2 := Lib.hid (T0n1.out.trans (hb.mono T0n1.out.size))
    clear hb
    clear m30 f30 m31 f31 m32 f32 m40 f40 m41 f41 m42 f42 m70 f70 m71 f71 m72 f72
    have q3 := (X3.out.below T0n2.out).cells; obtain ⟨m30, m31, m32, f30, f31, f32⟩ := q3
    have q4 := (X4.out.below T0n2.out).cells; obtain ⟨m40, m41, m42, f40, f41, f42⟩ := q4
    have q7 := (X7.out.below T0n2.out).cells; obtain ⟨m70, m71, m72, f70, f71, f72⟩ := q7
    go_wp2_with fail
    cases hrx : right x with
    | false =>
      rw [hrx] at RX
      refine (RX.out _ (B0.out.trans (T0n2.out.mono B0.out.size))).mono ?_
      rintro e t0w3 ⟨rfl, hb⟩
      have T0n3 := Lib.hid (T0n2.out.trans (hb.mono T0n2.out.size))
      clear hb
      clear m30 f30 m31 f31 m32 f32 m40 f40 m41 f41 m42 f42 m70 f70 m71 f71 m72 f72
      have q3 := (X3.out.below T0n3.out).cells; obtain ⟨m30, m31, m32, f30, f31, f32⟩ := q3
      have q4 := (X4.out.below T0n3.out).cells; obtain ⟨m40, m41, m42, f40, f41, f42⟩ := q4
      have q7 := (X7.out.below T0n3.out).cells; obtain ⟨m70, m71, m72, f70, f71, f72⟩ := q7
      go_wp2_with fail
      go_ret
      exact ⟨rfl, B0.out.trans (T0n3.out.mono B0.out.size)⟩
    | true =>
      rw [hrx] at RX
      have HX := Lib.hid (show Good x from ⟨hrx, HWX.out⟩)
      have hte : textV x = txt x := if_pos hrx
      rw [hte] at TX
      have RT := Lib.hid (fun (W : World) (h : Below w.heap.size w W) => RD.out W (ba (txt x)) (txt_fits x (by have := HZX.out; omega) HWX.out) h)
      rw [show (ba (txt x)).data.toList = txt x from rfl, readS_txt x HX.out] at RT
      clear hrx hte
      refine (RX.out _ (B0.out.trans (T0n2.out.mono B0.out.size))).mono ?_
      rintro e t0w3 ⟨rfl, hb⟩
      have T0n3 := Lib.hid (T0n2.out.trans (hb.mono T0n2.out.size))
      clear hb
      clear m30 f30 m31 f31 m32 f32 m40 f40 m41 f41 m42 f42 m70 f70 m71 f71 m72 f72
      have q3 := (X3.out.below T0n3.out).cells; obtain ⟨m30, m31, m32, f30, f31, f32⟩ := q3
      have q4 := (X4.out.below T0n3.out).cells; obtain ⟨m40, m41, m42, f40, f41, f42⟩ := q4
      have q7 := (X7.out.below T0n3.out).cells; obtain ⟨m70, m71, m72, f70, f71, f72⟩ := q7
      go_wp2_with fail
      refine (TX.out _ (B0.out.trans (T0n3.out.mono B0.out.size))).mono ?_
      rintro e t0w4 ⟨rfl, hb⟩
      have T0n4 := Lib.hid (T0n3.out.trans (hb.mono T0n3.out.size))
      clear hb
      clear m30 f30 m31 f31 m32 f32 m40 f40 m41 f41 m42 f42 m70 f70 m71 f71 m72 f72
      have q3 := (X3.out.below T0n4.out).cells; obtain ⟨m30, m31, m32, f30, f31, f32⟩ := q3
      have q4 := (X4.out.below T0n4.out).cells; obtain ⟨m40, m41, m42, f40, f41, f42⟩ := q4
      have q7 := (X7.out.below T0n4.out).cells; obtain ⟨m70, m71, m72, f70, f71, f72⟩ := q7
      go_wp2_with fail
      refine (RT.out _ (B0.out.trans (T0n4.out.mono B0.out.size))).mono ?_
      rintro e w8 ⟨u, rfl, ru, hb⟩
      obtain ⟨A9, c9, rfl, l9, h9⟩ := r_reads ru
      have L9 := Lib.hid l9
      have B8 := Lib.hid (T0n4.out.trans (hb.mono T0n4.out.size))
      have H9 := Lib.hid h9
      clear hb l9 h9 ru
      clear m30 f30 m31 f31 m32 f32 m40 f40 m41 f41 m42 f42 m70 f70 m71 f71 m72 f72
      go_upto_region 9 with (fail)
      obtain ⟨g9, hg9⟩ : ∃ b, w8.heap.size = b := ⟨_, rfl⟩
      obtain ⟨w9, hw9, x9, k9, y3, y4, b9⟩ : ∃ w9 : World, w8.alloc (.cells #[.int .i64 x.f0, .int .i64 x.f1, .slice A9 x.f2.length c9] 67) = w9 ∧ Bx w9 g9 x.f0 x.f1 (.slice A9 x.f2.length c9) ∧ Kd.C k67 w9 A9 x.f2.length x.f2 ∧ Bx w9 g3 x.f0 x.f1 (.slice A x.f2.length c) ∧ Bx w9 g4 y.f0 y.f1 (.slice A2 y.f2.length c2) ∧ Below w.heap.size w w9 :=
        ⟨_, rfl, by rw [← hg9]; exact blk_new w8 _, c_later H9.out (below_alloc (Below.refl _ _) _), (X3.out.below B8.out).alloc _, (X4.out.below B8.out).alloc _, below_alloc (B0.out.trans (B8.out.mono B0.out.size)) _⟩
      rw [hg9, hw9]
      clear X3 X4 X7 H9 B8 B0
      have X9 := Lib.hid x9; have K9 := Lib.hid k9; have X3 := Lib.hid y3; have X4 := Lib.hid y4; have B0 := Lib.hid b9
      clear hg9 hw9 x9 k9 y3 y4 b9
      have U0 := Lib.hid (Below.refl w9.heap.size w9)
      have q3 := (X3.out.below U0.out).cells; obtain ⟨m30, m31, m32, f30, f31, f32⟩ := q3
      have q4 := (X4.out.below U0.out).cells; obtain ⟨m40, m41, m42, f40, f41, f42⟩ := q4
      have q9 := (X9.out.below U0.out).cells; obtain ⟨m90, m91, m92, f90, f91, f92⟩ := q9
      go_wp2_with fail
      refine (SZX.out _ A9 c9 (B0.out.trans (U0.out.mono B0.out.size)) L9.out (c_later K9.out U0.out)).mono ?_
      rintro e u0w1 ⟨rfl, hb⟩
      have U0n1 := Lib.hid (U0.out.trans (hb.mono U0.out.size))
      clear hb
      clear m30 f30 m31 f31 m32 f32 m40 f40 m41 f41 m42 f42 m90 f90 m91 f91 m92 f92
      have q3 := (X3.out.below U0n1.out).cells; obtain ⟨m30, m31, m32, f30, f31, f32⟩ := q3
      have q4 := (X4.out.below U0n1.out).cells; obtain ⟨m40, m41, m42, f40, f41, f42⟩ := q4
      have q9 := (X9.out.below U0n1.out).cells; obtain ⟨m90, m91, m92, f90, f91, f92⟩ := q9
      go_upto_region 11 with (fail)
      have E0 := Lib.hid (B0.out.trans (U0n1.out.mono B0.out.size))
      cases hry : right y with
      | true =>
        rw [hry] at RY
        have HY := Lib.hid (show Good y from ⟨hry, HWY.out⟩)
        have hty : textV y = txt y := if_pos hry
        rw [hty] at TY
        have qe := text_same x y HX.out HY.out
        clear hty
        clear hry
        refine start_ (n := 15) (S := fun w' => w'.cell? ⟨g3, 0, none⟩ = some (.int .i64 x.f0) ∧ w'.cell? ⟨g3, 1, none⟩ = some (.int .i64 x.f1) ∧ w'.cell? ⟨g3, 2, none⟩ = some (.slice A x.f2.length c) ∧ w'.cell? ⟨g4, 0, none⟩ = some (.int .i64 y.f0) ∧ w'.cell? ⟨g4, 1, none⟩ = some (.int .i64 y.f1) ∧ w'.cell? ⟨g4, 2, none⟩ = some (.slice A2 y.f2.length c2)) (ds := []) #[false, false, false, false, false, false, false, false, false, false, false, false, false, false, false] (by kernel_rfl) rfl rfl ⟨m30, m31, m32, m40, m41, m42⟩ (fun hHeld => ?_)
        refine with_tabW t11 b11 (fun HT_ HW_ => ?_)
        have D0 := Lib.hid (below_drew E0.out)
        generalize World.drew u0w1 = z0 at *
        clear m30 m31 m32 m40 m41 m42
        refine take_ (i := 0) (N := some 78) (v := ?_) (a' := ?_) #[true, false, false, false, false, false, false, false, false, false, false, false, false, false, false] rfl rfl (take_ofW HT_.out HW_.out (by kernel_rfl)) (fun _ _ _ h => h) (Or.inl ⟨by rfl, ?_⟩) hHeld ?_ ?_
        rotate_left
        · rintro w' ⟨s0, s1, s2, s3, s4, s5⟩
          go_simp
          with_reducible rfl
        rotate_left
        · simp only [Act.put, List.setIfInBounds_toArray, List.set_cons_zero, List.set_cons_succ, i64_w, i32_w]
          rfl
        refine one_ (i := 1) (N := some 79) #[true, true, false, false, false, false, false, false, false, false, false, false, false, false, false] rfl rfl (one_of HT_.out (by kernel_rfl)) (by decide) (fun K hK => ?_)
        refine goes_ Tryd.func43 (by kernel_rfl) rfl #[v67 y.f0 y.f1 A2 y.f2.length c2] (by rfl) rfl rfl (by (try simp only [List.map_toArray, List.map_cons, List.map_nil]); first | done | rfl) ?_
        refine (RY.out _ D0.out).mono ?_
        rintro e z1 ⟨rfl, hb⟩
        refine ⟨_, rfl, hK.out _ _ ⟨pw_cell_below hb hHeld.1, pw_cell_below hb hHeld.2.1, pw_cell_below hb hHeld.2.2.1, pw_cell_below hb hHeld.2.2.2.1, pw_cell_below hb hHeld.2.2.2.2.1, pw_cell_below hb hHeld.2.2.2.2.2⟩ (fun hHeld => ?_)⟩
        have D1 := Lib.hid (D0.out.trans (hb.mono D0.out.size))
        clear hb
        clear hK K
        refine norm_ (a' := ?_) ?_ ?_
        rotate_left
        · show Act.put _ (some 79) _ = _
          simp only [Act.put, List.setIfInBounds_toArray, List.set_cons_zero, List.set_cons_succ, i64_w, i32_w]
          rfl
        refine pure_ (i := 2) (N := some 80) (v := ?_) (a' := ?_) #[true, true, true, false, false, false, false, false, false, false, false, false, false, false, false] rfl rfl (any_of HT_.out (by kernel_rfl)) (fun _ _ _ h => h) (Or.inl ⟨by rfl, ?_⟩) ?_ ?_
        rotate_left
        · intro w'
          go_simp
          with_reducible rfl
        rotate_left
        · simp only [Act.put, List.setIfInBounds_toArray, List.set_cons_zero, List.set_cons_succ, i64_w, i32_w]
          rfl
        refine pure_ (i := 3) (N := some 81) (v := ?_) (a' := ?_) #[true, true, true, true, false, false, false, false, false, false, false, false, false, false, false] rfl rfl (any_of HT_.out (by kernel_rfl)) (fun _ _ _ h => h) (Or.inl ⟨by rfl, ?_⟩) ?_ ?_
        rotate_left
        · intro w'
          go_simp
          with_reducible rfl
        rotate_left
        · simp only [Act.put, List.setIfInBounds_toArray, List.set_cons_zero, List.set_cons_succ, i64_w, i32_w]
          rfl
        refine take_ (i := 4) (N := some 82) (v := ?_) (a' := ?_) #[true, true, true, true, true, false, false, false, false, false, false, false, false, false, false] rfl rfl (take_ofW HT_.out HW_.out (by kernel_rfl)) (fun _ _ _ h => h) (Or.inl ⟨by rfl, ?_⟩) hHeld ?_ ?_
        rotate_left
        · rintro w' ⟨s0, s1, s2, s3, s4, s5⟩
          go_simp
          with_reducible rfl
        rotate_left
        · simp only [Act.put, List.setIfInBounds_toArray, List.set_cons_zero, List.set_cons_succ, i64_w, i32_w]
          rfl
        refine take_ (i := 6) (N := some 84) (v := ?_) (a' := ?_) #[true, true, true, true, true, false, true, false, false, false, false, false, false, false, false] rfl rfl (take_ofW HT_.out HW_.out (by kernel_rfl)) (fun _ _ _ h => h) (Or.inl ⟨by rfl, ?_⟩) hHeld ?_ ?_
        rotate_left
        · rintro w' ⟨s0, s1, s2, s3, s4, s5⟩
          go_simp
          with_reducible rfl
        rotate_left
        · simp only [Act.put, List.setIfInBounds_toArray, List.set_cons_zero, List.set_cons_succ, i64_w, i32_w]
          rfl
        refine take_ (i := 9) (N := some 87) (v := ?_) (a' := ?_) #[true, true, true, true, true, false, true, false, false, true, false, false, false, false, false] rfl rfl (take_ofW HT_.out HW_.out (by kernel_rfl)) (fun _ _ _ h => h) (Or.inl ⟨by rfl, ?_⟩) hHeld ?_ ?_
        rotate_left
        · rintro w' ⟨s0, s1, s2, s3, s4, s5⟩
          go_simp
          with_reducible rfl
        rotate_left
        · simp only [Act.put, List.setIfInBounds_toArray, List.set_cons_zero, List.set_cons_succ, i64_w, i32_w]
          rfl
        refine take_ (i := 10) (N := some 88) (v := ?_) (a' := ?_) #[true, true, true, true, true, false, true, false, false, true, true, false, false, false, false] rfl rfl (take_ofW HT_.out HW_.out (by kernel_rfl)) (fun _ _ _ h => h) (Or.inl ⟨by rfl, ?_⟩) hHeld ?_ ?_
        rotate_left
        · rintro w' ⟨s0, s1, s2, s3, s4, s5⟩
          go_simp
          with_reducible rfl
        rotate_left
        · simp only [Act.put, List.setIfInBounds_toArray, List.set_cons_zero, List.set_cons_succ, i64_w, i32_w]
          rfl
        refine one_ (i := 5) (N := some 83) #[true, true, true, true, true, true, true, false, false, true, true, false, false, false, false] rfl rfl (one_of HT_.out (by kernel_rfl)) (by decide) (fun K hK => ?_)
        refine goes_ Tryd.func46 (by kernel_rfl) rfl #[v67 x.f0 x.f1 A x.f2.length c] (by rfl) rfl rfl (by (try simp only [List.map_toArray, List.map_cons, List.map_nil]); first | done | rfl) ?_
        refine (TX.out _ D1.out).mono ?_
        rintro e z2 ⟨rfl, hb⟩
        refine ⟨_, rfl, hK.out _ _ ⟨pw_cell_below hb hHeld.1, pw_cell_below hb hHeld.2.1, pw_cell_below hb hHeld.2.2.1, pw_cell_below hb hHeld.2.2.2.1, pw_cell_below hb hHeld.2.2.2.2.1, pw_cell_below hb hHeld.2.2.2.2.2⟩ (fun hHeld => ?_)⟩
        have D2 := Lib.hid (D1.out.trans (hb.mono D1.out.size))
        clear hb
        clear hK K
        refine norm_ (a' := ?_) ?_ ?_
        rotate_left
        · show Act.put _ (some 83) _ = _
          simp only [Act.put, List.setIfInBounds_toArray, List.set_cons_zero, List.set_cons_succ, i64_w, i32_w]
          rfl
        refine one_ (i := 7) (N := some 85) #[true, true, true, true, true, true, true, true, false, true, true, false, false, false, false] rfl rfl (one_of HT_.out (by kernel_rfl)) (by decide) (fun K hK => ?_)
        refine goes_ Tryd.func46 (by kernel_rfl) rfl #[v67 y.f0 y.f1 A2 y.f2.length c2] (by rfl) rfl rfl (by (try simp only [List.map_toArray, List.map_cons, List.map_nil]); first | done | rfl) ?_
        refine (TY.out _ D2.out).mono ?_
        rintro e z3 ⟨rfl, hb⟩
        refine ⟨_, rfl, hK.out _ _ ⟨pw_cell_below hb hHeld.1, pw_cell_below hb hHeld.2.1, pw_cell_below hb hHeld.2.2.1, pw_cell_below hb hHeld.2.2.2.1, pw_cell_below hb hHeld.2.2.2.2.1, pw_cell_below hb hHeld.2.2.2.2.2⟩ (fun hHeld => ?_)⟩
        have D3 := Lib.hid (D2.out.trans (hb.mono D2.out.size))
        clear hb
        clear hK K
        refine norm_ (a' := ?_) ?_ ?_
        rotate_left
        · show Act.put _ (some 85) _ = _
          simp only [Act.put, List.setIfInBounds_toArray, List.set_cons_zero, List.set_cons_succ, i64_w, i32_w]
          rfl
        refine pure_ (i := 8) (N := some 86) (v := ?_) (a' := ?_) #[true, true, true, true, true, true, true, true, true, true, true, false, false, false, false] rfl rfl (any_of HT_.out (by kernel_rfl)) (fun _ _ _ h => h) (Or.inl ⟨by rfl, ?_⟩) ?_ ?_
        rotate_left
        · intro w'
          go_simp
          with_reducible rfl
        rotate_left
        · simp only [Act.put, List.setIfInBounds_toArray, List.set_cons_zero, List.set_cons_succ, i64_w, i32_w]
          rfl
        refine one_ (i := 11) (N := some 89) #[true, true, true, true, true, true, true, true, true, true, true, true, false, false, false] rfl rfl (one_of HT_.out (by kernel_rfl)) (by decide) (fun K hK => ?_)
        refine goes_ Tryd.func45 (by kernel_rfl) rfl #[v67 x.f0 x.f1 A x.f2.length c, v67 y.f0 y.f1 A2 y.f2.length c2] (by rfl) rfl rfl (by (try simp only [List.map_toArray, List.map_cons, List.map_nil]); first | done | rfl) ?_
        refine (SXY.out _ D3.out).mono ?_
        rintro e z4 ⟨rfl, hb⟩
        refine ⟨_, rfl, hK.out _ _ ⟨pw_cell_below hb hHeld.1, pw_cell_below hb hHeld.2.1, pw_cell_below hb hHeld.2.2.1, pw_cell_below hb hHeld.2.2.2.1, pw_cell_below hb hHeld.2.2.2.2.1, pw_cell_below hb hHeld.2.2.2.2.2⟩ (fun hHeld => ?_)⟩
        have D4 := Lib.hid (D3.out.trans (hb.mono D3.out.size))
        clear hb
        clear hK K
        refine norm_ (a' := ?_) ?_ ?_
        rotate_left
        · show Act.put _ (some 89) _ = _
          simp only [Act.put, List.setIfInBounds_toArray, List.set_cons_zero, List.set_cons_succ, i64_w, i32_w]
          rfl
        refine pure_ (i := 12) (N := some 90) (v := ?_) (a' := ?_) #[true, true, true, true, true, true, true, true, true, true, true, true, true, false, false] rfl rfl (any_of HT_.out (by kernel_rfl)) (fun _ _ _ h => h) (Or.inl ⟨by rfl, ?_⟩) ?_ ?_
        rotate_left
        · intro w'
          go_simp
          with_reducible rfl
        rotate_left
        · simp only [Act.put, List.setIfInBounds_toArray, List.set_cons_zero, List.set_cons_succ, i64_w, i32_w]
          rfl
        refine pure_ (i := 13) (N := some 91) (v := ?_) (a' := ?_) #[true, true, true, true, true, true, true, true, true, true, true, true, true, true, false] rfl rfl (any_of HT_.out (by kernel_rfl)) (fun _ _ _ h => h) (Or.inl ⟨by rfl, ?_⟩) ?_ ?_
        rotate_left
        · intro w'
          go_simp
          with_reducible rfl
        rotate_left
        · simp only [Act.put, List.setIfInBounds_toArray, List.set_cons_zero, List.set_cons_succ, i64_w, i32_w]
          rfl
        refine pure_ (i := 14) (N := some 6) (v := ?_) (a' := ?_) #[true, true, true, true, true, true, true, true, true, true, true, true, true, true, true] rfl rfl (any_of HT_.out (by kernel_rfl)) (fun _ _ _ h => h) (Or.inl ⟨by rfl, ?_⟩) ?_ ?_
        rotate_left
        · intro w'
          go_simp
          with_reducible rfl
        rotate_left
        · simp only [Act.put, List.setIfInBounds_toArray, List.set_cons_zero, List.set_cons_succ, i64_w, i32_w]
          rfl
        refine done_ (done_of HT_.out (by kernel_rfl)) ?_
        go_wp2_with fail
        go_ret
        exact ⟨rfl, D4.out⟩
      | false =>
        rw [hry] at RY
        clear hry
        refine start_ (n := 15) (S := fun w' => w'.cell? ⟨g3, 0, none⟩ = some (.int .i64 x.f0) ∧ w'.cell? ⟨g3, 1, none⟩ = some (.int .i64 x.f1) ∧ w'.cell? ⟨g3, 2, none⟩ = some (.slice A x.f2.length c) ∧ w'.cell? ⟨g4, 0, none⟩ = some (.int .i64 y.f0) ∧ w'.cell? ⟨g4, 1, none⟩ = some (.int .i64 y.f1) ∧ w'.cell? ⟨g4, 2, none⟩ = some (.slice A2 y.f2.length c2)) (ds := []) #[false, false, false, false, false, false, false, false, false, false, false, false, false, false, false] (by kernel_rfl) rfl rfl ⟨m30, m31, m32, m40, m41, m42⟩ (fun hHeld => ?_)
        refine with_tabW t11 b11 (fun HT_ HW_ => ?_)
        have D0 := Lib.hid (below_drew E0.out)
        generalize World.drew u0w1 = z0 at *
        clear m30 m31 m32 m40 m41 m42
        refine take_ (i := 0) (N := some 78) (v := ?_) (a' := ?_) #[true, false, false, false, false, false, false, false, false, false, false, false, false, false, false] rfl rfl (take_ofW HT_.out HW_.out (by kernel_rfl)) (fun _ _ _ h => h) (Or.inl ⟨by rfl, ?_⟩) hHeld ?_ ?_
        rotate_left
        · rintro w' ⟨s0, s1, s2, s3, s4, s5⟩
          go_simp
          with_reducible rfl
        rotate_left
        · simp only [Act.put, List.setIfInBounds_toArray, List.set_cons_zero, List.set_cons_succ, i64_w, i32_w]
          rfl
        refine one_ (i := 1) (N := some 79) #[true, true, false, false, false, false, false, false, false, false, false, false, false, false, false] rfl rfl (one_of HT_.out (by kernel_rfl)) (by decide) (fun K hK => ?_)
        refine goes_ Tryd.func43 (by kernel_rfl) rfl #[v67 y.f0 y.f1 A2 y.f2.length c2] (by rfl) rfl rfl (by (try simp only [List.map_toArray, List.map_cons, List.map_nil]); first | done | rfl) ?_
        refine (RY.out _ D0.out).mono ?_
        rintro e z1 ⟨rfl, hb⟩
        refine ⟨_, rfl, hK.out _ _ ⟨pw_cell_below hb hHeld.1, pw_cell_below hb hHeld.2.1, pw_cell_below hb hHeld.2.2.1, pw_cell_below hb hHeld.2.2.2.1, pw_cell_below hb hHeld.2.2.2.2.1, pw_cell_below hb hHeld.2.2.2.2.2⟩ (fun hHeld => ?_)⟩
        have D1 := Lib.hid (D0.out.trans (hb.mono D0.out.size))
        clear hb
        clear hK K
        refine norm_ (a' := ?_) ?_ ?_
        rotate_left
        · show Act.put _ (some 79) _ = _
          simp only [Act.put, List.setIfInBounds_toArray, List.set_cons_zero, List.set_cons_succ, i64_w, i32_w]
          rfl
        refine pure_ (i := 2) (N := some 80) (v := ?_) (a' := ?_) #[true, true, true, false, false, false, false, false, false, false, false, false, false, false, false] rfl rfl (any_of HT_.out (by kernel_rfl)) (fun _ _ _ h => h) (Or.inl ⟨by rfl, ?_⟩) ?_ ?_
        rotate_left
        · intro w'
          go_simp
          with_reducible rfl
        rotate_left
        · simp only [Act.put, List.setIfInBounds_toArray, List.set_cons_zero, List.set_cons_succ, i64_w, i32_w]
          rfl
        refine pure_ (i := 3) (N := some 81) (v := ?_) (a' := ?_) #[true, true, true, true, false, false, false, false, false, false, false, false, false, false, false] rfl rfl (any_of HT_.out (by kernel_rfl)) (fun _ _ _ h => h) (Or.inl ⟨by rfl, ?_⟩) ?_ ?_
        rotate_left
        · intro w'
          go_simp
          with_reducible rfl
        rotate_left
        · simp only [Act.put, List.setIfInBounds_toArray, List.set_cons_zero, List.set_cons_succ, i64_w, i32_w]
          rfl
        refine pure_ (i := 4) (N := some 82) (v := undef) (a' := ?_) #[true, true, true, true, true, false, false, false, false, false, false, false, false, false, false] rfl rfl (any_of HT_.out (by kernel_rfl)) (fun _ _ _ h => h) (Or.inr ⟨by rfl, rfl⟩) ?_ ?_
        rotate_left
        · simp only [Act.put, List.setIfInBounds_toArray, List.set_cons_zero, List.set_cons_succ, i64_w, i32_w]
          rfl
        refine pure_ (i := 6) (N := some 84) (v := undef) (a' := ?_) #[true, true, true, true, true, false, true, false, false, false, false, false, false, false, false] rfl rfl (any_of HT_.out (by kernel_rfl)) (fun _ _ _ h => h) (Or.inr ⟨by rfl, rfl⟩) ?_ ?_
        rotate_left
        · simp only [Act.put, List.setIfInBounds_toArray, List.set_cons_zero, List.set_cons_succ, i64_w, i32_w]
          rfl
        refine pure_ (i := 9) (N := some 87) (v := undef) (a' := ?_) #[true, true, true, true, true, false, true, false, false, true, false, false, false, false, false] rfl rfl (any_of HT_.out (by kernel_rfl)) (fun _ _ _ h => h) (Or.inr ⟨by rfl, rfl⟩) ?_ ?_
        rotate_left
        · simp only [Act.put, List.setIfInBounds_toArray, List.set_cons_zero, List.set_cons_succ, i64_w, i32_w]
          rfl
        refine pure_ (i := 10) (N := some 88) (v := undef) (a' := ?_) #[true, true, true, true, true, false, true, false, false, true, true, false, false, false, false] rfl rfl (any_of HT_.out (by kernel_rfl)) (fun _ _ _ h => h) (Or.inr ⟨by rfl, rfl⟩) ?_ ?_
        rotate_left
        · simp only [Act.put, List.setIfInBounds_toArray, List.set_cons_zero, List.set_cons_succ, i64_w, i32_w]
          rfl
        refine pure_ (i := 5) (N := some 83) (v := undef) (a' := ?_) #[true, true, true, true, true, true, true, false, false, true, true, false, false, false, false] rfl rfl (any_of HT_.out (by kernel_rfl)) (fun _ _ _ h => h) (Or.inr ⟨by rfl, rfl⟩) ?_ ?_
        rotate_left
        · simp only [Act.put, List.setIfInBounds_toArray, List.set_cons_zero, List.set_cons_succ, i64_w, i32_w]
          rfl
        refine pure_ (i := 7) (N := some 85) (v := undef) (a' := ?_) #[true, true, true, true, true, true, true, true, false, true, true, false, false, false, false] rfl rfl (any_of HT_.out (by kernel_rfl)) (fun _ _ _ h => h) (Or.inr ⟨by rfl, rfl⟩) ?_ ?_
        rotate_left
        · simp only [Act.put, List.setIfInBounds_toArray, List.set_cons_zero, List.set_cons_succ, i64_w, i32_w]
          rfl
        refine pure_ (i := 8) (N := some 86) (v := undef) (a' := ?_) #[true, true, true, true, true, true, true, true, true, true, true, false, false, false, false] rfl rfl (any_of HT_.out (by kernel_rfl)) (fun _ _ _ h => h) (Or.inr ⟨by rfl, rfl⟩) ?_ ?_
        rotate_left
        · simp only [Act.put, List.setIfInBounds_toArray, List.set_cons_zero, List.set_cons_succ, i64_w, i32_w]
          rfl
        refine pure_ (i := 11) (N := some 89) (v := undef) (a' := ?_) #[true, true, true, true, true, true, true, true, true, true, true, true, false, false, false] rfl rfl (any_of HT_.out (by kernel_rfl)) (fun _ _ _ h => h) (Or.inr ⟨by rfl, rfl⟩) ?_ ?_
        rotate_left
        · simp only [Act.put, List.setIfInBounds_toArray, List.set_cons_zero, List.set_cons_succ, i64_w, i32_w]
          rfl
        refine pure_ (i := 12) (N := some 90) (v := undef) (a' := ?_) #[true, true, true, true, true, true, true, true, true, true, true, true, true, false, false] rfl rfl (any_of HT_.out (by kernel_rfl)) (fun _ _ _ h => h) (Or.inr ⟨by rfl, rfl⟩) ?_ ?_
        rotate_left
        · simp only [Act.put, List.setIfInBounds_toArray, List.set_cons_zero, List.set_cons_succ, i64_w, i32_w]
          rfl
        refine pure_ (i := 13) (N := some 91) (v := ?_) (a' := ?_) #[true, true, true, true, true, true, true, true, true, true, true, true, true, true, false] rfl rfl (any_of HT_.out (by kernel_rfl)) (fun _ _ _ h => h) (Or.inl ⟨by rfl, ?_⟩) ?_ ?_
        rotate_left
        · intro w'
          go_simp
          with_reducible rfl
        rotate_left
        · simp only [Act.put, List.setIfInBounds_toArray, List.set_cons_zero, List.set_cons_succ, i64_w, i32_w]
          rfl
        refine pure_ (i := 14) (N := some 6) (v := ?_) (a' := ?_) #[true, true, true, true, true, true, true, true, true, true, true, true, true, true, true] rfl rfl (any_of HT_.out (by kernel_rfl)) (fun _ _ _ h => h) (Or.inl ⟨by rfl, ?_⟩) ?_ ?_
        rotate_left
        · intro w'
          go_simp
          with_reducible rfl
        rotate_left
        · simp only [Act.put, List.setIfInBounds_toArray, List.set_cons_zero, List.set_cons_succ, i64_w, i32_w]
          rfl
        refine done_ (done_of HT_.out (by kernel_rfl)) ?_
        go_wp2_with fail
        go_ret
        exact ⟨rfl, D1.out⟩
  · obtain ⟨rfl, rfl⟩ := (show v = z67 ∧ er = 1 from by injection h with h1 h2; exact ⟨h1, h2⟩)
    have SV := Lib.hid (fun (W : World) (h : Below w6.heap.size w6 W) => rsame_calls z67 z67 A5 c5 none 0 W L5.out (c_later K6.out h) (Nat.le_refl 0) (Kd.C_nil k67 W))
    rw [(same_iff z67 z67).2 rfl] at SV
    clear h
    have q3 := (X3.out.below T0.out).cells; obtain ⟨m30, m31, m32, f30, f31, f32⟩ := q3
    have q4 := (X4.out.below T0.out).cells; obtain ⟨m40, m41, m42, f40, f41, f42⟩ := q4
    have q7 := (X7.out.below T0.out).cells; obtain ⟨m70, m71, m72, f70, f71, f72⟩ := q7
    go_wp2_with fail
    refine (SV.out _ T0.out).mono ?_
    rintro e t0w1 ⟨rfl, hb⟩
    have T0n1 := Lib.hid (T0.out.trans (hb.mono T0.out.size))
    clear hb
    clear m30 f30 m31 f31 m32 f32 m40 f40 m41 f41 m42 f42 m70 f70 m71 f71 m72 f72
    have q3 := (X3.out.below T0n1.out).cells; obtain ⟨m30, m31, m32, f30, f31, f32⟩ := q3
    have q4 := (X4.out.below T0n1.out).cells; obtain ⟨m40, m41, m42, f40, f41, f42⟩ := q4
    have q7 := (X7.out.below T0n1.out).cells; obtain ⟨m70, m71, m72, f70, f71, f72⟩ := q7
    go_wp2_with fail
    cases hrx : right x with
    | false =>
      rw [hrx] at RX
      refine (RX.out _ (B0.out.trans (T0n1.out.mono B0.out.size))).mono ?_
      rintro e t0w2 ⟨rfl, hb⟩
      have T0n2 := Lib.hid (T0n1.out.trans (hb.mono T0n1.out.size))
      clear hb
      clear m30 f30 m31 f31 m32 f32 m40 f40 m41 f41 m42 f42 m70 f70 m71 f71 m72 f72
      have q3 := (X3.out.below T0n2.out).cells; obtain ⟨m30, m31, m32, f30, f31, f32⟩ := q3
      have q4 := (X4.out.below T0n2.out).cells; obtain ⟨m40, m41, m42, f40, f41, f42⟩ := q4
      have q7 := (X7.out.below T0n2.out).cells; obtain ⟨m70, m71, m72, f70, f71, f72⟩ := q7
      go_wp2_with fail
      go_ret
      exact ⟨rfl, B0.out.trans (T0n2.out.mono B0.out.size)⟩
    | true =>
      rw [hrx] at RX
      have HX := Lib.hid (show Good x from ⟨hrx, HWX.out⟩)
      have hte : textV x = txt x := if_pos hrx
      rw [hte] at TX
      have RT := Lib.hid (fun (W : World) (h : Below w.heap.size w W) => RD.out W (ba (txt x)) (txt_fits x (by have := HZX.out; omega) HWX.out) h)
      rw [show (ba (txt x)).data.toList = txt x from rfl, readS_txt x HX.out] at RT
      clear hrx hte
      refine (RX.out _ (B0.out.trans (T0n1.out.mono B0.out.size))).mono ?_
      rintro e t0w2 ⟨rfl, hb⟩
      have T0n2 := Lib.hid (T0n1.out.trans (hb.mono T0n1.out.size))
      clear hb
      clear m30 f30 m31 f31 m32 f32 m40 f40 m41 f41 m42 f42 m70 f70 m71 f71 m72 f72
      have q3 := (X3.out.below T0n2.out).cells; obtain ⟨m30, m31, m32, f30, f31, f32⟩ := q3
      have q4 := (X4.out.below T0n2.out).cells; obtain ⟨m40, m41, m42, f40, f41, f42⟩ := q4
      have q7 := (X7.out.below T0n2.out).cells; obtain ⟨m70, m71, m72, f70, f71, f72⟩ := q7
      go_wp2_with fail
      refine (TX.out _ (B0.out.trans (T0n2.out.mono B0.out.size))).mono ?_
      rintro e t0w3 ⟨rfl, hb⟩
      have T0n3 := Lib.hid (T0n2.out.trans (hb.mono T0n2.out.size))
      clear hb
      clear m30 f30 m31 f31 m32 f32 m40 f40 m41 f41 m42 f42 m70 f70 m71 f71 m72 f72
      have q3 := (X3.out.below T0n3.out).cells; obtain ⟨m30, m31, m32, f30, f31, f32⟩ := q3
      have q4 := (X4.out.below T0n3.out).cells; obtain ⟨m40, m41, m42, f40, f41, f42⟩ := q4
      have q7 := (X7.out.below T0n3.out).cells; obtain ⟨m70, m71, m72, f70, f71, f72⟩ := q7
      go_wp2_with fail
      refine (RT.out _ (B0.out.trans (T0n3.out.mono B0.out.size))).mono ?_
      rintro e w8 ⟨u, rfl, ru, hb⟩
      obtain ⟨A9, c9, rfl, l9, h9⟩ := r_reads ru
      have L9 := Lib.hid l9
      have B8 := Lib.hid (T0n3.out.trans (hb.mono T0n3.out.size))
      have H9 := Lib.hid h9
      clear hb l9 h9 ru
      clear m30 f30 m31 f31 m32 f32 m40 f40 m41 f41 m42 f42 m70 f70 m71 f71 m72 f72
      go_upto_region 9 with (fail)
      obtain ⟨g9, hg9⟩ : ∃ b, w8.heap.size = b := ⟨_, rfl⟩
      obtain ⟨w9, hw9, x9, k9, y3, y4, b9⟩ : ∃ w9 : World, w8.alloc (.cells #[.int .i64 x.f0, .int .i64 x.f1, .slice A9 x.f2.length c9] 67) = w9 ∧ Bx w9 g9 x.f0 x.f1 (.slice A9 x.f2.length c9) ∧ Kd.C k67 w9 A9 x.f2.length x.f2 ∧ Bx w9 g3 x.f0 x.f1 (.slice A x.f2.length c) ∧ Bx w9 g4 y.f0 y.f1 (.slice A2 y.f2.length c2) ∧ Below w.heap.size w w9 :=
        ⟨_, rfl, by rw [← hg9]; exact blk_new w8 _, c_later H9.out (below_alloc (Below.refl _ _) _), (X3.out.below B8.out).alloc _, (X4.out.below B8.out).alloc _, below_alloc (B0.out.trans (B8.out.mono B0.out.size)) _⟩
      rw [hg9, hw9]
      clear X3 X4 X7 H9 B8 B0
      have X9 := Lib.hid x9; have K9 := Lib.hid k9; have X3 := Lib.hid y3; have X4 := Lib.hid y4; have B0 := Lib.hid b9
      clear hg9 hw9 x9 k9 y3 y4 b9
      have U0 := Lib.hid (Below.refl w9.heap.size w9)
      have q3 := (X3.out.below U0.out).cells; obtain ⟨m30, m31, m32, f30, f31, f32⟩ := q3
      have q4 := (X4.out.below U0.out).cells; obtain ⟨m40, m41, m42, f40, f41, f42⟩ := q4
      have q9 := (X9.out.below U0.out).cells; obtain ⟨m90, m91, m92, f90, f91, f92⟩ := q9
      go_wp2_with fail
      refine (SZX.out _ A9 c9 (B0.out.trans (U0.out.mono B0.out.size)) L9.out (c_later K9.out U0.out)).mono ?_
      rintro e u0w1 ⟨rfl, hb⟩
      have U0n1 := Lib.hid (U0.out.trans (hb.mono U0.out.size))
      clear hb
      clear m30 f30 m31 f31 m32 f32 m40 f40 m41 f41 m42 f42 m90 f90 m91 f91 m92 f92
      have q3 := (X3.out.below U0n1.out).cells; obtain ⟨m30, m31, m32, f30, f31, f32⟩ := q3
      have q4 := (X4.out.below U0n1.out).cells; obtain ⟨m40, m41, m42, f40, f41, f42⟩ := q4
      have q9 := (X9.out.below U0n1.out).cells; obtain ⟨m90, m91, m92, f90, f91, f92⟩ := q9
      go_upto_region 11 with (fail)
      have E0 := Lib.hid (B0.out.trans (U0n1.out.mono B0.out.size))
      cases hry : right y with
      | true =>
        rw [hry] at RY
        have HY := Lib.hid (show Good y from ⟨hry, HWY.out⟩)
        have hty : textV y = txt y := if_pos hry
        rw [hty] at TY
        have qe := text_same x y HX.out HY.out
        clear hty
        clear hry
        refine start_ (n := 15) (S := fun w' => w'.cell? ⟨g3, 0, none⟩ = some (.int .i64 x.f0) ∧ w'.cell? ⟨g3, 1, none⟩ = some (.int .i64 x.f1) ∧ w'.cell? ⟨g3, 2, none⟩ = some (.slice A x.f2.length c) ∧ w'.cell? ⟨g4, 0, none⟩ = some (.int .i64 y.f0) ∧ w'.cell? ⟨g4, 1, none⟩ = some (.int .i64 y.f1) ∧ w'.cell? ⟨g4, 2, none⟩ = some (.slice A2 y.f2.length c2)) (ds := []) #[false, false, false, false, false, false, false, false, false, false, false, false, false, false, false] (by kernel_rfl) rfl rfl ⟨m30, m31, m32, m40, m41, m42⟩ (fun hHeld => ?_)
        refine with_tabW t11 b11 (fun HT_ HW_ => ?_)
        have D0 := Lib.hid (below_drew E0.out)
        generalize World.drew u0w1 = z0 at *
        clear m30 m31 m32 m40 m41 m42
        refine take_ (i := 0) (N := some 78) (v := ?_) (a' := ?_) #[true, false, false, false, false, false, false, false, false, false, false, false, false, false, false] rfl rfl (take_ofW HT_.out HW_.out (by kernel_rfl)) (fun _ _ _ h => h) (Or.inl ⟨by rfl, ?_⟩) hHeld ?_ ?_
        rotate_left
        · rintro w' ⟨s0, s1, s2, s3, s4, s5⟩
          go_simp
          with_reducible rfl
        rotate_left
        · simp only [Act.put, List.setIfInBounds_toArray, List.set_cons_zero, List.set_cons_succ, i64_w, i32_w]
          rfl
        refine one_ (i := 1) (N := some 79) #[true, true, false, false, false, false, false, false, false, false, false, false, false, false, false] rfl rfl (one_of HT_.out (by kernel_rfl)) (by decide) (fun K hK => ?_)
        refine goes_ Tryd.func43 (by kernel_rfl) rfl #[v67 y.f0 y.f1 A2 y.f2.length c2] (by rfl) rfl rfl (by (try simp only [List.map_toArray, List.map_cons, List.map_nil]); first | done | rfl) ?_
        refine (RY.out _ D0.out).mono ?_
        rintro e z1 ⟨rfl, hb⟩
        refine ⟨_, rfl, hK.out _ _ ⟨pw_cell_below hb hHeld.1, pw_cell_below hb hHeld.2.1, pw_cell_below hb hHeld.2.2.1, pw_cell_below hb hHeld.2.2.2.1, pw_cell_below hb hHeld.2.2.2.2.1, pw_cell_below hb hHeld.2.2.2.2.2⟩ (fun hHeld => ?_)⟩
        have D1 := Lib.hid (D0.out.trans (hb.mono D0.out.size))
        clear hb
        clear hK K
        refine norm_ (a' := ?_) ?_ ?_
        rotate_left
        · show Act.put _ (some 79) _ = _
          simp only [Act.put, List.setIfInBounds_toArray, List.set_cons_zero, List.set_cons_succ, i64_w, i32_w]
          rfl
        refine pure_ (i := 2) (N := some 80) (v := ?_) (a' := ?_) #[true, true, true, false, false, false, false, false, false, false, false, false, false, false, false] rfl rfl (any_of HT_.out (by kernel_rfl)) (fun _ _ _ h => h) (Or.inl ⟨by rfl, ?_⟩) ?_ ?_
        rotate_left
        · intro w'
          go_simp
          with_reducible rfl
        rotate_left
        · simp only [Act.put, List.setIfInBounds_toArray, List.set_cons_zero, List.set_cons_succ, i64_w, i32_w]
          rfl
        refine pure_ (i := 3) (N := some 81) (v := ?_) (a' := ?_) #[true, true, true, true, false, false, false, false, false, false, false, false, false, false, false] rfl rfl (any_of HT_.out (by kernel_rfl)) (fun _ _ _ h => h) (Or.inl ⟨by rfl, ?_⟩) ?_ ?_
        rotate_left
        · intro w'
          go_simp
          with_reducible rfl
        rotate_left
        · simp only [Act.put, List.setIfInBounds_toArray, List.set_cons_zero, List.set_cons_succ, i64_w, i32_w]
          rfl
        refine take_ (i := 4) (N := some 82) (v := ?_) (a' := ?_) #[true, true, true, true, true, false, false, false, false, false, false, false, false, false, false] rfl rfl (take_ofW HT_.out HW_.out (by kernel_rfl)) (fun _ _ _ h => h) (Or.inl ⟨by rfl, ?_⟩) hHeld ?_ ?_
        rotate_left
        · rintro w' ⟨s0, s1, s2, s3, s4, s5⟩
          go_simp
          with_reducible rfl
        rotate_left
        · simp only [Act.put, List.setIfInBounds_toArray, List.set_cons_zero, List.set_cons_succ, i64_w, i32_w]
          rfl
        refine take_ (i := 6) (N := some 84) (v := ?_) (a' := ?_) #[true, true, true, true, true, false, true, false, false, false, false, false, false, false, false] rfl rfl (take_ofW HT_.out HW_.out (by kernel_rfl)) (fun _ _ _ h => h) (Or.inl ⟨by rfl, ?_⟩) hHeld ?_ ?_
        rotate_left
        · rintro w' ⟨s0, s1, s2, s3, s4, s5⟩
          go_simp
          with_reducible rfl
        rotate_left
        · simp only [Act.put, List.setIfInBounds_toArray, List.set_cons_zero, List.set_cons_succ, i64_w, i32_w]
          rfl
        refine take_ (i := 9) (N := some 87) (v := ?_) (a' := ?_) #[true, true, true, true, true, false, true, false, false, true, false, false, false, false, false] rfl rfl (take_ofW HT_.out HW_.out (by kernel_rfl)) (fun _ _ _ h => h) (Or.inl ⟨by rfl, ?_⟩) hHeld ?_ ?_
        rotate_left
        · rintro w' ⟨s0, s1, s2, s3, s4, s5⟩
          go_simp
          with_reducible rfl
        rotate_left
        · simp only [Act.put, List.setIfInBounds_toArray, List.set_cons_zero, List.set_cons_succ, i64_w, i32_w]
          rfl
        refine take_ (i := 10) (N := some 88) (v := ?_) (a' := ?_) #[true, true, true, true, true, false, true, false, false, true, true, false, false, false, false] rfl rfl (take_ofW HT_.out HW_.out (by kernel_rfl)) (fun _ _ _ h => h) (Or.inl ⟨by rfl, ?_⟩) hHeld ?_ ?_
        rotate_left
        · rintro w' ⟨s0, s1, s2, s3, s4, s5⟩
          go_simp
          with_reducible rfl
        rotate_left
        · simp only [Act.put, List.setIfInBounds_toArray, List.set_cons_zero, List.set_cons_succ, i64_w, i32_w]
          rfl
        refine one_ (i := 5) (N := some 83) #[true, true, true, true, true, true, true, false, false, true, true, false, false, false, false] rfl rfl (one_of HT_.out (by kernel_rfl)) (by decide) (fun K hK => ?_)
        refine goes_ Tryd.func46 (by kernel_rfl) rfl #[v67 x.f0 x.f1 A x.f2.length c] (by rfl) rfl rfl (by (try simp only [List.map_toArray, List.map_cons, List.map_nil]); first | done | rfl) ?_
        refine (TX.out _ D1.out).mono ?_
        rintro e z2 ⟨rfl, hb⟩
        refine ⟨_, rfl, hK.out _ _ ⟨pw_cell_below hb hHeld.1, pw_cell_below hb hHeld.2.1, pw_cell_below hb hHeld.2.2.1, pw_cell_below hb hHeld.2.2.2.1, pw_cell_below hb hHeld.2.2.2.2.1, pw_cell_below hb hHeld.2.2.2.2.2⟩ (fun hHeld => ?_)⟩
        have D2 := Lib.hid (D1.out.trans (hb.mono D1.out.size))
        clear hb
        clear hK K
        refine norm_ (a' := ?_) ?_ ?_
        rotate_left
        · show Act.put _ (some 83) _ = _
          simp only [Act.put, List.setIfInBounds_toArray, List.set_cons_zero, List.set_cons_succ, i64_w, i32_w]
          rfl
        refine one_ (i := 7) (N := some 85) #[true, true, true, true, true, true, true, true, false, true, true, false, false, false, false] rfl rfl (one_of HT_.out (by kernel_rfl)) (by decide) (fun K hK => ?_)
        refine goes_ Tryd.func46 (by kernel_rfl) rfl #[v67 y.f0 y.f1 A2 y.f2.length c2] (by rfl) rfl rfl (by (try simp only [List.map_toArray, List.map_cons, List.map_nil]); first | done | rfl) ?_
        refine (TY.out _ D2.out).mono ?_
        rintro e z3 ⟨rfl, hb⟩
        refine ⟨_, rfl, hK.out _ _ ⟨pw_cell_below hb hHeld.1, pw_cell_below hb hHeld.2.1, pw_cell_below hb hHeld.2.2.1, pw_cell_below hb hHeld.2.2.2.1, pw_cell_below hb hHeld.2.2.2.2.1, pw_cell_below hb hHeld.2.2.2.2.2⟩ (fun hHeld => ?_)⟩
        have D3 := Lib.hid (D2.out.trans (hb.mono D2.out.size))
        clear hb
        clear hK K
        refine norm_ (a' := ?_) ?_ ?_
        rotate_left
        · show Act.put _ (some 85) _ = _
          simp only [Act.put, List.setIfInBounds_toArray, List.set_cons_zero, List.set_cons_succ, i64_w, i32_w]
          rfl
        refine pure_ (i := 8) (N := some 86) (v := ?_) (a' := ?_) #[true, true, true, true, true, true, true, true, true, true, true, false, false, false, false] rfl rfl (any_of HT_.out (by kernel_rfl)) (fun _ _ _ h => h) (Or.inl ⟨by rfl, ?_⟩) ?_ ?_
        rotate_left
        · intro w'
          go_simp
          with_reducible rfl
        rotate_left
        · simp only [Act.put, List.setIfInBounds_toArray, List.set_cons_zero, List.set_cons_succ, i64_w, i32_w]
          rfl
        refine one_ (i := 11) (N := some 89) #[true, true, true, true, true, true, true, true, true, true, true, true, false, false, false] rfl rfl (one_of HT_.out (by kernel_rfl)) (by decide) (fun K hK => ?_)
        refine goes_ Tryd.func45 (by kernel_rfl) rfl #[v67 x.f0 x.f1 A x.f2.length c, v67 y.f0 y.f1 A2 y.f2.length c2] (by rfl) rfl rfl (by (try simp only [List.map_toArray, List.map_cons, List.map_nil]); first | done | rfl) ?_
        refine (SXY.out _ D3.out).mono ?_
        rintro e z4 ⟨rfl, hb⟩
        refine ⟨_, rfl, hK.out _ _ ⟨pw_cell_below hb hHeld.1, pw_cell_below hb hHeld.2.1, pw_cell_below hb hHeld.2.2.1, pw_cell_below hb hHeld.2.2.2.1, pw_cell_below hb hHeld.2.2.2.2.1, pw_cell_below hb hHeld.2.2.2.2.2⟩ (fun hHeld => ?_)⟩
        have D4 := Lib.hid (D3.out.trans (hb.mono D3.out.size))
        clear hb
        clear hK K
        refine norm_ (a' := ?_) ?_ ?_
        rotate_left
        · show Act.put _ (some 89) _ = _
          simp only [Act.put, List.setIfInBounds_toArray, List.set_cons_zero, List.set_cons_succ, i64_w, i32_w]
          rfl
        refine pure_ (i := 12) (N := some 90) (v := ?_) (a' := ?_) #[true, true, true, true, true, true, true, true, true, true, true, true, true, false, false] rfl rfl (any_of HT_.out (by kernel_rfl)) (fun _ _ _ h => h) (Or.inl ⟨by rfl, ?_⟩) ?_ ?_
        rotate_left
        · intro w'
          go_simp
          with_reducible rfl
        rotate_left
        · simp only [Act.put, List.setIfInBounds_toArray, List.set_cons_zero, List.set_cons_succ, i64_w, i32_w]
          rfl
        refine pure_ (i := 13) (N := some 91) (v := ?_) (a' := ?_) #[true, true, true, true, true, true, true, true, true, true, true, true, true, true, false] rfl rfl (any_of HT_.out (by kernel_rfl)) (fun _ _ _ h => h) (Or.inl ⟨by rfl, ?_⟩) ?_ ?_
        rotate_left
        · intro w'
          go_simp
          with_reducible rfl
        rotate_left
        · simp only [Act.put, List.setIfInBounds_toArray, List.set_cons_zero, List.set_cons_succ, i64_w, i32_w]
          rfl
        refine pure_ (i := 14) (N := some 6) (v := ?_) (a' := ?_) #[true, true, true, true, true, true, true, true, true, true, true, true, true, true, true] rfl rfl (any_of HT_.out (by kernel_rfl)) (fun _ _ _ h => h) (Or.inl ⟨by rfl, ?_⟩) ?_ ?_
        rotate_left
        · intro w'
          go_simp
          with_reducible rfl
        rotate_left
        · simp only [Act.put, List.setIfInBounds_toArray, List.set_cons_zero, List.set_cons_succ, i64_w, i32_w]
          rfl
        refine done_ (done_of HT_.out (by kernel_rfl)) ?_
        go_wp2_with fail
        go_ret
        exact ⟨rfl, D4.out⟩
      | false =>
        rw [hry] at RY
        clear hry
        refine start_ (n := 15) (S := fun w' => w'.cell? ⟨g3, 0, none⟩ = some (.int .i64 x.f0) ∧ w'.cell? ⟨g3, 1, none⟩ = some (.int .i64 x.f1) ∧ w'.cell? ⟨g3, 2, none⟩ = some (.slice A x.f2.length c) ∧ w'.cell? ⟨g4, 0, none⟩ = some (.int .i64 y.f0) ∧ w'.cell? ⟨g4, 1, none⟩ = some (.int .i64 y.f1) ∧ w'.cell? ⟨g4, 2, none⟩ = some (.slice A2 y.f2.length c2)) (ds := []) #[false, false, false, false, false, false, false, false, false, false, false, false, false, false, false] (by kernel_rfl) rfl rfl ⟨m30, m31, m32, m40, m41, m42⟩ (fun hHeld => ?_)
        refine with_tabW t11 b11 (fun HT_ HW_ => ?_)
        have D0 := Lib.hid (below_drew E0.out)
        generalize World.drew u0w1 = z0 at *
        clear m30 m31 m32 m40 m41 m42
        refine take_ (i := 0) (N := some 78) (v := ?_) (a' := ?_) #[true, false, false, false, false, false, false, false, false, false, false, false, false, false, false] rfl rfl (take_ofW HT_.out HW_.out (by kernel_rfl)) (fun _ _ _ h => h) (Or.inl ⟨by rfl, ?_⟩) hHeld ?_ ?_
        rotate_left
        · rintro w' ⟨s0, s1, s2, s3, s4, s5⟩
          go_simp
          with_reducible rfl
        rotate_left
        · simp only [Act.put, List.setIfInBounds_toArray, List.set_cons_zero, List.set_cons_succ, i64_w, i32_w]
          rfl
        refine one_ (i := 1) (N := some 79) #[true, true, false, false, false, false, false, false, false, false, false, false, false, false, false] rfl rfl (one_of HT_.out (by kernel_rfl)) (by decide) (fun K hK => ?_)
        refine goes_ Tryd.func43 (by kernel_rfl) rfl #[v67 y.f0 y.f1 A2 y.f2.length c2] (by rfl) rfl rfl (by (try simp only [List.map_toArray, List.map_cons, List.map_nil]); first | done | rfl) ?_
        refine (RY.out _ D0.out).mono ?_
        rintro e z1 ⟨rfl, hb⟩
        refine ⟨_, rfl, hK.out _ _ ⟨pw_cell_below hb hHeld.1, pw_cell_below hb hHeld.2.1, pw_cell_below hb hHeld.2.2.1, pw_cell_below hb hHeld.2.2.2.1, pw_cell_below hb hHeld.2.2.2.2.1, pw_cell_below hb hHeld.2.2.2.2.2⟩ (fun hHeld => ?_)⟩
        have D1 := Lib.hid (D0.out.trans (hb.mono D0.out.size))
        clear hb
        clear hK K
        refine norm_ (a' := ?_) ?_ ?_
        rotate_left
        · show Act.put _ (some 79) _ = _
          simp only [Act.put, List.setIfInBounds_toArray, List.set_cons_zero, List.set_cons_succ, i64_w, i32_w]
          rfl
        refine pure_ (i := 2) (N := some 80) (v := ?_) (a' := ?_) #[true, true, true, false, false, false, false, false, false, false, false, false, false, false, false] rfl rfl (any_of HT_.out (by kernel_rfl)) (fun _ _ _ h => h) (Or.inl ⟨by rfl, ?_⟩) ?_ ?_
        rotate_left
        · intro w'
          go_simp
          with_reducible rfl
        rotate_left
        · simp only [Act.put, List.setIfInBounds_toArray, List.set_cons_zero, List.set_cons_succ, i64_w, i32_w]
          rfl
        refine pure_ (i := 3) (N := some 81) (v := ?_) (a' := ?_) #[true, true, true, true, false, false, false, false, false, false, false, false, false, false, false] rfl rfl (any_of HT_.out (by kernel_rfl)) (fun _ _ _ h => h) (Or.inl ⟨by rfl, ?_⟩) ?_ ?_
        rotate_left
        · intro w'
          go_simp
          with_reducible rfl
        rotate_left
        · simp only [Act.put, List.setIfInBounds_toArray, List.set_cons_zero, List.set_cons_succ, i64_w, i32_w]
          rfl
        refine pure_ (i := 4) (N := some 82) (v := undef) (a' := ?_) #[true, true, true, true, true, false, false, false, false, false, false, false, false, false, false] rfl rfl (any_of HT_.out (by kernel_rfl)) (fun _ _ _ h => h) (Or.inr ⟨by rfl, rfl⟩) ?_ ?_
        rotate_left
        · simp only [Act.put, List.setIfInBounds_toArray, List.set_cons_zero, List.set_cons_succ, i64_w, i32_w]
          rfl
        refine pure_ (i := 6) (N := some 84) (v := undef) (a' := ?_) #[true, true, true, true, true, false, true, false, false, false, false, false, false, false, false] rfl rfl (any_of HT_.out (by kernel_rfl)) (fun _ _ _ h => h) (Or.inr ⟨by rfl, rfl⟩) ?_ ?_
        rotate_left
        · simp only [Act.put, List.setIfInBounds_toArray, List.set_cons_zero, List.set_cons_succ, i64_w, i32_w]
          rfl
        refine pure_ (i := 9) (N := some 87) (v := undef) (a' := ?_) #[true, true, true, true, true, false, true, false, false, true, false, false, false, false, false] rfl rfl (any_of HT_.out (by kernel_rfl)) (fun _ _ _ h => h) (Or.inr ⟨by rfl, rfl⟩) ?_ ?_
        rotate_left
        · simp only [Act.put, List.setIfInBounds_toArray, List.set_cons_zero, List.set_cons_succ, i64_w, i32_w]
          rfl
        refine pure_ (i := 10) (N := some 88) (v := undef) (a' := ?_) #[true, true, true, true, true, false, true, false, false, true, true, false, false, false, false] rfl rfl (any_of HT_.out (by kernel_rfl)) (fun _ _ _ h => h) (Or.inr ⟨by rfl, rfl⟩) ?_ ?_
        rotate_left
        · simp only [Act.put, List.setIfInBounds_toArray, List.set_cons_zero, List.set_cons_succ, i64_w, i32_w]
          rfl
        refine pure_ (i := 5) (N := some 83) (v := undef) (a' := ?_) #[true, true, true, true, true, true, true, false, false, true, true, false, false, false, false] rfl rfl (any_of HT_.out (by kernel_rfl)) (fun _ _ _ h => h) (Or.inr ⟨by rfl, rfl⟩) ?_ ?_
        rotate_left
        · simp only [Act.put, List.setIfInBounds_toArray, List.set_cons_zero, List.set_cons_succ, i64_w, i32_w]
          rfl
        refine pure_ (i := 7) (N := some 85) (v := undef) (a' := ?_) #[true, true, true, true, true, true, true, true, false, true, true, false, false, false, false] rfl rfl (any_of HT_.out (by kernel_rfl)) (fun _ _ _ h => h) (Or.inr ⟨by rfl, rfl⟩) ?_ ?_
        rotate_left
        · simp only [Act.put, List.setIfInBounds_toArray, List.set_cons_zero, List.set_cons_succ, i64_w, i32_w]
          rfl
        refine pure_ (i := 8) (N := some 86) (v := undef) (a' := ?_) #[true, true, true, true, true, true, true, true, true, true, true, false, false, false, false] rfl rfl (any_of HT_.out (by kernel_rfl)) (fun _ _ _ h => h) (Or.inr ⟨by rfl, rfl⟩) ?_ ?_
        rotate_left
        · simp only [Act.put, List.setIfInBounds_toArray, List.set_cons_zero, List.set_cons_succ, i64_w, i32_w]
          rfl
        refine pure_ (i := 11) (N := some 89) (v := undef) (a' := ?_) #[true, true, true, true, true, true, true, true, true, true, true, true, false, false, false] rfl rfl (any_of HT_.out (by kernel_rfl)) (fun _ _ _ h => h) (Or.inr ⟨by rfl, rfl⟩) ?_ ?_
        rotate_left
        · simp only [Act.put, List.setIfInBounds_toArray, List.set_cons_zero, List.set_cons_succ, i64_w, i32_w]
          rfl
        refine pure_ (i := 12) (N := some 90) (v := undef) (a' := ?_) #[true, true, true, true, true, true, true, true, true, true, true, true, true, false, false] rfl rfl (any_of HT_.out (by kernel_rfl)) (fun _ _ _ h => h) (Or.inr ⟨by rfl, rfl⟩) ?_ ?_
        rotate_left
        · simp only [Act.put, List.setIfInBounds_toArray, List.set_cons_zero, List.set_cons_succ, i64_w, i32_w]
          rfl
        refine pure_ (i := 13) (N := some 91) (v := ?_) (a' := ?_) #[true, true, true, true, true, true, true, true, true, true, true, true, true, true, false] rfl rfl (any_of HT_.out (by kernel_rfl)) (fun _ _ _ h => h) (Or.inl ⟨by rfl, ?_⟩) ?_ ?_
        rotate_left
        · intro w'
          go_simp
          with_reducible rfl
        rotate_left
        · simp only [Act.put, List.setIfInBounds_toArray, List.set_cons_zero, List.set_cons_succ, i64_w, i32_w]
          rfl
        refine pure_ (i := 14) (N := some 6) (v := ?_) (a' := ?_) #[true, true, true, true, true, true, true, true, true, true, true, true, true, true, true] rfl rfl (any_of HT_.out (by kernel_rfl)) (fun _ _ _ h => h) (Or.inl ⟨by rfl, ?_⟩) ?_ ?_
        rotate_left
        · intro w'
          go_simp
          with_reducible rfl
        rotate_left
        · simp only [Act.put, List.setIfInBounds_toArray, List.set_cons_zero, List.set_cons_succ, i64_w, i32_w]
          rfl
        refine done_ (done_of HT_.out (by kernel_rfl)) ?_
        go_wp2_with fail
        go_ret
        exact ⟨rfl, D1.out⟩

end Go.Proofs.YtfofpammnfcmiaaDoor.Vl
