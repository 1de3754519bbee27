/- Marline, layer 01: quotient and rest are the dividend; comparisons hold: the walk. Conditions: numbers of 64 bits; the library's table of the powers of ten is laid. -/
import Derived.Test.YtacpolhilhindaaDoorWe
namespace Go.Proofs.YtacpolhilhindaaDoor.E
open Go.RowKit Go.Proofs.YtacpolhilhindaaDoorW.PrintWords Go.Proofs.YtacpolhilhindaaDoorW.PrintLast Go.Proofs.YtacpolhilhindaaDoorW.PrintMore Go.Proofs.YtacpolhilhindaaDoor.Obj
set_option linter.unusedVariables false
set_option linter.unusedSimpArgs false

theorem doS1 (a b : Int) : doS 1 a b = trap (a + b) := rfl
theorem doS2 (a b : Int) : doS 2 a b = trap (a - b) := rfl
theorem doS3 (a b : Int) : doS 3 a b = trap (a * b) := rfl
theorem doS4 (a b : Int) : doS 4 a b = if b = 0 then (0, 1) else trap (a.tdiv b) := rfl
theorem doS5 (a b : Int) : doS 5 a b = if b = 0 then (0, 1) else (a.tmod b, 0) := rfl
/-- what a quotient and a rest come to. -/
theorem parts_q (a b : Int) (ha : In a) (hb : In b) : (∃ q r p, doS 4 a b = (q, 0) ∧ doS 5 a b = (r, 0) ∧ doS 3 q b = (p, 0) ∧ doS 1 p r = (a, 0) ∧ In q ∧ In r ∧ In p) ∨ (∃ t r u, doS 4 a b = (0, t) ∧ (t == 0) = false ∧ doS 5 a b = (r, u)) := by
  by_cases hb0 : b = 0
  · exact .inr ⟨1, _, _, by simp [doS, hb0], by decide, rfl⟩
  · by_cases hq : In (a.tdiv b)
    · have h1 := tdiv_eq a b
      have h2 := tmod_bd a b hb0
      have hm := tdiv_in
      obtain ⟨q, e1⟩ : ∃ q, a.tdiv b = q := ⟨_, rfl⟩
      obtain ⟨r, e2⟩ : ∃ r, a.tmod b = r := ⟨_, rfl⟩
      rw [e1, e2] at h1
      rw [e2] at h2
      rw [e1] at hq
      obtain ⟨p, e3⟩ : ∃ p, b * q = p := ⟨_, rfl⟩
      rw [e3] at h1
      have hr : In r := by omega
      have hs : (a.tmod b).natAbs ≤ a.natAbs := by rw [Int.natAbs_tmod]; exact Nat.mod_le _ _
      have hsg : (0 ≤ a → 0 ≤ a.tmod b) ∧ (a ≤ 0 → a.tmod b ≤ 0) := ⟨fun h => Int.tmod_nonneg b h, fun h => by
        have := Int.tmod_nonneg b (show 0 ≤ -a by omega)
        rw [Int.neg_tmod] at this
        omega⟩
      rw [e2] at hs hsg
      have hp : In p := by omega
      refine .inl ⟨q, r, p, ?_, ?_, ?_, ?_, hq, hr, hp⟩
      · rw [doS4, if_neg hb0, e1, trap_in hq]
      · rw [doS5, if_neg hb0, e2]
      · rw [doS3, Int.mul_comm, e3, trap_in hp]
      · rw [doS1, h1, trap_in ha]
    · refine .inr ⟨2, _, _, ?_, by decide, rfl⟩
      rw [doS4, if_neg hb0, trap_out hq]
theorem parts_s (a b : Int) (ha : In a) (hb : In b) : (∃ s, doS 1 a b = (s, 0) ∧ In s ∧ doS 2 s b = (a, 0)) ∨ doS 1 a b = (0, 2) := by
  by_cases h : In (a + b)
  · refine .inl ⟨a + b, ?_, h, ?_⟩
    · rw [doS1, trap_in h]
    · rw [doS2, Int.add_sub_cancel, trap_in ha]
  · refine .inr ?_
    rw [doS1, trap_out h]
theorem holds_at (a b : Int) : holdsS 8 a b = decide (a < b) ∧ holdsS 6 a b = (a == b) ∧ holdsS 7 a b = (a != b) ∧ holdsS 9 a b = decide (a ≤ b) ∧ holdsS 10 a b = decide (b < a) ∧ holdsS 11 a b = decide (b ≤ a) := ⟨rfl, rfl, rfl, rfl, rfl, rfl⟩
set_option maxHeartbeats 8000000 in
set_option maxRecDepth 100000 in
theorem parts_lt (a b : Int) (w : World) (ha : In a) (hb : In b) (hp : Pow w) (h : a < b) : Calls Tryd.prog 3 #[.int .i64 a, .int .i64 b] w fun e w' => e = .returned (.bool true) ∧ Below w.heap.size w w' := by
  obtain ⟨g8, g6, g7, g9, g10, g11⟩ := holds_at a b
  have K8 := Lib.hid (g8.trans (decide_eq_true h) : holdsS 8 a b = true)
  have K6 := Lib.hid (g6.trans (beq_eq_false_iff_ne.2 (by omega)) : holdsS 6 a b = false)
  have K7 := Lib.hid (g7.trans (by simp; omega) : holdsS 7 a b = true)
  have K9 := Lib.hid (g9.trans (decide_eq_true (by omega)) : holdsS 9 a b = true)
  have K10 := Lib.hid (g10.trans (decide_eq_false (by omega)) : holdsS 10 a b = false)
  have K11 := Lib.hid (g11.trans (decide_eq_false (by omega)) : holdsS 11 a b = false)
  have f1 : decide (a < b) = true := by first | exact decide_eq_true (by omega) | exact decide_eq_false (by omega)
  have f2 : (a == b) = false := by first | exact beq_eq_false_iff_ne.2 (by omega) | simp [h]
  have HP := Lib.hid hp; have HA := Lib.hid ha; have HB := Lib.hid hb
  have PQ := parts_q a b ha hb; have PS := Lib.hid (parts_s a b ha hb)
  clear hp ha hb h g8 g6 g7 g9 g10 g11
  go_enter Tryd.func3, Tryd.ntmps3
  go_wp2_with fail
  refine (works_calls w HP.out).mono ?_
  rintro e w1 ⟨rfl, hb⟩
  have B1 := Lib.hid hb
  clear hb
  rcases PQ with ⟨q, r, p, q1, q2, q3, q4, q5, q6, q7⟩ | ⟨t, r, u, q1, q2, q3⟩
  · have Q1 := Lib.hid q1; have Q2 := Lib.hid q2; have Q3 := Lib.hid q3; have Q4 := Lib.hid q4; have Q5 := Lib.hid q5; have Q6 := Lib.hid q6; have Q7 := Lib.hid q7
    clear q1 q2 q3 q4 q5 q6 q7
    go_wp2_with fail
    refine (do_calls 4 a b w1 HA.out HB.out).mono ?_
    rw [Q1.out]
    rintro e w2 ⟨rfl, hb⟩
    have B2 := Lib.hid (B1.out.trans (hb.mono B1.out.size))
    clear hb
    go_wp2_with fail
    refine (do_calls 5 a b w2 HA.out HB.out).mono ?_
    rw [Q2.out]
    rintro e w3 ⟨rfl, hb⟩
    have B3 := Lib.hid (B2.out.trans (hb.mono B2.out.size))
    clear hb
    go_wp2_with fail
    refine (do_calls 3 q b w3 Q5.out HB.out).mono ?_
    rw [Q3.out]
    rintro e w4 ⟨rfl, hb⟩
    have B4 := Lib.hid (B3.out.trans (hb.mono B3.out.size))
    clear hb
    go_wp2_with fail
    refine (do_calls 1 p r w4 Q7.out Q6.out).mono ?_
    rw [Q4.out]
    rintro e w5 ⟨rfl, hb⟩
    have B5 := Lib.hid (B4.out.trans (hb.mono B4.out.size))
    clear hb
    rcases PS.out with ⟨s, s1, s2, s3⟩ | s1
    · have S1 := Lib.hid s1; have S2 := Lib.hid s2; have S3 := Lib.hid s3
      clear s1 s2 s3
      go_wp2_with fail
      refine (do_calls 1 a b w5 HA.out HB.out).mono ?_
      rw [S1.out]
      rintro e w6 ⟨rfl, hb⟩
      have B6 := Lib.hid (B5.out.trans (hb.mono B5.out.size))
      clear hb
      go_wp2_with fail
      refine (do_calls 2 s b w6 S2.out HB.out).mono ?_
      rw [S3.out]
      rintro e w7 ⟨rfl, hb⟩
      have B7 := Lib.hid (B6.out.trans (hb.mono B6.out.size))
      clear hb
      go_wp2_with fail
      refine (holds_calls 8 a b w7).mono ?_
      rw [K8.out]
      rintro e w8 ⟨rfl, hb⟩
      have B8 := Lib.hid (B7.out.trans (hb.mono B7.out.size))
      clear hb
      go_wp2_with fail
      refine (holds_calls 6 a b w8).mono ?_
      rw [K6.out]
      rintro e w9 ⟨rfl, hb⟩
      have B9 := Lib.hid (B8.out.trans (hb.mono B8.out.size))
      clear hb
      go_wp2_with fail
      refine (holds_calls 7 a b w9).mono ?_
      rw [K7.out]
      rintro e w10 ⟨rfl, hb⟩
      have B10 := Lib.hid (B9.out.trans (hb.mono B9.out.size))
      clear hb
      go_wp2_with fail
      refine (holds_calls 9 a b w10).mono ?_
      rw [K9.out]
      rintro e w11 ⟨rfl, hb⟩
      have B11 := Lib.hid (B10.out.trans (hb.mono B10.out.size))
      clear hb
      go_wp2_with fail
      refine (holds_calls 10 a b w11).mono ?_
      rw [K10.out]
      rintro e w12 ⟨rfl, hb⟩
      have B12 := Lib.hid (B11.out.trans (hb.mono B11.out.size))
      clear hb
      go_wp2_with fail
      refine (holds_calls 11 a b w12).mono ?_
      rw [K11.out]
      rintro e w13 ⟨rfl, hb⟩
      have B13 := Lib.hid (B12.out.trans (hb.mono B12.out.size))
      clear hb
      go_wp2_with fail
      go_ret
      exact ⟨rfl, B13.out⟩
    · have S1 := Lib.hid s1
      clear s1
      go_wp2_with fail
      refine (do_calls 1 a b w5 HA.out HB.out).mono ?_
      rw [S1.out]
      rintro e w6 ⟨rfl, hb⟩
      have B6 := Lib.hid (B5.out.trans (hb.mono B5.out.size))
      clear hb
      go_wp2_with fail
      refine (holds_calls 8 a b w6).mono ?_
      rw [K8.out]
      rintro e w7 ⟨rfl, hb⟩
      have B7 := Lib.hid (B6.out.trans (hb.mono B6.out.size))
      clear hb
      go_wp2_with fail
      refine (holds_calls 6 a b w7).mono ?_
      rw [K6.out]
      rintro e w8 ⟨rfl, hb⟩
      have B8 := Lib.hid (B7.out.trans (hb.mono B7.out.size))
      clear hb
      go_wp2_with fail
      refine (holds_calls 7 a b w8).mono ?_
      rw [K7.out]
      rintro e w9 ⟨rfl, hb⟩
      have B9 := Lib.hid (B8.out.trans (hb.mono B8.out.size))
      clear hb
      go_wp2_with fail
      refine (holds_calls 9 a b w9).mono ?_
      rw [K9.out]
      rintro e w10 ⟨rfl, hb⟩
      have B10 := Lib.hid (B9.out.trans (hb.mono B9.out.size))
      clear hb
      go_wp2_with fail
      refine (holds_calls 10 a b w10).mono ?_
      rw [K10.out]
      rintro e w11 ⟨rfl, hb⟩
      have B11 := Lib.hid (B10.out.trans (hb.mono B10.out.size))
      clear hb
      go_wp2_with fail
      refine (holds_calls 11 a b w11).mono ?_
      rw [K11.out]
      rintro e w12 ⟨rfl, hb⟩
      have B12 := Lib.hid (B11.out.trans (hb.mono B11.out.size))
      clear hb
      go_wp2_with fail
      go_ret
      exact ⟨rfl, B12.out⟩
  · have Q1 := Lib.hid q1; have Q3 := Lib.hid q3
    clear q1 q3
    go_wp2_with fail
    refine (do_calls 4 a b w1 HA.out HB.out).mono ?_
    rw [Q1.out]
    rintro e w2 ⟨rfl, hb⟩
    have B2 := Lib.hid (B1.out.trans (hb.mono B1.out.size))
    clear hb
    go_wp2_with fail
    refine (do_calls 5 a b w2 HA.out HB.out).mono ?_
    rw [Q3.out]
    rintro e w3 ⟨rfl, hb⟩
    have B3 := Lib.hid (B2.out.trans (hb.mono B2.out.size))
    clear hb
    rcases PS.out with ⟨s, s1, s2, s3⟩ | s1
    · have S1 := Lib.hid s1; have S2 := Lib.hid s2; have S3 := Lib.hid s3
      clear s1 s2 s3
      go_wp2_with fail
      refine (do_calls 1 a b w3 HA.out HB.out).mono ?_
      rw [S1.out]
      rintro e w4 ⟨rfl, hb⟩
      have B4 := Lib.hid (B3.out.trans (hb.mono B3.out.size))
      clear hb
      go_wp2_with fail
      refine (do_calls 2 s b w4 S2.out HB.out).mono ?_
      rw [S3.out]
      rintro e w5 ⟨rfl, hb⟩
      have B5 := Lib.hid (B4.out.trans (hb.mono B4.out.size))
      clear hb
      go_wp2_with fail
      refine (holds_calls 8 a b w5).mono ?_
      rw [K8.out]
      rintro e w6 ⟨rfl, hb⟩
      have B6 := Lib.hid (B5.out.trans (hb.mono B5.out.size))
      clear hb
      go_wp2_with fail
      refine (holds_calls 6 a b w6).mono ?_
      rw [K6.out]
      rintro e w7 ⟨rfl, hb⟩
      have B7 := Lib.hid (B6.out.trans (hb.mono B6.out.size))
      clear hb
      go_wp2_with fail
      refine (holds_calls 7 a b w7).mono ?_
      rw [K7.out]
      rintro e w8 ⟨rfl, hb⟩
      have B8 := Lib.hid (B7.out.trans (hb.mono B7.out.size))
      clear hb
      go_wp2_with fail
      refine (holds_calls 9 a b w8).mono ?_
      rw [K9.out]
      rintro e w9 ⟨rfl, hb⟩
      have B9 := Lib.hid (B8.out.trans (hb.mono B8.out.size))
      clear hb
      go_wp2_with fail
      refine (holds_calls 10 a b w9).mono ?_
      rw [K10.out]
      rintro e w10 ⟨rfl, hb⟩
      have B10 := Lib.hid (B9.out.trans (hb.mono B9.out.size))
      clear hb
      go_wp2_with fail
      refine (holds_calls 11 a b w10).mono ?_
      rw [K11.out]
      rintro e w11 ⟨rfl, hb⟩
      have B11 := Lib.hid (B10.out.trans (hb.mono B10.out.size))
      clear hb
      go_wp2_with fail
      go_ret
      exact ⟨rfl, B11.out⟩
    · have S1 := Lib.hid s1
      clear s1
      go_wp2_with fail
      refine (do_calls 1 a b w3 HA.out HB.out).mono ?_
      rw [S1.out]
      rintro e w4 ⟨rfl, hb⟩
      have B4 := Lib.hid (B3.out.trans (hb.mono B3.out.size))
      clear hb
      go_wp2_with fail
      refine (holds_calls 8 a b w4).mono ?_
      rw [K8.out]
      rintro e w5 ⟨rfl, hb⟩
      have B5 := Lib.hid (B4.out.trans (hb.mono B4.out.size))
      clear hb
      go_wp2_with fail
      refine (holds_calls 6 a b w5).mono ?_
      rw [K6.out]
      rintro e w6 ⟨rfl, hb⟩
      have B6 := Lib.hid (B5.out.trans (hb.mono B5.out.size))
      clear hb
      go_wp2_with fail
      refine (holds_calls 7 a b w6).mono ?_
      rw [K7.out]
      rintro e w7 ⟨rfl, hb⟩
      have B7 := Lib.hid (B6.out.trans (hb.mono B6.out.size))
      clear hb
      go_wp2_with fail
      refine (holds_calls 9 a b w7).mono ?_
      rw [K9.out]
      rintro e w8 ⟨rfl, hb⟩
      have B8 := Lib.hid (B7.out.trans (hb.mono B7.out.size))
      clear hb
      go_wp2_with fail
      refine (holds_calls 10 a b w8).mono ?_
      rw [K10.out]
      rintro e w9 ⟨rfl, hb⟩
      have B9 := Lib.hid (B8.out.trans (hb.mono B8.out.size))
      clear hb
      go_wp2_with fail
      refine (holds_calls 11 a b w9).mono ?_
      rw [K11.out]
      rintro e w10 ⟨rfl, hb⟩
      have B10 := Lib.hid (B9.out.trans (hb.mono B9.out.size))
      clear hb
      go_wp2_with fail
      go_ret
      exact ⟨rfl, B10.out⟩
set_option maxHeartbeats 8000000 in
set_option maxRecDepth 100000 in
theorem parts_eq (a b : Int) (w : World) (ha : In a) (hb : In b) (hp : Pow w) (h : a = b) : Calls Tryd.prog 3 #[.int .i64 a, .int .i64 b] w fun e w' => e = .returned (.bool true) ∧ Below w.heap.size w w' := by
  obtain ⟨g8, g6, g7, g9, g10, g11⟩ := holds_at a b
  have K8 := Lib.hid (g8.trans (decide_eq_false (by omega)) : holdsS 8 a b = false)
  have K6 := Lib.hid (g6.trans (by simp [h]) : holdsS 6 a b = true)
  have K7 := Lib.hid (g7.trans (by simp [h]) : holdsS 7 a b = false)
  have K9 := Lib.hid (g9.trans (decide_eq_true (by omega)) : holdsS 9 a b = true)
  have K10 := Lib.hid (g10.trans (decide_eq_false (by omega)) : holdsS 10 a b = false)
  have K11 := Lib.hid (g11.trans (decide_eq_true (by omega)) : holdsS 11 a b = true)
  have f1 : decide (a < b) = false := by first | exact decide_eq_true (by omega) | exact decide_eq_false (by omega)
  have f2 : (a == b) = true := by first | exact beq_eq_false_iff_ne.2 (by omega) | simp [h]
  have HP := Lib.hid hp; have HA := Lib.hid ha; have HB := Lib.hid hb
  have PQ := parts_q a b ha hb; have PS := Lib.hid (parts_s a b ha hb)
  clear hp ha hb h g8 g6 g7 g9 g10 g11
  go_enter Tryd.func3, Tryd.ntmps3
  go_wp2_with fail
  refine (works_calls w HP.out).mono ?_
  rintro e w1 ⟨rfl, hb⟩
  have B1 := Lib.hid hb
  clear hb
  rcases PQ with ⟨q, r, p, q1, q2, q3, q4, q5, q6, q7⟩ | ⟨t, r, u, q1, q2, q3⟩
  · have Q1 := Lib.hid q1; have Q2 := Lib.hid q2; have Q3 := Lib.hid q3; have Q4 := Lib.hid q4; have Q5 := Lib.hid q5; have Q6 := Lib.hid q6; have Q7 := Lib.hid q7
    clear q1 q2 q3 q4 q5 q6 q7
    go_wp2_with fail
    refine (do_calls 4 a b w1 HA.out HB.out).mono ?_
    rw [Q1.out]
    rintro e w2 ⟨rfl, hb⟩
    have B2 := Lib.hid (B1.out.trans (hb.mono B1.out.size))
    clear hb
    go_wp2_with fail
    refine (do_calls 5 a b w2 HA.out HB.out).mono ?_
    rw [Q2.out]
    rintro e w3 ⟨rfl, hb⟩
    have B3 := Lib.hid (B2.out.trans (hb.mono B2.out.size))
    clear hb
    go_wp2_with fail
    refine (do_calls 3 q b w3 Q5.out HB.out).mono ?_
    rw [Q3.out]
    rintro e w4 ⟨rfl, hb⟩
    have B4 := Lib.hid (B3.out.trans (hb.mono B3.out.size))
    clear hb
    go_wp2_with fail
    refine (do_calls 1 p r w4 Q7.out Q6.out).mono ?_
    rw [Q4.out]
    rintro e w5 ⟨rfl, hb⟩
    have B5 := Lib.hid (B4.out.trans (hb.mono B4.out.size))
    clear hb
    rcases PS.out with ⟨s, s1, s2, s3⟩ | s1
    · have S1 := Lib.hid s1; have S2 := Lib.hid s2; have S3 := Lib.hid s3
      clear s1 s2 s3
      go_wp2_with fail
      refine (do_calls 1 a b w5 HA.out HB.out).mono ?_
      rw [S1.out]
      rintro e w6 ⟨rfl, hb⟩
      have B6 := Lib.hid (B5.out.trans (hb.mono B5.out.size))
      clear hb
      go_wp2_with fail
      refine (do_calls 2 s b w6 S2.out HB.out).mono ?_
      rw [S3.out]
      rintro e w7 ⟨rfl, hb⟩
      have B7 := Lib.hid (B6.out.trans (hb.mono B6.out.size))
      clear hb
      go_wp2_with fail
      refine (holds_calls 8 a b w7).mono ?_
      rw [K8.out]
      rintro e w8 ⟨rfl, hb⟩
      have B8 := Lib.hid (B7.out.trans (hb.mono B7.out.size))
      clear hb
      go_wp2_with fail
      refine (holds_calls 6 a b w8).mono ?_
      rw [K6.out]
      rintro e w9 ⟨rfl, hb⟩
      have B9 := Lib.hid (B8.out.trans (hb.mono B8.out.size))
      clear hb
      go_wp2_with fail
      refine (holds_calls 7 a b w9).mono ?_
      rw [K7.out]
      rintro e w10 ⟨rfl, hb⟩
      have B10 := Lib.hid (B9.out.trans (hb.mono B9.out.size))
      clear hb
      go_wp2_with fail
      refine (holds_calls 9 a b w10).mono ?_
      rw [K9.out]
      rintro e w11 ⟨rfl, hb⟩
      have B11 := Lib.hid (B10.out.trans (hb.mono B10.out.size))
      clear hb
      go_wp2_with fail
      refine (holds_calls 10 a b w11).mono ?_
      rw [K10.out]
      rintro e w12 ⟨rfl, hb⟩
      have B12 := Lib.hid (B11.out.trans (hb.mono B11.out.size))
      clear hb
      go_wp2_with fail
      refine (holds_calls 11 a b w12).mono ?_
      rw [K11.out]
      rintro e w13 ⟨rfl, hb⟩
      have B13 := Lib.hid (B12.out.trans (hb.mono B12.out.size))
      clear hb
      go_wp2_with fail
      go_ret
      exact ⟨rfl, B13.out⟩
    · have S1 := Lib.hid s1
      clear s1
      go_wp2_with fail
      refine (do_calls 1 a b w5 HA.out HB.out).mono ?_
      rw [S1.out]
      rintro e w6 ⟨rfl, hb⟩
      have B6 := Lib.hid (B5.out.trans (hb.mono B5.out.size))
      clear hb
      go_wp2_with fail
      refine (holds_calls 8 a b w6).mono ?_
      rw [K8.out]
      rintro e w7 ⟨rfl, hb⟩
      have B7 := Lib.hid (B6.out.trans (hb.mono B6.out.size))
      clear hb
      go_wp2_with fail
      refine (holds_calls 6 a b w7).mono ?_
      rw [K6.out]
      rintro e w8 ⟨rfl, hb⟩
      have B8 := Lib.hid (B7.out.trans (hb.mono B7.out.size))
      clear hb
      go_wp2_with fail
      refine (holds_calls 7 a b w8).mono ?_
      rw [K7.out]
      rintro e w9 ⟨rfl, hb⟩
      have B9 := Lib.hid (B8.out.trans (hb.mono B8.out.size))
      clear hb
      go_wp2_with fail
      refine (holds_calls 9 a b w9).mono ?_
      rw [K9.out]
      rintro e w10 ⟨rfl, hb⟩
      have B10 := Lib.hid (B9.out.trans (hb.mono B9.out.size))
      clear hb
      go_wp2_with fail
      refine (holds_calls 10 a b w10).mono ?_
      rw [K10.out]
      rintro e w11 ⟨rfl, hb⟩
      have B11 := Lib.hid (B10.out.trans (hb.mono B10.out.size))
      clear hb
      go_wp2_with fail
      refine (holds_calls 11 a b w11).mono ?_
      rw [K11.out]
      rintro e w12 ⟨rfl, hb⟩
      have B12 := Lib.hid (B11.out.trans (hb.mono B11.out.size))
      clear hb
      go_wp2_with fail
      go_ret
      exact ⟨rfl, B12.out⟩
  · have Q1 := Lib.hid q1; have Q3 := Lib.hid q3
    clear q1 q3
    go_wp2_with fail
    refine (do_calls 4 a b w1 HA.out HB.out).mono ?_
    rw [Q1.out]
    rintro e w2 ⟨rfl, hb⟩
    have B2 := Lib.hid (B1.out.trans (hb.mono B1.out.size))
    clear hb
    go_wp2_with fail
    refine (do_calls 5 a b w2 HA.out HB.out).mono ?_
    rw [Q3.out]
    rintro e w3 ⟨rfl, hb⟩
    have B3 := Lib.hid (B2.out.trans (hb.mono B2.out.size))
    clear hb
    rcases PS.out with ⟨s, s1, s2, s3⟩ | s1
    · have S1 := Lib.hid s1; have S2 := Lib.hid s2; have S3 := Lib.hid s3
      clear s1 s2 s3
      go_wp2_with fail
      refine (do_calls 1 a b w3 HA.out HB.out).mono ?_
      rw [S1.out]
      rintro e w4 ⟨rfl, hb⟩
      have B4 := Lib.hid (B3.out.trans (hb.mono B3.out.size))
      clear hb
      go_wp2_with fail
      refine (do_calls 2 s b w4 S2.out HB.out).mono ?_
      rw [S3.out]
      rintro e w5 ⟨rfl, hb⟩
      have B5 := Lib.hid (B4.out.trans (hb.mono B4.out.size))
      clear hb
      go_wp2_with fail
      refine (holds_calls 8 a b w5).mono ?_
      rw [K8.out]
      rintro e w6 ⟨rfl, hb⟩
      have B6 := Lib.hid (B5.out.trans (hb.mono B5.out.size))
      clear hb
      go_wp2_with fail
      refine (holds_calls 6 a b w6).mono ?_
      rw [K6.out]
      rintro e w7 ⟨rfl, hb⟩
      have B7 := Lib.hid (B6.out.trans (hb.mono B6.out.size))
      clear hb
      go_wp2_with fail
      refine (holds_calls 7 a b w7).mono ?_
      rw [K7.out]
      rintro e w8 ⟨rfl, hb⟩
      have B8 := Lib.hid (B7.out.trans (hb.mono B7.out.size))
      clear hb
      go_wp2_with fail
      refine (holds_calls 9 a b w8).mono ?_
      rw [K9.out]
      rintro e w9 ⟨rfl, hb⟩
      have B9 := Lib.hid (B8.out.trans (hb.mono B8.out.size))
      clear hb
      go_wp2_with fail
      refine (holds_calls 10 a b w9).mono ?_
      rw [K10.out]
      rintro e w10 ⟨rfl, hb⟩
      have B10 := Lib.hid (B9.out.trans (hb.mono B9.out.size))
      clear hb
      go_wp2_with fail
      refine (holds_calls 11 a b w10).mono ?_
      rw [K11.out]
      rintro e w11 ⟨rfl, hb⟩
      have B11 := Lib.hid (B10.out.trans (hb.mono B10.out.size))
      clear hb
      go_wp2_with fail
      go_ret
      exact ⟨rfl, B11.out⟩
    · have S1 := Lib.hid s1
      clear s1
      go_wp2_with fail
      refine (do_calls 1 a b w3 HA.out HB.out).mono ?_
      rw [S1.out]
      rintro e w4 ⟨rfl, hb⟩
      have B4 := Lib.hid (B3.out.trans (hb.mono B3.out.size))
      clear hb
      go_wp2_with fail
      refine (holds_calls 8 a b w4).mono ?_
      rw [K8.out]
      rintro e w5 ⟨rfl, hb⟩
      have B5 := Lib.hid (B4.out.trans (hb.mono B4.out.size))
      clear hb
      go_wp2_with fail
      refine (holds_calls 6 a b w5).mono ?_
      rw [K6.out]
      rintro e w6 ⟨rfl, hb⟩
      have B6 := Lib.hid (B5.out.trans (hb.mono B5.out.size))
      clear hb
      go_wp2_with fail
      refine (holds_calls 7 a b w6).mono ?_
      rw [K7.out]
      rintro e w7 ⟨rfl, hb⟩
      have B7 := Lib.hid (B6.out.trans (hb.mono B6.out.size))
      clear hb
      go_wp2_with fail
      refine (holds_calls 9 a b w7).mono ?_
      rw [K9.out]
      rintro e w8 ⟨rfl, hb⟩
      have B8 := Lib.hid (B7.out.trans (hb.mono B7.out.size))
      clear hb
      go_wp2_with fail
      refine (holds_calls 10 a b w8).mono ?_
      rw [K10.out]
      rintro e w9 ⟨rfl, hb⟩
      have B9 := Lib.hid (B8.out.trans (hb.mono B8.out.size))
      clear hb
      go_wp2_with fail
      refine (holds_calls 11 a b w9).mono ?_
      rw [K11.out]
      rintro e w10 ⟨rfl, hb⟩
      have B10 := Lib.hid (B9.out.trans (hb.mono B9.out.size))
      clear hb
      go_wp2_with fail
      go_ret
      exact ⟨rfl, B10.out⟩
set_option maxHeartbeats 8000000 in
set_option maxRecDepth 100000 in
theorem parts_gt (a b : Int) (w : World) (ha : In a) (hb : In b) (hp : Pow w) (h : b < a) : Calls Tryd.prog 3 #[.int .i64 a, .int .i64 b] w fun e w' => e = .returned (.bool true) ∧ Below w.heap.size w w' := by
  obtain ⟨g8, g6, g7, g9, g10, g11⟩ := holds_at a b
  have K8 := Lib.hid (g8.trans (decide_eq_false (by omega)) : holdsS 8 a b = false)
  have K6 := Lib.hid (g6.trans (beq_eq_false_iff_ne.2 (by omega)) : holdsS 6 a b = false)
  have K7 := Lib.hid (g7.trans (by simp; omega) : holdsS 7 a b = true)
  have K9 := Lib.hid (g9.trans (decide_eq_false (by omega)) : holdsS 9 a b = false)
  have K10 := Lib.hid (g10.trans (decide_eq_true (by omega)) : holdsS 10 a b = true)
  have K11 := Lib.hid (g11.trans (decide_eq_true (by omega)) : holdsS 11 a b = true)
  have f1 : decide (a < b) = false := by first | exact decide_eq_true (by omega) | exact decide_eq_false (by omega)
  have f2 : (a == b) = false := by first | exact beq_eq_false_iff_ne.2 (by omega) | simp [h]
  have HP := Lib.hid hp; have HA := Lib.hid ha; have HB := Lib.hid hb
  have PQ := parts_q a b ha hb; have PS := Lib.hid (parts_s a b ha hb)
  clear hp ha hb h g8 g6 g7 g9 g10 g11
  go_enter Tryd.func3, Tryd.ntmps3
  go_wp2_with fail
  refine (works_calls w HP.out).mono ?_
  rintro e w1 ⟨rfl, hb⟩
  have B1 := Lib.hid hb
  clear hb
  rcases PQ with ⟨q, r, p, q1, q2, q3, q4, q5, q6, q7⟩ | ⟨t, r, u, q1, q2, q3⟩
  · have Q1 := Lib.hid q1; have Q2 := Lib.hid q2; have Q3 := Lib.hid q3; have Q4 := Lib.hid q4; have Q5 := Lib.hid q5; have Q6 := Lib.hid q6; have Q7 := Lib.hid q7
    clear q1 q2 q3 q4 q5 q6 q7
    go_wp2_with fail
    refine (do_calls 4 a b w1 HA.out HB.out).mono ?_
    rw [Q1.out]
    rintro e w2 ⟨rfl, hb⟩
    have B2 := Lib.hid (B1.out.trans (hb.mono B1.out.size))
    clear hb
    go_wp2_with fail
    refine (do_calls 5 a b w2 HA.out HB.out).mono ?_
    rw [Q2.out]
    rintro e w3 ⟨rfl, hb⟩
    have B3 := Lib.hid (B2.out.trans (hb.mono B2.out.size))
    clear hb
    go_wp2_with fail
    refine (do_calls 3 q b w3 Q5.out HB.out).mono ?_
    rw [Q3.out]
    rintro e w4 ⟨rfl, hb⟩
    have B4 := Lib.hid (B3.out.trans (hb.mono B3.out.size))
    clear hb
    go_wp2_with fail
    refine (do_calls 1 p r w4 Q7.out Q6.out).mono ?_
    rw [Q4.out]
    rintro e w5 ⟨rfl, hb⟩
    have B5 := Lib.hid (B4.out.trans (hb.mono B4.out.size))
    clear hb
    rcases PS.out with ⟨s, s1, s2, s3⟩ | s1
    · have S1 := Lib.hid s1; have S2 := Lib.hid s2; have S3 := Lib.hid s3
      clear s1 s2 s3
      go_wp2_with fail
      refine (do_calls 1 a b w5 HA.out HB.out).mono ?_
      rw [S1.out]
      rintro e w6 ⟨rfl, hb⟩
      have B6 := Lib.hid (B5.out.trans (hb.mono B5.out.size))
      clear hb
      go_wp2_with fail
      refine (do_calls 2 s b w6 S2.out HB.out).mono ?_
      rw [S3.out]
      rintro e w7 ⟨rfl, hb⟩
      have B7 := Lib.hid (B6.out.trans (hb.mono B6.out.size))
      clear hb
      go_wp2_with fail
      refine (holds_calls 8 a b w7).mono ?_
      rw [K8.out]
      rintro e w8 ⟨rfl, hb⟩
      have B8 := Lib.hid (B7.out.trans (hb.mono B7.out.size))
      clear hb
      go_wp2_with fail
      refine (holds_calls 6 a b w8).mono ?_
      rw [K6.out]
      rintro e w9 ⟨rfl, hb⟩
      have B9 := Lib.hid (B8.out.trans (hb.mono B8.out.size))
      clear hb
      go_wp2_with fail
      refine (holds_calls 7 a b w9).mono ?_
      rw [K7.out]
      rintro e w10 ⟨rfl, hb⟩
      have B10 := Lib.hid (B9.out.trans (hb.mono B9.out.size))
      clear hb
      go_wp2_with fail
      refine (holds_calls 9 a b w10).mono ?_
      rw [K9.out]
      rintro e w11 ⟨rfl, hb⟩
      have B11 := Lib.hid (B10.out.trans (hb.mono B10.out.size))
      clear hb
      go_wp2_with fail
      refine (holds_calls 10 a b w11).mono ?_
      rw [K10.out]
      rintro e w12 ⟨rfl, hb⟩
      have B12 := Lib.hid (B11.out.trans (hb.mono B11.out.size))
      clear hb
      go_wp2_with fail
      refine (holds_calls 11 a b w12).mono ?_
      rw [K11.out]
      rintro e w13 ⟨rfl, hb⟩
      have B13 := Lib.hid (B12.out.trans (hb.mono B12.out.size))
      clear hb
      go_wp2_with fail
      go_ret
      exact ⟨rfl, B13.out⟩
    · have S1 := Lib.hid s1
      clear s1
      go_wp2_with fail
      refine (do_calls 1 a b w5 HA.out HB.out).mono ?_
      rw [S1.out]
      rintro e w6 ⟨rfl, hb⟩
      have B6 := Lib.hid (B5.out.trans (hb.mono B5.out.size))
      clear hb
      go_wp2_with fail
      refine (holds_calls 8 a b w6).mono ?_
      rw [K8.out]
      rintro e w7 ⟨rfl, hb⟩
      have B7 := Lib.hid (B6.out.trans (hb.mono B6.out.size))
      clear hb
      go_wp2_with fail
      refine (holds_calls 6 a b w7).mono ?_
      rw [K6.out]
      rintro e w8 ⟨rfl, hb⟩
      have B8 := Lib.hid (B7.out.trans (hb.mono B7.out.size))
      clear hb
      go_wp2_with fail
      refine (holds_calls 7 a b w8).mono ?_
      rw [K7.out]
      rintro e w9 ⟨rfl, hb⟩
      have B9 := Lib.hid (B8.out.trans (hb.mono B8.out.size))
      clear hb
      go_wp2_with fail
      refine (holds_calls 9 a b w9).mono ?_
      rw [K9.out]
      rintro e w10 ⟨rfl, hb⟩
      have B10 := Lib.hid (B9.out.trans (hb.mono B9.out.size))
      clear hb
      go_wp2_with fail
      refine (holds_calls 10 a b w10).mono ?_
      rw [K10.out]
      rintro e w11 ⟨rfl, hb⟩
      have B11 := Lib.hid (B10.out.trans (hb.mono B10.out.size))
      clear hb
      go_wp2_with fail
      refine (holds_calls 11 a b w11).mono ?_
      rw [K11.out]
      rintro e w12 ⟨rfl, hb⟩
      have B12 := Lib.hid (B11.out.trans (hb.mono B11.out.size))
      clear hb
      go_wp2_with fail
      go_ret
      exact ⟨rfl, B12.out⟩
  · have Q1 := Lib.hid q1; have Q3 := Lib.hid q3
    clear q1 q3
    go_wp2_with fail
    refine (do_calls 4 a b w1 HA.out HB.out).mono ?_
    rw [Q1.out]
    rintro e w2 ⟨rfl, hb⟩
    have B2 := Lib.hid (B1.out.trans (hb.mono B1.out.size))
    clear hb
    go_wp2_with fail
    refine (do_calls 5 a b w2 HA.out HB.out).mono ?_
    rw [Q3.out]
    rintro e w3 ⟨rfl, hb⟩
    have B3 := Lib.hid (B2.out.trans (hb.mono B2.out.size))
    clear hb
    rcases PS.out with ⟨s, s1, s2, s3⟩ | s1
    · have S1 := Lib.hid s1; have S2 := Lib.hid s2; have S3 := Lib.hid s3
      clear s1 s2 s3
      go_wp2_with fail
      refine (do_calls 1 a b w3 HA.out HB.out).mono ?_
      rw [S1.out]
      rintro e w4 ⟨rfl, hb⟩
      have B4 := Lib.hid (B3.out.trans (hb.mono B3.out.size))
      clear hb
      go_wp2_with fail
      refine (do_calls 2 s b w4 S2.out HB.out).mono ?_
      rw [S3.out]
      rintro e w5 ⟨rfl, hb⟩
      have B5 := Lib.hid (B4.out.trans (hb.mono B4.out.size))
      clear hb
      go_wp2_with fail
      refine (holds_calls 8 a b w5).mono ?_
      rw [K8.out]
      rintro e w6 ⟨rfl, hb⟩
      have B6 := Lib.hid (B5.out.trans (hb.mono B5.out.size))
      clear hb
      go_wp2_with fail
      refine (holds_calls 6 a b w6).mono ?_
      rw [K6.out]
      rintro e w7 ⟨rfl, hb⟩
      have B7 := Lib.hid (B6.out.trans (hb.mono B6.out.size))
      clear hb
      go_wp2_with fail
      refine (holds_calls 7 a b w7).mono ?_
      rw [K7.out]
      rintro e w8 ⟨rfl, hb⟩
      have B8 := Lib.hid (B7.out.trans (hb.mono B7.out.size))
      clear hb
      go_wp2_with fail
      refine (holds_calls 9 a b w8).mono ?_
      rw [K9.out]
      rintro e w9 ⟨rfl, hb⟩
      have B9 := Lib.hid (B8.out.trans (hb.mono B8.out.size))
      clear hb
      go_wp2_with fail
      refine (holds_calls 10 a b w9).mono ?_
      rw [K10.out]
      rintro e w10 ⟨rfl, hb⟩
      have B10 := Lib.hid (B9.out.trans (hb.mono B9.out.size))
      clear hb
      go_wp2_with fail
      refine (holds_calls 11 a b w10).mono ?_
      rw [K11.out]
      rintro e w11 ⟨rfl, hb⟩
      have B11 := Lib.hid (B10.out.trans (hb.mono B10.out.size))
      clear hb
      go_wp2_with fail
      go_ret
      exact ⟨rfl, B11.out⟩
    · have S1 := Lib.hid s1
      clear s1
      go_wp2_with fail
      refine (do_calls 1 a b w3 HA.out HB.out).mono ?_
      rw [S1.out]
      rintro e w4 ⟨rfl, hb⟩
      have B4 := Lib.hid (B3.out.trans (hb.mono B3.out.size))
      clear hb
      go_wp2_with fail
      refine (holds_calls 8 a b w4).mono ?_
      rw [K8.out]
      rintro e w5 ⟨rfl, hb⟩
      have B5 := Lib.hid (B4.out.trans (hb.mono B4.out.size))
      clear hb
      go_wp2_with fail
      refine (holds_calls 6 a b w5).mono ?_
      rw [K6.out]
      rintro e w6 ⟨rfl, hb⟩
      have B6 := Lib.hid (B5.out.trans (hb.mono B5.out.size))
      clear hb
      go_wp2_with fail
      refine (holds_calls 7 a b w6).mono ?_
      rw [K7.out]
      rintro e w7 ⟨rfl, hb⟩
      have B7 := Lib.hid (B6.out.trans (hb.mono B6.out.size))
      clear hb
      go_wp2_with fail
      refine (holds_calls 9 a b w7).mono ?_
      rw [K9.out]
      rintro e w8 ⟨rfl, hb⟩
      have B8 := Lib.hid (B7.out.trans (hb.mono B7.out.size))
      clear hb
      go_wp2_with fail
      refine (holds_calls 10 a b w8).mono ?_
      rw [K10.out]
      rintro e w9 ⟨rfl, hb⟩
      have B9 := Lib.hid (B8.out.trans (hb.mono B8.out.size))
      clear hb
      go_wp2_with fail
      refine (holds_calls 11 a b w9).mono ?_
      rw [K11.out]
      rintro e w10 ⟨rfl, hb⟩
      have B10 := Lib.hid (B9.out.trans (hb.mono B9.out.size))
      clear hb
      go_wp2_with fail
      go_ret
      exact ⟨rfl, B10.out⟩
theorem parts_walk (a b : Int) (w : World) (ha : In a) (hb : In b) (hp : Pow w) : Calls Tryd.prog 3 #[.int .i64 a, .int .i64 b] w fun e w' => e = .returned (.bool true) ∧ Below w.heap.size w w' := by
  by_cases h1 : a < b
  · exact parts_lt a b w ha hb hp h1
  · by_cases h2 : a = b
    · exact parts_eq a b w ha hb hp h2
    · exact parts_gt a b w ha hb hp (by omega)
end Go.Proofs.YtacpolhilhindaaDoor.E
