/- Marline, layer 10: the next token, by the program: numbers and signs. Conditions: as each says. -/
import Derived.Test.YtfofpammnfcmiaaDoorLk
namespace Go.Proofs.YtfofpammnfcmiaaDoor.Lx
open Go.RowKit Go.Proofs.YtfofpammnfcmiaaDoorW.PrintWords Go.Proofs.YtfofpammnfcmiaaDoorW.PrintLast Go.Proofs.YtfofpammnfcmiaaDoorW.PrintMore Go.Proofs.YtfofpammnfcmiaaDoor.Obj Go.Proofs.YtfofpammnfcmiaaDoor.Kinds Go.Proofs.YtfofpammnfcmiaaDoor.E
set_option linter.unusedVariables false
set_option linter.unusedSimpArgs false
set_option maxRecDepth 100000
theorem drop_head (s : ByteArray) (p : Nat) (hp : p < s.size) : s.data.toList.drop p = s.data.toList.getD p 0 :: s.data.toList.drop (p + 1) := by
  have h1 : p < s.data.toList.length := hp
  rw [List.drop_eq_getElem_cons h1, List.getD_eq_getElem?_getD, List.getElem?_eq_getElem h1]; rfl
/-- a number's token. -/
theorem num_tok (s : ByteArray) (p : Nat) (hp : p < s.size) (hl : letterB (s.data.toList.getD p 0) = false) (hd : digitB (s.data.toList.getD p 0) = true) :
    tok1 W0 (s.data.toList.drop p) p = (⟨2, p, (readS ((s.data.toList.drop p).takeWhile digitB)).1, (s.data.toList.drop p).takeWhile digitB⟩, (readS ((s.data.toList.drop p).takeWhile digitB)).2) := by
  rw [drop_head s p hp, tok1_cons, if_neg (by rw [hl]; exact Bool.false_ne_true), if_pos hd]; rfl
/-- a sign's token. -/
theorem mark_tok (s : ByteArray) (p : Nat) (hp : p < s.size) (hl : letterB (s.data.toList.getD p 0) = false) (hd : digitB (s.data.toList.getD p 0) = false) :
    tok1 W0 (s.data.toList.drop p) p = (⟨4, p, 0, markS (s.data.toList.drop p)⟩, if markS (s.data.toList.drop p) = [] then 1 else 0) := by
  rw [drop_head s p hp, tok1_cons, if_neg (by rw [hl]; exact Bool.false_ne_true), if_neg (by rw [hd]; exact Bool.false_ne_true)]; rfl
set_option maxHeartbeats 16000000 in
/-- a number. -/
theorem next_num (s : ByteArray) (p g : Nat) (w : World) (hv : Lv w g s p) (hp : p < s.size) (hs : s.size ≤ 1000000) (ht : Tabs w) (hl : letterB (s.data.toList.getD p 0) = false) (hd : digitB (s.data.toList.getD p 0) = true) :
    Calls Tryd.prog 66 #[.pointer (some ⟨g, 0, none⟩)] w fun e w' => e = .returned (.tuple #[tokV (tok1 W0 (s.data.toList.drop p) p).1, .int .i64 (tok1 W0 (s.data.toList.drop p) p).2]) ∧ Lv w' g s (p + (tok1 W0 (s.data.toList.drop p) p).1.text.length) ∧ Ch (fun i => i = g) w w' := by
  have HS := Lib.hid hs; have HT := Lib.hid ht; have HLB := Lib.hid hl; have HDB := Lib.hid hd
  clear hs ht hl hd
  have hu88 := Tryd.underlying88
  have hu44 := Tryd.underlying44
  obtain ⟨g2, hg2⟩ : ∃ g2, w.heap.size = g2 := ⟨_, rfl⟩
  have G := Lib.hid (show ∃ w1 : World, w.alloc (.cells #[.int .i64 0, .int .i64 0, .int .i64 0, .string ⟨#[]⟩] 44) = w1 ∧ Tv w1 g2 0 0 0 ⟨#[]⟩ ∧ Lv w1 g s p ∧ Ch (fun i => i = g) w w1 from
    ⟨_, rfl, by rw [← hg2]; exact blk_new w _, blk_alloc hv _, Ch.alloc (Ch.refl _ _) _⟩)
  have GE := Lib.hid hg2; have NG := Lib.hid (show g2 ≠ g by have := hv.lt; omega)
  have HP := Lib.hid hp; have HV0 := Lib.hid hv
  clear hv hp hg2
  go_enter Tryd.func66, Tryd.ntmps66
  go_upto_region 1 with (fail)
  rw [GE.out]
  obtain ⟨w1, hw1, r1, v1, c1⟩ := G.out
  rw [hw1]
  have R1 := Lib.hid r1; have V1 := Lib.hid v1; have C1 := Lib.hid c1
  obtain ⟨m0, m1, t0, t1⟩ := v1.cells
  clear G r1 v1 c1 hw1
  go_upto_region 2 with (fail)
  obtain ⟨g4, hg4⟩ : ∃ g4, w1.heap.size = g4 := ⟨_, rfl⟩
  have G2 : ∃ w2 : World, w1.alloc (.cells #[.int .i64 0, .int .i64 (p : Int), .int .i64 0, .string ⟨#[]⟩] 44) = w2 ∧ Tv w2 g4 0 p 0 ⟨#[]⟩ ∧ Tv w2 g2 0 0 0 ⟨#[]⟩ ∧ Lv w2 g s p ∧ Ch (fun i => i = g) w w2 :=
    ⟨_, rfl, by rw [← hg4]; exact blk_new w1 _, blk_alloc R1.out _, blk_alloc V1.out _, C1.out.alloc _⟩
  have W4 := Lib.hid (show w.heap.size ≤ g4 by have := C1.out.size; omega)
  have N4 := Lib.hid (show g4 ≠ g ∧ g4 ≠ g2 by have := V1.out.lt; have := (Array.getElem?_eq_some_iff.1 R1.out).1; omega)
  rw [hg4]
  obtain ⟨w2, hw2, q2, r2, v2, c2⟩ := G2
  rw [hw2]
  have Q2 := Lib.hid q2; have R2 := Lib.hid r2; have V2 := Lib.hid v2; have C2 := Lib.hid c2
  obtain ⟨m0, m1, t0, t1⟩ := v2.cells
  clear q2 r2 v2 c2 hw2 hg4 R1 V1 C1
  have p1 : ((p : Int) == (s.size : Int)) = false := by rw [beq_eq_false_iff_ne]; have := HP.out; omega
  have p2 : (p == s.size) = false := by rw [beq_eq_false_iff_ne]; have := HP.out; omega
  have ix := fun W => index_at s p HP.out W
  obtain ⟨c, hc⟩ : ∃ c, s.data.toList.getD p 0 = c := ⟨_, rfl⟩
  have HC := Lib.hid hc
  rw [hc] at ix
  have LC := Lib.hid (fun W => letter_calls c W)
  rw [show letterB c = false by rw [← hc]; exact HLB.out] at LC
  have DC := Lib.hid (fun W => digit_calls c W)
  rw [show digitB c = true by rw [← hc]; exact HDB.out] at DC
  clear hc
  go_region
  all_goals
    go_upto_region 5 with (fail)
    go_region
    all_goals
      go_wp2_with fail
      refine (LC.out _).mono ?_
      rintro e w3 ⟨rfl, d3⟩
      have Q3 := Lib.hid (Tv.below (w := w2.drew.drew) Q2.out d3.below); have R3 := Lib.hid (Tv.below (w := w2.drew.drew) R2.out d3.below); have V3 := Lib.hid (Lv.below (w := w2.drew.drew) V2.out d3.below); have C3 := Lib.hid (Ch.below (b := w2.drew.drew) (by exact C2.out.drew.drew) d3.below)
      clear d3 LC
      go_wp2_with fail
      refine (DC.out _).mono ?_
      rintro e w3b ⟨rfl, d3⟩
      have Q3b := Lib.hid (Q3.out.below d3.below); have R3b := Lib.hid (R3.out.below d3.below); have V3b := Lib.hid (V3.out.below d3.below); have C3b := Lib.hid (C3.out.below d3.below)
      clear d3 DC Q3 R3 V3 C3 Q2 R2 V2 C2
      go_wp2_with fail
      refine (run92 s p g w3b V3b.out (by have := HP.out; omega) HS.out).mono ?_
      rintro e w4 ⟨rfl, d4⟩
      obtain ⟨n, hn⟩ : ∃ n, ((s.data.toList.drop p).takeWhile digitB).length = n := ⟨_, rfl⟩
      rw [hn]
      have hle := while_le digitB (s.data.toList.drop p)
      rw [List.length_drop, hn, show s.data.toList.length = s.size from rfl] at hle
      have HN := Lib.hid hn; have HLE := Lib.hid (show p + n ≤ s.size by have := HP.out; omega)
      have Q4 := Lib.hid (Q3b.out.below d4.below); have R4 := Lib.hid (R3b.out.below d4.below); have V4 := Lib.hid (V3b.out.below d4.below); have C4 := Lib.hid (C3b.out.below d4.below)
      obtain ⟨a0, a1, a2, a3, b0, b1, b2, b3⟩ := Q4.out.cells
      clear d4 Q3b R3b V3b C3b hn hle m0 m1 t0 t1
      go_upto_region 20 with (fail)
      have G5 : ∃ w5 : World, w4.setCell ⟨g4, 0, none⟩ (.int .i64 2) = w5 ∧ Tv w5 g4 2 p 0 ⟨#[]⟩ ∧ Tv w5 g2 0 0 0 ⟨#[]⟩ ∧ Lv w5 g s p ∧ Ch (fun i => i = g) w w5 :=
        ⟨_, rfl, Q4.out.kind 2, R4.out.far (p := ⟨g4, 0, none⟩) (Ne.symm N4.out.2) _, V4.out.far (a := ⟨g4, 0, none⟩) (Ne.symm N4.out.1) _, ch_far C4.out (by have := GE.out; have := N4.out; have := W4.out; omega) _⟩
      obtain ⟨w5, hw5, q5, r5, v5, c5⟩ := G5
      rw [hw5]
      have Q5 := Lib.hid q5; have R5 := Lib.hid r5; have V5 := Lib.hid v5; have C5 := Lib.hid c5
      obtain ⟨m0, m1, t0, t1⟩ := v5.cells
      obtain ⟨a0, a1, a2, a3, b0, b1, b2, b3⟩ := q5.cells
      clear hw5 q5 r5 v5 c5 Q4 R4 V4 C4
      have z0 : (0 : Int) ≤ (p : Int) := by omega
      have z1 : (p : Int) ≤ (p : Int) + (n : Int) := by omega
      have z2 : (p : Int) + (n : Int) ≤ (s.size : Int) := by have := HLE.out; omega
      have z3 : wrap64 ((p : Int) + (n : Int)) = (p : Int) + (n : Int) := by have := HLE.out; have := HS.out; unfold wrap64; omega
      have z4 : IntKind.i64.wrap ((p : Int) + (n : Int)) = (p : Int) + (n : Int) := by rw [wrap_is]; exact z3
      have hpn : ((p : Int) + (n : Int)).toNat = p + n := by omega
      have HPN := Lib.hid hpn
      have hx : (s.extract p ((p : Int) + (n : Int)).toNat).data.toList = (s.data.toList.drop p).takeWhile digitB := by
        rw [ext_data, hpn, Nat.add_sub_cancel_left, ← HN.out, take_while_is]
      have hes : (s.extract p ((p : Int) + (n : Int)).toNat).size ≤ 140737488355328 := by
        have h1 : (s.extract p ((p : Int) + (n : Int)).toNat).size = ((s.data.toList.drop p).takeWhile digitB).length := by rw [← hx]; rfl
        rw [h1, HN.out]; have := HLE.out; have := HS.out; omega
      have RC := Lib.hid (fun (W : World) => read_is (s.extract p ((p : Int) + (n : Int)).toNat) W hes)
      rw [hx] at RC
      obtain ⟨rn, hrn⟩ : ∃ rn, (readS ((s.data.toList.drop p).takeWhile digitB)).1 = rn := ⟨_, rfl⟩
      obtain ⟨re, hre⟩ : ∃ re, (readS ((s.data.toList.drop p).takeWhile digitB)).2 = re := ⟨_, rfl⟩
      rw [hrn, hre] at RC
      have HRN := Lib.hid hrn; have HRE := Lib.hid hre; have HX := Lib.hid hx
      clear hrn hre hx hpn hes
      go_region_with ((first | (go_at_call 94; refine (RC.out w5.drew).mono ?_; rintro e w6 ⟨rfl, b6⟩; have Q6 := Lib.hid (Tv.below (w := w5.drew) Q5.out b6); have V6 := Lib.hid (Lv.below (w := w5.drew) V5.out b6); obtain ⟨a0, a1, a2, a3, b0, b1, b2, b3⟩ := Q6.out.cells; obtain ⟨m0, m1, t0, t1⟩ := V6.out.cells)))
      all_goals
        go_upto_region 21 with (fail)
        obtain ⟨nn, w7, hw7, hnn, q7, r7, v7, c7⟩ : ∃ (nn : Int) (w7 : World), w6.setCell ⟨g4, 2, none⟩ (.int .i64 rn) = w7 ∧ nn = rn ∧ Tv w7 g4 2 p nn ⟨#[]⟩ ∧ Tv w7 g2 0 0 0 ⟨#[]⟩ ∧ Lv w7 g s p ∧ Ch (fun i => i = g) w w7 :=
          ⟨rn, _, rfl, rfl, Tv.num (Tv.below (w := w5.drew) Q5.out b6) rn, (Tv.below (w := w5.drew) R5.out b6).far (p := ⟨g4, 2, none⟩) (Ne.symm N4.out.2) _, (Lv.below (w := w5.drew) V5.out b6).far (a := ⟨g4, 2, none⟩) (Ne.symm N4.out.1) _, ch_far (Ch.below (b := w5.drew) (by exact C5.out.drew) b6) (by have := GE.out; have := N4.out; have := W4.out; omega) _⟩
        rw [hw7]
        have HNN := Lib.hid hnn
        clear hw7 hnn b6 Q5 R5 V5 C5 m0 m1 t0 t1 a0 a1 a2 a3 b0 b1 b2 b3
        have Q7 := Lib.hid q7; have R7 := Lib.hid r7; have V7 := Lib.hid v7; have C7 := Lib.hid c7
        obtain ⟨a0, a1, a2, a3, b0, b1, b2, b3⟩ := q7.cells
        obtain ⟨q0, q1, t0, t1⟩ := v7.cells
        clear q7 r7 v7 c7
        go_region
        all_goals
          obtain ⟨w8, hw8, q8, r8, v8, c8⟩ : ∃ w8 : World, (w7.setCell ⟨g4, 3, none⟩ (.string (s.extract p (p + n)))).drew = w8 ∧ Tv w8 g4 2 p nn (s.extract p (p + n)) ∧ Tv w8 g2 0 0 0 ⟨#[]⟩ ∧ Lv w8 g s p ∧ Ch (fun i => i = g) w w8 :=
            ⟨_, rfl, Q7.out.text _, R7.out.far (p := ⟨g4, 3, none⟩) (Ne.symm N4.out.2) _, V7.out.far (a := ⟨g4, 3, none⟩) (Ne.symm N4.out.1) _, (ch_far C7.out (by have := GE.out; have := N4.out; have := W4.out; omega) _).drew⟩
          try rw [HPN.out]
          rw [hw8]
          clear hw8 a0 a1 a2 a3 b0 b1 b2 b3 q0 q1 t0 t1 Q7 R7 V7 C7
          have Q8 := Lib.hid q8; have R8 := Lib.hid r8; have V8 := Lib.hid v8; have C8 := Lib.hid c8
          obtain ⟨a0, a1, a2, a3, b0, b1, b2, b3⟩ := q8.cells
          obtain ⟨q0, q1, t0, t1⟩ := v8.cells
          obtain ⟨d0, d1, d2, d3, e0, e1, e2, e3⟩ := r8.cells
          clear q8 r8 v8 c8
          go_upto_region 23 with (fail)
          obtain ⟨w9, hw9, q9, r9, v9, c9⟩ : ∃ w9 : World, (w8.setCell ⟨g, 1, none⟩ (.int .i64 ((p : Int) + (n : Int)))) = w9 ∧ Tv w9 g4 2 p nn (s.extract p (p + n)) ∧ Tv w9 g2 0 0 0 ⟨#[]⟩ ∧ Lv w9 g s (p + n) ∧ Ch (fun i => i = g) w w9 :=
            ⟨_, rfl, Q8.out.far (p := ⟨g, 1, none⟩) N4.out.1 _, R8.out.far (p := ⟨g, 1, none⟩) NG.out _, by have h := V8.out.set (p + n); rw [Int.natCast_add] at h; exact h, ch_put C8.out _ trivial⟩
          rw [hw9]
          clear hw9 a0 a1 a2 a3 b0 b1 b2 b3 q0 q1 t0 t1 d0 d1 d2 d3 e0 e1 e2 e3 Q8 R8 V8 C8
          have Q9 := Lib.hid q9; have R9 := Lib.hid r9; have V9 := Lib.hid v9; have C9 := Lib.hid c9
          obtain ⟨a0, a1, a2, a3, b0, b1, b2, b3⟩ := q9.cells
          obtain ⟨d0, d1, d2, d3, e0, e1, e2, e3⟩ := r9.cells
          clear q9 r9 v9 c9
          go_wp2_with fail
          refine bodyPost_ret (results_ct rfl _ _ g2 44 #[.int .i64 2, .int .i64 (p : Int), .int .i64 nn, .string (s.extract p (p + n))] (0, 0) _ rfl (by exact Tv.set R9.out 2 p nn (s.extract p (p + n))) Tryd.underlying44 rfl (by kernel_rfl)) rfl ?_
          have hx := HX.out
          rw [HPN.out] at hx
          have hx2 : s.extract p (p + n) = ⟨((s.data.toList.drop p).takeWhile digitB).toArray⟩ := by rw [← hx]
          rw [num_tok s p HP.out HLB.out HDB.out]
          refine ⟨?_, ?_, ?_⟩
          · simp only [tokV]
            rw [HNN.out, HRN.out, HRE.out, ← hx2]
            rfl
          · rw [HN.out]; exact Lv.far4 V9.out (Ne.symm NG.out) _ _ _ _
          · exact ch_far4 C9.out (by have := GE.out; omega) _ _ _ _
end Go.Proofs.YtfofpammnfcmiaaDoor.Lx
