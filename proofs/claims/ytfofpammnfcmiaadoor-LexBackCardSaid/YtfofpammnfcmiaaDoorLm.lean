/- Marline, layer 10: the next token, by the program: signs. Conditions: as each says. -/
import Derived.Test.YtfofpammnfcmiaaDoorLk
namespace Go.Proofs.YtfofpammnfcmiaaDoor.Lx
open Go.RowKit Go.Proofs.YtfofpammnfcmiaaDoorW.PrintWords Go.Proofs.YtfofpammnfcmiaaDoorW.PrintLast Go.Proofs.YtfofpammnfcmiaaDoorW.PrintMore Go.Proofs.YtfofpammnfcmiaaDoor.Obj Go.Proofs.YtfofpammnfcmiaaDoor.Kinds Go.Proofs.YtfofpammnfcmiaaDoor.E
set_option linter.unusedVariables false
set_option linter.unusedSimpArgs false
set_option maxRecDepth 100000
theorem drop_head2 (s : ByteArray) (p : Nat) (hp : p < s.size) : s.data.toList.drop p = s.data.toList.getD p 0 :: s.data.toList.drop (p + 1) := by
  have h1 : p < s.data.toList.length := hp
  rw [List.drop_eq_getElem_cons h1, List.getD_eq_getElem?_getD, List.getElem?_eq_getElem h1]; rfl
/-- a sign's token. -/
theorem mark_tok (s : ByteArray) (p : Nat) (hp : p < s.size) (hl : letterB (s.data.toList.getD p 0) = false) (hd : digitB (s.data.toList.getD p 0) = false) :
    tok1 W0 (s.data.toList.drop p) p = (⟨4, p, 0, markS (s.data.toList.drop p)⟩, if markS (s.data.toList.drop p) = [] then 1 else 0) := by
  rw [drop_head2 s p hp, tok1_cons, if_neg (by rw [hl]; exact Bool.false_ne_true), if_neg (by rw [hd]; exact Bool.false_ne_true)]; rfl
set_option maxHeartbeats 16000000 in
/-- a sign. -/
theorem next_mark (s : ByteArray) (p g : Nat) (w : World) (hv : Lv w g s p) (hp : p < s.size) (hs : s.size ≤ 1000000) (ht : Tabs w) (hl : letterB (s.data.toList.getD p 0) = false) (hd : digitB (s.data.toList.getD p 0) = false) :
    Calls Tryd.prog 66 #[.pointer (some ⟨g, 0, none⟩)] w fun e w' => e = .returned (.tuple #[tokV (tok1 W0 (s.data.toList.drop p) p).1, .int .i64 (tok1 W0 (s.data.toList.drop p) p).2]) ∧ Lv w' g s (p + (tok1 W0 (s.data.toList.drop p) p).1.text.length) ∧ Ch (fun i => i = g) w w' := by
  have HS := Lib.hid hs; have HT := Lib.hid ht; have HLB := Lib.hid hl; have HDB := Lib.hid hd
  clear hs ht hl hd
  have hu88 := Tryd.underlying88
  have hu44 := Tryd.underlying44
  obtain ⟨g2, hg2⟩ : ∃ g2, w.heap.size = g2 := ⟨_, rfl⟩
  have G := Lib.hid (show ∃ w1 : World, w.alloc (.cells #[.int .i64 0, .int .i64 0, .int .i64 0, .string ⟨#[]⟩] 44) = w1 ∧ Tv w1 g2 0 0 0 ⟨#[]⟩ ∧ Lv w1 g s p ∧ Ch (fun i => i = g) w w1 from
    ⟨_, rfl, by rw [← hg2]; exact blk_new w _, blk_alloc hv _, Ch.alloc (Ch.refl _ _) _⟩)
  have GE := Lib.hid hg2; have NG := Lib.hid (show g2 ≠ g by have := hv.lt; omega)
  have HP := Lib.hid hp; have HV0 := Lib.hid hv
  clear hv hp hg2
  go_enter Tryd.func66, Tryd.ntmps66
  go_upto_region 1 with (fail)
  rw [GE.out]
  obtain ⟨w1, hw1, r1, v1, c1⟩ := G.out
  rw [hw1]
  have R1 := Lib.hid r1; have V1 := Lib.hid v1; have C1 := Lib.hid c1
  obtain ⟨m0, m1, t0, t1⟩ := v1.cells
  clear G r1 v1 c1 hw1
  go_upto_region 2 with (fail)
  obtain ⟨g4, hg4⟩ : ∃ g4, w1.heap.size = g4 := ⟨_, rfl⟩
  have G2 : ∃ w2 : World, w1.alloc (.cells #[.int .i64 0, .int .i64 (p : Int), .int .i64 0, .string ⟨#[]⟩] 44) = w2 ∧ Tv w2 g4 0 p 0 ⟨#[]⟩ ∧ Tv w2 g2 0 0 0 ⟨#[]⟩ ∧ Lv w2 g s p ∧ Ch (fun i => i = g) w w2 :=
    ⟨_, rfl, by rw [← hg4]; exact blk_new w1 _, blk_alloc R1.out _, blk_alloc V1.out _, C1.out.alloc _⟩
  have W4 := Lib.hid (show w.heap.size ≤ g4 by have := C1.out.size; omega)
  have N4 := Lib.hid (show g4 ≠ g ∧ g4 ≠ g2 by have := V1.out.lt; have := (Array.getElem?_eq_some_iff.1 R1.out).1; omega)
  rw [hg4]
  obtain ⟨w2, hw2, q2, r2, v2, c2⟩ := G2
  rw [hw2]
  have Q2 := Lib.hid q2; have R2 := Lib.hid r2; have V2 := Lib.hid v2; have C2 := Lib.hid c2
  obtain ⟨m0, m1, t0, t1⟩ := v2.cells
  clear q2 r2 v2 c2 hw2 hg4 R1 V1 C1
  have p1 : ((p : Int) == (s.size : Int)) = false := by rw [beq_eq_false_iff_ne]; have := HP.out; omega
  have p2 : (p == s.size) = false := by rw [beq_eq_false_iff_ne]; have := HP.out; omega
  have ix := fun W => index_at s p HP.out W
  obtain ⟨c, hc⟩ : ∃ c, s.data.toList.getD p 0 = c := ⟨_, rfl⟩
  have HC := Lib.hid hc
  rw [hc] at ix
  have LC := Lib.hid (fun W => letter_calls c W)
  rw [show letterB c = false by rw [← hc]; exact HLB.out] at LC
  have DC := Lib.hid (fun W => digit_calls c W)
  rw [show digitB c = false by rw [← hc]; exact HDB.out] at DC
  clear hc
  go_region
  all_goals
    go_upto_region 5 with (fail)
    go_region
    all_goals
      go_wp2_with fail
      refine (LC.out _).mono ?_
      rintro e w3 ⟨rfl, d3⟩
      have Q3 := Lib.hid (Tv.below (w := w2.drew.drew) Q2.out d3.below); have R3 := Lib.hid (Tv.below (w := w2.drew.drew) R2.out d3.below); have V3 := Lib.hid (Lv.below (w := w2.drew.drew) V2.out d3.below); have C3 := Lib.hid (Ch.below (b := w2.drew.drew) (by exact C2.out.drew.drew) d3.below)
      clear d3 LC
      go_wp2_with fail
      refine (DC.out _).mono ?_
      rintro e w3b ⟨rfl, d3⟩
      have Q3b := Lib.hid (Q3.out.below d3.below); have R3b := Lib.hid (R3.out.below d3.below); have V3b := Lib.hid (V3.out.below d3.below); have C3b := Lib.hid (C3.out.below d3.below)
      clear d3 DC Q3 R3 V3 C3 Q2 R2 V2 C2
      have z0 : (0 : Int) ≤ (p : Int) := by omega
      have z1 : (p : Int) ≤ (s.size : Int) := by have := HP.out; omega
      have hx : (s.extract p s.size).data.toList = s.data.toList.drop p := by
        rw [ext_data]; exact List.take_of_length_le (by rw [List.length_drop]; exact Nat.le_refl _)
      have hes : (s.extract p s.size).size ≤ 140737488355328 := by
        have h1 : (s.extract p s.size).size = (s.data.toList.drop p).length := by rw [← hx]; rfl
        have h2 : s.data.toList.length = s.size := rfl
        rw [h1, List.length_drop, h2]; have := HS.out; omega
      have T3 := Lib.hid (show Tabs w3b from tabs_ch HT.out HV0.out C3b.out)
      have MC := Lib.hid (fun (W : World) (hT : Tabs W) => mark_calls (s.extract p s.size) W hes hT)
      rw [hx] at MC
      obtain ⟨mt, hmt⟩ : ∃ mt, markS (s.data.toList.drop p) = mt := ⟨_, rfl⟩
      rw [hmt] at MC
      have HM := Lib.hid hmt
      obtain ⟨n, hn⟩ : ∃ n, mt.length = n := ⟨_, rfl⟩
      have HN := Lib.hid hn
      have hsz : (⟨mt.toArray⟩ : ByteArray).size = n := by rw [← hn]; show mt.toArray.size = _; simp
      clear hx hes hmt hn m0 m1 t0 t1
      obtain ⟨m0, m1, t0, t1⟩ := V3b.out.cells
      go_upto_region 6 with (fail)
      go_region_held3 (fun w' => w'.cell? ⟨g, 0, none⟩ = some (.string s) ∧ w'.cell? ⟨g, 1, none⟩ = some (.int .i64 (p : Int))) (first | exact ⟨m0, m1⟩ | exact ⟨q0, q1⟩)
        (first | (go_at_call 95; refine (MC.out w3b.drew (Tabs.below (w := w3b) T3.out (below_drew1 (Below.refl _ _)))).mono ?_; rintro e w6 ⟨rfl, b6⟩; have q0 := pw_cell_below b6 (show w3b.drew.cell? _ = _ from m0); have q1 := pw_cell_below b6 (show w3b.drew.cell? _ = _ from m1)))
      have Q6 := Lib.hid (Tv.below (w := w3b.drew) Q3b.out b6); have R6 := Lib.hid (Tv.below (w := w3b.drew) R3b.out b6); have V6 := Lib.hid (Lv.below (w := w3b.drew) V3b.out b6); have C6 := Lib.hid (Ch.below (b := w3b.drew) (by exact C3b.out.drew) b6)
      obtain ⟨a0, a1, a2, a3, b0, b1, b2, b3⟩ := Q6.out.cells
      obtain ⟨q0, q1, t0, t1⟩ := V6.out.cells
      clear b6 Q3b R3b V3b C3b m0 m1
      by_cases hb : n = 0
      all_goals
        have HB := Lib.hid hb
        first
          | (have y1 : ((n : Int) == 0) = true := by rw [beq_iff_eq]; omega)
          | (have y1 : ((n : Int) == 0) = false := by rw [beq_eq_false_iff_ne]; omega)
        clear hb
        go_upto_region 21 with (fail)
        obtain ⟨w7, hw7, q7, r7, v7, c7⟩ : ∃ (w7 : World), w6.setCell ⟨g4, 0, none⟩ (.int .i64 4) = w7 ∧ Tv w7 g4 4 p 0 ⟨#[]⟩ ∧ Tv w7 g2 0 0 0 ⟨#[]⟩ ∧ Lv w7 g s p ∧ Ch (fun i => i = g) w w7 :=
          ⟨_, rfl, Q6.out.kind 4, R6.out.far (p := ⟨g4, 0, none⟩) (Ne.symm N4.out.2) _, V6.out.far (a := ⟨g4, 0, none⟩) (Ne.symm N4.out.1) _, ch_far C6.out (by have := GE.out; have := N4.out; have := W4.out; omega) _⟩
        rw [hw7]
        clear hw7 Q6 R6 V6 C6 q0 q1 t0 t1 a0 a1 a2 a3 b0 b1 b2 b3 z1 hsz
        obtain ⟨mr, hmr⟩ := markS_pre (s.data.toList.drop p)
        rw [HM.out] at hmr
        have hlen := congrArg List.length hmr
        rw [List.length_append, List.length_drop, HN.out, show s.data.toList.length = s.size from rfl] at hlen
        have HLE := Lib.hid (show p + n ≤ s.size by have := HP.out; omega)
        have z1 : (p : Int) ≤ (p : Int) + (n : Int) := by omega
        have z2 : (p : Int) + (n : Int) ≤ (s.size : Int) := by have := HLE.out; omega
        have z3 : wrap64 ((p : Int) + (n : Int)) = (p : Int) + (n : Int) := by have := HLE.out; have := HS.out; unfold wrap64; omega
        have z4 : IntKind.i64.wrap ((p : Int) + (n : Int)) = (p : Int) + (n : Int) := by rw [wrap_is]; exact z3
        have hpn : ((p : Int) + (n : Int)).toNat = p + n := by omega
        have HPN := Lib.hid hpn
        have HX := Lib.hid (show (s.extract p ((p : Int) + (n : Int)).toNat).data.toList = mt by
          rw [ext_data, hpn, Nat.add_sub_cancel_left, hmr, ← HN.out, List.take_left])
        clear hmr hlen hpn
        have Q7 := Lib.hid q7; have R7 := Lib.hid r7; have V7 := Lib.hid v7; have C7 := Lib.hid c7
        obtain ⟨a0, a1, a2, a3, b0, b1, b2, b3⟩ := q7.cells
        obtain ⟨q0, q1, t0, t1⟩ := v7.cells
        clear q7 r7 v7 c7
        go_region
        all_goals
          obtain ⟨w8, hw8, q8, r8, v8, c8⟩ : ∃ w8 : World, (w7.setCell ⟨g4, 3, none⟩ (.string (s.extract p (p + n)))).drew = w8 ∧ Tv w8 g4 4 p 0 (s.extract p (p + n)) ∧ Tv w8 g2 0 0 0 ⟨#[]⟩ ∧ Lv w8 g s p ∧ Ch (fun i => i = g) w w8 :=
            ⟨_, rfl, Q7.out.text _, R7.out.far (p := ⟨g4, 3, none⟩) (Ne.symm N4.out.2) _, V7.out.far (a := ⟨g4, 3, none⟩) (Ne.symm N4.out.1) _, (ch_far C7.out (by have := GE.out; have := N4.out; have := W4.out; omega) _).drew⟩
          try rw [HPN.out]
          rw [hw8]
          clear hw8 a0 a1 a2 a3 b0 b1 b2 b3 q0 q1 t0 t1 Q7 R7 V7 C7
          have Q8 := Lib.hid q8; have R8 := Lib.hid r8; have V8 := Lib.hid v8; have C8 := Lib.hid c8
          obtain ⟨a0, a1, a2, a3, b0, b1, b2, b3⟩ := q8.cells
          obtain ⟨q0, q1, t0, t1⟩ := v8.cells
          obtain ⟨d0, d1, d2, d3, e0, e1, e2, e3⟩ := r8.cells
          clear q8 r8 v8 c8
          go_upto_region 23 with (fail)
          obtain ⟨w9, hw9, q9, r9, v9, c9⟩ : ∃ w9 : World, (w8.setCell ⟨g, 1, none⟩ (.int .i64 ((p : Int) + (n : Int)))) = w9 ∧ Tv w9 g4 4 p 0 (s.extract p (p + n)) ∧ Tv w9 g2 0 0 0 ⟨#[]⟩ ∧ Lv w9 g s (p + n) ∧ Ch (fun i => i = g) w w9 :=
            ⟨_, rfl, Q8.out.far (p := ⟨g, 1, none⟩) N4.out.1 _, R8.out.far (p := ⟨g, 1, none⟩) NG.out _, by have h := V8.out.set (p + n); rw [Int.natCast_add] at h; exact h, ch_put C8.out _ trivial⟩
          rw [hw9]
          clear hw9 a0 a1 a2 a3 b0 b1 b2 b3 q0 q1 t0 t1 d0 d1 d2 d3 e0 e1 e2 e3 Q8 R8 V8 C8
          have Q9 := Lib.hid q9; have R9 := Lib.hid r9; have V9 := Lib.hid v9; have C9 := Lib.hid c9
          obtain ⟨a0, a1, a2, a3, b0, b1, b2, b3⟩ := q9.cells
          obtain ⟨d0, d1, d2, d3, e0, e1, e2, e3⟩ := r9.cells
          clear q9 r9 v9 c9
          go_wp2_with fail
          refine bodyPost_ret (results_ct rfl _ _ g2 44 #[.int .i64 4, .int .i64 (p : Int), .int .i64 0, .string (s.extract p (p + n))] (0, 0) _ rfl (by exact Tv.set R9.out 4 p 0 (s.extract p (p + n))) Tryd.underlying44 rfl (by kernel_rfl)) rfl ?_
          have hx := HX.out
          rw [HPN.out] at hx
          have hx2 : s.extract p (p + n) = ⟨(mt).toArray⟩ := by rw [← hx]
          rw [mark_tok s p HP.out HLB.out HDB.out, HM.out]
          refine ⟨?_, ?_, ?_⟩
          · simp only [tokV]
            rw [← hx2]
            first | (rw [if_pos (List.length_eq_zero_iff.1 (HN.out.trans HB.out))]; rfl) | (rw [if_neg (fun h => HB.out (HN.out.symm.trans (List.length_eq_zero_iff.2 h)))]; rfl)
          · rw [HN.out]; exact Lv.far4 V9.out (Ne.symm NG.out) _ _ _ _
          · exact ch_far4 C9.out (by have := GE.out; omega) _ _ _ _
end Go.Proofs.YtfofpammnfcmiaaDoor.Lx
