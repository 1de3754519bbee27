/- Marline, layer 10: the next token, by the program. Conditions: as each says. -/
import Derived.Test.YtfofpammnfcmiaaDoorLj
namespace Go.Proofs.YtfofpammnfcmiaaDoor.Lx
open Go.RowKit Go.Proofs.YtfofpammnfcmiaaDoorW.PrintWords Go.Proofs.YtfofpammnfcmiaaDoorW.PrintLast Go.Proofs.YtfofpammnfcmiaaDoorW.PrintMore Go.Proofs.YtfofpammnfcmiaaDoor.Obj Go.Proofs.YtfofpammnfcmiaaDoor.Kinds Go.Proofs.YtfofpammnfcmiaaDoor.E
set_option linter.unusedVariables false
set_option linter.unusedSimpArgs false
set_option maxRecDepth 100000
/-- a token in a variable. -/
def Tv (w : World) (g : Nat) (k a n : Int) (s : ByteArray) : Prop := w.heap[g]? = some (.cells #[.int .i64 k, .int .i64 a, .int .i64 n, .string s] 44 (0, 0))
theorem Tv.cells {w : World} {g : Nat} {k a n : Int} {s : ByteArray} (h : Tv w g k a n s) : w.cell? ⟨g, 0, none⟩ = some (.int .i64 k) ∧ w.cell? ⟨g, 1, none⟩ = some (.int .i64 a) ∧ w.cell? ⟨g, 2, none⟩ = some (.int .i64 n) ∧ w.cell? ⟨g, 3, none⟩ = some (.string s) ∧ w.frozen? ⟨g, 0, none⟩ = false ∧ w.frozen? ⟨g, 1, none⟩ = false ∧ w.frozen? ⟨g, 2, none⟩ = false ∧ w.frozen? ⟨g, 3, none⟩ = false :=
  ⟨(blk_cell h 0).trans rfl, (blk_cell h 1).trans rfl, (blk_cell h 2).trans rfl, (blk_cell h 3).trans rfl, blk_frozen h 0, blk_frozen h 1, blk_frozen h 2, blk_frozen h 3⟩
theorem Tv.set {w : World} {g : Nat} {k a n : Int} {s : ByteArray} (h : Tv w g k a n s) (k2 a2 n2 : Int) (s2 : ByteArray) :
    Tv ((((w.setCell ⟨g, 0, none⟩ (.int .i64 k2)).setCell ⟨g, 1, none⟩ (.int .i64 a2)).setCell ⟨g, 2, none⟩ (.int .i64 n2)).setCell ⟨g, 3, none⟩ (.string s2)) g k2 a2 n2 s2 := by
  have h1 := blk_set (blk_set (blk_set (blk_set h 0 (.int .i64 k2)) 1 (.int .i64 a2)) 2 (.int .i64 n2)) 3 (.string s2)
  unfold Tv
  simpa using h1
theorem Tv.kind {w : World} {g : Nat} {k a n : Int} {s : ByteArray} (h : Tv w g k a n s) (k2 : Int) : Tv (w.setCell ⟨g, 0, none⟩ (.int .i64 k2)) g k2 a n s := by
  have h1 := blk_set h 0 (.int .i64 k2); unfold Tv; simpa using h1
theorem Tv.num {w : World} {g : Nat} {k a n : Int} {s : ByteArray} (h : Tv w g k a n s) (n2 : Int) : Tv (w.setCell ⟨g, 2, none⟩ (.int .i64 n2)) g k a n2 s := by
  have h1 := blk_set h 2 (.int .i64 n2); unfold Tv; simpa using h1
theorem Tv.text {w : World} {g : Nat} {k a n : Int} {s : ByteArray} (h : Tv w g k a n s) (s2 : ByteArray) : Tv (w.setCell ⟨g, 3, none⟩ (.string s2)) g k a n s2 := by
  have h1 := blk_set h 3 (.string s2); unfold Tv; simpa using h1
theorem Tv.far {w : World} {g : Nat} {k a n : Int} {s : ByteArray} (h : Tv w g k a n s) {p : Addr} (hp : g ≠ p.block) (u : Value) : Tv (w.setCell p u) g k a n s := blk_far h hp u
theorem Tv.below {w w' : World} {g : Nat} {k a n : Int} {s : ByteArray} (h : Tv w g k a n s) (hb : Below w.heap.size w w') : Tv w' g k a n s := blk_below h hb
theorem Lv.far {w : World} {g : Nat} {s : ByteArray} {p : Nat} (h : Lv w g s p) {a : Addr} (hp : g ≠ a.block) (u : Value) : Lv (w.setCell a u) g s p := blk_far h hp u
theorem Lv.far4 {w : World} {g g2 : Nat} {s : ByteArray} {p : Nat} (h : Lv w g s p) (hg : g ≠ g2) (u0 u1 u2 u3 : Value) : Lv ((((w.setCell ⟨g2, 0, none⟩ u0).setCell ⟨g2, 1, none⟩ u1).setCell ⟨g2, 2, none⟩ u2).setCell ⟨g2, 3, none⟩ u3) g s p :=
  blk_far (blk_far (blk_far (blk_far h (p := ⟨g2, 0, none⟩) hg u0) (p := ⟨g2, 1, none⟩) hg u1) (p := ⟨g2, 2, none⟩) hg u2) (p := ⟨g2, 3, none⟩) hg u3
theorem ch_far {F : Nat → Prop} {w W : World} {g2 j : Nat} (h : Ch F w W) (hg : w.heap.size ≤ g2) (u : Value) : Ch F w (W.setCell ⟨g2, j, none⟩ u) := h.setCell (p := ⟨g2, j, none⟩) (.inr hg) u
theorem ch_far4 {F : Nat → Prop} {w W : World} {g2 : Nat} (h : Ch F w W) (hg : w.heap.size ≤ g2) (u0 u1 u2 u3 : Value) : Ch F w ((((W.setCell ⟨g2, 0, none⟩ u0).setCell ⟨g2, 1, none⟩ u1).setCell ⟨g2, 2, none⟩ u2).setCell ⟨g2, 3, none⟩ u3) := ch_far (ch_far (ch_far (ch_far h hg u0) hg u1) hg u2) hg u3
/-- the tables stand in blocks of their own; a lexer's block is another one. -/
theorem tabs_ch {w w' : World} {g : Nat} {s : ByteArray} {p : Nat} (h : Tabs w) (hv : Lv w g s p) (hc : Ch (fun i => i = g) w w') : Tabs w' := by
  obtain ⟨t, fr, h1⟩ := h.spl.blk
  have h2 := h.sp
  have g1 : 1 ≠ g := by
    rintro rfl
    have e := hv.symm.trans h1
    injection e with e
    injection e with e1
    have h3 : (2 : Nat) = splV.size := congrArg Array.size e1
    exact absurd h3 (by decide +kernel)
  refine ⟨⟨t, fr, (hc.block 1 (Go.Proofs.YtfofpammnfcmiaaDoorW.PrintWords.blk_lt h1) g1).trans h1⟩, ?_⟩
  unfold Lib.TabIs World.var? at h2 ⊢
  cases hg : Tryd.prog.globalNamed "strings.asciiSpace" with
  | none => rw [hg] at h2; cases h2
  | some q =>
    rw [hg] at h2
    simp only [Option.bind_some] at h2 ⊢
    have g2 : q ≠ g := by
      rintro rfl
      rw [show w.heap[q]? = _ from hv] at h2
      simp only at h2
      injection h2 with h2
      have h3 : (2 : Nat) = (Lib.asciiSpaceTab.map fun z => Value.int .u8 z).toArray.size := congrArg Array.size h2
      rw [List.size_toArray, List.length_map] at h3
      exact absurd h3 (by decide +kernel)
    have hlt : q < w.heap.size := by
      rcases Nat.lt_or_ge q w.heap.size with h' | h'
      · exact h'
      · rw [Array.getElem?_eq_none h'] at h2; cases h2
    rw [hc.block q hlt g2]
    exact h2
def tokV (t : Tok) : Value := .agg #[.int .i64 t.kind, .int .i64 (t.at_ : Int), .int .i64 t.n, .string ⟨t.text.toArray⟩]
set_option maxHeartbeats 8000000 in
/-- at the source's end. -/
theorem next_end (s : ByteArray) (p g : Nat) (w : World) (hv : Lv w g s p) (hp : p = s.size) :
    Calls Tryd.prog 66 #[.pointer (some ⟨g, 0, none⟩)] w fun e w' => e = .returned (.tuple #[tokV ⟨0, p, 0, []⟩, .int .i64 0]) ∧ Lv w' g s p ∧ Ch (fun i => i = g) w w' := by
  have hu88 := Tryd.underlying88
  have hu44 := Tryd.underlying44
  obtain ⟨g2, hg2⟩ : ∃ g2, w.heap.size = g2 := ⟨_, rfl⟩
  have G := Lib.hid (show ∃ w1 : World, w.alloc (.cells #[.int .i64 0, .int .i64 0, .int .i64 0, .string ⟨#[]⟩] 44) = w1 ∧ Tv w1 g2 0 0 0 ⟨#[]⟩ ∧ Lv w1 g s p ∧ Ch (fun i => i = g) w w1 from
    ⟨_, rfl, by rw [← hg2]; exact blk_new w _, blk_alloc hv _, Ch.alloc (Ch.refl _ _) _⟩)
  have GE := Lib.hid hg2; have NG := Lib.hid (show g2 ≠ g by have := hv.lt; omega)
  have HP := Lib.hid hp; have HV0 := Lib.hid hv
  clear hv hp hg2
  go_enter Tryd.func66, Tryd.ntmps66
  go_upto_region 1 with (fail)
  rw [GE.out]
  obtain ⟨w1, hw1, r1, v1, c1⟩ := G.out
  rw [hw1]
  have R1 := Lib.hid r1; have V1 := Lib.hid v1; have C1 := Lib.hid c1
  obtain ⟨m0, m1, t0, t1⟩ := v1.cells
  clear G r1 v1 c1 hw1
  go_upto_region 2 with (fail)
  obtain ⟨g4, hg4⟩ : ∃ g4, w1.heap.size = g4 := ⟨_, rfl⟩
  have G2 : ∃ w2 : World, w1.alloc (.cells #[.int .i64 0, .int .i64 (p : Int), .int .i64 0, .string ⟨#[]⟩] 44) = w2 ∧ Tv w2 g4 0 p 0 ⟨#[]⟩ ∧ Tv w2 g2 0 0 0 ⟨#[]⟩ ∧ Lv w2 g s p ∧ Ch (fun i => i = g) w w2 :=
    ⟨_, rfl, by rw [← hg4]; exact blk_new w1 _, blk_alloc R1.out _, blk_alloc V1.out _, C1.out.alloc _⟩
  have W4 := Lib.hid (show w.heap.size ≤ g4 by have := C1.out.size; omega)
  have N4 := Lib.hid (show g4 ≠ g ∧ g4 ≠ g2 by have := V1.out.lt; have := (Array.getElem?_eq_some_iff.1 R1.out).1; omega)
  rw [hg4]
  obtain ⟨w2, hw2, q2, r2, v2, c2⟩ := G2
  rw [hw2]
  have Q2 := Lib.hid q2; have R2 := Lib.hid r2; have V2 := Lib.hid v2; have C2 := Lib.hid c2
  obtain ⟨m0, m1, t0, t1⟩ := v2.cells
  clear q2 r2 v2 c2 hw2 hg4 R1 V1 C1
  have p1 : ((p : Int) == (s.size : Int)) = true := by rw [beq_iff_eq]; have := HP.out; omega
  have p2 : (p == s.size) = true := by rw [beq_iff_eq]; exact HP.out
  go_region
  all_goals
    obtain ⟨a0, a1, a2, a3, b0, b1, b2, b3⟩ := Q2.out.cells
    obtain ⟨d0, d1, d2, d3, e0, e1, e2, e3⟩ := R2.out.cells
    go_wp2_with fail
    refine bodyPost_ret (results_ct rfl _ _ g2 44 #[.int .i64 0, .int .i64 (p : Int), .int .i64 0, .string ⟨#[]⟩] (0, 0) _ rfl (by exact Tv.set (w := w2.drew) R2.out 0 p 0 ⟨#[]⟩) Tryd.underlying44 rfl (by kernel_rfl)) rfl ?_
    refine ⟨rfl, ?_, ?_⟩
    · exact Lv.far4 (w := w2.drew) V2.out (Ne.symm NG.out) _ _ _ _
    · exact Ch.drew (ch_far4 C2.out (by have := GE.out; omega) _ _ _ _)
/-- a name's token. -/
theorem name_tok (s : ByteArray) (p : Nat) (hp : p < s.size) (hl : letterB (s.data.toList.getD p 0) = true) :
    tok1 W0 (s.data.toList.drop p) p = (⟨if isS ((s.data.toList.drop p).takeWhile nameB) = true then (3 : Int) else 1, p, 0, (s.data.toList.drop p).takeWhile nameB⟩, if 32 < ((s.data.toList.drop p).takeWhile nameB).length then 3 else 0) := by
  have hd : s.data.toList.drop p = s.data.toList.getD p 0 :: s.data.toList.drop (p + 1) := by
    have h1 : p < s.data.toList.length := hp
    rw [List.drop_eq_getElem_cons h1, List.getD_eq_getElem?_getD, List.getElem?_eq_getElem h1]; rfl
  rw [hd, tok1_cons, if_pos hl]; rfl
set_option maxHeartbeats 8000000 in
/-- a name, or a word. -/
theorem next_name (s : ByteArray) (p g : Nat) (w : World) (hv : Lv w g s p) (hp : p < s.size) (hs : s.size ≤ 1000000) (ht : Tabs w) (hl : letterB (s.data.toList.getD p 0) = true) :
    Calls Tryd.prog 66 #[.pointer (some ⟨g, 0, none⟩)] w fun e w' => e = .returned (.tuple #[tokV (tok1 W0 (s.data.toList.drop p) p).1, .int .i64 (tok1 W0 (s.data.toList.drop p) p).2]) ∧ Lv w' g s (p + (tok1 W0 (s.data.toList.drop p) p).1.text.length) ∧ Ch (fun i => i = g) w w' := by
  have HS := Lib.hid hs; have HT := Lib.hid ht; have HLB := Lib.hid hl
  clear hs ht hl
  have hu88 := Tryd.underlying88
  have hu44 := Tryd.underlying44
  obtain ⟨g2, hg2⟩ : ∃ g2, w.heap.size = g2 := ⟨_, rfl⟩
  have G := Lib.hid (show ∃ w1 : World, w.alloc (.cells #[.int .i64 0, .int .i64 0, .int .i64 0, .string ⟨#[]⟩] 44) = w1 ∧ Tv w1 g2 0 0 0 ⟨#[]⟩ ∧ Lv w1 g s p ∧ Ch (fun i => i = g) w w1 from
    ⟨_, rfl, by rw [← hg2]; exact blk_new w _, blk_alloc hv _, Ch.alloc (Ch.refl _ _) _⟩)
  have GE := Lib.hid hg2; have NG := Lib.hid (show g2 ≠ g by have := hv.lt; omega)
  have HP := Lib.hid hp; have HV0 := Lib.hid hv
  clear hv hp hg2
  go_enter Tryd.func66, Tryd.ntmps66
  go_upto_region 1 with (fail)
  rw [GE.out]
  obtain ⟨w1, hw1, r1, v1, c1⟩ := G.out
  rw [hw1]
  have R1 := Lib.hid r1; have V1 := Lib.hid v1; have C1 := Lib.hid c1
  obtain ⟨m0, m1, t0, t1⟩ := v1.cells
  clear G r1 v1 c1 hw1
  go_upto_region 2 with (fail)
  obtain ⟨g4, hg4⟩ : ∃ g4, w1.heap.size = g4 := ⟨_, rfl⟩
  have G2 : ∃ w2 : World, w1.alloc (.cells #[.int .i64 0, .int .i64 (p : Int), .int .i64 0, .string ⟨#[]⟩] 44) = w2 ∧ Tv w2 g4 0 p 0 ⟨#[]⟩ ∧ Tv w2 g2 0 0 0 ⟨#[]⟩ ∧ Lv w2 g s p ∧ Ch (fun i => i = g) w w2 :=
    ⟨_, rfl, by rw [← hg4]; exact blk_new w1 _, blk_alloc R1.out _, blk_alloc V1.out _, C1.out.alloc _⟩
  have W4 := Lib.hid (show w.heap.size ≤ g4 by have := C1.out.size; omega)
  have N4 := Lib.hid (show g4 ≠ g ∧ g4 ≠ g2 by have := V1.out.lt; have := (Array.getElem?_eq_some_iff.1 R1.out).1; omega)
  rw [hg4]
  obtain ⟨w2, hw2, q2, r2, v2, c2⟩ := G2
  rw [hw2]
  have Q2 := Lib.hid q2; have R2 := Lib.hid r2; have V2 := Lib.hid v2; have C2 := Lib.hid c2
  obtain ⟨m0, m1, t0, t1⟩ := v2.cells
  clear q2 r2 v2 c2 hw2 hg4 R1 V1 C1
  have p1 : ((p : Int) == (s.size : Int)) = false := by rw [beq_eq_false_iff_ne]; have := HP.out; omega
  have p2 : (p == s.size) = false := by rw [beq_eq_false_iff_ne]; have := HP.out; omega
  have ix := fun W => index_at s p HP.out W
  obtain ⟨c, hc⟩ : ∃ c, s.data.toList.getD p 0 = c := ⟨_, rfl⟩
  have HC := Lib.hid hc
  rw [hc] at ix
  have LC := Lib.hid (fun W => letter_calls c W)
  rw [show letterB c = true by rw [← hc]; exact HLB.out] at LC
  clear hc
  go_region
  all_goals
    go_upto_region 5 with (fail)
    go_region
    all_goals
      go_wp2_with fail
      refine (LC.out _).mono ?_
      rintro e w3 ⟨rfl, d3⟩
      have Q3 := Lib.hid (Tv.below (w := w2.drew.drew) Q2.out d3.below); have R3 := Lib.hid (Tv.below (w := w2.drew.drew) R2.out d3.below); have V3 := Lib.hid (Lv.below (w := w2.drew.drew) V2.out d3.below); have C3 := Lib.hid (Ch.below (b := w2.drew.drew) (by exact C2.out.drew.drew) d3.below)
      clear d3 LC
      go_wp2_with fail
      refine (run91 s p g w3 V3.out (by have := HP.out; omega) HS.out).mono ?_
      rintro e w4 ⟨rfl, d4⟩
      obtain ⟨n, hn⟩ : ∃ n, ((s.data.toList.drop p).takeWhile nameB).length = n := ⟨_, rfl⟩
      rw [hn]
      have hle := while_le nameB (s.data.toList.drop p)
      rw [List.length_drop, hn, show s.data.toList.length = s.size from rfl] at hle
      have HN := Lib.hid hn; have HLE := Lib.hid (show p + n ≤ s.size by have := HP.out; omega)
      have Q4 := Lib.hid (Q3.out.below d4.below); have R4 := Lib.hid (R3.out.below d4.below); have V4 := Lib.hid (V3.out.below d4.below); have C4 := Lib.hid (C3.out.below d4.below)
      obtain ⟨a0, a1, a2, a3, b0, b1, b2, b3⟩ := Q4.out.cells
      clear d4 Q2 R2 V2 C2 Q3 R3 V3 C3 hn hle m0 m1 t0 t1
      go_upto_region 13 with (fail)
      have G5 : ∃ w5 : World, w4.setCell ⟨g4, 0, none⟩ (.int .i64 1) = w5 ∧ Tv w5 g4 1 p 0 ⟨#[]⟩ ∧ Tv w5 g2 0 0 0 ⟨#[]⟩ ∧ Lv w5 g s p ∧ Ch (fun i => i = g) w w5 :=
        ⟨_, rfl, Q4.out.kind 1, R4.out.far (p := ⟨g4, 0, none⟩) (Ne.symm N4.out.2) _, V4.out.far (a := ⟨g4, 0, none⟩) (Ne.symm N4.out.1) _, ch_far C4.out (by have := GE.out; have := N4.out; have := W4.out; omega) _⟩
      obtain ⟨w5, hw5, q5, r5, v5, c5⟩ := G5
      rw [hw5]
      have Q5 := Lib.hid q5; have R5 := Lib.hid r5; have V5 := Lib.hid v5; have C5 := Lib.hid c5
      have T5 := Lib.hid (show Tabs w5 from tabs_ch HT.out HV0.out C5.out)
      obtain ⟨m0, m1, t0, t1⟩ := v5.cells
      clear hw5 q5 r5 v5 c5 a0 a1 a2 a3 b0 b1 b2 b3 Q4 R4 V4 C4
      have z0 : (0 : Int) ≤ (p : Int) := by omega
      have z1 : (p : Int) ≤ (p : Int) + (n : Int) := by omega
      have z2 : (p : Int) + (n : Int) ≤ (s.size : Int) := by have := HLE.out; omega
      have z3 : wrap64 ((p : Int) + (n : Int)) = (p : Int) + (n : Int) := by have := HLE.out; have := HS.out; unfold wrap64; omega
      have z4 : IntKind.i64.wrap ((p : Int) + (n : Int)) = (p : Int) + (n : Int) := by rw [wrap_is]; exact z3
      have hpn : ((p : Int) + (n : Int)).toNat = p + n := by omega
      have HPN := Lib.hid hpn
      obtain ⟨bI, hbI⟩ : ∃ bI, isS ((s.data.toList.drop p).takeWhile nameB) = bI := ⟨_, rfl⟩
      have hx : (s.extract p ((p : Int) + (n : Int)).toNat).data.toList = (s.data.toList.drop p).takeWhile nameB := by
        rw [ext_data, hpn, Nat.add_sub_cancel_left, ← HN.out, take_while_is]
      have ISC := Lib.hid (fun (W : World) (hT : Tabs W) => is_calls (s.extract p ((p : Int) + (n : Int)).toNat) W hT)
      rw [hx, hbI] at ISC
      have HI := Lib.hid hbI; have HX := Lib.hid hx
      clear hbI hx hpn
      go_region_held3 (fun w' => w'.cell? ⟨g, 0, none⟩ = some (.string s) ∧ w'.cell? ⟨g, 1, none⟩ = some (.int .i64 (p : Int))) (first | exact ⟨m0, m1⟩ | exact ⟨q0, q1⟩)
        (first | (go_at_call 93; refine (ISC.out w5.drew (Tabs.below (w := w5) T5.out (below_drew1 (Below.refl _ _)))).mono ?_; rintro e w6 ⟨rfl, b6⟩; have q0 := pw_cell_below b6 (show w5.drew.cell? _ = _ from m0); have q1 := pw_cell_below b6 (show w5.drew.cell? _ = _ from m1)))
      have Q6 := Lib.hid (Tv.below (w := w5.drew) Q5.out b6); have R6 := Lib.hid (Tv.below (w := w5.drew) R5.out b6); have V6 := Lib.hid (Lv.below (w := w5.drew) V5.out b6); have C6 := Lib.hid (Ch.below (b := w5.drew) (by exact C5.out.drew) b6)
      obtain ⟨a0, a1, a2, a3, b0, b1, b2, b3⟩ := Q6.out.cells
      obtain ⟨q0, q1, t0, t1⟩ := V6.out.cells
      clear b6 Q5 R5 V5 C5 m0 m1
      by_cases hb : 32 < n
      all_goals
        have HB := Lib.hid hb
        first
          | (have y1 : decide ((32 : Int) < (n : Int)) = true := decide_eq_true (by omega); have y2 : decide (32 < n) = true := decide_eq_true hb)
          | (have y1 : decide ((32 : Int) < (n : Int)) = false := decide_eq_false (by omega); have y2 : decide (32 < n) = false := decide_eq_false hb)
        clear hb
        cases bI
        all_goals
          go_upto_region 21 with (fail)
          clear a0 a1 a2 a3 b0 b1 b2 b3 q0 q1 t0 t1
          obtain ⟨nn, hnn⟩ : ∃ nn : Int, nn = 0 := ⟨_, rfl⟩
          rw [← hnn] at Q6
          have HNN := Lib.hid hnn
          clear hnn
          have KT : ∀ {b : Bool}, isS ((s.data.toList.drop p).takeWhile nameB) = b → (if b = true then (3 : Int) else 1) = if isS ((s.data.toList.drop p).takeWhile nameB) = true then (3 : Int) else 1 := fun h => by rw [h]
          first
            | (obtain ⟨kk, w7, hw7, hk, q7, r7, v7, c7⟩ : ∃ (kk : Int) (w7 : World), w6.setCell ⟨g4, 0, none⟩ (.int .i64 3) = w7 ∧ kk = (if isS ((s.data.toList.drop p).takeWhile nameB) = true then (3 : Int) else 1) ∧ Tv w7 g4 kk p nn ⟨#[]⟩ ∧ Tv w7 g2 0 0 0 ⟨#[]⟩ ∧ Lv w7 g s p ∧ Ch (fun i => i = g) w w7 :=
                 ⟨3, _, rfl, KT (b := true) HI.out, Q6.out.kind 3, R6.out.far (p := ⟨g4, 0, none⟩) (Ne.symm N4.out.2) _, V6.out.far (a := ⟨g4, 0, none⟩) (Ne.symm N4.out.1) _, ch_far C6.out (by have := GE.out; have := N4.out; have := W4.out; omega) _⟩
               rw [hw7]
               clear hw7 Q6 R6 V6 C6
               have HK := Lib.hid hk
               clear hk KT)
            | (obtain ⟨kk, w7, hw7, hk, q7, r7, v7, c7⟩ : ∃ (kk : Int) (w7 : World), w7 = w6 ∧ kk = (if isS ((s.data.toList.drop p).takeWhile nameB) = true then (3 : Int) else 1) ∧ Tv w7 g4 kk p nn ⟨#[]⟩ ∧ Tv w7 g2 0 0 0 ⟨#[]⟩ ∧ Lv w7 g s p ∧ Ch (fun i => i = g) w w7 := ⟨1, _, rfl, KT (b := false) HI.out, Q6.out, R6.out, V6.out, C6.out⟩
               clear Q6 R6 V6 C6
               subst hw7
               have HK := Lib.hid hk
               clear hk KT)
          all_goals
            have Q7 := Lib.hid q7; have R7 := Lib.hid r7; have V7 := Lib.hid v7; have C7 := Lib.hid c7
            obtain ⟨a0, a1, a2, a3, b0, b1, b2, b3⟩ := q7.cells
            obtain ⟨q0, q1, t0, t1⟩ := v7.cells
            clear q7 r7 v7 c7
            go_region
            all_goals
              obtain ⟨w8, hw8, q8, r8, v8, c8⟩ : ∃ w8 : World, (w7.setCell ⟨g4, 3, none⟩ (.string (s.extract p (p + n)))).drew = w8 ∧ Tv w8 g4 kk p nn (s.extract p (p + n)) ∧ Tv w8 g2 0 0 0 ⟨#[]⟩ ∧ Lv w8 g s p ∧ Ch (fun i => i = g) w w8 :=
                ⟨_, rfl, Q7.out.text _, R7.out.far (p := ⟨g4, 3, none⟩) (Ne.symm N4.out.2) _, V7.out.far (a := ⟨g4, 3, none⟩) (Ne.symm N4.out.1) _, (ch_far C7.out (by have := GE.out; have := N4.out; have := W4.out; omega) _).drew⟩
              rw [hw8]
              clear hw8 a0 a1 a2 a3 b0 b1 b2 b3 q0 q1 t0 t1 Q7 R7 V7 C7
              have Q8 := Lib.hid q8; have R8 := Lib.hid r8; have V8 := Lib.hid v8; have C8 := Lib.hid c8
              obtain ⟨a0, a1, a2, a3, b0, b1, b2, b3⟩ := q8.cells
              obtain ⟨q0, q1, t0, t1⟩ := v8.cells
              obtain ⟨d0, d1, d2, d3, e0, e1, e2, e3⟩ := r8.cells
              clear q8 r8 v8 c8
              go_upto_region 23 with (fail)
              obtain ⟨w9, hw9, q9, r9, v9, c9⟩ : ∃ w9 : World, (w8.setCell ⟨g, 1, none⟩ (.int .i64 ((p : Int) + (n : Int)))) = w9 ∧ Tv w9 g4 kk p nn (s.extract p (p + n)) ∧ Tv w9 g2 0 0 0 ⟨#[]⟩ ∧ Lv w9 g s (p + n) ∧ Ch (fun i => i = g) w w9 :=
                ⟨_, rfl, Q8.out.far (p := ⟨g, 1, none⟩) N4.out.1 _, R8.out.far (p := ⟨g, 1, none⟩) NG.out _, by have h := V8.out.set (p + n); rw [Int.natCast_add] at h; exact h, ch_put C8.out _ trivial⟩
              rw [hw9]
              clear hw9 a0 a1 a2 a3 b0 b1 b2 b3 q0 q1 t0 t1 d0 d1 d2 d3 e0 e1 e2 e3 Q8 R8 V8 C8
              have Q9 := Lib.hid q9; have R9 := Lib.hid r9; have V9 := Lib.hid v9; have C9 := Lib.hid c9
              obtain ⟨a0, a1, a2, a3, b0, b1, b2, b3⟩ := q9.cells
              obtain ⟨d0, d1, d2, d3, e0, e1, e2, e3⟩ := r9.cells
              clear q9 r9 v9 c9
              go_wp2_with fail
              refine bodyPost_ret (results_ct rfl _ _ g2 44 #[.int .i64 kk, .int .i64 (p : Int), .int .i64 nn, .string (s.extract p (p + n))] (0, 0) _ rfl (by exact Tv.set R9.out kk p nn (s.extract p (p + n))) Tryd.underlying44 rfl (by kernel_rfl)) rfl ?_
              have hx := HX.out
              rw [HPN.out] at hx
              have hx2 : s.extract p (p + n) = ⟨((s.data.toList.drop p).takeWhile nameB).toArray⟩ := by rw [← hx]
              rw [name_tok s p HP.out HLB.out]
              refine ⟨?_, ?_, ?_⟩
              · simp only [tokV]
                rw [HN.out, ← HK.out, ← HNN.out, ← hx2]
                first | (rw [if_pos HB.out]; rfl) | (rw [if_neg HB.out]; rfl)
              · rw [HN.out]; exact Lv.far4 V9.out (Ne.symm NG.out) _ _ _ _
              · exact ch_far4 C9.out (by have := GE.out; omega) _ _ _ _
end Go.Proofs.YtfofpammnfcmiaaDoor.Lx
