/- Marline, layer 26: the law of parsing. Condition: the tables are laid. -/
import Derived.Test.YtfofpammnfcmiaaDoorIi
namespace Go.Proofs.YtfofpammnfcmiaaDoor.Ip
open Go.RowKit Go.Proofs.YtfofpammnfcmiaaDoorW.PrintWords Go.Proofs.YtfofpammnfcmiaaDoorW.PrintLast Go.Proofs.YtfofpammnfcmiaaDoorW.PrintMore Go.Proofs.YtfofpammnfcmiaaDoor.Kinds Go.Proofs.YtfofpammnfcmiaaDoor.Obj Go.Proofs.YtfofpammnfcmiaaDoor.Sp Go.Proofs.YtfofpammnfcmiaaDoor.E
set_option linter.unusedVariables false
set_option linter.unusedSimpArgs false
set_option maxRecDepth 100000
def litW : ByteArray := ⟨#[119, 114, 105, 116, 101, 97, 116, 32, 50, 32, 48]⟩
def litP : ByteArray := ⟨#[112, 117, 115, 104, 32, 45, 53]⟩
theorem litW_text : litW.data.toList = textS 23 2 0 := by
  have h0 : Lib.itoa 0 = [48] := dig_one 0 (by decide)
  have h2 : Lib.itoa 2 = [50] := dig_one 2 (by decide)
  unfold textS partsS
  rw [show argsI 23 = 2 from rfl, show nameI 23 = [119, 114, 105, 116, 101, 97, 116] from rfl]
  simp only [List.take, List.map]
  rw [h0, h2]; rfl
theorem litW_parse : parseS litW.data.toList = some (23, 2, 0) := by
  rw [litW_text]; exact parse_text (by decide) ⟨by decide, by decide⟩ ⟨by decide, by decide⟩
theorem litP_text : textI 1 (-5) 0 = litP := by
  have h5 : Lib.itoa (-5) = [45, 53] := by
    unfold Lib.itoa; rw [if_pos (by decide)]; rw [show (-5 : Int).natAbs = 5 from rfl, Lib.decDigits_one (by decide)]; rfl
  unfold textI
  rw [if_pos (by decide)]
  unfold textS partsS
  rw [show argsI 1 = 1 from rfl, show nameI 1 = [112, 117, 115, 104] from rfl]
  simp only [List.take, List.map]
  rw [h5]; rfl
/-- a code of one way, that is written out. -/
theorem code_lit (W : World) : CodeIs ((W.alloc (.cells #[.int .i64 0, .int .i64 (-1), .int .i64 (-1)] 3)).alloc (.cells #[.slice (some ⟨W.heap.size, 0, none⟩) 3 3] 35)) (.agg #[.slice none 0 0, .slice none 0 0, .slice none 0 0, .slice (some ⟨W.heap.size + 1, 0, none⟩) 1 1]) [] [] [] [[0, -1, -1]] := by
  have hA : ((W.alloc (.cells #[.int .i64 0, .int .i64 (-1), .int .i64 (-1)] 3)).alloc (.cells #[.slice (some ⟨W.heap.size, 0, none⟩) 3 3] 35)).heap[W.heap.size]? = some (.cells #[.int .i64 0, .int .i64 (-1), .int .i64 (-1)] 3 (0, 0)) := blk_alloc (blk_new W _) _
  have hB : ((W.alloc (.cells #[.int .i64 0, .int .i64 (-1), .int .i64 (-1)] 3)).alloc (.cells #[.slice (some ⟨W.heap.size, 0, none⟩) 3 3] 35)).heap[W.heap.size + 1]? = some (.cells #[.slice (some ⟨W.heap.size, 0, none⟩) 3 3] 35 (0, 0)) := heap_alloc2_new W _ _
  generalize ((W.alloc (.cells #[.int .i64 0, .int .i64 (-1), .int .i64 (-1)] 3)).alloc (.cells #[.slice (some ⟨W.heap.size, 0, none⟩) 3 3] 35)) = W2 at hA hB ⊢
  have hI : (Kd.int .i64).C W2 (some ⟨W.heap.size, 0, none⟩) 3 [0, -1, -1] := by
    refine ⟨rfl, by decide, fun _ => ⟨_, rfl, ?_⟩⟩
    intro j p hj
    have hs : (Kd.int .i64).sz = 1 := rfl
    match j, hj with
    | 0, hj => injection hj with hj; subst hj; exact ⟨[.int .i64 0], rfl, rfl, by intro i u hi; rw [hs, Addr.add_lit, blk_cell hA]; match i, hi with | 0, hi => exact hi | i + 1, hi => cases hi⟩
    | 1, hj => injection hj with hj; subst hj; exact ⟨[.int .i64 (-1)], rfl, rfl, by intro i u hi; rw [hs, Addr.add_lit, blk_cell hA]; match i, hi with | 0, hi => exact hi | i + 1, hi => cases hi⟩
    | 2, hj => injection hj with hj; subst hj; exact ⟨[.int .i64 (-1)], rfl, rfl, by intro i u hi; rw [hs, Addr.add_lit, blk_cell hA]; match i, hi with | 0, hi => exact hi | i + 1, hi => cases hi⟩
    | j + 3, hj => cases hj
  have hO : (Kd.slice 3 (Kd.int .i64)).C W2 (some ⟨W.heap.size + 1, 0, none⟩) 1 [[0, -1, -1]] := by
    refine ⟨rfl, by decide, fun _ => ⟨_, rfl, ?_⟩⟩
    intro j p hj
    have hs : (Kd.slice 3 (Kd.int .i64)).sz = 1 := rfl
    match j, hj with
    | 0, hj => injection hj with hj; subst hj; exact ⟨[.slice (some ⟨W.heap.size, 0, none⟩) 3 3], rfl, ⟨_, 3, rfl, by decide, hI⟩, by intro i u hi; rw [hs, Addr.add_lit, blk_cell hB]; match i, hi with | 0, hi => exact hi | i + 1, hi => cases hi⟩
    | j + 1, hj => cases hj
  refine ⟨⟨none, 0, none, 0, none, 0, _, 1, rfl, Kd.C_nil _ _, by decide, Kd.C_nil _ _, by decide, Kd.C_nil _ _, by decide, hO, by decide⟩, ?_⟩
  intro j
  unfold rd_L5
  match j.toNat with
  | 0 => decide
  | k + 1 => simp
theorem flow_lit : flowS 19 0 0 [] 0 [[0, -1, -1]] = (4, 1, true) := by decide +kernel
set_option maxHeartbeats 4000000 in
theorem iworks_calls (w : World) (h : Li w) : Calls Tryd.prog 35 #[] w fun e w' => e = .returned (.bool true) ∧ Below w.heap.size w w' := by
  have hu48 := Tryd.underlying48
  have hu61 := Tryd.underlying61
  have C1' := iparse_calls litW w (by decide) h
  rw [litW_parse] at C1'
  have C1 := Lib.hid C1'
  have HL := Lib.hid h
  clear h C1'
  go_enter Tryd.func35, Tryd.ntmps35
  go_wp2_with fail
  refine C1.out.mono ?_
  rintro e w1 ⟨rfl, b1⟩
  have B1 := Lib.hid b1
  clear b1 C1
  rw [show errO (some (23, 2, 0)) = 0 from rfl, show insO (some (23, 2, 0)) = .agg #[.int .i64 23, .int .i64 2, .int .i64 0, .int .i64 0] from rfl]
  go_upto_region 2 with (fail)
  obtain ⟨g, hg⟩ : ∃ g, w1.heap.size = g := ⟨_, rfl⟩
  have H2 : ∃ w2 : World, w1.alloc (.cells #[.int .i64 23, .int .i64 2, .int .i64 0, .int .i64 0] 48) = w2 ∧ Q4 w2 g 48 (.int .i64 23) (.int .i64 2) (.int .i64 0) (.int .i64 0) ∧ Below w.heap.size w w2 :=
    ⟨_, rfl, by rw [← hg]; exact blk_new w1 _, below_alloc B1.out _⟩
  rw [hg]
  obtain ⟨w2, hw2, v2, b2⟩ := H2
  rw [hw2]
  have V2 := Lib.hid v2; have B2 := Lib.hid b2
  clear hw2 v2 b2 B1 hg
  have B3 := Lib.hid (below_alloc (below_alloc B2.out (.cells #[.int .i64 0, .int .i64 (-1), .int .i64 (-1)] 3)) (.cells #[.slice (some ⟨w2.heap.size, 0, none⟩) 3 3] 35))
  have V3 := Lib.hid ((V2.out.alloc (.cells #[.int .i64 0, .int .i64 (-1), .int .i64 (-1)] 3)).alloc (.cells #[.slice (some ⟨w2.heap.size, 0, none⟩) 3 3] 35))
  have C2' := flow_calls 19 0 0 0 (HL.out.below B3.out).o (code_lit w2)
  rw [show flowS 19 0 0 [] (([] : List S226).length : Int) [[0, -1, -1]] = (4, 1, true) from flow_lit] at C2'
  have C2 := Lib.hid (show Calls Tryd.prog 38 #[.agg #[.int .i64 19, .int .i64 0, .int .i64 0, .int .i64 0], _] _ _ from C2')
  clear C2'
  go_wp2_with fail
  refine C2.out.mono ?_
  rintro e w4 ⟨rfl, b4⟩
  have V4 := Lib.hid (V3.out.below b4)
  have B4 := Lib.hid (B3.out.trans (b4.mono B3.out.size))
  obtain ⟨m0, m1, m2, m3, t0, t1, t2, t3⟩ := V4.out.cells
  clear b4 C2 V3 B3 V2 B2
  rw [show flowV (4, 1, true) = .tuple #[.int .i64 4, .int .i64 1, .bool true] from rfl]
  have C3' := itext_calls 1 (-5) 0 0 w4 ⟨by decide, by decide⟩ ⟨by decide, by decide⟩ (HL.out.below B4.out)
  rw [litP_text] at C3'
  have C3 := Lib.hid C3'
  clear C3'
  go_wp2_with fail
  refine C3.out.mono ?_
  rintro e w5 ⟨rfl, b5⟩
  have B5 := Lib.hid (B4.out.trans (b5.mono B4.out.size))
  clear b5 C3 V4 B4
  have hp : (litP.toList == [112, 117, 115, 104, 32, 45, 53]) = true := by rw [ByteArray.toList_eq]; rfl
  go_wp2_with fail
  go_ret
  exact ⟨rfl, B5.out⟩
end Go.Proofs.YtfofpammnfcmiaaDoor.Ip
namespace Go.Proofs.YtfofpammnfcmiaaDoor.Ip
open Go.RowKit Go.Proofs.YtfofpammnfcmiaaDoorW.PrintWords Go.Proofs.YtfofpammnfcmiaaDoorW.PrintLast Go.Proofs.YtfofpammnfcmiaaDoorW.PrintMore Go.Proofs.YtfofpammnfcmiaaDoor.Kinds Go.Proofs.YtfofpammnfcmiaaDoor.Obj Go.Proofs.YtfofpammnfcmiaaDoor.Sp Go.Proofs.YtfofpammnfcmiaaDoor.E
set_option linter.unusedVariables false
set_option linter.unusedSimpArgs false
set_option maxRecDepth 100000
set_option maxHeartbeats 4000000 in
theorem iparses_walk (s : ByteArray) (w : World) (h : Li w) : Calls Tryd.prog 10 #[.string s] w fun e w' => e = .returned (.bool true) ∧ Below w.heap.size w w' := by
  have hu48 := Tryd.underlying48
  have W1 := Lib.hid (iworks_calls w h)
  have HL := Lib.hid h
  by_cases hl : s.size ≤ 100
  · have p1 : decide ((100 : Int) < (s.size : Int)) = false := decide_eq_false (by omega)
    have HS := Lib.hid hl
    clear h hl
    go_enter Tryd.func10, Tryd.ntmps10
    go_wp2_with fail
    refine W1.out.mono ?_
    rintro e w1 ⟨rfl, b1⟩
    have B1 := Lib.hid b1
    clear b1 W1
    go_wp2_with fail
    obtain ⟨o, ho⟩ : ∃ o, parseS s.data.toList = o := ⟨_, rfl⟩
    have C1 := iparse_calls s w1 (by have := HS.out; omega) (HL.out.below B1.out)
    rw [ho] at C1
    refine C1.mono ?_
    rintro e w2 ⟨rfl, b2⟩
    have B2 := Lib.hid (B1.out.trans (b2.mono B1.out.size))
    clear b2 C1 B1
    cases o with
    | none =>
      rw [show errO none = 1 from rfl, show insO none = .agg #[.int .i64 0, .int .i64 0, .int .i64 0, .int .i64 0] from rfl]
      clear ho
      go_upto_region 4 with (fail)
      obtain ⟨g, hg⟩ : ∃ g, w2.heap.size = g := ⟨_, rfl⟩
      have H2 : ∃ w3 : World, w2.alloc (.cells #[.int .i64 0, .int .i64 0, .int .i64 0, .int .i64 0] 48) = w3 ∧ Q4 w3 g 48 (.int .i64 0) (.int .i64 0) (.int .i64 0) (.int .i64 0) ∧ Below w.heap.size w w3 :=
        ⟨_, rfl, by rw [← hg]; exact blk_new w2 _, below_alloc B2.out _⟩
      rw [hg]
      obtain ⟨w3, hw3, v3, b3⟩ := H2
      rw [hw3]
      have B3 := Lib.hid b3
      obtain ⟨m0, m1, m2, m3, t0, t1, t2, t3⟩ := v3.cells
      clear hw3 v3 b3 B2 hg
      go_wp2_with fail
      go_ret
      exact ⟨rfl, B3.out⟩
    | some x =>
      obtain ⟨op, a, b⟩ := x
      rw [show errO (some (op, a, b)) = 0 from rfl, show insO (some (op, a, b)) = .agg #[.int .i64 op, .int .i64 a, .int .i64 b, .int .i64 0] from rfl]
      obtain ⟨hr, ht, ha, hb⟩ := text_parse _ op a b ho
      have C2' := fun w => refRight_calls op a b 0 w
      rw [hr] at C2'
      have C3' := fun w => refText26_calls op a b 0 w ha hb
      rw [ht, show (⟨s.data.toList.toArray⟩ : ByteArray) = s from bytes_ext (by simp)] at C3'
      unfold insV at C2' C3'
      have C2 := Lib.hid C2'; have C3 := Lib.hid C3'
      clear ho hr ht ha hb C2' C3'
      go_upto_region 4 with (fail)
      obtain ⟨g, hg⟩ : ∃ g, w2.heap.size = g := ⟨_, rfl⟩
      have H2 : ∃ w3 : World, w2.alloc (.cells #[.int .i64 op, .int .i64 a, .int .i64 b, .int .i64 0] 48) = w3 ∧ Q4 w3 g 48 (.int .i64 op) (.int .i64 a) (.int .i64 b) (.int .i64 0) ∧ Below w.heap.size w w3 :=
        ⟨_, rfl, by rw [← hg]; exact blk_new w2 _, below_alloc B2.out _⟩
      rw [hg]
      obtain ⟨w3, hw3, v3, b3⟩ := H2
      rw [hw3]
      have V3 := Lib.hid v3; have B3 := Lib.hid b3
      obtain ⟨m0, m1, m2, m3, t0, t1, t2, t3⟩ := v3.cells
      clear hw3 v3 b3 B2 hg
      go_wp2_with fail
      refine (C2.out w3).mono ?_
      rintro e w4 ⟨rfl, b4⟩
      have V4 := Lib.hid (V3.out.below b4); have B4 := Lib.hid (B3.out.trans (b4.mono B3.out.size))
      obtain ⟨m0, m1, m2, m3, t0, t1, t2, t3⟩ := V4.out.cells
      clear b4 V3 B3
      go_wp2_with fail
      refine (C3.out w4).mono ?_
      rintro e w5 ⟨rfl, b5⟩
      have V5 := Lib.hid (V4.out.below b5); have B5 := Lib.hid (B4.out.trans (b5.mono B4.out.size))
      obtain ⟨m0, m1, m2, m3, t0, t1, t2, t3⟩ := V5.out.cells
      clear b5 V4 B4
      go_wp2_with fail
      go_ret
      exact ⟨rfl, B5.out⟩
  · have p1 : decide ((100 : Int) < (s.size : Int)) = true := decide_eq_true (by omega)
    clear h hl
    go_enter Tryd.func10, Tryd.ntmps10
    go_wp2_with fail
    refine W1.out.mono ?_
    rintro e w1 ⟨rfl, b1⟩
    have B1 := Lib.hid b1
    clear b1 W1
    go_wp2_with fail
    refine (iworks_calls w1 (HL.out.below B1.out)).mono ?_
    rintro e w2 ⟨rfl, b2⟩
    have B2 := Lib.hid (B1.out.trans (b2.mono B1.out.size))
    clear b2
    go_wp2_with fail
    go_ret
    exact ⟨rfl, B2.out⟩
theorem ops_of6 {p1 p2 p3 p4 p5 p6 : String × DataW Unit} {rest : List (String × DataW Unit)} {W : World} (h : laidMet Tryd.prog (p1 :: p2 :: p3 :: p4 :: p5 :: p6 :: ("marline/ins.ops", Rows.laid_marline_ins_ops) :: rest) W) : Ops W := ops_of_laid h.tail.tail.tail.tail.tail.tail
theorem li_of {W : World} (hl : Lw W) (ho : Ops W) : Li W := ⟨hl, ho⟩
theorem iparses_row (s : ByteArray) (W : World) (h1 : s.size ≤ 140737488351232) (h : Li W) : Calls Tryd.prog 10 #[.string s] W fun e w' => e = .returned (.bool true) ∧ Below W.heap.size W w' := iparses_walk s W h
end Go.Proofs.YtfofpammnfcmiaaDoor.Ip
