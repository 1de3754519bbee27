/- Marline, layer 41: the law of turning Gc. Conditions: as each says. -/
import Derived.Test.YtfofpammnfcmiaaDoorSk
namespace Go.Proofs.YtfofpammnfcmiaaDoor.E
open Go.RowKit Go.Proofs.YtfofpammnfcmiaaDoorW.PrintWords Go.Proofs.YtfofpammnfcmiaaDoorW.PrintLast Go.Proofs.YtfofpammnfcmiaaDoorW.PrintMore Go.Proofs.YtfofpammnfcmiaaDoor.Kinds Go.Proofs.YtfofpammnfcmiaaDoor.Obj Go.Proofs.YtfofpammnfcmiaaDoor.Sp
set_option linter.unusedVariables false
set_option linter.unusedSimpArgs false

set_option maxHeartbeats 8000000 in
set_option maxRecDepth 100000 in
theorem turns_walk (A : Option Addr) (c : Nat) (l : List S32) (A2 : Option Addr) (c2 : Nat) (q : List Int) (w : World) (hr : Kd.C k32 w A l.length l) (hc : l.length ≤ c) (hr2 : Kd.C (Kd.int .i64) w A2 q.length q) (hc2 : q.length ≤ c2) (h : Lw w) :
    Calls Tryd.prog 5 #[.slice A l.length c, .slice A2 q.length c2] w fun e w' => e = .returned (.bool true) ∧ Below w.heap.size w w' := by
  have hu32 := Tryd.underlying32
  have W1 := Lib.hid (works_calls w h)
  have HLw := Lib.hid h; have HR := Lib.hid hr; have HC := Lib.hid hc; have HR2 := Lib.hid hr2; have HC2_ := Lib.hid hc2
  obtain ⟨n, hn⟩ : ∃ n, l.length = n := ⟨_, rfl⟩
  obtain ⟨k, hk⟩ : ∃ k, q.length = k := ⟨_, rfl⟩
  have HN := Lib.hid hn; have HK := Lib.hid hk
  rw [hn, hk]
  by_cases hs : n ≤ 100 ∧ k ≤ 100
  · have p1 : decide ((100 : Int) < (n : Int)) = false := decide_eq_false (by omega)
    have p2 : decide ((100 : Int) < (k : Int)) = false := decide_eq_false (by omega)
    have HL := Lib.hid (show l.length * 24 ≤ 2400 by omega)
    have HS := Lib.hid hs
    clear h hr hc hr2 hc2 hn hk hs
    go_enter Tryd.func5, Tryd.ntmps5
    go_wp2_with fail
    refine W1.out.mono ?_
    rintro e w1 ⟨rfl, b1⟩
    have B1 := Lib.hid b1
    have R1 := Lib.hid (Kd.C_below HR.out b1)
    have Q1 := Lib.hid (Kd.C_below HR2.out b1)
    clear b1 W1
    go_upto_region 3 with (fail)
    have HE := Lib.hid (empty_own w1)
    have HB := Lib.hid (below_alloc (Below.refl w1.heap.size w1) (.cells #[] 32))
    have HC2 := Lib.hid (show Kd.C k32 (w1.alloc (.cells #[] 32)) A n l by have := Kd.C_alloc R1.out (Obj.cells #[] 32); rw [HN.out] at this; exact this)
    go_upto_region 4 with ((with_reducible refine gate_builtin (b := .append) (xs := #[.tmp 22, .tmp 23]) rfl ?_); at_builtin; refine Kd.R_append_rows k32 (Rr := fun x cs => cs = [.int .i64 x.f0, .int .i64 x.f1, .bool x.f2]) (w0 := w1) w1.heap.size rfl (.tmp 22) (.tmp 23) 23 32 (.agg #[(.int .i64 0), (.int .i64 0), (.bool false)]) 24 rfl Tryd.underlying23 info32 rfl (by decide) (by omega) (.slice (some ⟨w1.heap.size, 0, none⟩) 0 0) [] l A n c (fun _ => True) (fun _ => False) rfl rfl HE.out ?hR (fun x cs h => by rw [h]; exact k32_mkM _ _ _ x) (fun _ h => h.elim) (fun _ _ => trivial) HB.out HB.out.size (by have := HL.out; have := HN.out; simp; omega) ?_; (case hR => exact HC2.out.imp_ (Below.refl _ _) (fun x cs h => k32_open h)); intro v2 w2 ho hb hg hat; have O2 := Lib.hid ho; have B2_ := Lib.hid hb; clear ho hb hg hat)
    have o2 : Kd.R k32 32 w2 w1.heap.size (fun _ => True) v2 l := O2.out
    obtain ⟨Aw, cw, rfl⟩ := Kd.R_slice o2
    have WC := Lib.hid (Kd.R_reads' o2).2.2
    have Wc := Lib.hid (Kd.R_reads' o2).2.1
    have B2 := Lib.hid (B1.out.trans (B2_.out.mono B1.out.size))
    have R2 := Lib.hid (Kd.C_below R1.out B2_.out)
    have Q2 := Lib.hid (Kd.C_below Q1.out B2_.out)
    rw [HN.out]
    clear o2 O2 B2_ HE HB HC2 R1 Q1
    have HE := Lib.hid (empty_own w2)
    have HB := Lib.hid (below_alloc (Below.refl w2.heap.size w2) (.cells #[] 32))
    have HC2 := Lib.hid (show Kd.C k32 (w2.alloc (.cells #[] 32)) A n l by have := Kd.C_alloc R2.out (Obj.cells #[] 32); rw [HN.out] at this; exact this)
    go_upto_region 5 with ((with_reducible refine gate_builtin (b := .append) (xs := #[.tmp 25, .tmp 26]) rfl ?_); at_builtin; refine Kd.R_append_rows k32 (Rr := fun x cs => cs = [.int .i64 x.f0, .int .i64 x.f1, .bool x.f2]) (w0 := w2) w2.heap.size rfl (.tmp 25) (.tmp 26) 23 32 (.agg #[(.int .i64 0), (.int .i64 0), (.bool false)]) 24 rfl Tryd.underlying23 info32 rfl (by decide) (by omega) (.slice (some ⟨w2.heap.size, 0, none⟩) 0 0) [] l A n c (fun _ => True) (fun _ => False) rfl rfl HE.out ?hR (fun x cs h => by rw [h]; exact k32_mkM _ _ _ x) (fun _ h => h.elim) (fun _ _ => trivial) HB.out HB.out.size (by have := HL.out; have := HN.out; simp; omega) ?_; (case hR => exact HC2.out.imp_ (Below.refl _ _) (fun x cs h => k32_open h)); intro v3 w3 ho hb hg hat; have O3 := Lib.hid ho; have B3_ := Lib.hid hb; clear ho hb hg hat)
    have o3 : Kd.R k32 32 w3 w2.heap.size (fun _ => True) v3 l := O3.out
    obtain ⟨Ax, cx, rfl⟩ := Kd.R_slice o3
    have X3 := Lib.hid o3
    have B3 := Lib.hid B3_.out
    rw [HN.out]
    clear o3 O3 B3_ HE HB HC2
    go_wp2_with fail
    go_loopw [7] (fun i w' => ∃ (j : Nat) (L : List S32), i = .int .i64 j ∧ j ≤ k ∧ Hid (L = turns l (q.take j) ∧ L.length = l.length) ∧ Hid (Kd.R k32 32 w' w2.heap.size (fun _ => True) (.slice Ax n cx) L) ∧ Hid (Below w2.heap.size w2 w')) (fun i _ => k - (intOf i).toNat)
    case atStart => exact ⟨0, l, rfl, Nat.zero_le _, Lib.hid ⟨rfl, rfl⟩, Lib.hid (by rw [← HN.out]; exact X3.out), B3⟩
    case round =>
      obtain ⟨j, L, rfl, hj, HT, HX, HBx⟩ := hrel
      by_cases hlt : j < k
      · obtain ⟨ad, he, k0⟩ := Kd.at_int (Kd.C_below Q2.out HBx.out) (j : Int) (by omega) (by have := HK.out; omega)
        rw [Int.toNat_natCast] at k0
        have hjq : j < q.length := by have := HK.out; omega
        have htk : q.take (j + 1) = q.take j ++ [rd q j] := by
          rw [List.take_add_one, List.getElem?_eq_getElem hjq]
          unfold rd
          rw [Int.toNat_natCast]; simp [List.getD, List.getElem?_eq_getElem hjq]
        have NT := Lib.hid (show turns l (q.take (j + 1)) = turn (turns l (q.take j)) (rd q j) by rw [htk, turns_snoc])
        obtain ⟨x, hx⟩ : ∃ x, rd q j = x := ⟨_, rfl⟩
        rw [hx] at k0 NT
        subst he
        clear hjq htk hx
        have i0 : (0 : Int) ≤ (j : Int) := by omega
        have i1 : (j : Int) < (k : Int) := by omega
        by_cases hin : 0 ≤ x ∧ x < (n : Int)
        · obtain ⟨m, rfl⟩ : ∃ m : Nat, x = m := ⟨x.toNat, by omega⟩
          have hm : m < L.length := by have := HT.out.2; have := HN.out; omega
          obtain ⟨g, cap, hv, hg, q0, q1, hR⟩ := put_gc HX.out m hm
          injection hv with hv1 hv2 hv3
          subst hv1; subst hv3
          have d1 : decide ((0 : Int) ≤ (m : Int)) = true := decide_eq_true (by omega)
          have d2 : decide ((m : Int) < (n : Int)) = true := decide_eq_true hin.2
          have d3 : (0 : Int) ≤ (m : Int) := by omega
          have d4 : (m : Int) < (n : Int) := hin.2
          have HIN := Lib.hid (show turn L (m : Int) = L.set m (flip (rd_T32 L m)) from turn_in L m hm)
          have HR9 := Lib.hid hR
          have HG := Lib.hid hg
          clear hR hm hin hv2 hg
          have HWJ := Lib.hid (show wrap64 ((j : Int) + 1) = ((j + 1 : Nat) : Int) by have := HS.out; unfold wrap64; omega)
          go_upto_region 9 with (fail)
          go_region
          all_goals
            go_wp2_with fail
            go_roundw
            case rel => exact ⟨j + 1, L.set m (flip (rd_T32 L m)), by rw [HWJ.out], by omega, Lib.hid ⟨by rw [NT.out, ← HT.out.1, HIN.out], by rw [List.length_set]; exact HT.out.2⟩, Lib.hid (Kd.R_drew HR9.out), Lib.hid (below_drew1 (below_set HBx.out HG.out))⟩
            case measure => rw [HWJ.out]; simp [intOf]; omega
        · have d1 : decide ((0 : Int) ≤ x) = false ∨ (decide ((0 : Int) ≤ x) = true ∧ decide (x < (n : Int)) = false) := by
            by_cases h0 : 0 ≤ x
            · exact .inr ⟨decide_eq_true h0, decide_eq_false (by omega)⟩
            · exact .inl (decide_eq_false h0)
          have HOU := Lib.hid (show turn L x = L from turn_out L x (by rw [HT.out.2, HN.out]; exact hin))
          have HWJ := Lib.hid (show wrap64 ((j : Int) + 1) = ((j + 1 : Nat) : Int) by have := HS.out; unfold wrap64; omega)
          clear hin
          rcases d1 with d1 | ⟨d1, d2⟩
          all_goals
            go_wp2_with fail
            go_roundw
            case rel => exact ⟨j + 1, L, by rw [HWJ.out], by omega, Lib.hid ⟨by rw [NT.out, ← HT.out.1, HOU.out], HT.out.2⟩, HX, HBx⟩
            case measure => rw [HWJ.out]; simp [intOf]; omega
      · have hje : j = k := by omega
        subst hje
        have hL : L = turns l q := by rw [HT.out.1, List.take_of_length_le (by rw [HK.out]; exact Nat.le_refl _)]
        subst hL
        have B4 := Lib.hid (B2.out.trans (HBx.out.mono B2.out.size))
        have R4 := Lib.hid (Kd.C_below R2.out HBx.out)
        have Q4 := Lib.hid (Kd.C_below Q2.out HBx.out)
        have W4 := Lib.hid (Kd.C_below WC.out HBx.out)
        have X4 := Lib.hid (Kd.R_reads' HX.out).2.2
        have Xc := Lib.hid (show (turns l q).length ≤ cx by have := (Kd.R_reads' HX.out).2.1; rw [turns_len, HN.out]; exact this)
        have HT1 := Lib.hid (show (turns l q).length = n by rw [turns_len, HN.out])
        clear HT HX HBx X3 B3 R2 Q2 WC B2
        have C1 := with_calls A c l A2 c2 q wr R4.out HC.out (by have := HL.out; omega) Q4.out HC2_.out (by have := HS.out; have := HK.out; omega)
        rw [HN.out, HK.out] at C1
        have C1 := Lib.hid C1
        go_wp2_with fail
        refine C1.out.mono ?_
        rintro e w5 ⟨v, rfl, r5, b5⟩
        obtain ⟨B, d, rfl⟩ := Kd.R_slice r5
        have M5 := Lib.hid (Kd.R_reads' r5).2.2
        have Mc := Lib.hid (Kd.R_reads' r5).2.1
        have B5 := Lib.hid (B4.out.trans (b5.mono B4.out.size))
        have R5 := Lib.hid (Kd.C_below R4.out b5)
        have Q5 := Lib.hid (Kd.C_below Q4.out b5)
        have W5 := Lib.hid (Kd.C_below W4.out b5)
        have X5 := Lib.hid (Kd.C_below X4.out b5)
        rw [HT1.out]
        clear r5 b5 C1 R4 Q4 W4 X4 B4
        have C2 := same_calls B Ax d cx (turns l q) (turns l q) w5 M5.out Mc.out X5.out Xc.out (by have := HS.out; have := HT1.out; omega)
        rw [HT1.out, show decide (turns l q = turns l q) = true from decide_eq_true rfl] at C2
        have C2 := Lib.hid C2
        go_wp2_with fail
        refine C2.out.mono ?_
        rintro e w6 ⟨rfl, d6⟩
        have B6 := Lib.hid (B5.out.trans (Below.mono d6.below B5.out.size))
        have R6 := Lib.hid (Kd.C_below R5.out d6.below)
        have Q6 := Lib.hid (Kd.C_below Q5.out d6.below)
        have W6 := Lib.hid (Kd.C_below W5.out d6.below)
        have M6 := Lib.hid (Kd.C_below M5.out d6.below)
        clear d6 C2 R5 Q5 W5 X5 M5 B5
        have C3 := same_calls A Aw c cw l l w6 R6.out HC.out W6.out Wc.out (by have := HS.out; have := HN.out; omega)
        rw [HN.out, show decide (l = l) = true from decide_eq_true rfl] at C3
        have C3 := Lib.hid C3
        go_wp2_with fail
        refine C3.out.mono ?_
        rintro e w7 ⟨rfl, d7⟩
        have B7 := Lib.hid (B6.out.trans (Below.mono d7.below B6.out.size))
        have Q7 := Lib.hid (Kd.C_below Q6.out d7.below)
        have W7 := Lib.hid (Kd.C_below W6.out d7.below)
        have M7 := Lib.hid (Kd.C_below M6.out d7.below)
        clear d7 C3 R6 Q6 W6 M6 B6
        have C4 := with_calls B d (turns l q) A2 c2 q w7 M7.out Mc.out (by have := HS.out; have := HT1.out; omega) Q7.out HC2_.out (by have := HS.out; have := HK.out; omega)
        rw [HT1.out, HK.out, turns_two] at C4
        have C4 := Lib.hid C4
        go_wp2_with fail
        refine C4.out.mono ?_
        rintro e w8 ⟨v, rfl, r8, b8⟩
        obtain ⟨D, d2, rfl⟩ := Kd.R_slice r8
        have M8 := Lib.hid (Kd.R_reads' r8).2.2
        have Mc2 := Lib.hid (Kd.R_reads' r8).2.1
        have B8 := Lib.hid (B7.out.trans (b8.mono B7.out.size))
        have W8 := Lib.hid (Kd.C_below W7.out b8)
        rw [HN.out]
        clear r8 b8 C4 Q7 W7 M7 B7
        have C5 := same_calls D Aw d2 cw l l w8 M8.out Mc2.out W8.out Wc.out (by have := HS.out; have := HN.out; omega)
        rw [HN.out, show decide (l = l) = true from decide_eq_true rfl] at C5
        have C5 := Lib.hid C5
        go_wp2_with fail
        refine C5.out.mono ?_
        rintro e w9 ⟨rfl, d9⟩
        have B9 := Lib.hid (B8.out.trans (Below.mono d9.below B8.out.size))
        clear d9 C5 W8 M8 B8
        go_wp2_with fail
        go_ret
        exact ⟨rfl, B9.out⟩
  · have p : decide ((100 : Int) < (n : Int)) = true ∨ (decide ((100 : Int) < (n : Int)) = false ∧ decide ((100 : Int) < (k : Int)) = true) := by
      by_cases h0 : (100 : Int) < (n : Int)
      · exact .inl (decide_eq_true h0)
      · exact .inr ⟨decide_eq_false h0, decide_eq_true (by omega)⟩
    clear h hr hc hr2 hc2 hn hk hs
    rcases p with p1 | ⟨p1, p2⟩
    all_goals
      go_enter Tryd.func5, Tryd.ntmps5
      go_wp2_with fail
      refine W1.out.mono ?_
      rintro e w1 ⟨rfl, b1⟩
      have B1 := Lib.hid b1
      clear b1 W1
      go_wp2_with fail
      refine (works_calls w1 (HLw.out.below B1.out)).mono ?_
      rintro e w2 ⟨rfl, b2⟩
      have B2 := Lib.hid (B1.out.trans (b2.mono B1.out.size))
      clear b2
      go_wp2_with fail
      go_ret
      exact ⟨rfl, B2.out⟩
end Go.Proofs.YtfofpammnfcmiaaDoor.E
