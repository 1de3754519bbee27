/- Marline, layer 02: any text's lines, and which columns there are: the walk. Conditions: as each says. -/
import Derived.Test.YtodldmgidaccbaaLw
namespace Go.Proofs.Ytodldmgidaccbaa.M
open Go.RowKit Go.Proofs.YtodldmgidaccbaaW.PrintWords Go.Proofs.YtodldmgidaccbaaW.PrintLast Go.Proofs.YtodldmgidaccbaaW.PrintMore Go.Proofs.Ytodldmgidaccbaa.Kinds Go.Proofs.Ytodldmgidaccbaa.Obj
attribute [local go_sem] max2_int min2_int max_two min_two
set_option linter.unusedVariables false
set_option linter.unusedSimpArgs false

theorem i64_wf {x : Int} (h : (Lit.int .i64 x).wf = true) : -9223372036854775808 ≤ x ∧ x ≤ 9223372036854775807 := by simpa [Lit.wf, IntKind.min, IntKind.max, IntKind.signed, IntKind.bits] using h
/-- Off, at a column that there is: At leads back. -/
theorem at_back (g : Nat) (n c u d : Int) (s : ByteArray) (w : World) (h : Ln w g s (bg s s.size)) (hs : s.size ≤ 400) (n1 : 1 ≤ n) (n2 : n ≤ (bg s s.size).length) (hu : rd (bg s s.size) (n - 1) = u) (hd : endN s (bg s s.size) n = d) (c1 : 1 ≤ c) (c2 : c ≤ d - u + 1) :
    Calls Try.prog 7 #[.pointer (some ⟨g, 0, none⟩), .int .i64 (u + c - 1)] w fun e w' => e = .returned (.tuple #[.int .i64 n, .int .i64 c]) ∧ Below w.heap.size w w' := by
  have hb := line_bd s s.size rfl n n1 n2
  rw [hu, hd] at hb
  refine (at_ref g (u + c - 1) (u + c - 1) (u + c - 1) s w h hs ?_ ?_).mono ?_
  · split <;> omega
  · split <;> omega
  · rintro e w' ⟨rfl, hw⟩
    obtain ⟨e1, e2⟩ := bg_place s (u + c - 1).toNat s.size (by omega) n n1 n2 (by rw [hu]; omega) (fun hlt => by
      have e : endN s (bg s s.size) n = rd (bg s s.size) n - 1 := by unfold endN; rw [if_pos hlt]
      omega)
    rw [← e1, ← e2, hu]
    refine ⟨?_, hw⟩
    rw [show u + c - 1 - u + 1 = c by omega]

set_option maxHeartbeats 8000000 in
set_option maxRecDepth 100000 in
theorem lines_walk (s : ByteArray) (line col : Int) (w : World) (hz : s.size ≤ 140737488351232) (wl : -9223372036854775808 ≤ line ∧ line ≤ 9223372036854775807) (wc : -9223372036854775808 ≤ col ∧ col ≤ 9223372036854775807) :
    Calls Try.prog 4 #[.string s, .int .i64 line, .int .i64 col] w fun e w' => e = .returned (.bool true) ∧ Below w.heap.size w w' := by
  by_cases hs : s.size ≤ 400
  · have hgt : decide ((400 : Int) < (s.size : Int)) = false := decide_eq_false (by omega)
    obtain ⟨L, hL⟩ : ∃ L, (bg s s.size).length = L := ⟨_, rfl⟩
    have hl2 := bg_len s s.size
    rw [hL] at hl2
    have HLL := Lib.hid hL
    have PA1 := Lib.hid (pre_all s L hl2.1 hL.symm)
    clear hL
    go_enter Try.func4, Try.ntmps4
    go_wp2_with fail
    refine (works_is w).mono ?_
    rintro e w1 ⟨rfl, b1⟩
    have B1 := Lib.hid b1
    clear b1
    go_wp2_with fail
    refine (of_is s _ hs).mono ?_
    rintro e w2 ⟨g, rfl, h2, b2⟩
    have H2 := Lib.hid h2
    have B2 := Lib.hid (B1.out.trans (Below.mono b2 B1.out.size))
    clear h2 b2 B1
    go_wp2_with fail
    refine (lines_is s _ hs).mono ?_
    rintro e w3 ⟨v, rfl, r3, b3⟩
    obtain ⟨A, c, rfl⟩ := Kd.R_slice r3
    have H3 := Lib.hid (H2.out.below b3)
    have B3 := Lib.hid (B2.out.trans (Below.mono b3 B2.out.size))
    have R3 := Lib.hid (Kd.R_reads' r3).2.2
    clear b3 B2 H2 r3
    rw [lnsL_len] at R3
    rw [lnsL_len, HLL.out]
    rw [HLL.out] at R3
    go_wp2_with fail
    go_loopw [9, 10] (fun p i wr => ∃ (n : Nat) (P : ByteArray), p = .string P ∧ i = .int .i64 n ∧ n ≤ L ∧ Hid (P = pre s (bg s s.size) n) ∧ Hid (∃ q, wr = w3.drewN q)) (fun _ i _ => L - (intOf i).toNat)
    case atStart => exact ⟨0, _, rfl, rfl, by omega, Lib.hid rfl, Lib.hid ⟨0, rfl⟩⟩
    case round =>
      obtain ⟨n, P, rfl, rfl, hn, HP, HQ⟩ := hrel
      obtain ⟨q, hq⟩ := HQ.out
      subst hq
      clear HQ
      by_cases hx : (n : Int) < (L : Int)
      · have hx1 := decide_eq_true hx
        have hlt : n < L := by omega
        have hb := line_bd s s.size rfl ((n : Int) + 1) (by omega) (by rw [HLL.out]; omega)
        obtain ⟨u, hu⟩ : ∃ u, rd (bg s s.size) ((n : Int) + 1 - 1) = u := ⟨_, rfl⟩
        obtain ⟨d, hd⟩ : ∃ d, endN s (bg s s.size) ((n : Int) + 1) = d := ⟨_, rfl⟩
        rw [hu, hd] at hb
        have HB := Lib.hid hb
        have LY := Lib.hid (line_yes g ((n : Int) + 1) u d s (bg s s.size) (w3.drewN q) (H3.out.drewN q) (by rw [HLL.out]; omega) (by omega) (fun x hx => by have := bg_all s s.size x hx; omega) (by omega) (by rw [HLL.out]; omega) hu hd hb)
        obtain ⟨t, ht⟩ : ∃ t, s.extract u.toNat d.toNat = t := ⟨_, rfl⟩
        rw [ht] at LY
        have HT := Lib.hid (show lineN s (bg s s.size) ((n : Int) + 1) = t by unfold lineN; rw [hu, hd]; exact ht)
        have hts : t.size ≤ 400 := by rw [← ht, ByteArray.size_extract]; omega
        have hps : P.size ≤ 400 := by have := pre_size s n; rw [← HP.out] at this; omega
        obtain ⟨ad, ea, hxx⟩ := Kd.at_string R3.out (n : Int) (by omega) hx
        have HXX := Lib.hid (show ∀ W : World, (∃ q, W = w3.drewN q) → W.cell? (ad.add n) = some (.string t) from by
          rintro W ⟨q', rfl⟩
          have e1 : rdOf ByteArray.empty (lnsL s s.size) (n : Int) = t := by
            unfold rdOf
            rw [Int.toNat_natCast, List.getD_eq_getElem?_getD, lnsL_at s s.size n (by rw [HLL.out]; exact hlt), Option.getD_some, lnAt_line s n (by rw [HLL.out]; exact hlt)]
            exact HT.out
          rw [e1, Int.toNat_natCast] at hxx
          exact hxx)
        clear hxx hu hd hb ht
        cases ea
        have pn := eq_true hx
        have qn := eq_true (show (0 : Int) ≤ (n : Int) by omega)
        have e1 : IntKind.i64.wrap ((n : Int) + 1) = (n : Int) + 1 := IntWalk.i64_in _ (by omega)
        go_wp2_with fail
        refine LY.out.mono ?_
        rintro e w4 ⟨rfl, q4, rfl⟩
        have hcell := HXX.out w3 ⟨0, rfl⟩
        have k1 : (9223372036854775807 < P.size + t.size) = False := eq_false (by omega)
        have k2 : (9223372036854775807 < P.size + 1) = False := eq_false (by omega)
        have k3 : (9223372036854775807 < P.size + 1 + t.size) = False := eq_false (by omega)
        by_cases hn0 : n = 0
        · subst hn0
          have hcell0 : w3.cell? ad = some (.string t) := hcell
          clear hcell
          go_wp2_with fail
          go_roundw
          case rel =>
            refine ⟨1, _, rfl, rfl, by omega, Lib.hid ?_, Lib.hid ⟨_, rfl⟩⟩
            rw [HP.out, ← HT.out]
            exact (congrArg (fun z => (⟨#[]⟩ : ByteArray) ++ z) (pre_one s (by rw [HLL.out]; omega))).trans (by apply ByteArray.ext; simp [ByteArray.data_append])
          case measure => simp [intOf]; omega
        · have hgt0 : decide ((0 : Int) < (n : Int)) = true := decide_eq_true (by omega)
          go_wp2_with fail
          go_roundw
          case rel =>
            refine ⟨n + 1, _, rfl, by push_cast; rfl, by omega, Lib.hid ?_, Lib.hid ⟨_, rfl⟩⟩
            rw [HP.out, ← HT.out]
            exact pre_more s n (by omega) (by rw [HLL.out]; omega)
          case measure => simp [intOf]; omega
      · have hx1 := decide_eq_false hx
        have hne : n = L := by omega
        have EP : P = s := by rw [HP.out, hne]; exact PA1.out
        clear HP
        subst EP
        have HNE := Lib.hid hne
        clear hne
        have B5 := Lib.hid (pw_below_drewN B3.out q)
        have H5 := Lib.hid (H3.out.drewN q)
        have R5 := Lib.hid (R3.out)
        by_cases hhas : 1 ≤ line ∧ line ≤ L
        · have hb := line_bd P P.size rfl line hhas.1 (by rw [HLL.out]; exact hhas.2)
          obtain ⟨u, hu⟩ : ∃ u, rd (bg P P.size) (line - 1) = u := ⟨_, rfl⟩
          obtain ⟨d, hd⟩ : ∃ d, endN P (bg P P.size) line = d := ⟨_, rfl⟩
          rw [hu, hd] at hb
          have hB := (fun x (hx : x ∈ bg P P.size) => (by have := bg_all P P.size x hx; omega : 0 ≤ x ∧ x ≤ 1000))
          have LY := Lib.hid (fun W (h : Ln W g P (bg P P.size)) => line_yes g line u d P (bg P P.size) W h (by rw [HLL.out]; omega) (by omega) hB hhas.1 (by rw [HLL.out]; exact hhas.2) hu hd hb)
          have AB := Lib.hid (fun W (h : Ln W g P (bg P P.size)) (c1 : 1 ≤ col) (c2 : col ≤ d - u + 1) => at_back g line col u d P W h hs hhas.1 (by rw [HLL.out]; exact hhas.2) hu hd c1 c2)
          have O1 := Lib.hid (fun W (h : Ln W g P (bg P P.size)) (c1 : 1 ≤ col) (c2 : col ≤ d - u + 1) => off_yes g line col P (bg P P.size) W h (by rw [HLL.out]; omega) (by omega) hB hhas.1 (by rw [HLL.out]; exact hhas.2) c1 (by rw [hu, hd]; exact c2))
          rw [hu] at O1
          have O2 := Lib.hid (fun W (h : Ln W g P (bg P P.size)) (c1 : col < 1) => off_no2 g line col P (bg P P.size) W h ⟨hhas.1, by rw [HLL.out]; exact hhas.2⟩ c1)
          have O3 := Lib.hid (fun W (h : Ln W g P (bg P P.size)) (c1 : 1 ≤ col) (c2 : d - u + 1 < col) => off_no3 g line col u d P (bg P P.size) W h (by rw [HLL.out]; omega) (by omega) hB hhas.1 (by rw [HLL.out]; exact hhas.2) hu hd hb c1 c2)
          have A0 := Lib.hid (fun W (h : Ln W g P (bg P P.size)) => at_ref g 0 0 0 P W h hs (by split <;> omega) (by split <;> omega))
          obtain ⟨t, ht⟩ : ∃ t, P.extract u.toNat d.toNat = t := ⟨_, rfl⟩
          have hts : (t.size : Int) = d - u := by rw [← ht, ByteArray.size_extract]; omega
          rw [ht] at LY
          obtain ⟨j0, j1⟩ := hhas
          have g1 : decide ((1 : Int) ≤ line) = true := decide_eq_true j0
          have g2 : decide (line ≤ (L : Int)) = true := decide_eq_true j1
          have m0 : 0 ≤ line - 1 := by omega
          have m1 : line - 1 < (L : Int) := by omega
          obtain ⟨ad, ea, hxx⟩ := Kd.at_string R3.out (line - 1) m0 m1
          have e1 : rdOf ByteArray.empty (lnsL P P.size) (line - 1) = t := by
            unfold rdOf
            rw [List.getD_eq_getElem?_getD, lnsL_at P P.size (line - 1).toNat (by rw [HLL.out]; omega), Option.getD_some, lnAt_line P (line - 1).toNat (by rw [HLL.out]; omega)]
            unfold lineN
            rw [show (((line - 1).toNat : Nat) : Int) + 1 - 1 = line - 1 by omega, show (((line - 1).toNat : Nat) : Int) + 1 = line by omega, hu, hd]
            exact ht
          rw [e1, show (line - 1).toNat = line.toNat - 1 by omega] at hxx
          cases ea
          have px := eq_true m0
          have qx := eq_true m1
          have w1' : IntKind.i64.wrap (line - 1) = line - 1 := IntWalk.i64_in _ (by omega)
          have hd1 : 0 ≤ d - u ∧ d - u ≤ 400 := by omega
          have w2' : IntKind.i64.wrap ((t.size : Int) + 1) = (t.size : Int) + 1 := IntWalk.i64_in _ (by omega)
          clear hu hd hb e1 ht hB
          by_cases c1 : 1 ≤ col
          · by_cases c2 : col ≤ d - u + 1
            · have g3 : decide ((1 : Int) ≤ col) = true := decide_eq_true c1
              have g4 : decide (col ≤ (t.size : Int) + 1) = true := decide_eq_true (by omega)
              have OO := Lib.hid (fun W h => O1.out W h c1 c2)
              have AA := Lib.hid (fun W h => AB.out W h c1 c2)
              clear O1 O2 O3 A0 AB
              have HTS := Lib.hid hts
              clear hts
              go_wp2_with fail
              refine (LY.out _ H5.out).mono ?_
              rintro e w6 ⟨rfl, q6, rfl⟩
              have B6 := Lib.hid (pw_below_drewN B5.out q6)
              have H6 := Lib.hid (H5.out.drewN q6)
              go_wp2_with fail
              refine (OO.out _ (by exact H3.out.drewN _)).mono ?_
              rintro e w7 ⟨rfl, q7, rfl⟩
              go_wp2_with fail
              refine (AA.out _ (by exact H3.out.drewN _)).mono ?_
              rintro e w8 ⟨rfl, b8⟩
              have B8 := Lib.hid (Below.trans (b := w3.drewN (q + q6 + q7)) (pw_below_drewN B3.out _) (Below.mono b8 (by exact B3.out.size)))
              have H8 := Lib.hid ((H3.out.drewN (q + q6 + q7)).below b8)
              clear b8
              go_wp2_with fail
              refine (count_is g P _ _ H8.out).mono ?_
              rintro e w9 ⟨rfl, rfl⟩
              rw [HLL.out]
              go_wp2_with fail
              go_ret
              exact ⟨rfl, B8.out⟩
            · have g3 : decide ((1 : Int) ≤ col) = true := decide_eq_true c1
              have g4 : decide (col ≤ (t.size : Int) + 1) = false := decide_eq_false (by omega)
              have OO := Lib.hid (fun W h => O3.out W h c1 (by omega))
              have AA := Lib.hid (fun W h => A0.out W h)
              obtain ⟨x0, hx0⟩ : ∃ x, ((bg P (0 : Int).toNat).length : Int) = x := ⟨_, rfl⟩
              obtain ⟨y0, hy0⟩ : ∃ x, (0 - st P (0 : Int).toNat + 1 : Int) = x := ⟨_, rfl⟩
              rw [hx0, hy0] at AA
              clear O1 O2 O3 A0 AB hx0 hy0
              have HTS := Lib.hid hts
              clear hts
              go_wp2_with fail
              refine (LY.out _ H5.out).mono ?_
              rintro e w6 ⟨rfl, q6, rfl⟩
              go_wp2_with fail
              refine (OO.out _ (by exact H3.out.drewN _)).mono ?_
              rintro e w7 ⟨rfl, q7, rfl⟩
              go_wp2_with fail
              refine (AA.out _ (by exact H3.out.drewN _)).mono ?_
              rintro e w8 ⟨rfl, b8⟩
              have B8 := Lib.hid (Below.trans (b := w3.drewN (q + q6 + q7)) (pw_below_drewN B3.out _) (Below.mono b8 (by exact B3.out.size)))
              have H8 := Lib.hid ((H3.out.drewN (q + q6 + q7)).below b8)
              clear b8
              go_wp2_with fail
              refine (count_is g P _ _ H8.out).mono ?_
              rintro e w9 ⟨rfl, rfl⟩
              rw [HLL.out]
              go_wp2_with fail
              go_ret
              exact ⟨rfl, B8.out⟩
          · have g3 : decide ((1 : Int) ≤ col) = false := decide_eq_false c1
            have OO := Lib.hid (fun W h => O2.out W h (by omega))
            have AA := Lib.hid (fun W h => A0.out W h)
            obtain ⟨x0, hx0⟩ : ∃ x, ((bg P (0 : Int).toNat).length : Int) = x := ⟨_, rfl⟩
            obtain ⟨y0, hy0⟩ : ∃ x, (0 - st P (0 : Int).toNat + 1 : Int) = x := ⟨_, rfl⟩
            rw [hx0, hy0] at AA
            clear O1 O2 O3 A0 AB hx0 hy0
            have HTS := Lib.hid hts
            clear hts
            go_wp2_with fail
            refine (LY.out _ H5.out).mono ?_
            rintro e w6 ⟨rfl, q6, rfl⟩
            go_wp2_with fail
            refine (OO.out _ (by exact H3.out.drewN _)).mono ?_
            rintro e w7 ⟨rfl, q7, rfl⟩
            go_wp2_with fail
            refine (AA.out _ (by exact H3.out.drewN _)).mono ?_
            rintro e w8 ⟨rfl, b8⟩
            have B8 := Lib.hid (Below.trans (b := w3.drewN (q + q6 + q7)) (pw_below_drewN B3.out _) (Below.mono b8 (by exact B3.out.size)))
            have H8 := Lib.hid ((H3.out.drewN (q + q6 + q7)).below b8)
            clear b8
            go_wp2_with fail
            refine (count_is g P _ _ H8.out).mono ?_
            rintro e w9 ⟨rfl, rfl⟩
            rw [HLL.out]
            go_wp2_with fail
            go_ret
            exact ⟨rfl, B8.out⟩
        · have LN := Lib.hid (fun W (h : Ln W g P (bg P P.size)) => line_no g line P (bg P P.size) W h (by rw [HLL.out]; exact hhas))
          have ON := Lib.hid (fun W (h : Ln W g P (bg P P.size)) => off_no1 g line col P (bg P P.size) W h (by rw [HLL.out]; exact hhas))
          have H3x : (decide ((1 : Int) ≤ line) = false) ∨ (decide ((1 : Int) ≤ line) = true ∧ decide (line ≤ (L : Int)) = false) := by
            by_cases h : (1 : Int) ≤ line
            · exact .inr ⟨decide_eq_true h, decide_eq_false (fun k => hhas ⟨h, k⟩)⟩
            · exact .inl (decide_eq_false h)
          have HX3 := Lib.hid H3x
          clear H3x hhas
          go_wp2_with fail
          refine (LN.out _ H5.out).mono ?_
          rintro e w6 ⟨rfl, q6, rfl⟩
          go_wp2_with fail
          refine (ON.out _ (by exact H3.out.drewN _)).mono ?_
          rintro e w7 ⟨rfl, q7, rfl⟩
          rcases HX3.out with h | ⟨h, h'⟩
          all_goals
            clear HX3
            go_wp2_with fail
            refine (count_is g P _ _ (by exact H3.out.drewN _)).mono ?_
            rintro e w9 ⟨rfl, rfl⟩
            rw [HLL.out]
            go_wp2_with fail
            go_ret
            exact ⟨rfl, pw_below_drewN B3.out _⟩
  · have hgt : decide ((400 : Int) < (s.size : Int)) = true := decide_eq_true (by omega)
    go_enter Try.func4, Try.ntmps4
    go_wp2_with fail
    refine (works_is w).mono ?_
    rintro e w1 ⟨rfl, b1⟩
    have B1 := Lib.hid b1
    clear b1
    go_wp2_with fail
    refine (works_is _).mono ?_
    rintro e w2 ⟨rfl, b2⟩
    have B2 := Lib.hid (B1.out.trans (Below.mono b2 B1.out.size))
    clear b2
    go_wp2_with fail
    go_ret
    exact ⟨rfl, B2.out⟩
end Go.Proofs.Ytodldmgidaccbaa.M
