/- Marline, layer 01: any number's text, and the number of it: the walk. Conditions: a number of 64 bits; the library's table and its two errors are laid. -/
import Derived.Test.YtacpolhilhindaaDoorWv
import Derived.Lib.ItoaLen
namespace Go.Proofs.YtacpolhilhindaaDoor.E
open Go.RowKit Go.Proofs.YtacpolhilhindaaDoorW.PrintWords Go.Proofs.YtacpolhilhindaaDoorW.PrintLast Go.Proofs.YtacpolhilhindaaDoorW.PrintMore Go.Proofs.YtacpolhilhindaaDoor.Obj
set_option linter.unusedVariables false
set_option linter.unusedSimpArgs false
set_option maxRecDepth 100000

theorem holds_same (s n : Int) (h : ¬ (6 ≤ s ∧ s ≤ 11)) : holdsS s n n = false := by
  unfold holdsS
  rw [if_neg (by omega), if_neg (by omega), if_neg (by omega), if_neg (by omega), if_neg (by omega), if_neg (by omega)]
set_option maxHeartbeats 8000000 in
theorem texts_walk (n : Int) (s : ByteArray) (g : Int) (w : World) (hn : In n) (hs : s.size ≤ 140737488355328) (hp : Pow w) (hr : Errs w) : Calls Tryd.prog 5 #[.int .i64 n, .string s, .int .i64 g] w fun e w' => e = .returned (.bool true) ∧ Below w.heap.size w w' := by
  have P0 := Lib.hid hp; have R0 := Lib.hid hr; have HN := Lib.hid hn; have HS := Lib.hid hs
  clear hp hr hn
  go_enter Tryd.func5, Tryd.ntmps5
  go_wp2_with fail
  refine (works_calls w P0.out).mono ?_
  rintro e w1 ⟨rfl, hb⟩
  have B1 := Lib.hid hb; have P1 := Lib.hid (P0.out.below hb); have R1 := Lib.hid (R0.out.below hb)
  clear hb
  by_cases h2 : 200 < s.size
  · have p1 : decide ((200 : Int) < (s.size : Int)) = true := decide_eq_true (by omega)
    go_wp2_with fail
    refine (works_calls w1 P1.out).mono ?_
    rintro e w2 ⟨rfl, hb⟩
    have B2 := Lib.hid (B1.out.trans (hb.mono B1.out.size))
    clear hb
    go_wp2_with fail
    go_ret
    exact ⟨rfl, B2.out⟩
  · have p1 : decide ((200 : Int) < (s.size : Int)) = false := decide_eq_false (by omega)
    obtain ⟨u, hu⟩ : ∃ u : ByteArray, ⟨(Lib.itoa n).toArray⟩ = u := ⟨_, rfl⟩
    have hul : u.data.toList = Lib.itoa n := by rw [← hu]
    have hus : u.size ≤ 140737488355328 := by
      have h3 : u.size = (Lib.itoa n).length := by rw [← hul]; rfl
      have h4 : (Lib.itoa n).length ≤ 30 := by
        unfold Lib.itoa
        have hd : ∀ m : Nat, m ≤ 9223372036854775808 → Lib.nDigits m ≤ 20 := fun m hm => Lib.nDigits_le20 m (by omega)
        have hn' := HN.out
        split
        · rw [List.length_cons, Lib.decDigits_length]; have := hd n.natAbs (by omega); omega
        · rw [Lib.decDigits_length]; have := hd n.toNat (by omega); omega
      omega
    have HU := Lib.hid hu; have HUL := Lib.hid hul; have HUS := Lib.hid hus
    obtain ⟨l, hl⟩ : ∃ l, s.data.toList = l := ⟨_, rfl⟩
    have HL := Lib.hid hl
    obtain ⟨r, hr⟩ : ∃ r, readS l = r := ⟨_, rfl⟩
    obtain ⟨r1, r2⟩ := r
    have HR := Lib.hid hr
    obtain ⟨q, hq⟩ : ∃ q, signedS l = q := ⟨_, rfl⟩
    obtain ⟨q1, q2⟩ := q
    have HQ := Lib.hid hq
    have hso := signed_ok hq
    have SO := Lib.hid hso
    have hgg : (g ≥ 6 ∧ g ≤ 11) ∨ holdsS g n n = false := by
      by_cases h : 6 ≤ g ∧ g ≤ 11
      · exact .inl h
      · exact .inr (holds_same g n h)
    have GG := Lib.hid hgg
    clear h2 hu hul hus hl hr hq hso hgg hs
    go_wp2_with fail
    refine (text_calls n w1 HN.out P1.out).mono ?_
    rw [HU.out]
    rintro e w2 ⟨rfl, hb⟩
    have B2 := Lib.hid (B1.out.trans (hb.mono B1.out.size)); have P2 := Lib.hid (P1.out.below hb); have R2 := Lib.hid (R1.out.below hb)
    clear hb
    go_wp2_with fail
    refine (signed_calls u w2 HUS.out P2.out R2.out).mono ?_
    rw [HUL.out, signed_itoa n HN.out]
    rintro e w3 ⟨rfl, hb⟩
    have B3 := Lib.hid (B2.out.trans (hb.mono B2.out.size)); have P3 := Lib.hid (P2.out.below hb); have R3 := Lib.hid (R2.out.below hb)
    clear hb
    go_wp2_with fail
    refine (read_is s w3 HS.out).mono ?_
    rw [HL.out, HR.out]
    rintro e w4 ⟨rfl, hb⟩
    have B4 := Lib.hid (B3.out.trans (hb.mono B3.out.size)); have P4 := Lib.hid (P3.out.below hb); have R4 := Lib.hid (R3.out.below hb)
    clear hb
    go_wp2_with fail
    refine (refRead_is s w4 HS.out).mono ?_
    rw [HL.out, HR.out]
    rintro e w5 ⟨rfl, hb⟩
    have B5 := Lib.hid (B4.out.trans (hb.mono B4.out.size)); have P5 := Lib.hid (P4.out.below hb); have R5 := Lib.hid (R4.out.below hb)
    clear hb
    go_wp2_with fail
    refine (signed_calls s w5 HS.out P5.out R5.out).mono ?_
    rw [HL.out, HQ.out]
    rintro e w6 ⟨rfl, hb⟩
    have B6 := Lib.hid (B5.out.trans (hb.mono B5.out.size)); have P6 := Lib.hid (P5.out.below hb); have R6 := Lib.hid (R5.out.below hb)
    clear hb
    go_wp2_with fail
    refine (refText_calls n w6 HN.out).mono ?_
    rw [HU.out]
    rintro e w7 ⟨rfl, hb⟩
    have B7 := Lib.hid (B6.out.trans (hb.mono B6.out.size)); have P7 := Lib.hid (P6.out.below hb); have R7 := Lib.hid (R6.out.below hb)
    clear hb
    rcases SO.out with ⟨rfl, h1, h2⟩ | ⟨rfl, rfl⟩
    · have hst : (⟨(Lib.itoa q1).toArray⟩ : ByteArray) = s := by
        rw [h1, ← HL.out]
      have HST := Lib.hid hst; have HQ1 := Lib.hid h2
      clear hst h1 h2
      go_wp2_with fail
      refine (refText_calls q1 w7 HQ1.out).mono ?_
      rw [HST.out]
      rintro e w8 ⟨rfl, hb⟩
      have B8 := Lib.hid (B7.out.trans (hb.mono B7.out.size)); have P8 := Lib.hid (P7.out.below hb); have R8 := Lib.hid (R7.out.below hb)
      clear hb
      by_cases hg : 6 ≤ g ∧ g ≤ 11
      · have g1 : decide (6 ≤ g) = true := decide_eq_true hg.1
        have g2 : decide (g ≤ 11) = true := decide_eq_true hg.2
        clear hg
        go_wp2_with fail
        go_ret
        exact ⟨rfl, B8.out⟩
      · have hh := holds_same g n hg
        have HC := Lib.hid (holds_calls g n n w8)
        rw [hh] at HC
        by_cases hg1 : 6 ≤ g
        · have g1 : decide (6 ≤ g) = true := decide_eq_true hg1
          have g2 : decide (g ≤ 11) = false := decide_eq_false (by omega)
          clear hg hh hg1
          go_wp2_with fail
          refine HC.out.mono ?_
          rintro e wz ⟨rfl, hb⟩
          have BZ := Lib.hid (B8.out.trans (hb.mono B8.out.size))
          clear hb
          go_wp2_with fail
          go_ret
          exact ⟨rfl, BZ.out⟩
        · have g1 : decide (6 ≤ g) = false := decide_eq_false hg1
          clear hg hh hg1
          go_wp2_with fail
          refine HC.out.mono ?_
          rintro e wz ⟨rfl, hb⟩
          have BZ := Lib.hid (B8.out.trans (hb.mono B8.out.size))
          clear hb
          go_wp2_with fail
          go_ret
          exact ⟨rfl, BZ.out⟩
    · skip
      by_cases hg : 6 ≤ g ∧ g ≤ 11
      · have g1 : decide (6 ≤ g) = true := decide_eq_true hg.1
        have g2 : decide (g ≤ 11) = true := decide_eq_true hg.2
        clear hg
        go_wp2_with fail
        go_ret
        exact ⟨rfl, B7.out⟩
      · have hh := holds_same g n hg
        have HC := Lib.hid (holds_calls g n n w7)
        rw [hh] at HC
        by_cases hg1 : 6 ≤ g
        · have g1 : decide (6 ≤ g) = true := decide_eq_true hg1
          have g2 : decide (g ≤ 11) = false := decide_eq_false (by omega)
          clear hg hh hg1
          go_wp2_with fail
          refine HC.out.mono ?_
          rintro e wz ⟨rfl, hb⟩
          have BZ := Lib.hid (B7.out.trans (hb.mono B7.out.size))
          clear hb
          go_wp2_with fail
          go_ret
          exact ⟨rfl, BZ.out⟩
        · have g1 : decide (6 ≤ g) = false := decide_eq_false hg1
          clear hg hh hg1
          go_wp2_with fail
          refine HC.out.mono ?_
          rintro e wz ⟨rfl, hb⟩
          have BZ := Lib.hid (B7.out.trans (hb.mono B7.out.size))
          clear hb
          go_wp2_with fail
          go_ret
          exact ⟨rfl, BZ.out⟩
end Go.Proofs.YtacpolhilhindaaDoor.E
