/- Marline, layer 02: any place's line and column, and back. Conditions: as each says. -/
import Derived.Test.YtodldmgidaccbaaP
namespace Go.Proofs.Ytodldmgidaccbaa.M
open Go.RowKit Go.Proofs.YtodldmgidaccbaaW.PrintWords Go.Proofs.YtodldmgidaccbaaW.PrintLast Go.Proofs.YtodldmgidaccbaaW.PrintMore Go.Proofs.Ytodldmgidaccbaa.Kinds Go.Proofs.Ytodldmgidaccbaa.Obj
attribute [local go_sem] max2_int min2_int max_two min_two
set_option linter.unusedVariables false
set_option linter.unusedSimpArgs false

theorem bg_w : bg (⟨#[97, 98, 10, 99]⟩ : ByteArray) 4 = [0, 3] := by decide +kernel
set_option maxHeartbeats 4000000 in
set_option maxRecDepth 100000 in
theorem works_is (w : World) : Calls Try.prog 5 #[] w fun e w' => e = .returned (.bool true) ∧ Below w.heap.size w w' := by
  go_enter Try.func5, Try.ntmps5
  go_wp2_with fail
  refine (of_is _ w (by decide)).mono ?_
  rintro e w1 ⟨g, rfl, h1, b1⟩
  have H1 := Lib.hid h1; have B1 := Lib.hid b1
  clear h1 b1
  go_wp2_with fail
  refine (at_ref g 2 2 2 _ _ H1.out (by decide) (by decide) (by decide)).mono ?_
  rintro e w2 ⟨rfl, b2⟩
  have B2 := Lib.hid b2
  clear b2
  rw [show ((bg (⟨#[97, 98, 10, 99]⟩ : ByteArray) (2 : Int).toNat).length : Int) = 1 from by decide +kernel, show ((2 : Int) - st (⟨#[97, 98, 10, 99]⟩ : ByteArray) (2 : Int).toNat + 1 : Int) = 3 from by decide +kernel]
  go_wp2_with fail
  refine (at_ref g 3 3 3 _ _ (H1.out.below B2.out) (by decide) (by decide) (by decide)).mono ?_
  rintro e w3 ⟨rfl, b3⟩
  have B3 := Lib.hid b3
  clear b3
  rw [show ((bg (⟨#[97, 98, 10, 99]⟩ : ByteArray) (3 : Int).toNat).length : Int) = 2 from by decide +kernel, show ((3 : Int) - st (⟨#[97, 98, 10, 99]⟩ : ByteArray) (3 : Int).toNat + 1 : Int) = 1 from by decide +kernel]
  go_wp2_with fail
  refine (count_is g _ _ _ ((H1.out.below B2.out).below B3.out)).mono ?_
  rintro e w4 ⟨rfl, rfl⟩
  rw [show ((bg (⟨#[97, 98, 10, 99]⟩ : ByteArray) (⟨#[97, 98, 10, 99]⟩ : ByteArray).size).length : Int) = 2 from by decide +kernel]
  go_wp2_with fail
  go_ret
  exact ⟨rfl, (B1.out.trans (B2.out.mono B1.out.size)).trans (B3.out.mono (Nat.le_trans B1.out.size B2.out.size))⟩

set_option maxHeartbeats 8000000 in
set_option maxRecDepth 100000 in
theorem tells_walk (s : ByteArray) (off : Int) (w : World) (hz : s.size ≤ 140737488351232) :
    Calls Try.prog 3 #[.string s, .int .i64 off] w fun e w' => e = .returned (.bool true) ∧ Below w.heap.size w w' := by
  by_cases hs : s.size ≤ 400
  · obtain ⟨m, hm⟩ : ∃ m, (if (s.size : Int) < off then (s.size : Int) else off) = m := ⟨_, rfl⟩
    obtain ⟨o, ho⟩ : ∃ o, (if 0 < m then m else 0) = o := ⟨_, rfl⟩
    have HM := Lib.hid hm; have HO := Lib.hid ho
    have o0 : 0 ≤ o ∧ o ≤ s.size := by split at ho <;> split at hm <;> omega
    have hgt : decide ((400 : Int) < (s.size : Int)) = false := decide_eq_false (by omega)
    have hst := st_bd s o.toNat
    have hl := bg_len s o.toNat
    have hl2 := bg_len s s.size
    obtain ⟨ex, he, hx⟩ := bg_more s o.toNat s.size (by omega)
    have hle : (bg s s.size).length = (bg s o.toNat).length + ex.length := by rw [he]; simp
    have hla := bg_last s o.toNat
    have hrd : rd (bg s s.size) (((bg s o.toNat).length : Int) - 1) = st s o.toNat := by rw [he, rd_app _ _ _ (by omega) (by omega), hla]
    have hend : o - st s o.toNat + 1 ≤ endN s (bg s s.size) ((bg s o.toNat).length : Int) - st s o.toNat + 1 := by
      unfold endN
      split
      · rename_i hlt
        have hmem : rd (bg s s.size) ((bg s o.toNat).length : Int) ∈ ex := by
          rw [he]
          unfold rd
          rw [List.getD_eq_getElem?_getD, List.getElem?_append_right (by omega), List.getElem?_eq_getElem (by omega)]
          exact List.getElem_mem _
        have := hx _ hmem
        omega
      · omega
    obtain ⟨k, hk⟩ : ∃ k : Nat, (bg s o.toNat).length = k := ⟨_, rfl⟩
    obtain ⟨t, ht⟩ : ∃ t, st s o.toNat = t := ⟨_, rfl⟩
    have AT := Lib.hid (fun (g : Nat) (W : World) (h : Ln W g s (bg s s.size)) => at_ref g off o m s W h hs hm ho)
    have RF := Lib.hid (fun (W : World) => ref_is s off o m W (by omega) hm ho)
    rw [ht, hk] at AT RF
    rw [ht, hk] at hend
    rw [hk, ht] at hrd
    have OF := Lib.hid (fun (g : Nat) (W : World) (h : Ln W g s (bg s s.size)) => off_yes g k (o - t + 1) s (bg s s.size) W h (by omega) (by omega) (fun x hx => by have := bg_all s s.size x hx; omega) (by omega) (by omega) (by omega) (by rw [hrd]; omega))
    rw [hrd] at OF
    rw [show t + (o - t + 1) - 1 = o by omega] at OF
    have H3c := Lib.hid (show (off < 0 ∧ o = 0) ∨ (0 ≤ off ∧ off ≤ s.size ∧ o = off) ∨ (0 < (s.size : Int) ∧ (s.size : Int) < off ∧ o = s.size) ∨ ((s.size : Int) ≤ 0 ∧ 0 < off ∧ o = 0) by split at ho <;> split at hm <;> omega)
    have hk1 : k ≤ 500 := by omega
    have ht1 : 0 ≤ t ∧ t ≤ 500 := by omega
    have ho1 : 0 ≤ o ∧ o ≤ 500 := by omega
    clear hm ho hst hl hl2 he hx hle hla hrd hend hk ht o0 ex
    go_enter Try.func3, Try.ntmps3
    go_wp2_with fail
    refine (works_is w).mono ?_
    rintro e w1 ⟨rfl, b1⟩
    have B1 := Lib.hid b1
    clear b1
    go_wp2_with fail
    refine (of_is s _ hs).mono ?_
    rintro e w2 ⟨g, rfl, h2, b2⟩
    have H2 := Lib.hid h2
    have B2 := Lib.hid (B1.out.trans (Below.mono b2 B1.out.size))
    clear h2 b2 B1
    go_wp2_with fail
    refine (AT.out g _ H2.out).mono ?_
    rintro e w3 ⟨rfl, b3⟩
    have H3 := Lib.hid (H2.out.below b3)
    have B3 := Lib.hid (B2.out.trans (Below.mono b3 B2.out.size))
    clear b3 B2 H2
    go_wp2_with fail
    refine (RF.out _).mono ?_
    rintro e w4 ⟨rfl, d4⟩
    have H4 := Lib.hid (H3.out.below d4.below)
    have B4 := Lib.hid (B3.out.trans (Below.mono d4.below B3.out.size))
    clear d4 B3 H3
    go_wp2_with fail
    refine (OF.out g _ H4.out).mono ?_
    rintro e w5 ⟨rfl, n5, rfl⟩
    have H5 := Lib.hid (H4.out.drewN n5)
    have B5 := Lib.hid (pw_below_drewN B4.out n5)
    clear B4 H4
    generalize w4.drewN n5 = w5 at *
    have fin : ∀ W : World, Below w.heap.size w W → (∃ n, W = w5.drewN n) ∨ True := fun _ _ => .inr trivial
    clear fin HM HO AT RF OF
    rcases H3c.out with ⟨g1, rfl⟩ | ⟨g1, g2, rfl⟩ | ⟨g1, g2, rfl⟩ | ⟨g1, g2, rfl⟩
    all_goals
      clear H3c
      go_wp2_with fail
    all_goals try (exfalso; omega)
    all_goals
      refine (nil_at _ _).mono ?_
      rintro e w6 ⟨rfl, b6⟩
      have B6 := Lib.hid (B5.out.trans (Below.mono b6 B5.out.size))
      clear b6 B5 H5
      go_wp2_with fail
      refine (nil_off 1 1 _).mono ?_
      rintro e w7 ⟨rfl, n7, rfl⟩
      have B7 := Lib.hid (pw_below_drewN B6.out n7)
      clear B6
      generalize w6.drewN n7 = w7 at *
      go_wp2_with fail
      refine (nil_line 1 _).mono ?_
      rintro e w8 ⟨rfl, rfl⟩
      go_wp2_with fail
      refine (nil_count _).mono ?_
      rintro e w9 ⟨rfl, rfl⟩
      go_wp2_with fail
      go_ret
      exact ⟨rfl, B7.out⟩
  · have hgt : decide ((400 : Int) < (s.size : Int)) = true := decide_eq_true (by omega)
    go_enter Try.func3, Try.ntmps3
    go_wp2_with fail
    refine (works_is w).mono ?_
    rintro e w1 ⟨rfl, b1⟩
    have B1 := Lib.hid b1
    clear b1
    go_wp2_with fail
    refine (works_is _).mono ?_
    rintro e w2 ⟨rfl, b2⟩
    have B2 := Lib.hid (B1.out.trans (Below.mono b2 B1.out.size))
    clear b2
    go_wp2_with fail
    go_ret
    exact ⟨rfl, B2.out⟩
end Go.Proofs.Ytodldmgidaccbaa.M
