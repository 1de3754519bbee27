/- Marline, layer 09: whether any text is a word, and its mark: the walk. Conditions: the tables are laid. -/
import Derived.Test.YtacpolhilhindaaDoorVe
import Derived.StillTailTactics
namespace Go.Proofs.YtacpolhilhindaaDoor.E
open Go.RowKit Go.Proofs.YtacpolhilhindaaDoorW.PrintWords Go.Proofs.YtacpolhilhindaaDoorW.PrintLast Go.Proofs.YtacpolhilhindaaDoorW.PrintMore Go.Proofs.YtacpolhilhindaaDoor.Obj
set_option linter.unusedVariables false
set_option linter.unusedSimpArgs false
set_option maxRecDepth 100000
attribute [local go_sem] max2_int min2_int max_two min_two max_three min_three max_four min_four

theorem words_is : ∀ k : Fin 20, isS (wordsB.getD k.val ByteArray.empty).data.toList = true := by decide +kernel
set_option maxHeartbeats 8000000 in
theorem knows_walk (s : ByteArray) (w : World) (hs : s.size ≤ 140737488355328) (h : Tabs w) : Calls Tryd.prog 6 #[.string s] w fun e w' => e = .returned (.bool true) ∧ Below w.heap.size w w' := by
  have T0 := Lib.hid h; have HS := Lib.hid hs
  clear h
  go_enter Tryd.func6, Tryd.ntmps6
  go_wp2_with fail
  refine (works9 w T0.out).mono ?_
  rintro e w1 ⟨rfl, hb⟩
  have B1 := Lib.hid hb; have T1 := Lib.hid (T0.out.below hb)
  clear hb
  by_cases h2 : 100 < s.size
  · have p1 : decide ((100 : Int) < (s.size : Int)) = true := decide_eq_true (by omega)
    go_wp2_with fail
    refine (works9 w1 T1.out).mono ?_
    rintro e w2 ⟨rfl, hb⟩
    have B2 := Lib.hid (B1.out.trans (hb.mono B1.out.size))
    clear hb
    go_wp2_with fail
    go_ret
    exact ⟨rfl, B2.out⟩
  · have p1 : decide ((100 : Int) < (s.size : Int)) = false := decide_eq_false (by omega)
    clear h2
    go_wp2_with fail
    refine (all_calls w1 T1.out).mono ?_
    rintro e w2 ⟨g, hg, rfl, hc, hb⟩
    have B2 := Lib.hid (B1.out.trans (hb.mono B1.out.size)); have T2 := Lib.hid (T1.out.below hb); have HC := Lib.hid hc
    clear hb hc hg
    go_wp2_with fail
    refine (PB.marlineref09_All.calls wordsB w2 refAll_is).mono ?_
    rintro e w3 ⟨v, rfl, hr, hb⟩
    obtain ⟨A, c, rfl⟩ := Kd.R_slice hr
    have hwl : wordsB.length = 20 := rfl
    rw [hwl] at hr ⊢
    have HRD := Lib.hid (Kd.R_reads' hr).2.2
    have HC3 := Lib.hid (fun (j : Nat) (hj : j < 20) => pw_cell_below hb (HC.out j hj))
    have B3 := Lib.hid (B2.out.trans (hb.mono B2.out.size)); have T3 := Lib.hid (T2.out.below hb)
    clear hb hr HC hwl
    go_wp2_with fail
    go_loopw [5] (fun i wr => ∃ k : Nat, i = .int .i64 k ∧ k ≤ 20 ∧ Hid (Below w3.heap.size w3 wr)) (fun i _ => 20 - (intOf i).toNat)
    case atStart => exact ⟨0, rfl, by omega, Lib.hid (Below.refl _ _)⟩
    case round =>
      obtain ⟨k, rfl, hk, BR⟩ := hrel
      obtain ⟨w4, rfl⟩ : ∃ w4 : World, w4 = wr := ⟨_, rfl⟩
      have B4 := Lib.hid (B3.out.trans (BR.out.mono B3.out.size)); have T4 := Lib.hid (T3.out.below BR.out)
      by_cases hx : (k : Int) < 20
      · have hx1 : decide ((k : Int) < 20) = true := decide_eq_true hx
        have hlt : k < 20 := by omega
        have x0 := pw_cell_below BR.out (HC3.out k hlt)
        obtain ⟨ad, ea, y0⟩ := Kd.at_string HRD.out (k : Int) (by omega) (by show (k : Int) < ((20 : Nat) : Int); omega)
        subst ea
        replace y0 := pw_cell_below BR.out y0
        rw [Int.toNat_natCast] at y0
        have hrd : rdOf ByteArray.empty wordsB (k : Int) = wordsB.getD k ByteArray.empty := by unfold rdOf; rw [Int.toNat_natCast]
        rw [hrd] at y0
        have hi := words_is ⟨k, hlt⟩
        obtain ⟨x, hxx⟩ : ∃ x, wordsB.getD k ByteArray.empty = x := ⟨_, rfl⟩
        simp only at hi
        rw [hxx] at x0 y0 hi
        have HI := Lib.hid hi
        have pn := eq_true hx
        have qn := eq_true (show (0 : Int) ≤ (k : Int) by omega)
        have e1 : IntKind.i64.wrap ((k : Int) + 1) = (k : Int) + 1 := IntWalk.i64_in _ (by omega)
        clear hxx hi hrd
        go_wp2_with fail
        go_still_tail 14, (by kernel_rfl)
        change wpList _ _ _ _ _ w4.drew
        have BD := Lib.hid (below_drew (Below.refl w4.heap.size w4))
        generalize w4.drew = w5 at *
        go_wp2_with fail
        refine (is_calls x w5 (T4.out.below BD.out)).mono ?_
        rw [HI.out]
        rintro e w6 ⟨rfl, hb⟩
        have B6 := Lib.hid ((BR.out.trans (BD.out.mono BR.out.size)).trans (hb.mono (Nat.le_trans BR.out.size BD.out.size)))
        clear hb
        go_wp2_with fail
        go_roundw
        case rel => exact ⟨k + 1, by push_cast; rfl, by omega, B6⟩
        case measure => simp [intOf]; omega
      · have hx1 : decide ((k : Int) < 20) = false := decide_eq_false hx
        have HTS := Lib.hid (ByteArray.toList_eq s)
        have GV := Lib.hid (given_calls s w4)
        clear BR
        by_cases h_len : s.data.toList = [108, 101, 110]
        · skip
          have t_len : (s.toList == ([108, 101, 110] : List UInt8)) = true := by rw [HTS.out, h_len]; rfl
          have t_input : (s.toList == ([105, 110, 112, 117, 116] : List UInt8)) = false := by rw [HTS.out, h_len]; rfl
          have t_fill : (s.toList == ([102, 105, 108, 108] : List UInt8)) = false := by rw [HTS.out, h_len]; rfl
          have t_inputs : (s.toList == ([105, 110, 112, 117, 116, 115] : List UInt8)) = false := by rw [HTS.out, h_len]; rfl
          have hg : givenS s.data.toList = (1, true) := by rw [h_len]; decide
          rw [hg] at GV
          clear hg h_len
          go_wp2_with fail
          refine GV.out.mono ?_
          rintro e w5 ⟨rfl, hb⟩
          have B5 := Lib.hid (B4.out.trans (hb.mono B4.out.size)); have T5 := Lib.hid (T4.out.below hb)
          clear hb
          go_wp2_with fail
          refine (is_calls s w5 T5.out).mono ?_
          rintro e w6 ⟨rfl, hb⟩
          have B6 := Lib.hid (B5.out.trans (hb.mono B5.out.size)); have T6 := Lib.hid (T5.out.below hb)
          clear hb
          go_wp2_with fail
          refine (refIs_calls s w6).mono ?_
          rintro e w7 ⟨rfl, hb⟩
          have B7 := Lib.hid (B6.out.trans (hb.mono B6.out.size)); have T7 := Lib.hid (T6.out.below hb)
          clear hb
          go_wp2_with fail
          refine (mark_calls s w7 HS.out T7.out).mono ?_
          rintro e w8 ⟨rfl, hb⟩
          have B8 := Lib.hid (B7.out.trans (hb.mono B7.out.size)); have T8 := Lib.hid (T7.out.below hb)
          clear hb
          go_wp2_with fail
          refine (refMark_calls s w8).mono ?_
          rintro e w9 ⟨rfl, hb⟩
          have B9 := Lib.hid (B8.out.trans (hb.mono B8.out.size)); have T9 := Lib.hid (T8.out.below hb)
          clear hb
          go_wp2_with fail
          go_ret
          exact ⟨rfl, B9.out⟩
        · skip
          by_cases h_input : s.data.toList = [105, 110, 112, 117, 116]
          · skip
            have t_len : (s.toList == ([108, 101, 110] : List UInt8)) = false := by rw [HTS.out, h_input]; rfl
            have t_input : (s.toList == ([105, 110, 112, 117, 116] : List UInt8)) = true := by rw [HTS.out, h_input]; rfl
            have t_fill : (s.toList == ([102, 105, 108, 108] : List UInt8)) = false := by rw [HTS.out, h_input]; rfl
            have t_inputs : (s.toList == ([105, 110, 112, 117, 116, 115] : List UInt8)) = false := by rw [HTS.out, h_input]; rfl
            have hg : givenS s.data.toList = (1, true) := by rw [h_input]; decide
            rw [hg] at GV
            clear hg h_len h_input
            go_wp2_with fail
            refine GV.out.mono ?_
            rintro e w5 ⟨rfl, hb⟩
            have B5 := Lib.hid (B4.out.trans (hb.mono B4.out.size)); have T5 := Lib.hid (T4.out.below hb)
            clear hb
            go_wp2_with fail
            refine (is_calls s w5 T5.out).mono ?_
            rintro e w6 ⟨rfl, hb⟩
            have B6 := Lib.hid (B5.out.trans (hb.mono B5.out.size)); have T6 := Lib.hid (T5.out.below hb)
            clear hb
            go_wp2_with fail
            refine (refIs_calls s w6).mono ?_
            rintro e w7 ⟨rfl, hb⟩
            have B7 := Lib.hid (B6.out.trans (hb.mono B6.out.size)); have T7 := Lib.hid (T6.out.below hb)
            clear hb
            go_wp2_with fail
            refine (mark_calls s w7 HS.out T7.out).mono ?_
            rintro e w8 ⟨rfl, hb⟩
            have B8 := Lib.hid (B7.out.trans (hb.mono B7.out.size)); have T8 := Lib.hid (T7.out.below hb)
            clear hb
            go_wp2_with fail
            refine (refMark_calls s w8).mono ?_
            rintro e w9 ⟨rfl, hb⟩
            have B9 := Lib.hid (B8.out.trans (hb.mono B8.out.size)); have T9 := Lib.hid (T8.out.below hb)
            clear hb
            go_wp2_with fail
            go_ret
            exact ⟨rfl, B9.out⟩
          · skip
            by_cases h_fill : s.data.toList = [102, 105, 108, 108]
            · skip
              have t_len : (s.toList == ([108, 101, 110] : List UInt8)) = false := by rw [HTS.out, h_fill]; rfl
              have t_input : (s.toList == ([105, 110, 112, 117, 116] : List UInt8)) = false := by rw [HTS.out, h_fill]; rfl
              have t_fill : (s.toList == ([102, 105, 108, 108] : List UInt8)) = true := by rw [HTS.out, h_fill]; rfl
              have t_inputs : (s.toList == ([105, 110, 112, 117, 116, 115] : List UInt8)) = false := by rw [HTS.out, h_fill]; rfl
              have hg : givenS s.data.toList = (2, true) := by rw [h_fill]; decide
              rw [hg] at GV
              clear hg h_len h_input h_fill
              go_wp2_with fail
              refine GV.out.mono ?_
              rintro e w5 ⟨rfl, hb⟩
              have B5 := Lib.hid (B4.out.trans (hb.mono B4.out.size)); have T5 := Lib.hid (T4.out.below hb)
              clear hb
              go_wp2_with fail
              refine (is_calls s w5 T5.out).mono ?_
              rintro e w6 ⟨rfl, hb⟩
              have B6 := Lib.hid (B5.out.trans (hb.mono B5.out.size)); have T6 := Lib.hid (T5.out.below hb)
              clear hb
              go_wp2_with fail
              refine (refIs_calls s w6).mono ?_
              rintro e w7 ⟨rfl, hb⟩
              have B7 := Lib.hid (B6.out.trans (hb.mono B6.out.size)); have T7 := Lib.hid (T6.out.below hb)
              clear hb
              go_wp2_with fail
              refine (mark_calls s w7 HS.out T7.out).mono ?_
              rintro e w8 ⟨rfl, hb⟩
              have B8 := Lib.hid (B7.out.trans (hb.mono B7.out.size)); have T8 := Lib.hid (T7.out.below hb)
              clear hb
              go_wp2_with fail
              refine (refMark_calls s w8).mono ?_
              rintro e w9 ⟨rfl, hb⟩
              have B9 := Lib.hid (B8.out.trans (hb.mono B8.out.size)); have T9 := Lib.hid (T8.out.below hb)
              clear hb
              go_wp2_with fail
              go_ret
              exact ⟨rfl, B9.out⟩
            · skip
              by_cases h_inputs : s.data.toList = [105, 110, 112, 117, 116, 115]
              · skip
                have t_len : (s.toList == ([108, 101, 110] : List UInt8)) = false := by rw [HTS.out, h_inputs]; rfl
                have t_input : (s.toList == ([105, 110, 112, 117, 116] : List UInt8)) = false := by rw [HTS.out, h_inputs]; rfl
                have t_fill : (s.toList == ([102, 105, 108, 108] : List UInt8)) = false := by rw [HTS.out, h_inputs]; rfl
                have t_inputs : (s.toList == ([105, 110, 112, 117, 116, 115] : List UInt8)) = true := by rw [HTS.out, h_inputs]; rfl
                have hg : givenS s.data.toList = (0, true) := by rw [h_inputs]; decide
                rw [hg] at GV
                clear hg h_len h_input h_fill h_inputs
                go_wp2_with fail
                refine GV.out.mono ?_
                rintro e w5 ⟨rfl, hb⟩
                have B5 := Lib.hid (B4.out.trans (hb.mono B4.out.size)); have T5 := Lib.hid (T4.out.below hb)
                clear hb
                go_wp2_with fail
                refine (is_calls s w5 T5.out).mono ?_
                rintro e w6 ⟨rfl, hb⟩
                have B6 := Lib.hid (B5.out.trans (hb.mono B5.out.size)); have T6 := Lib.hid (T5.out.below hb)
                clear hb
                go_wp2_with fail
                refine (refIs_calls s w6).mono ?_
                rintro e w7 ⟨rfl, hb⟩
                have B7 := Lib.hid (B6.out.trans (hb.mono B6.out.size)); have T7 := Lib.hid (T6.out.below hb)
                clear hb
                go_wp2_with fail
                refine (mark_calls s w7 HS.out T7.out).mono ?_
                rintro e w8 ⟨rfl, hb⟩
                have B8 := Lib.hid (B7.out.trans (hb.mono B7.out.size)); have T8 := Lib.hid (T7.out.below hb)
                clear hb
                go_wp2_with fail
                refine (refMark_calls s w8).mono ?_
                rintro e w9 ⟨rfl, hb⟩
                have B9 := Lib.hid (B8.out.trans (hb.mono B8.out.size)); have T9 := Lib.hid (T8.out.below hb)
                clear hb
                go_wp2_with fail
                go_ret
                exact ⟨rfl, B9.out⟩
              · skip
                have t_len : (s.toList == ([108, 101, 110] : List UInt8)) = false := beq_eq_false_iff_ne.2 (by rw [HTS.out]; exact h_len)
                have t_input : (s.toList == ([105, 110, 112, 117, 116] : List UInt8)) = false := beq_eq_false_iff_ne.2 (by rw [HTS.out]; exact h_input)
                have t_fill : (s.toList == ([102, 105, 108, 108] : List UInt8)) = false := beq_eq_false_iff_ne.2 (by rw [HTS.out]; exact h_fill)
                have t_inputs : (s.toList == ([105, 110, 112, 117, 116, 115] : List UInt8)) = false := beq_eq_false_iff_ne.2 (by rw [HTS.out]; exact h_inputs)
                have hg : givenS s.data.toList = (0, false) := by unfold givenS; rw [if_neg (fun e => e.elim h_len h_input), if_neg h_fill, if_neg h_inputs]
                rw [hg] at GV
                clear hg h_len h_input h_fill h_inputs
                go_wp2_with fail
                refine GV.out.mono ?_
                rintro e w5 ⟨rfl, hb⟩
                have B5 := Lib.hid (B4.out.trans (hb.mono B4.out.size)); have T5 := Lib.hid (T4.out.below hb)
                clear hb
                go_wp2_with fail
                refine (is_calls s w5 T5.out).mono ?_
                rintro e w6 ⟨rfl, hb⟩
                have B6 := Lib.hid (B5.out.trans (hb.mono B5.out.size)); have T6 := Lib.hid (T5.out.below hb)
                clear hb
                go_wp2_with fail
                refine (refIs_calls s w6).mono ?_
                rintro e w7 ⟨rfl, hb⟩
                have B7 := Lib.hid (B6.out.trans (hb.mono B6.out.size)); have T7 := Lib.hid (T6.out.below hb)
                clear hb
                go_wp2_with fail
                refine (mark_calls s w7 HS.out T7.out).mono ?_
                rintro e w8 ⟨rfl, hb⟩
                have B8 := Lib.hid (B7.out.trans (hb.mono B7.out.size)); have T8 := Lib.hid (T7.out.below hb)
                clear hb
                go_wp2_with fail
                refine (refMark_calls s w8).mono ?_
                rintro e w9 ⟨rfl, hb⟩
                have B9 := Lib.hid (B8.out.trans (hb.mono B8.out.size)); have T9 := Lib.hid (T8.out.below hb)
                clear hb
                go_wp2_with fail
                go_ret
                exact ⟨rfl, B9.out⟩
theorem knows_row (s : ByteArray) (W : World) (hs : s.size ≤ 140737488351232) (h : Tabs W) : Calls Tryd.prog 6 #[.string s] W fun e w' => e = .returned (.bool true) ∧ Below W.heap.size W w' := knows_walk s W (by omega) h
end Go.Proofs.YtacpolhilhindaaDoor.E
