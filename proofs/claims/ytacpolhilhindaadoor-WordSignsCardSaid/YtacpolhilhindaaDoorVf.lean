/- Marline, layer 09: any number's spelling, and the sign of any text: the walk. Conditions: the tables are laid. -/
import Derived.Test.YtacpolhilhindaaDoorVe
namespace Go.Proofs.YtacpolhilhindaaDoor.E
open Go.RowKit Go.Proofs.YtacpolhilhindaaDoorW.PrintWords Go.Proofs.YtacpolhilhindaaDoorW.PrintLast Go.Proofs.YtacpolhilhindaaDoorW.PrintMore Go.Proofs.YtacpolhilhindaaDoor.Obj
set_option linter.unusedVariables false
set_option linter.unusedSimpArgs false
set_option maxRecDepth 100000

theorem spell_calls2 (n : Int) (w : World) (h : Spl w) : Calls Tryd.prog 26 #[.int .i64 n] w fun e w' => e = .returned (.string ⟨(spellS n).toArray⟩) ∧ Below w.heap.size w w' := spell_calls n w h
theorem spellS_nat (m : Nat) (h : m ≤ 14) : spellS (m : Int) = spl m := by
  unfold spellS
  rw [if_pos (by omega), Int.toNat_natCast]
set_option maxHeartbeats 8000000 in
theorem signs_walk (n : Int) (s : ByteArray) (w : World) (hn : -9223372036854775808 ≤ n ∧ n ≤ 9223372036854775807) (hs : s.size ≤ 140737488355328) (h : Tabs w) : Calls Tryd.prog 7 #[.int .i64 n, .string s] w fun e w' => e = .returned (.bool true) ∧ Below w.heap.size w w' := by
  have T0 := Lib.hid h; have HN := Lib.hid hn
  clear h hn
  go_enter Tryd.func7, Tryd.ntmps7
  go_wp2_with fail
  refine (works9 w T0.out).mono ?_
  rintro e w1 ⟨rfl, hb⟩
  have B1 := Lib.hid hb; have T1 := Lib.hid (T0.out.below hb)
  clear hb
  by_cases h2 : 100 < s.size
  · have p1 : decide ((100 : Int) < (s.size : Int)) = true := decide_eq_true (by omega)
    go_wp2_with fail
    refine (works9 w1 T1.out).mono ?_
    rintro e w2 ⟨rfl, hb⟩
    have B2 := Lib.hid (B1.out.trans (hb.mono B1.out.size))
    clear hb
    go_wp2_with fail
    go_ret
    exact ⟨rfl, B2.out⟩
  · have p1 : decide ((100 : Int) < (s.size : Int)) = false := decide_eq_false (by omega)
    obtain ⟨u, hu⟩ : ∃ u : ByteArray, ⟨(spellS n).toArray⟩ = u := ⟨_, rfl⟩
    have hul : u.data.toList = spellS n := by rw [← hu]
    have HU := Lib.hid hu; have HUL := Lib.hid hul
    have SS := Lib.hid (sign_spell n)
    have SP := Lib.hid (sign_spec s.data.toList)
    have HTL := Lib.hid (ByteArray.toList_eq u); have HTS := Lib.hid (ByteArray.toList_eq s)
    clear h2 hu hul
    go_wp2_with fail
    refine (spell_calls2 n w1 T1.out.spl).mono ?_
    rw [HU.out]
    rintro e w2 ⟨rfl, hb⟩
    have B2 := Lib.hid (B1.out.trans (hb.mono B1.out.size)); have T2 := Lib.hid (T1.out.below hb)
    clear hb
    rcases SS.out with ⟨a1, a2⟩ | ⟨a1, a2⟩
    · skip
      have ue : u.toList.isEmpty = false := by rw [HTL.out, HUL.out]; cases h : spellS n with
        | nil => exact absurd h a1
        | cons _ _ => rfl
      have A2 := Lib.hid a2
      clear a1 a2
      go_wp2_with fail
      refine (sign_calls u w2 T2.out.spl).mono ?_
      rw [HUL.out, A2.out]
      rintro e w3 ⟨rfl, hb⟩
      have B3 := Lib.hid (B2.out.trans (hb.mono B2.out.size)); have T3 := Lib.hid (T2.out.below hb)
      clear hb
      rcases SP.out with ⟨m, m1, m2, m3, m4⟩ | ⟨m1, m2⟩
      · have M4 := Lib.hid m4
        have se : s.toList.isEmpty = false := by rw [HTS.out, ← m3]; cases h : spl m with
          | nil => exact absurd h (spl_ne m m1 m2)
          | cons _ _ => rfl
        obtain ⟨v, hv⟩ : ∃ v : ByteArray, ⟨(spellS (m : Int)).toArray⟩ = v := ⟨_, rfl⟩
        have ve : (v.toList == s.toList) = true := by rw [ByteArray.toList_eq, HTS.out, ← hv, ← m3]; simp [spellS_nat m m2]
        have HV := Lib.hid hv; have HM := Lib.hid m2
        clear m1 m2 m3 m4 hv
        go_wp2_with fail
        refine (sign_calls s w3 T3.out.spl).mono ?_
        rw [M4.out]
        rintro e w4 ⟨rfl, hb⟩
        have B4 := Lib.hid (B3.out.trans (hb.mono B3.out.size)); have T4 := Lib.hid (T3.out.below hb)
        clear hb
        go_wp2_with fail
        refine (refSpell_calls n w4 HN.out).mono ?_
        rw [HU.out]
        rintro e w5 ⟨rfl, hb⟩
        have B5 := Lib.hid (B4.out.trans (hb.mono B4.out.size)); have T5 := Lib.hid (T4.out.below hb)
        clear hb
        go_wp2_with fail
        refine (bind_calls n w5).mono ?_
        rintro e w6 ⟨rfl, hb⟩
        have B6 := Lib.hid (B5.out.trans (hb.mono B5.out.size)); have T6 := Lib.hid (T5.out.below hb)
        clear hb
        go_wp2_with fail
        refine (refBind_calls n w6).mono ?_
        rintro e w7 ⟨rfl, hb⟩
        have B7 := Lib.hid (B6.out.trans (hb.mono B6.out.size)); have T7 := Lib.hid (T6.out.below hb)
        clear hb
        go_wp2_with fail
        refine (refSpell_calls (m : Int) w7 (by have := HM.out; omega)).mono ?_
        rw [HV.out]
        rintro e w8 ⟨rfl, hb⟩
        have B8 := Lib.hid (B7.out.trans (hb.mono B7.out.size)); have T8 := Lib.hid (T7.out.below hb)
        clear hb
        go_wp2_with fail
        go_ret
        exact ⟨rfl, B8.out⟩
      · have M1 := Lib.hid m1; have M2 := Lib.hid m2
        clear m1 m2
        go_wp2_with fail
        refine (sign_calls s w3 T3.out.spl).mono ?_
        rw [M1.out]
        rintro e w4 ⟨rfl, hb⟩
        have B4 := Lib.hid (B3.out.trans (hb.mono B3.out.size)); have T4 := Lib.hid (T3.out.below hb)
        clear hb
        go_wp2_with fail
        refine (refSpell_calls n w4 HN.out).mono ?_
        rw [HU.out]
        rintro e w5 ⟨rfl, hb⟩
        have B5 := Lib.hid (B4.out.trans (hb.mono B4.out.size)); have T5 := Lib.hid (T4.out.below hb)
        clear hb
        go_wp2_with fail
        refine (bind_calls n w5).mono ?_
        rintro e w6 ⟨rfl, hb⟩
        have B6 := Lib.hid (B5.out.trans (hb.mono B5.out.size)); have T6 := Lib.hid (T5.out.below hb)
        clear hb
        go_wp2_with fail
        refine (refBind_calls n w6).mono ?_
        rintro e w7 ⟨rfl, hb⟩
        have B7 := Lib.hid (B6.out.trans (hb.mono B6.out.size)); have T7 := Lib.hid (T6.out.below hb)
        clear hb
        go_wp2_with fail
        go_loopw [10] (fun i wr => ∃ k : Nat, i = .int .i64 k ∧ 1 ≤ k ∧ k ≤ 15 ∧ Hid (Below w.heap.size w wr)) (fun i _ => 15 - (intOf i).toNat)
        case atStart => exact ⟨1, rfl, by omega, by omega, B7⟩
        case round =>
          obtain ⟨k, rfl, hk1, hk, BR⟩ := hrel
          by_cases hx : (k : Int) ≤ 14
          · have hx1 : decide ((k : Int) ≤ 14) = true := decide_eq_true hx
            obtain ⟨v, hv⟩ : ∃ v : ByteArray, ⟨(spellS (k : Int)).toArray⟩ = v := ⟨_, rfl⟩
            have hne := M2.out k hk1 (by omega)
            have ve : (v.toList == s.toList) = false := by
              rw [ByteArray.toList_eq, HTS.out, ← hv, beq_eq_false_iff_ne]
              rw [spellS_nat k (by omega)]
              exact hne
            have HV := Lib.hid hv
            have e1 : IntKind.i64.wrap ((k : Int) + 1) = (k : Int) + 1 := IntWalk.i64_in _ (by omega)
            clear hv hne
            go_wp2_with fail
            refine (refSpell_calls (k : Int) wr (by omega)).mono ?_
            rw [HV.out]
            rintro e w8 ⟨rfl, hb⟩
            have B8 := Lib.hid (BR.out.trans (hb.mono BR.out.size))
            clear hb
            go_wp2_with fail
            go_roundw
            case rel => exact ⟨k + 1, by push_cast; rfl, by omega, by omega, B8⟩
            case measure => simp [intOf]; omega
          · have hx1 : decide ((k : Int) ≤ 14) = false := decide_eq_false hx
            go_wp2_with fail
            go_ret
            exact ⟨rfl, BR.out⟩
    · skip
      have ue : u.toList.isEmpty = true := by rw [HTL.out, HUL.out, a1]; rfl
      have A2 := Lib.hid a2
      clear a1 a2
      go_wp2_with fail
      refine (sign_calls u w2 T2.out.spl).mono ?_
      rw [HUL.out, A2.out]
      rintro e w3 ⟨rfl, hb⟩
      have B3 := Lib.hid (B2.out.trans (hb.mono B2.out.size)); have T3 := Lib.hid (T2.out.below hb)
      clear hb
      rcases SP.out with ⟨m, m1, m2, m3, m4⟩ | ⟨m1, m2⟩
      · have M4 := Lib.hid m4
        have se : s.toList.isEmpty = false := by rw [HTS.out, ← m3]; cases h : spl m with
          | nil => exact absurd h (spl_ne m m1 m2)
          | cons _ _ => rfl
        obtain ⟨v, hv⟩ : ∃ v : ByteArray, ⟨(spellS (m : Int)).toArray⟩ = v := ⟨_, rfl⟩
        have ve : (v.toList == s.toList) = true := by rw [ByteArray.toList_eq, HTS.out, ← hv, ← m3]; simp [spellS_nat m m2]
        have HV := Lib.hid hv; have HM := Lib.hid m2
        clear m1 m2 m3 m4 hv
        go_wp2_with fail
        refine (sign_calls s w3 T3.out.spl).mono ?_
        rw [M4.out]
        rintro e w4 ⟨rfl, hb⟩
        have B4 := Lib.hid (B3.out.trans (hb.mono B3.out.size)); have T4 := Lib.hid (T3.out.below hb)
        clear hb
        go_wp2_with fail
        refine (refSpell_calls n w4 HN.out).mono ?_
        rw [HU.out]
        rintro e w5 ⟨rfl, hb⟩
        have B5 := Lib.hid (B4.out.trans (hb.mono B4.out.size)); have T5 := Lib.hid (T4.out.below hb)
        clear hb
        go_wp2_with fail
        refine (bind_calls n w5).mono ?_
        rintro e w6 ⟨rfl, hb⟩
        have B6 := Lib.hid (B5.out.trans (hb.mono B5.out.size)); have T6 := Lib.hid (T5.out.below hb)
        clear hb
        go_wp2_with fail
        refine (refBind_calls n w6).mono ?_
        rintro e w7 ⟨rfl, hb⟩
        have B7 := Lib.hid (B6.out.trans (hb.mono B6.out.size)); have T7 := Lib.hid (T6.out.below hb)
        clear hb
        go_wp2_with fail
        refine (refSpell_calls (m : Int) w7 (by have := HM.out; omega)).mono ?_
        rw [HV.out]
        rintro e w8 ⟨rfl, hb⟩
        have B8 := Lib.hid (B7.out.trans (hb.mono B7.out.size)); have T8 := Lib.hid (T7.out.below hb)
        clear hb
        go_wp2_with fail
        go_ret
        exact ⟨rfl, B8.out⟩
      · have M1 := Lib.hid m1; have M2 := Lib.hid m2
        clear m1 m2
        go_wp2_with fail
        refine (sign_calls s w3 T3.out.spl).mono ?_
        rw [M1.out]
        rintro e w4 ⟨rfl, hb⟩
        have B4 := Lib.hid (B3.out.trans (hb.mono B3.out.size)); have T4 := Lib.hid (T3.out.below hb)
        clear hb
        go_wp2_with fail
        refine (refSpell_calls n w4 HN.out).mono ?_
        rw [HU.out]
        rintro e w5 ⟨rfl, hb⟩
        have B5 := Lib.hid (B4.out.trans (hb.mono B4.out.size)); have T5 := Lib.hid (T4.out.below hb)
        clear hb
        go_wp2_with fail
        refine (bind_calls n w5).mono ?_
        rintro e w6 ⟨rfl, hb⟩
        have B6 := Lib.hid (B5.out.trans (hb.mono B5.out.size)); have T6 := Lib.hid (T5.out.below hb)
        clear hb
        go_wp2_with fail
        refine (refBind_calls n w6).mono ?_
        rintro e w7 ⟨rfl, hb⟩
        have B7 := Lib.hid (B6.out.trans (hb.mono B6.out.size)); have T7 := Lib.hid (T6.out.below hb)
        clear hb
        go_wp2_with fail
        go_loopw [10] (fun i wr => ∃ k : Nat, i = .int .i64 k ∧ 1 ≤ k ∧ k ≤ 15 ∧ Hid (Below w.heap.size w wr)) (fun i _ => 15 - (intOf i).toNat)
        case atStart => exact ⟨1, rfl, by omega, by omega, B7⟩
        case round =>
          obtain ⟨k, rfl, hk1, hk, BR⟩ := hrel
          by_cases hx : (k : Int) ≤ 14
          · have hx1 : decide ((k : Int) ≤ 14) = true := decide_eq_true hx
            obtain ⟨v, hv⟩ : ∃ v : ByteArray, ⟨(spellS (k : Int)).toArray⟩ = v := ⟨_, rfl⟩
            have hne := M2.out k hk1 (by omega)
            have ve : (v.toList == s.toList) = false := by
              rw [ByteArray.toList_eq, HTS.out, ← hv, beq_eq_false_iff_ne]
              rw [spellS_nat k (by omega)]
              exact hne
            have HV := Lib.hid hv
            have e1 : IntKind.i64.wrap ((k : Int) + 1) = (k : Int) + 1 := IntWalk.i64_in _ (by omega)
            clear hv hne
            go_wp2_with fail
            refine (refSpell_calls (k : Int) wr (by omega)).mono ?_
            rw [HV.out]
            rintro e w8 ⟨rfl, hb⟩
            have B8 := Lib.hid (BR.out.trans (hb.mono BR.out.size))
            clear hb
            go_wp2_with fail
            go_roundw
            case rel => exact ⟨k + 1, by push_cast; rfl, by omega, by omega, B8⟩
            case measure => simp [intOf]; omega
          · have hx1 : decide ((k : Int) ≤ 14) = false := decide_eq_false hx
            go_wp2_with fail
            go_ret
            exact ⟨rfl, BR.out⟩
theorem signs_row (n : Int) (s : ByteArray) (W : World) (h0 : (Lit.int .i64 n).wf = true) (hs : s.size ≤ 140737488351232) (h : Tabs W) : Calls Tryd.prog 7 #[.int .i64 n, .string s] W fun e w' => e = .returned (.bool true) ∧ Below W.heap.size W w' := by
  have h1 : IntKind.i64.min ≤ n ∧ n ≤ IntKind.i64.max := by simpa [Lit.wf] using h0
  have e1 : IntKind.i64.min = -9223372036854775808 := by decide
  have e2 : IntKind.i64.max = 9223372036854775807 := by decide
  rw [e1, e2] at h1
  exact signs_walk n s W h1 (by omega) h
end Go.Proofs.YtacpolhilhindaaDoor.E
