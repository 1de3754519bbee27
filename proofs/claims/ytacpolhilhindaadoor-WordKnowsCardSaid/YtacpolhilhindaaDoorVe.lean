/- Marline, layer 09: what the program is tried with; the laws' walks. Conditions: the tables are laid. -/
import Derived.Test.YtacpolhilhindaaDoorVd
namespace Go.Proofs.YtacpolhilhindaaDoor.E
open Go.RowKit Go.Proofs.YtacpolhilhindaaDoorW.PrintWords Go.Proofs.YtacpolhilhindaaDoorW.PrintLast Go.Proofs.YtacpolhilhindaaDoorW.PrintMore Go.Proofs.YtacpolhilhindaaDoor.Obj
set_option linter.unusedVariables false
set_option linter.unusedSimpArgs false
set_option maxRecDepth 100000

theorem bind_calls (n : Int) (w : World) : Calls Tryd.prog 29 #[.int .i64 n] w fun e w' => e = .returned (.int .i64 (bindS n)) ∧ Below w.heap.size w w' :=
  (PB.word_Bind.calls 3 n _ w (bind_is n)).mono fun _ _ h => ⟨h.1, h.2.below⟩
theorem refBind_calls (n : Int) (w : World) : Calls Tryd.prog 30 #[.int .i64 n] w fun e w' => e = .returned (.int .i64 (bindS n)) ∧ Below w.heap.size w w' :=
  (PB.marlineref09_Bind.calls 4 n _ w (refBind_is n)).mono fun _ _ h => ⟨h.1, h.2.below⟩
theorem refSpell_calls (n : Int) (w : World) (hn : -9223372036854775808 ≤ n ∧ n ≤ 9223372036854775807) : Calls Tryd.prog 28 #[.int .i64 n] w fun e w' => e = .returned (.string ⟨(spellS n).toArray⟩) ∧ Below w.heap.size w w' :=
  PB.marlineref09_Spell.calls n _ w (refSpell_is n hn)
theorem refIs_calls (s : ByteArray) (w : World) : Calls Tryd.prog 23 #[.string s] w fun e w' => e = .returned (.bool (isS s.data.toList)) ∧ Below w.heap.size w w' :=
  PB.marlineref09_Is.calls 30 s _ w (refIs_is s)
theorem refMark_calls (s : ByteArray) (w : World) : Calls Tryd.prog 25 #[.string s] w fun e w' => e = .returned (.string ⟨(markS s.data.toList).toArray⟩) ∧ Below w.heap.size w w' :=
  PB.marlineref09_Mark.calls 100 s _ w (refMark_is s)
/-- what Given tells. -/
def givenS (l : List UInt8) : Int × Bool := if l = [108, 101, 110] ∨ l = [105, 110, 112, 117, 116] then (1, true) else if l = [102, 105, 108, 108] then (2, true) else if l = [105, 110, 112, 117, 116, 115] then (0, true) else (0, false)
theorem given_calls (s : ByteArray) (w : World) : Calls Tryd.prog 22 #[.string s] w fun e w' => e = .returned (.tuple #[.int .i64 (givenS s.data.toList).1, .bool (givenS s.data.toList).2]) ∧ Below w.heap.size w w' := by
  refine (PB.word_Given.calls 1 s _ _ w ?_).mono fun _ _ h => ⟨h.1, h.2.below⟩
  unfold PB.word_Given.f givenS
  rw [ByteArray.toList_eq]
  by_cases h1 : s.data.toList = [108, 101, 110]
  · rw [if_pos h1, if_pos (.inl h1), beq_iff_eq.2 h1]; rfl
  · rw [if_neg h1]
    by_cases h2 : s.data.toList = [105, 110, 112, 117, 116]
    · rw [if_pos (.inr h2), beq_iff_eq.2 h2]; rfl
    · rw [if_neg (fun e => e.elim h1 h2), beq_eq_false_iff_ne.2 h2]
      simp only [PB.word_Given.j0, Bool.false_eq_true, if_false, ByteArray.toList_eq]
      by_cases h3 : s.data.toList = [102, 105, 108, 108]
      · rw [if_pos h3, if_pos h3]
      · rw [if_neg h3, if_neg h3]
        by_cases h4 : s.data.toList = [105, 110, 112, 117, 116, 115]
        · rw [if_pos h4, if_pos h4]
        · rw [if_neg h4, if_neg h4]
set_option maxHeartbeats 4000000 in
theorem works9 (w : World) (h : Tabs w) : Calls Tryd.prog 18 #[] w fun e w' => e = .returned (.bool true) ∧ Below w.heap.size w w' := by
  have T0 := Lib.hid h; have B0 := Lib.hid (Below.refl w.heap.size w)
  clear h
  obtain ⟨w0, hw0⟩ : ∃ w0, w = w0 := ⟨_, rfl⟩
  rw [hw0]
  rw [hw0] at B0 T0
  clear hw0
  go_enter Tryd.func18, Tryd.ntmps18
  go_wp2_with fail
  refine (given_calls ⟨#[102, 105, 108, 108]⟩ w0).mono ?_
  rw [show givenS (⟨#[102, 105, 108, 108]⟩ : ByteArray).data.toList = (2, true) from by decide]
  rintro e w1 ⟨rfl, hb⟩
  have B1 := Lib.hid (B0.out.trans (hb.mono B0.out.size)); have T1 := Lib.hid (T0.out.below hb)
  clear hb
  go_wp2_with fail
  refine (all_calls w1 T1.out).mono ?_
  rintro e w2 ⟨g, _, rfl, _, hb⟩
  have B2 := Lib.hid (B1.out.trans (hb.mono B1.out.size)); have T2 := Lib.hid (T1.out.below hb)
  clear hb
  go_wp2_with fail
  refine (is_calls ⟨#[119, 104, 105, 108, 101]⟩ w2 T2.out).mono ?_
  rw [show isS (⟨#[119, 104, 105, 108, 101]⟩ : ByteArray).data.toList = true from by decide]
  rintro e w3 ⟨rfl, hb⟩
  have B3 := Lib.hid (B2.out.trans (hb.mono B2.out.size)); have T3 := Lib.hid (T2.out.below hb)
  clear hb
  go_wp2_with fail
  refine (is_calls ⟨#[108, 101, 110]⟩ w3 T3.out).mono ?_
  rw [show isS (⟨#[108, 101, 110]⟩ : ByteArray).data.toList = false from by decide]
  rintro e w4 ⟨rfl, hb⟩
  have B4 := Lib.hid (B3.out.trans (hb.mono B3.out.size)); have T4 := Lib.hid (T3.out.below hb)
  clear hb
  go_wp2_with fail
  refine (spell_calls 11 w4 T4.out.spl).mono ?_
  rw [show (⟨(if (0 : Int) ≤ 11 ∧ (11 : Int) < 15 then spl (11 : Int).toNat else []).toArray⟩ : ByteArray) = ⟨#[62, 61]⟩ from rfl]
  rintro e w5 ⟨rfl, hb⟩
  have B5 := Lib.hid (B4.out.trans (hb.mono B4.out.size)); have T5 := Lib.hid (T4.out.below hb)
  clear hb
  go_wp2_with fail
  refine (bind_calls 12 w5).mono ?_
  rw [show bindS 12 = 2 from by decide]
  rintro e w6 ⟨rfl, hb⟩
  have B6 := Lib.hid (B5.out.trans (hb.mono B5.out.size)); have T6 := Lib.hid (T5.out.below hb)
  clear hb
  go_wp2_with fail
  refine (mark_calls ⟨#[60, 61, 98]⟩ w6 (by decide) T6.out).mono ?_
  rw [show (⟨(markS (⟨#[60, 61, 98]⟩ : ByteArray).data.toList).toArray⟩ : ByteArray) = ⟨#[60, 61]⟩ from by rw [show markS (⟨#[60, 61, 98]⟩ : ByteArray).data.toList = [60, 61] from by decide]]
  rintro e w7 ⟨rfl, hb⟩
  have B7 := Lib.hid (B6.out.trans (hb.mono B6.out.size)); have T7 := Lib.hid (T6.out.below hb)
  clear hb
  go_wp2_with fail
  refine (mark_calls ⟨#[38, 98]⟩ w7 (by decide) T7.out).mono ?_
  rw [show (⟨(markS (⟨#[38, 98]⟩ : ByteArray).data.toList).toArray⟩ : ByteArray) = ⟨#[]⟩ from by rw [show markS (⟨#[38, 98]⟩ : ByteArray).data.toList = [] from by decide]]
  rintro e w8 ⟨rfl, hb⟩
  have B8 := Lib.hid (B7.out.trans (hb.mono B7.out.size)); have T8 := Lib.hid (T7.out.below hb)
  clear hb
  go_wp2_with fail
  go_ret
  exact ⟨rfl, B8.out⟩
end Go.Proofs.YtacpolhilhindaaDoor.E
