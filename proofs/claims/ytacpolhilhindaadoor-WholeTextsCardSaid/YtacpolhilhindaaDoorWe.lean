/- Marline, layer 01: the contracts of the functions of whole numbers, what the program is tried with, and the laws' walks. Conditions: numbers of 64 bits; the table of the library holds its powers of ten. -/
import Derived.Test.YtacpolhilhindaaDoorWr
import Derived.Test.YtacpolhilhindaaDoorSh1
import Derived.Lib.AppendIntMem
import Derived.Lib.LaidTab
namespace Go.Proofs.YtacpolhilhindaaDoor.E
open Go.RowKit Go.Proofs.YtacpolhilhindaaDoorW.PrintWords Go.Proofs.YtacpolhilhindaaDoorW.PrintLast Go.Proofs.YtacpolhilhindaaDoorW.PrintMore Go.Proofs.YtacpolhilhindaaDoor.Obj
set_option linter.unusedVariables false
set_option linter.unusedSimpArgs false

/-- a variable that lies in w lies in w'. -/
theorem var_below {w w' : World} (hb : Below w.heap.size w w') {n : String} {cs : Array Value} (h : w.var? Tryd.prog n = some cs) : w'.var? Tryd.prog n = some cs := by
  unfold World.var? at h ⊢
  cases hg : Tryd.prog.globalNamed n with
  | none => simp [hg] at h
  | some g =>
    simp only [hg, Option.bind_some] at h ⊢
    have hlt : g < w.heap.size := by
      rcases Nat.lt_or_ge g w.heap.size with h' | h'
      · exact h'
      · simp [Array.getElem?_eq_none h'] at h
    rw [hb.block g hlt]
    exact h
/-- the table of the powers of ten is laid. -/
abbrev Pow (w : World) : Prop := Lib.TabIs Tryd.prog w "internal/strconv.uint64pow10" .u64 Lib.pow10Tab
theorem Pow.below {w w' : World} (h : Pow w) (hb : Below w.heap.size w w') : Pow w' := var_below hb h
theorem do_calls (s a b : Int) (w : World) (ha : In a) (hb : In b) :
    Calls Tryd.prog 9 #[.int .i64 s, .int .i64 a, .int .i64 b] w fun e w' => e = .returned (.tuple #[.int .i64 (doS s a b).1, .int .i64 (doS s a b).2]) ∧ Below w.heap.size w w' :=
  (PA.whole_Do.calls 1 s a b _ _ w (do_is s a b ha hb)).mono fun _ _ h => ⟨h.1, h.2.below⟩
theorem refDo_calls (s a b : Int) (w : World) (ha : In a) (hb : In b) :
    Calls Tryd.prog 11 #[.int .i64 s, .int .i64 a, .int .i64 b] w fun e w' => e = .returned (.tuple #[.int .i64 (doS s a b).1, .int .i64 (doS s a b).2]) ∧ Below w.heap.size w w' :=
  (PA.marlineref01_Do.calls 1 s a b _ _ w (ref_is s a b ha hb)).mono fun _ _ h => ⟨h.1, h.2.below⟩
theorem neg_calls (a : Int) (w : World) (ha : In a) :
    Calls Tryd.prog 12 #[.int .i64 a] w fun e w' => e = .returned (.tuple #[.int .i64 (doS 2 0 a).1, .int .i64 (doS 2 0 a).2]) ∧ Below w.heap.size w w' :=
  (PA.whole_Neg.calls a _ _ w (by unfold PA.whole_Neg.f; rw [minus_is 0 a (by decide) ha]; rfl)).mono fun _ _ h => ⟨h.1, h.2.below⟩
/-- whether a comparison holds. -/
def holdsS (s a b : Int) : Bool := if s = 6 then a == b else if s = 7 then a != b else if s = 8 then decide (a < b) else if s = 9 then decide (a ≤ b) else if s = 10 then decide (a > b) else if s = 11 then decide (a ≥ b) else false
theorem holds_calls (s a b : Int) (w : World) :
    Calls Tryd.prog 10 #[.int .i64 s, .int .i64 a, .int .i64 b] w fun e w' => e = .returned (.bool (holdsS s a b)) ∧ Below w.heap.size w w' :=
  (PA.whole_Holds.calls s a b (holdsS s a b) w (by unfold PA.whole_Holds.f holdsS; (repeat' split) <;> rfl)).mono fun _ _ h => ⟨h.1, h.2.below⟩
theorem text_calls (n : Int) (w : World) (hn : In n) (hp : Pow w) :
    Calls Tryd.prog 13 #[.int .i64 n] w fun e w' => e = .returned (.string ⟨(Lib.itoa n).toArray⟩) ∧ Below w.heap.size w w' := by
  have IT := Lib.hid (Tryd.strconv_Itoa n hn.1 hn.2 w hp)
  clear hp hn
  go_enter Tryd.func13, Tryd.ntmps13
  go_wp2_with fail
  refine IT.out.mono ?_
  rintro e w2 ⟨rfl, k, os, h2⟩
  have B2 := Lib.hid (show Below w.heap.size w w2 from by rw [h2]; exact Lib.below_grow _ _ (Nat.le_refl _) _ _)
  clear h2
  go_wp2_with fail
  go_ret
  exact ⟨rfl, B2.out⟩
set_option maxHeartbeats 4000000 in
set_option maxRecDepth 100000 in
theorem works_calls (w : World) (hp : Pow w) : Calls Tryd.prog 8 #[] w fun e w' => e = .returned (.bool true) ∧ Below w.heap.size w w' := by
  have HP := Lib.hid hp
  clear hp
  go_enter Tryd.func8, Tryd.ntmps8
  go_wp2_with fail
  refine (do_calls 4 (-7) 2 w (by decide) (by decide)).mono ?_
  rw [show doS 4 (-7) 2 = (-3, 0) from by decide]
  rintro e w1 ⟨rfl, hb⟩
  have B1 := Lib.hid hb
  clear hb
  go_wp2_with fail
  refine (do_calls 5 (-7) 2 w1 (by decide) (by decide)).mono ?_
  rw [show doS 5 (-7) 2 = (-1, 0) from by decide]
  rintro e w2 ⟨rfl, hb⟩
  have B2 := Lib.hid (B1.out.trans (hb.mono B1.out.size))
  clear hb
  go_wp2_with fail
  refine (do_calls 1 9223372036854775807 1 w2 (by decide) (by decide)).mono ?_
  rw [show doS 1 9223372036854775807 1 = (0, 2) from by decide]
  rintro e w3 ⟨rfl, hb⟩
  have B3 := Lib.hid (B2.out.trans (hb.mono B2.out.size))
  clear hb
  go_wp2_with fail
  refine (read_is ⟨#[48, 52, 50]⟩ w3 (by decide)).mono ?_
  rw [show readS (⟨#[48, 52, 50]⟩ : ByteArray).data.toList = (42, 0) from by decide]
  rintro e w4 ⟨rfl, hb⟩
  have B4 := Lib.hid (B3.out.trans (hb.mono B3.out.size))
  clear hb
  have P4 := Lib.hid (HP.out.below B4.out)
  go_wp2_with fail
  refine (text_calls (-5) w4 (by decide) P4.out).mono ?_
  rw [show (⟨(Lib.itoa (-5)).toArray⟩ : ByteArray) = ⟨#[45, 53]⟩ from by unfold Lib.itoa; rw [if_pos (by decide), Lib.decDigits_one (by decide)]; rfl]
  rintro e w5 ⟨rfl, hb⟩
  have B5 := Lib.hid (B4.out.trans (hb.mono B4.out.size))
  clear hb
  go_wp2_with fail
  refine (holds_calls 9 2 2 w5).mono ?_
  rw [show holdsS 9 2 2 = true from by decide]
  rintro e w6 ⟨rfl, hb⟩
  have B6 := Lib.hid (B5.out.trans (hb.mono B5.out.size))
  clear hb
  go_wp2_with fail
  go_ret
  exact ⟨rfl, B6.out⟩
set_option maxHeartbeats 4000000 in
set_option maxRecDepth 100000 in
theorem does_walk (s a b : Int) (w : World) (ha : In a) (hb : In b) (hp : Pow w) : Calls Tryd.prog 4 #[.int .i64 s, .int .i64 a, .int .i64 b] w fun e w' => e = .returned (.bool true) ∧ Below w.heap.size w w' := by
  have HP := Lib.hid hp
  obtain ⟨r, hr⟩ : ∃ r, doS s a b = r := ⟨_, rfl⟩
  obtain ⟨r1, r2⟩ := r
  obtain ⟨q, hq⟩ : ∃ r, doS 2 0 a = r := ⟨_, rfl⟩
  obtain ⟨q1, q2⟩ := q
  have C1 := Lib.hid (fun w => do_calls s a b w ha hb)
  have C2 := Lib.hid (fun w => refDo_calls s a b w ha hb)
  have C3 := Lib.hid (fun w => neg_calls a w ha)
  have C4 := Lib.hid (fun w => refDo_calls 2 0 a w (by decide) ha)
  rw [hr] at C1 C2
  rw [hq] at C3 C4
  clear hp ha hb hr hq
  go_enter Tryd.func4, Tryd.ntmps4
  go_wp2_with fail
  refine (C1.out w).mono ?_
  rintro e w1 ⟨rfl, hb⟩
  have B1 := Lib.hid hb
  clear hb
  go_wp2_with fail
  refine (C2.out w1).mono ?_
  rintro e w2 ⟨rfl, hb⟩
  have B2 := Lib.hid (B1.out.trans (hb.mono B1.out.size))
  clear hb
  go_wp2_with fail
  refine (C3.out w2).mono ?_
  rintro e w3 ⟨rfl, hb⟩
  have B3 := Lib.hid (B2.out.trans (hb.mono B2.out.size))
  clear hb
  go_wp2_with fail
  refine (C4.out w3).mono ?_
  rintro e w4 ⟨rfl, hb⟩
  have B4 := Lib.hid (B3.out.trans (hb.mono B3.out.size))
  clear hb
  go_wp2_with fail
  refine (works_calls w4 (HP.out.below B4.out)).mono ?_
  rintro e w5 ⟨rfl, hb⟩
  have B5 := Lib.hid (B4.out.trans (hb.mono B4.out.size))
  clear hb
  go_wp2_with fail
  go_ret
  exact ⟨rfl, B5.out⟩
end Go.Proofs.YtacpolhilhindaaDoor.E
namespace Go.Proofs.YtacpolhilhindaaDoor.E
open Go.RowKit
theorem in_of {x : Int} (h : (Lit.int .i64 x).wf = true) : In x := by
  have h1 : IntKind.i64.min ≤ x ∧ x ≤ IntKind.i64.max := by simpa [Lit.wf] using h
  have e1 : IntKind.i64.min = -9223372036854775808 := by decide
  have e2 : IntKind.i64.max = 9223372036854775807 := by decide
  rw [e1, e2] at h1; exact h1
end Go.Proofs.YtacpolhilhindaaDoor.E
