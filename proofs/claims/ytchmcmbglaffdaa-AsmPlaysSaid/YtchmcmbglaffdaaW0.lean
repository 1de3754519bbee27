/- Marline, layer 27: a nil assembly's methods, and that works() answers true. No condition. -/
import Derived.Test.YtchmcmbglaffdaaE
import Derived.Test.YtchmcmbglaffdaaPAx2
namespace Go.Proofs.Ytchmcmbglaffdaa.M
open Go.RowKit Go.Proofs.YtchmcmbglaffdaaW.PrintWords Go.Proofs.YtchmcmbglaffdaaW.PrintLast Go.Proofs.YtchmcmbglaffdaaW.PrintMore Go.Proofs.Ytchmcmbglaffdaa.Kinds Go.Proofs.Ytchmcmbglaffdaa.Obj Go.Proofs.Ytchmcmbglaffdaa.PA
set_option linter.unusedVariables false
set_option linter.unusedSimpArgs false

set_option maxHeartbeats 1000000 in
theorem nil_end (w : World) : Calls Try.prog 12 #[.pointer none] w fun e w' => e = .returned (.tuple #[.slice none 0 0, .int .i64 0]) ∧ w' = w := by
  go_enter Try.func12, Try.ntmps12
  go_wp2
  go_ret2
  exact ⟨rfl, rfl⟩
set_option maxHeartbeats 1000000 in
theorem nil_emit (a b c d : Int) (w : World) : Calls Try.prog 10 #[.pointer none, .int .i64 a, .int .i64 b, .int .i64 c, .int .i64 d] w fun e w' => e = .returned (.int .i64 0) ∧ w' = w := by
  go_enter Try.func10, Try.ntmps10
  go_wp2
  go_ret
  exact ⟨rfl, rfl⟩
theorem nil_label (w : World) : Calls Try.prog 7 #[.pointer none] w fun e w' => e = .returned (.int .i64 0) ∧ w' = w := by
  go_enter Try.func7, Try.ntmps7
  go_wp2
  go_ret
  exact ⟨rfl, rfl⟩
theorem nil_has (n : Int) (w : World) : Calls Try.prog 15 #[.pointer none, .int .i64 n] w fun e w' => e = .returned (.bool false) ∧ w' = w := by
  go_enter Try.func15, Try.ntmps15
  go_wp2
  go_ret
  exact ⟨rfl, rfl⟩
theorem nil_mark (n : Int) (w : World) : Calls Try.prog 8 #[.pointer none, .int .i64 n] w fun e w' => e = .returned (.bool false) ∧ w' = w := by
  go_enter Try.func8, Try.ntmps8
  go_wp2_with fail
  refine (nil_has _ _).mono ?_
  rintro e w' ⟨rfl, rfl⟩
  go_wp2_with fail
  go_ret
  exact ⟨rfl, rfl⟩
theorem nil_jump (a n b : Int) (w : World) : Calls Try.prog 9 #[.pointer none, .int .i64 a, .int .i64 n, .int .i64 b] w fun e w' => e = .returned (.bool false) ∧ w' = w := by
  go_enter Try.func9, Try.ntmps9
  go_wp2_with fail
  refine (nil_has _ _).mono ?_
  rintro e w' ⟨rfl, rfl⟩
  go_wp2_with fail
  go_ret
  exact ⟨rfl, rfl⟩
theorem nil_len (w : World) : Calls Try.prog 11 #[.pointer none] w fun e w' => e = .returned (.int .i64 0) ∧ w' = w := by
  go_enter Try.func11, Try.ntmps11
  go_wp2
  go_ret
  exact ⟨rfl, rfl⟩

theorem lit3 (w : World) (a b c : S36) : Kd.C k36 (w.alloc (.cells #[.int .i64 a.f0, .int .i64 a.f1, .int .i64 a.f2, .int .i64 a.f3, .int .i64 b.f0, .int .i64 b.f1, .int .i64 b.f2, .int .i64 b.f3, .int .i64 c.f0, .int .i64 c.f1, .int .i64 c.f2, .int .i64 c.f3] 36)) (some ⟨w.heap.size, 0, none⟩) 3 [a, b, c] := by
  refine ⟨rfl, by omega, fun _ => ⟨_, rfl, fun j p hj => ?_⟩⟩
  match j, hj with
  | 0, hj =>
    injection hj with hj; subst hj
    refine ⟨[.int .i64 a.f0, .int .i64 a.f1, .int .i64 a.f2, .int .i64 a.f3], rfl, k36_mk _ _, fun i u hu => ?_⟩
    rw [add_plain, World.cell?_alloc_new]
    match i, hu with
    | 0, hu => exact hu
    | 1, hu => exact hu
    | 2, hu => exact hu
    | 3, hu => exact hu
  | 1, hj =>
    injection hj with hj; subst hj
    refine ⟨[.int .i64 b.f0, .int .i64 b.f1, .int .i64 b.f2, .int .i64 b.f3], rfl, k36_mk _ _, fun i u hu => ?_⟩
    rw [add_plain, World.cell?_alloc_new]
    match i, hu with
    | 0, hu => exact hu
    | 1, hu => exact hu
    | 2, hu => exact hu
    | 3, hu => exact hu
  | 2, hj =>
    injection hj with hj; subst hj
    refine ⟨[.int .i64 c.f0, .int .i64 c.f1, .int .i64 c.f2, .int .i64 c.f3], rfl, k36_mk _ _, fun i u hu => ?_⟩
    rw [add_plain, World.cell?_alloc_new]
    match i, hu with
    | 0, hu => exact hu
    | 1, hu => exact hu
    | 2, hu => exact hu
    | 3, hu => exact hu

set_option maxHeartbeats 4000000 in
theorem works_yes (w : World) : Calls Try.prog 5 #[] w fun e w' => e = .returned (.bool true) ∧ Below w.heap.size w w' := by
  go_enter Try.func5, Try.ntmps5
  go_wp2_with fail
  refine (new_is _).mono ?_
  rintro e w1 ⟨rfl, hA, hB, hF⟩
  obtain ⟨g, hg⟩ : ∃ g, w.heap.size = g := ⟨_, rfl⟩
  rw [hg] at hA hF
  rw [show (⟨w.heap.size, 0, none⟩ : Addr) = ⟨g, 0, none⟩ by rw [hg]]
  have A0 := Lib.hid hA; have B0 := Lib.hid hB; have F0 := Lib.hid hF; have G := Lib.hid hg; clear hA hB hF hg
  go_wp2_with fail
  refine (label_is g _ _ _ _ A0.out (by decide)).mono ?_
  rintro e w2 ⟨rfl, hA, hU⟩
  have A1 := Lib.hid hA; have U1 := Lib.hid hU; clear hA hU
  go_wp2_with fail
  refine (jump_yes g _ _ _ _ _ _ _ A1.out (by decide) (by decide) (.inl rfl) (by decide) (by decide)).mono ?_
  rintro e w3 ⟨rfl, hA, hU⟩
  have A2 := Lib.hid hA; have U2 := Lib.hid (U1.out.trans hU); clear hA hU U1
  go_wp2_with fail
  refine (emit_is g _ _ _ _ _ _ _ _ A2.out (by decide)).mono ?_
  rintro e w4 ⟨rfl, hA, hU⟩
  have A3 := Lib.hid hA; have U3 := Lib.hid (U2.out.trans hU); clear hA hU U2
  go_wp2_with fail
  refine (mark_yes g _ _ _ _ _ A3.out (by decide) (by decide) (by decide)).mono ?_
  rintro e w5 ⟨rfl, hA, hU⟩
  have A4 := Lib.hid hA; have U4 := Lib.hid (U3.out.trans hU); clear hA hU U3
  go_wp2_with fail
  refine (emit_is g _ _ _ _ _ _ _ _ A4.out (by decide)).mono ?_
  rintro e w6 ⟨rfl, hA, hU⟩
  have A5 := Lib.hid hA; have U5 := Lib.hid (U4.out.trans hU); clear hA hU U4
  go_wp2_with fail
  refine (end_is g _ _ _ _ A5.out (by decide) (by decide)).mono ?_
  rintro e w7 ⟨hB, ⟨hn, _⟩ | ⟨v, out, ho, rfl, hv, hnew⟩⟩
  · exact absurd hn (by decide)
  have ho' : out = [⟨11, 2, 0, 5⟩, ⟨33, 0, 0, 6⟩, ⟨25, 0, 0, 7⟩] := Option.some.inj (ho.symm.trans (by rfl))
  subst ho'
  obtain ⟨Av, cv, rfl⟩ := Kd.R_slice hv
  have V := Lib.hid hv; have B7 := Lib.hid hB; clear hv hB hnew ho A0 A1 A2 A3 A4 A5
  go_wp2_with fail
  refine (marlineref27_Same.calls 10 _ _ _ _ 3 [⟨11, 2, 0, 5⟩, ⟨33, 0, 0, 6⟩, ⟨25, 0, 0, 7⟩] true _ (Kd.C_alloc (Kd.R_reads' V.out).2.2 _) (Kd.R_reads' V.out).2.1 (lit3 w7 _ _ _) (Nat.le_refl _) (by decide +kernel)).mono ?_
  rintro e w8 ⟨rfl, hD⟩
  have D := Lib.hid hD; clear hD
  go_wp2_with fail
  go_ret
  refine ⟨rfl, ?_⟩
  have h1 : Below w.heap.size w w6 := Ch.to_below B0.out U5.out.1 (fun i hi => by rw [G.out]; exact F0.out i hi)
  have h2 : Below w.heap.size w w7 := below_then h1 h1.size B7.out
  have h3 := below_alloc h2 (Obj.cells #[.int .i64 11, .int .i64 2, .int .i64 0, .int .i64 5, .int .i64 33, .int .i64 0, .int .i64 0, .int .i64 6, .int .i64 25, .int .i64 0, .int .i64 0, .int .i64 7] 36)
  exact below_then h3 h3.size D.out.below
end Go.Proofs.Ytchmcmbglaffdaa.M
