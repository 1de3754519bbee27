/- Marline, layer 33: the walk of MeterFull: for all numbers it answers true. No condition. -/
import Derived.Test.YtfojebhmmilcnaaN
namespace Go.Proofs.Ytfojebhmmilcnaa.M
open Go.RowKit Go.Proofs.YtfojebhmmilcnaaW.PrintWords Go.Proofs.YtfojebhmmilcnaaW.PrintLast Go.Proofs.YtfojebhmmilcnaaW.PrintMore
attribute [local go_sem] max2_int min2_int max_two min_two
set_option linter.unusedVariables false
set_option linter.unusedSimpArgs false

set_option maxHeartbeats 4000000 in
theorem full_core (a b n q s : Int) (w : World) (ha : a ≤ 9223372036854775807) (hn : (if 0 < a then a else 0) = n) (hq : (if n < b then n else b) = q) (hs : (if 0 < q then q else 0) = s) :
    Calls Try.prog 4 #[.int .i64 a, .int .i64 b] w fun e w' => e = .returned (.bool true) ∧ Below w.heap.size w w' := by
  have n0 : 0 ≤ n := by split at hn <;> omega
  have nm : n ≤ 9223372036854775807 := by split at hn <;> omega
  have na : max 0 a = n := by split at hn <;> omega
  have s0 : 0 ≤ s := by split at hs <;> omega
  have sn : s ≤ n := by split at hs <;> split at hq <;> omega
  have na' := Lib.hid na
  clear na
  go_enter Try.func4, Try.ntmps4
  go_wp2_with fail
  refine (new_any _ _).mono ?_
  rintro e w1 ⟨g, rfl, hM, hg, hB⟩
  rw [na'.out] at hM
  have M0 := Lib.hid hM; have B0 := Lib.hid hB; clear hM hB
  go_wp2_with fail
  refine (take_yes g _ _ _ _ _ M0.out (by omega) (by omega) nm s0 (by omega)).mono ?_
  rintro e w2 ⟨rfl, hM, hC⟩
  rw [show 0 + s = s by omega, show max 0 s = s by omega] at hM
  have M1 := Lib.hid hM; have C1 := Lib.hid hC; clear hM hC
  have e0 : IntKind.i64.wrap (n - s) = n - s := IntWalk.i64_in _ (by omega)
  by_cases hlt : s < 9223372036854775807
  · have e1 : IntKind.i64.wrap (s + 1) = s + 1 := IntWalk.i64_in _ (by omega)
    have hl := decide_eq_true hlt
    go_wp2_with fail
    refine (give_no g _ _ _ _ _ M1.out (by omega) (by omega) nm (by omega)).mono ?_
    rintro e w' ⟨rfl, m, rfl⟩
    go_wp2_with fail
    refine (take_yes g _ _ _ _ _ (by exact M1.out) (by omega) (by omega) nm (by omega) (by omega)).mono ?_
    rintro e w3 ⟨rfl, hM, hC⟩
    rw [show s + (n - s) = n by omega, show max s n = n by omega] at hM
    have M2 := Lib.hid hM; have C2 := Lib.hid hC; clear hM hC
    go_wp2_with fail
    refine (take_no g _ _ _ _ _ M2.out (by omega) (by omega) nm (by omega)).mono ?_
    rintro e w' ⟨rfl, m2, rfl⟩
    go_wp2_with fail
    refine (take_yes g _ _ _ _ _ (by exact M2.out) (by omega) (by omega) nm (by omega) (by omega)).mono ?_
    rintro e w4 ⟨rfl, hM, hC⟩
    rw [show n + 0 = n by omega, show max n n = n by omega] at hM
    have M3 := Lib.hid hM; have C3 := Lib.hid hC; clear hM hC
    go_wp2_with fail
    refine (give_yes g _ _ _ _ _ M3.out (by omega) (by omega) nm (by omega) (by omega)).mono ?_
    rintro e w5 ⟨rfl, hM, hC⟩
    rw [show n - n = 0 by omega, show max n 0 = n by omega] at hM
    have M4 := Lib.hid hM; have C4 := Lib.hid hC; clear hM hC
    go_wp2_with fail
    refine (used g _ _ _ _ M4.out).mono ?_
    rintro e w' ⟨rfl, rfl⟩
    go_wp2_with fail
    refine (most g _ _ _ _ M4.out).mono ?_
    rintro e w' ⟨rfl, rfl⟩
    go_wp2_with fail
    refine (works_yes _).mono ?_
    rintro e w' ⟨rfl, hB⟩
    have B5 := Lib.hid hB; clear hB
    go_wp2_with fail
    go_ret
    refine ⟨rfl, ?_⟩
    have c := ((((C1.out.drewN m).trans C2.out).drewN m2).trans C3.out).trans C4.out
    exact below_then (Ch.below B0.out hg c) ((Ch.below B0.out hg c).size) B5.out
  · have hl := decide_eq_false hlt
    go_wp2_with fail
    refine (take_yes g _ _ _ _ _ (by exact M1.out) (by omega) (by omega) nm (by omega) (by omega)).mono ?_
    rintro e w3 ⟨rfl, hM, hC⟩
    rw [show s + (n - s) = n by omega, show max s n = n by omega] at hM
    have M2 := Lib.hid hM; have C2 := Lib.hid hC; clear hM hC
    go_wp2_with fail
    refine (take_no g _ _ _ _ _ M2.out (by omega) (by omega) nm (by omega)).mono ?_
    rintro e w' ⟨rfl, m2, rfl⟩
    go_wp2_with fail
    refine (take_yes g _ _ _ _ _ (by exact M2.out) (by omega) (by omega) nm (by omega) (by omega)).mono ?_
    rintro e w4 ⟨rfl, hM, hC⟩
    rw [show n + 0 = n by omega, show max n n = n by omega] at hM
    have M3 := Lib.hid hM; have C3 := Lib.hid hC; clear hM hC
    go_wp2_with fail
    refine (give_yes g _ _ _ _ _ M3.out (by omega) (by omega) nm (by omega) (by omega)).mono ?_
    rintro e w5 ⟨rfl, hM, hC⟩
    rw [show n - n = 0 by omega, show max n 0 = n by omega] at hM
    have M4 := Lib.hid hM; have C4 := Lib.hid hC; clear hM hC
    go_wp2_with fail
    refine (used g _ _ _ _ M4.out).mono ?_
    rintro e w' ⟨rfl, rfl⟩
    go_wp2_with fail
    refine (most g _ _ _ _ M4.out).mono ?_
    rintro e w' ⟨rfl, rfl⟩
    go_wp2_with fail
    refine (works_yes _).mono ?_
    rintro e w' ⟨rfl, hB⟩
    have B5 := Lib.hid hB; clear hB
    go_wp2_with fail
    go_ret
    refine ⟨rfl, ?_⟩
    have c := (((C1.out.trans C2.out).drewN m2).trans C3.out).trans C4.out
    exact below_then (Ch.below B0.out hg c) ((Ch.below B0.out hg c).size) B5.out
theorem full_walk (a b : Int) (w : World) (ha : (Lit.int .i64 a).wf = true) : Calls Try.prog 4 #[.int .i64 a, .int .i64 b] w fun e w' => e = .returned (.bool true) ∧ Below w.heap.size w w' := by
  have b0 : -9223372036854775808 ≤ a ∧ a ≤ 9223372036854775807 := by simpa [Lit.wf, IntKind.min, IntKind.max, IntKind.signed, IntKind.bits] using ha
  exact full_core a b _ _ _ w b0.2 rfl rfl rfl
end Go.Proofs.Ytfojebhmmilcnaa.M
