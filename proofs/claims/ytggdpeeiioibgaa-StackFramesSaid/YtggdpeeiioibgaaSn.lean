/- Marline, layer 36: calls on a stack without frames. Conditions: as each says. -/
import Derived.Test.YtggdpeeiioibgaaSk
import Derived.Test.YtggdpeeiioibgaaSc
namespace Go.Proofs.Ytggdpeeiioibgaa.E
open Go.RowKit Go.Proofs.YtggdpeeiioibgaaW.PrintWords Go.Proofs.YtggdpeeiioibgaaW.PrintLast Go.Proofs.YtggdpeeiioibgaaW.PrintMore Go.Proofs.Ytggdpeeiioibgaa.Kinds Go.Proofs.Ytggdpeeiioibgaa.Obj
set_option linter.unusedVariables false
set_option linter.unusedSimpArgs false

theorem start_nil (f n : Int) (A : Option Addr) (m c : Nat) (w : World) : Calls Try.prog 43 #[.pointer none, .int .i64 f, .int .i64 n, .slice A m c] w fun e w' => e = .returned (.bool false) ∧ Below w.heap.size w w' := by
  go_enter Try.func43, Try.ntmps43
  go_wp2_with fail
  go_ret
  exact ⟨rfl, Below.refl _ _⟩
theorem push_no {p : Option Addr} {w : World} (ht : TopIs p w none) (x : S24) (A : Option Addr) (c : Nat) : Calls Try.prog 45 #[.pointer p, v24 x.f0 x.f1 A x.f2.length c] w fun e w' => e = .returned (.bool false) ∧ Below w.heap.size w w' := by
  have T := Lib.hid ht
  have hu24 := Try.underlying24
  have hB := Lib.hid (below_alloc (Below.refl w.heap.size w) (.cells #[.int .i64 x.f0, .int .i64 x.f1, .slice A x.f2.length c] 24))
  clear ht
  go_enter Try.func45, Try.ntmps45
  go_wp2_with fail
  refine (T.out _ hB.out).mono ?_
  rintro e w2 ⟨rfl, hb⟩
  have HB := Lib.hid (hB.out.trans (hb.mono hB.out.size))
  clear hb
  go_wp2_with fail
  go_ret
  exact ⟨rfl, HB.out⟩
theorem slot_no2 {p : Option Addr} {w w1 : World} (ht : TopIs p w none) (hb : Below w.heap.size w w1) (n : Int) : Calls Try.prog 77 #[.pointer p, .int .i64 n] w1 fun e w' => e = .returned (.pointer none) ∧ Below w1.heap.size w1 w' :=
  slot_no (fun W hW => ht W (hb.trans (hW.mono hb.size))) n
theorem take_no2 {p : Option Addr} {w w1 : World} (ht : TopIs p w none) (hb : Below w.heap.size w w1) (n : Int) : Calls Try.prog 48 #[.pointer p, .int .i64 n] w1 fun e w' => e = .returned (.tuple #[.slice none 0 0, .bool false]) ∧ Below w1.heap.size w1 w' :=
  take_no (fun W hW => ht W (hb.trans (hW.mono hb.size))) n
theorem load_no {p : Option Addr} {w : World} (ht : TopIs p w none) (n : Int) : Calls Try.prog 49 #[.pointer p, .int .i64 n] w fun e w' => e = .returned (.tuple #[v24 0 0 none 0 0, .bool false]) ∧ Below w.heap.size w w' := by
  have hu24 := Try.underlying24
  have T := Lib.hid ht
  obtain ⟨ga, hga⟩ : ∃ ga, w.heap.size = ga := ⟨_, rfl⟩
  have G : Hid (∃ w1 : World, w.alloc (.cells #[.int .i64 0, .int .i64 0, .slice none 0 0] 24) = w1 ∧ Var w1 ga z24 none 0 ∧ Below w.heap.size w w1) :=
    Lib.hid ⟨_, rfl, by rw [← hga]; exact blk_new _ _, below_alloc (Below.refl _ _) _⟩
  have wga : w.heap.size ≤ ga := by omega
  have GA := Lib.hid hga
  clear ht hga
  go_enter Try.func49, Try.ntmps49
  go_upto_region 1 with (fail)
  rw [GA.out]
  obtain ⟨w1, hw1, v1, b1⟩ := G.out
  rw [hw1]
  have V1 := Lib.hid v1; have B1 := Lib.hid b1
  clear G hw1 v1 b1
  go_wp2_with fail
  refine (slot_no2 T.out B1.out n).mono ?_
  rintro e w2 ⟨rfl, hb⟩
  have B2 := Lib.hid (B1.out.trans (hb.mono B1.out.size))
  have V2 := Lib.hid (Var.below V1.out hb)
  clear hb V1 B1
  obtain ⟨m0, m1, m2, t0, t1, t2⟩ := V2.out.cells
  simp only [z24] at m0 m1 m2
  simp only [List.length_nil] at m2
  go_wp2_with fail
  refine bodyPost_ret (results_ct rfl _ _ ga 24 #[.int .i64 0, .int .i64 0, .slice none 0 0] (0, 0) _ rfl (V2.out.set z24 none 0) Try.underlying24 rfl (by kernel_rfl)) rfl ?_
  exact ⟨rfl, below3 B2.out wga⟩
theorem pop_no {p : Option Addr} {w : World} (ht : TopIs p w none) : Calls Try.prog 74 #[.pointer p] w fun e w' => e = .returned (.tuple #[v24 0 0 none 0 0, .bool false]) ∧ Below w.heap.size w w' := by
  have hu24 := Try.underlying24
  have T := Lib.hid ht
  obtain ⟨ga, hga⟩ : ∃ ga, w.heap.size = ga := ⟨_, rfl⟩
  have G : Hid (∃ w1 : World, w.alloc (.cells #[.int .i64 0, .int .i64 0, .slice none 0 0] 24) = w1 ∧ Var w1 ga z24 none 0 ∧ Below w.heap.size w w1) :=
    Lib.hid ⟨_, rfl, by rw [← hga]; exact blk_new _ _, below_alloc (Below.refl _ _) _⟩
  have wga : w.heap.size ≤ ga := by omega
  have GA := Lib.hid hga
  clear ht hga
  go_enter Try.func74, Try.ntmps74
  go_upto_region 1 with (fail)
  rw [GA.out]
  obtain ⟨w1, hw1, v1, b1⟩ := G.out
  rw [hw1]
  have V1 := Lib.hid v1; have B1 := Lib.hid b1
  clear G hw1 v1 b1
  go_wp2_with fail
  refine (take_no2 T.out B1.out 1).mono ?_
  rintro e w2 ⟨rfl, hb⟩
  have B2 := Lib.hid (B1.out.trans (hb.mono B1.out.size))
  have V2 := Lib.hid (Var.below V1.out hb)
  clear hb V1 B1
  obtain ⟨m0, m1, m2, t0, t1, t2⟩ := V2.out.cells
  simp only [z24] at m0 m1 m2
  simp only [List.length_nil] at m2
  go_wp2_with fail
  refine bodyPost_ret (results_ct rfl _ _ ga 24 #[.int .i64 0, .int .i64 0, .slice none 0 0] (0, 0) _ rfl (V2.out.set z24 none 0) Try.underlying24 rfl (by kernel_rfl)) rfl ?_
  exact ⟨rfl, below3 B2.out wga⟩
theorem store_no {p : Option Addr} {w : World} (ht : TopIs p w none) (n : Int) (x : S24) (A : Option Addr) (c : Nat) : Calls Try.prog 44 #[.pointer p, .int .i64 n, v24 x.f0 x.f1 A x.f2.length c] w fun e w' => e = .returned (.bool false) ∧ Below w.heap.size w w' := by
  have T := Lib.hid ht
  have hu24 := Try.underlying24
  have hB := Lib.hid (below_alloc (Below.refl w.heap.size w) (.cells #[.int .i64 x.f0, .int .i64 x.f1, .slice A x.f2.length c] 24))
  clear ht
  go_enter Try.func44, Try.ntmps44
  go_wp2_with fail
  refine (slot_no2 T.out hB.out n).mono ?_
  rintro e w2 ⟨rfl, hb⟩
  have HB := Lib.hid (hB.out.trans (hb.mono hB.out.size))
  clear hb
  go_wp2_with fail
  go_ret
  exact ⟨rfl, HB.out⟩
theorem enter_no {p : Option Addr} {w : World} (ht : TopIs p w none) (f b n m : Int) : Calls Try.prog 46 #[.pointer p, .int .i64 f, .int .i64 b, .int .i64 n, .int .i64 m] w fun e w' => e = .returned (.bool false) ∧ Below w.heap.size w w' := by
  have T := Lib.hid ht
  clear ht
  by_cases h : n < m
  · have p1 : decide (n < m) = true := decide_eq_true h
    go_enter Try.func46, Try.ntmps46
    go_wp2_with fail
    go_ret
    exact ⟨rfl, Below.refl _ _⟩
  · have p1 : decide (n < m) = false := decide_eq_false h
    go_enter Try.func46, Try.ntmps46
    go_wp2_with fail
    refine (take_no2 T.out (Below.refl _ _) m).mono ?_
    rintro e w2 ⟨rfl, hb⟩
    have HB := Lib.hid hb
    clear hb
    go_wp2_with fail
    go_ret
    exact ⟨rfl, HB.out⟩
end Go.Proofs.Ytggdpeeiioibgaa.E
