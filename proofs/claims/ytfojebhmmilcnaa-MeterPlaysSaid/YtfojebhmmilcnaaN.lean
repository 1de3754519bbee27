/- Marline, layer 33: the contracts of New, Take, Give, Used, Most and Left, for a meter in memory whose numbers are in range; and of all methods at a nil meter. -/
import Derived.Test.YtfojebhmmilcnaaM
namespace Go.Proofs.Ytfojebhmmilcnaa.M
open Go.RowKit Go.Proofs.YtfojebhmmilcnaaW.PrintWords Go.Proofs.YtfojebhmmilcnaaW.PrintLast Go.Proofs.YtfojebhmmilcnaaW.PrintMore
attribute [local go_sem] max2_int min2_int max_two min_two
set_option linter.unusedVariables false
set_option linter.unusedSimpArgs false

theorem swap_no (g : Nat) (r u m a b : Int) (w : World) (h : Mt w 36 g r u m) (h0 : 0 ≤ u) (hr : u ≤ r) (hm : r ≤ 9223372036854775807) (hn : a < 0 ∨ b < 0 ∨ u < a ∨ r - (u - a) < b) :
    Calls Try.prog 10 #[.pointer (some ⟨g, 0, none⟩), .int .i64 a, .int .i64 b] w fun e w' => e = .returned (.bool false) ∧ ∃ n, w' = w.drewN n := by
  by_cases h1 : a < 0
  · exact swap_no1 g r u m a b w h1
  by_cases h2 : b < 0
  · exact swap_no2 g r u m a b w h1 h2
  by_cases h3 : u < a
  · exact swap_no3 g r u m a b w h h1 h2 h3
  exact swap_no4 g r u m a b w h h1 h2 h3 h0 hr hm (by omega)
theorem rswap_no (g : Nat) (r u m a b : Int) (w : World) (h : Mt w 28 g r u m) (h0 : 0 ≤ u) (hr : u ≤ r) (hm : r ≤ 9223372036854775807) (hn : a < 0 ∨ b < 0 ∨ u < a ∨ r - (u - a) < b) :
    Calls Try.prog 8 #[.pointer (some ⟨g, 0, none⟩), .int .i64 a, .int .i64 b] w fun e w' => e = .returned (.bool false) ∧ ∃ n, w' = w.drewN n := by
  by_cases h1 : a < 0
  · exact rswap_no1 g a b w h1
  by_cases h2 : b < 0
  · exact rswap_no2 g a b w h1 h2
  by_cases h3 : u < a
  · exact rswap_no3 g r u m a b w h h1 h2 h3
  exact rswap_no4 g r u m a b w h h1 h2 h3 h0 hr hm (by omega)

set_option maxHeartbeats 1000000 in
theorem take_yes (g : Nat) (r u m b : Int) (w : World) (h : Mt w 36 g r u m) (h0 : 0 ≤ u) (hr : u ≤ r) (hm : r ≤ 9223372036854775807) (hb : 0 ≤ b) (hl : b ≤ r - u) :
    Calls Try.prog 7 #[.pointer (some ⟨g, 0, none⟩), .int .i64 b] w fun e w' => e = .returned (.bool true) ∧ Mt w' 36 g r (u + b) (max m (u + b)) ∧ Ch g w w' := by
  have H := Lib.hid h
  clear h
  go_enter Try.func7, Try.ntmps7
  go_wp2_with (go_at_call 10; refine (swap_yes g r u m 0 b _ H.out (by omega) (by omega) (by omega) h0 hr hm (by omega)).mono ?_; rintro e w' ⟨rfl, hM, hC⟩; have HM := Lib.hid hM; have HC := Lib.hid hC; clear hM hC)
  go_ret
  refine ⟨rfl, ?_, HC.out⟩
  have := HM.out
  rw [show u - 0 + b = u + b by omega] at this
  exact this
set_option maxHeartbeats 1000000 in
theorem take_no (g : Nat) (r u m b : Int) (w : World) (h : Mt w 36 g r u m) (h0 : 0 ≤ u) (hr : u ≤ r) (hm : r ≤ 9223372036854775807) (hn : b < 0 ∨ r - u < b) :
    Calls Try.prog 7 #[.pointer (some ⟨g, 0, none⟩), .int .i64 b] w fun e w' => e = .returned (.bool false) ∧ ∃ n, w' = w.drewN n := by
  have H := Lib.hid h
  clear h
  go_enter Try.func7, Try.ntmps7
  go_wp2_with (go_at_call 10; refine (swap_no g r u m 0 b _ H.out h0 hr hm (by omega)).mono ?_; rintro e w' ⟨rfl, n, rfl⟩)
  go_ret
  exact ⟨rfl, _, rfl⟩
set_option maxHeartbeats 1000000 in
theorem give_yes (g : Nat) (r u m a : Int) (w : World) (h : Mt w 36 g r u m) (h0 : 0 ≤ u) (hr : u ≤ r) (hm : r ≤ 9223372036854775807) (ha : 0 ≤ a) (hl : a ≤ u) :
    Calls Try.prog 9 #[.pointer (some ⟨g, 0, none⟩), .int .i64 a] w fun e w' => e = .returned (.bool true) ∧ Mt w' 36 g r (u - a) (max m (u - a)) ∧ Ch g w w' := by
  have H := Lib.hid h
  clear h
  go_enter Try.func9, Try.ntmps9
  go_wp2_with (go_at_call 10; refine (swap_yes g r u m a 0 _ H.out (by omega) (by omega) (by omega) h0 hr hm (by omega)).mono ?_; rintro e w' ⟨rfl, hM, hC⟩; have HM := Lib.hid hM; have HC := Lib.hid hC; clear hM hC)
  go_ret
  refine ⟨rfl, ?_, HC.out⟩
  have := HM.out
  rw [show u - a + 0 = u - a by omega] at this
  exact this
set_option maxHeartbeats 1000000 in
theorem give_no (g : Nat) (r u m a : Int) (w : World) (h : Mt w 36 g r u m) (h0 : 0 ≤ u) (hr : u ≤ r) (hm : r ≤ 9223372036854775807) (hn : a < 0 ∨ u < a) :
    Calls Try.prog 9 #[.pointer (some ⟨g, 0, none⟩), .int .i64 a] w fun e w' => e = .returned (.bool false) ∧ ∃ n, w' = w.drewN n := by
  have H := Lib.hid h
  clear h
  go_enter Try.func9, Try.ntmps9
  go_wp2_with (go_at_call 10; refine (swap_no g r u m a 0 _ H.out h0 hr hm (by omega)).mono ?_; rintro e w' ⟨rfl, n, rfl⟩)
  go_ret
  exact ⟨rfl, _, rfl⟩

set_option maxHeartbeats 1000000 in
theorem used (g : Nat) (r u m : Int) (w : World) (h : Mt w 36 g r u m) :
    Calls Try.prog 11 #[.pointer (some ⟨g, 0, none⟩)] w fun e w' => e = .returned (.int .i64 u) ∧ w' = w := by
  have hu36 := Try.underlying36
  obtain ⟨c0, c1, c2⟩ := mt_cell h
  clear h
  go_enter Try.func11, Try.ntmps11
  go_wp2
  go_ret
  exact ⟨rfl, rfl⟩
set_option maxHeartbeats 1000000 in
theorem most (g : Nat) (r u m : Int) (w : World) (h : Mt w 36 g r u m) :
    Calls Try.prog 12 #[.pointer (some ⟨g, 0, none⟩)] w fun e w' => e = .returned (.int .i64 m) ∧ w' = w := by
  have hu36 := Try.underlying36
  obtain ⟨c0, c1, c2⟩ := mt_cell h
  clear h
  go_enter Try.func12, Try.ntmps12
  go_wp2
  go_ret
  exact ⟨rfl, rfl⟩
set_option maxHeartbeats 1000000 in
theorem left (g : Nat) (r u m : Int) (w : World) (h : Mt w 36 g r u m) (h0 : 0 ≤ u) (hr : u ≤ r) (hm : r ≤ 9223372036854775807) :
    Calls Try.prog 13 #[.pointer (some ⟨g, 0, none⟩)] w fun e w' => e = .returned (.int .i64 (r - u)) ∧ ∃ n, w' = w.drewN n := by
  have hu36 := Try.underlying36
  obtain ⟨c0, c1, c2⟩ := mt_cell h
  clear h
  have e1 : IntKind.i64.wrap (r - u) = r - u := IntWalk.i64_in _ (by omega)
  go_enter Try.func13, Try.ntmps13
  go_wp2
  go_quiet (fail)
  go_wp2
  go_ret
  exact ⟨rfl, _, rfl⟩

/-! ### nil -/
set_option maxHeartbeats 1000000 in
theorem nil_swap (a b : Int) (w : World) : Calls Try.prog 10 #[.pointer none, .int .i64 a, .int .i64 b] w fun e w' => e = .returned (.bool false) ∧ ∃ n, w' = w.drewN n := by
  go_enter Try.func10, Try.ntmps10
  go_wp2
  go_quiet (fail)
  go_wp2
  go_ret
  exact ⟨rfl, _, rfl⟩
set_option maxHeartbeats 1000000 in
theorem nil_take (b : Int) (w : World) : Calls Try.prog 7 #[.pointer none, .int .i64 b] w fun e w' => e = .returned (.bool false) ∧ ∃ n, w' = w.drewN n := by
  go_enter Try.func7, Try.ntmps7
  go_wp2_with (go_at_call 10; refine (nil_swap _ _ _).mono ?_; rintro e w' ⟨rfl, n, rfl⟩)
  go_ret
  exact ⟨rfl, _, rfl⟩
set_option maxHeartbeats 1000000 in
theorem nil_give (b : Int) (w : World) : Calls Try.prog 9 #[.pointer none, .int .i64 b] w fun e w' => e = .returned (.bool false) ∧ ∃ n, w' = w.drewN n := by
  go_enter Try.func9, Try.ntmps9
  go_wp2_with (go_at_call 10; refine (nil_swap _ _ _).mono ?_; rintro e w' ⟨rfl, n, rfl⟩)
  go_ret
  exact ⟨rfl, _, rfl⟩
theorem nil_used (w : World) : Calls Try.prog 11 #[.pointer none] w fun e w' => e = .returned (.int .i64 0) ∧ w' = w := by
  go_enter Try.func11, Try.ntmps11
  go_wp2
  go_ret
  exact ⟨rfl, rfl⟩
theorem nil_most (w : World) : Calls Try.prog 12 #[.pointer none] w fun e w' => e = .returned (.int .i64 0) ∧ w' = w := by
  go_enter Try.func12, Try.ntmps12
  go_wp2
  go_ret
  exact ⟨rfl, rfl⟩
theorem nil_left (w : World) : Calls Try.prog 13 #[.pointer none] w fun e w' => e = .returned (.int .i64 0) ∧ w' = w := by
  go_enter Try.func13, Try.ntmps13
  go_wp2
  go_ret
  exact ⟨rfl, rfl⟩

/-! ### New -/
set_option maxHeartbeats 1000000 in
theorem new_any (a : Int) (w : World) : Calls Try.prog 6 #[.int .i64 a] w fun e w' => ∃ g, e = .returned (.pointer (some ⟨g, 0, none⟩)) ∧ Mt w' 36 g (max 0 a) 0 0 ∧ w.heap.size ≤ g ∧ Below w.heap.size w w' := by
  have hu36 := Try.underlying36
  obtain ⟨n, hn⟩ : ∃ n : Int, (if 0 < a then a else 0) = n := ⟨_, rfl⟩
  have na : max 0 a = n := by split at hn <;> omega
  have na' := Lib.hid na
  clear na
  go_enter Try.func6, Try.ntmps6
  go_wp2
  go_ret
  refine ⟨w.heap.size, rfl, ?_, Nat.le_refl _, below_alloc (Below.refl _ _) _⟩
  rw [na'.out]
  exact blk_new w _

/-! ### works -/
set_option maxHeartbeats 2000000 in
theorem works_yes (w : World) : Calls Try.prog 5 #[] w fun e w' => e = .returned (.bool true) ∧ Below w.heap.size w w' := by
  go_enter Try.func5, Try.ntmps5
  go_wp2_with fail
  refine (new_any _ _).mono ?_
  rintro e w1 ⟨g, rfl, hM, hg, hB⟩
  have M0 := Lib.hid hM; have B0 := Lib.hid hB; clear hM hB
  go_wp2_with fail
  refine (take_yes g _ _ _ _ _ M0.out (by decide) (by decide) (by decide) (by decide) (by decide)).mono ?_
  rintro e w2 ⟨rfl, hM, hC⟩
  have M1 := Lib.hid hM; have C1 := Lib.hid hC; clear hM hC
  go_wp2_with fail
  refine (swap_yes g _ _ _ _ _ _ M1.out (by decide) (by decide) (by decide) (by decide) (by decide) (by decide) (by decide)).mono ?_
  rintro e w3 ⟨rfl, hM, hC⟩
  have M2 := Lib.hid hM; have C2 := Lib.hid hC; clear hM hC
  go_wp2_with fail
  refine (used g _ _ _ _ M2.out).mono ?_
  rintro e w' ⟨rfl, rfl⟩
  go_wp2_with fail
  refine (most g _ _ _ _ M2.out).mono ?_
  rintro e w' ⟨rfl, rfl⟩
  go_wp2_with fail
  refine (take_no g _ _ _ _ _ M2.out (by decide) (by decide) (by decide) (by decide)).mono ?_
  rintro e w' ⟨rfl, n, rfl⟩
  go_wp2_with fail
  refine (left g _ _ _ _ (by exact M2.out) (by decide) (by decide) (by decide)).mono ?_
  rintro e w' ⟨rfl, n2, rfl⟩
  go_wp2_with fail
  go_ret
  exact ⟨rfl, Ch.below B0.out hg ((C1.out.trans C2.out).drewN _)⟩
end Go.Proofs.Ytfojebhmmilcnaa.M
