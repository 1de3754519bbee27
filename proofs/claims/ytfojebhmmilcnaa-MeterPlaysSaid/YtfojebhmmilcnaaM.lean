/- Marline, layer 33: the contracts of the meter's methods and of the reference's Swap, for a meter in memory whose numbers are in range; and of the methods at a nil meter. -/
import Derived.Test.YtfojebhmmilcnaaProg
import Derived.Test.YtfojebhmmilcnaaWMore
import Derived.Test.YtfojebhmmilcnaaWKept
import Derived.WalkKit
import Derived.KernelRfl
import Derived.RowKit3
import Derived.Deep.LoopGhost
import Derived.Deep.QuietTactic
import Derived.BigQuiet
import Derived.RegionTactic
import Derived.ChangeAlike
import Derived.IntWalk
import Derived.Lib.Hide
import Derived.Outline
namespace Go.Proofs.Ytfojebhmmilcnaa.M
open Go.RowKit Go.Proofs.YtfojebhmmilcnaaW.PrintWords Go.Proofs.YtfojebhmmilcnaaW.PrintLast Go.Proofs.YtfojebhmmilcnaaW.PrintMore
attribute [local go_sem] max2_int min2_int max_two min_two
set_option linter.unusedVariables false
set_option linter.unusedSimpArgs false

/-- Only the block g may have changed, and new ones. -/
structure Ch (g : Nat) (w w' : World) : Prop where
  os : w'.os = w.os
  tape : w'.tape = w.tape
  output : w'.output = w.output
  size : w.heap.size ≤ w'.heap.size
  block : ∀ k, k < w.heap.size → k ≠ g → w'.heap[k]? = w.heap[k]?

theorem Ch.refl (g : Nat) (w : World) : Ch g w w := ⟨rfl, rfl, rfl, Nat.le_refl _, fun _ _ _ => rfl⟩
theorem Ch.trans {g : Nat} {a b c : World} (h : Ch g a b) (k : Ch g b c) : Ch g a c :=
  ⟨k.os.trans h.os, k.tape.trans h.tape, k.output.trans h.output, Nat.le_trans h.size k.size, fun i hi hn => (k.block i (Nat.lt_of_lt_of_le hi h.size) hn).trans (h.block i hi hn)⟩
theorem Ch.drew {g : Nat} {a b : World} (h : Ch g a b) : Ch g a b.drew := ⟨h.os, h.tape, h.output, h.size, h.block⟩
theorem Ch.drewN {g : Nat} {a b : World} (h : Ch g a b) (n : Nat) : Ch g a (b.drewN n) := ⟨h.os, h.tape, h.output, h.size, h.block⟩
theorem Ch.setCell {g : Nat} {a b : World} (h : Ch g a b) (i : Nat) (u : Value) : Ch g a (b.setCell ⟨g, i, none⟩ u) :=
  h.trans ⟨rfl, rfl, rfl, by simp [World.setCell], fun k _ hn => Below.heap_setCell _ _ _ _ hn⟩
theorem Ch.below {g : Nat} {w w1 w2 : World} (h : Below w.heap.size w w1) (hg : w.heap.size ≤ g) (k : Ch g w1 w2) : Below w.heap.size w w2 :=
  h.trans ⟨k.os, k.tape, k.output, k.size, fun i hi => k.block i (Nat.lt_of_lt_of_le hi h.size) (by omega)⟩
theorem Ch.blk {g k : Nat} {w w' : World} {o : Obj} (h : Ch g w w') (hb : w.heap[k]? = some o) (hn : k ≠ g) : w'.heap[k]? = some o := (h.block k (blk_lt hb) hn).trans hb

abbrev Mt (w : World) (t : Nat) (g : Nat) (r u m : Int) : Prop := w.heap[g]? = some (.cells #[.int .i64 r, .int .i64 u, .int .i64 m] t (0, 0))

theorem mt_cell {w : World} {t g : Nat} {r u m : Int} (h : Mt w t g r u m) : w.cell? ⟨g, 0, none⟩ = some (.int .i64 r) ∧ w.cell? ⟨g, 1, none⟩ = some (.int .i64 u) ∧ w.cell? ⟨g, 2, none⟩ = some (.int .i64 m) :=
  ⟨(blk_cell h 0).trans rfl, (blk_cell h 1).trans rfl, (blk_cell h 2).trans rfl⟩
theorem mt_free {w : World} {t g : Nat} {r u m : Int} (h : Mt w t g r u m) : w.frozen? ⟨g, 0, none⟩ = false ∧ w.frozen? ⟨g, 1, none⟩ = false ∧ w.frozen? ⟨g, 2, none⟩ = false :=
  ⟨blk_frozen h 0, blk_frozen h 1, blk_frozen h 2⟩

set_option maxHeartbeats 1000000 in
theorem swap_no1 (g : Nat) (r u m a b : Int) (w : World) (ha : a < 0) :
    Calls Try.prog 10 #[.pointer (some ⟨g, 0, none⟩), .int .i64 a, .int .i64 b] w fun e w' => e = .returned (.bool false) ∧ ∃ n, w' = w.drewN n := by
  have hu36 := Try.underlying36
  have h1 := decide_eq_true ha
  go_enter Try.func10, Try.ntmps10
  go_wp2
  go_quiet (fail)
  go_wp2
  go_ret
  exact ⟨rfl, _, rfl⟩

set_option maxHeartbeats 1000000 in
theorem swap_no2 (g : Nat) (r u m a b : Int) (w : World) (ha : ¬ a < 0) (hb : b < 0) :
    Calls Try.prog 10 #[.pointer (some ⟨g, 0, none⟩), .int .i64 a, .int .i64 b] w fun e w' => e = .returned (.bool false) ∧ ∃ n, w' = w.drewN n := by
  have hu36 := Try.underlying36
  have h1 := decide_eq_false ha
  have h2 := decide_eq_true hb
  go_enter Try.func10, Try.ntmps10
  go_wp2
  go_quiet (fail)
  go_wp2
  go_ret
  exact ⟨rfl, _, rfl⟩

set_option maxHeartbeats 1000000 in
theorem swap_no3 (g : Nat) (r u m a b : Int) (w : World) (h : Mt w 36 g r u m) (ha : ¬ a < 0) (hb : ¬ b < 0) (hu : u < a) :
    Calls Try.prog 10 #[.pointer (some ⟨g, 0, none⟩), .int .i64 a, .int .i64 b] w fun e w' => e = .returned (.bool false) ∧ ∃ n, w' = w.drewN n := by
  have hu36 := Try.underlying36
  obtain ⟨c0, c1, c2⟩ := mt_cell h
  clear h
  have h1 := decide_eq_false ha
  have h2 := decide_eq_false hb
  have h3 := decide_eq_true hu
  go_enter Try.func10, Try.ntmps10
  go_wp2
  go_quiet (fail)
  go_wp2
  go_ret
  exact ⟨rfl, _, rfl⟩

set_option maxHeartbeats 1000000 in
theorem swap_no4 (g : Nat) (r u m a b : Int) (w : World) (h : Mt w 36 g r u m) (ha : ¬ a < 0) (hb : ¬ b < 0) (hu : ¬ u < a) (h0 : 0 ≤ u) (hr : u ≤ r) (hm : r ≤ 9223372036854775807) (hl : r - (u - a) < b) :
    Calls Try.prog 10 #[.pointer (some ⟨g, 0, none⟩), .int .i64 a, .int .i64 b] w fun e w' => e = .returned (.bool false) ∧ ∃ n, w' = w.drewN n := by
  have hu36 := Try.underlying36
  obtain ⟨c0, c1, c2⟩ := mt_cell h
  clear h
  have h1 := decide_eq_false ha
  have h2 := decide_eq_false hb
  have h3 := decide_eq_false hu
  have h4 := decide_eq_true hl
  have e1 : IntKind.i64.wrap (u - a) = u - a := IntWalk.i64_in _ (by omega)
  have e2 : IntKind.i64.wrap (r - (u - a)) = r - (u - a) := IntWalk.i64_in _ (by omega)
  go_enter Try.func10, Try.ntmps10
  go_wp2
  go_quiet (fail)
  go_wp2
  go_ret
  exact ⟨rfl, _, rfl⟩

set_option maxHeartbeats 1000000 in
theorem swap_yes (g : Nat) (r u m a b : Int) (w : World) (h : Mt w 36 g r u m) (ha : ¬ a < 0) (hb : ¬ b < 0) (hu : ¬ u < a) (h0 : 0 ≤ u) (hr : u ≤ r) (hm : r ≤ 9223372036854775807) (hl : ¬ r - (u - a) < b) :
    Calls Try.prog 10 #[.pointer (some ⟨g, 0, none⟩), .int .i64 a, .int .i64 b] w fun e w' => e = .returned (.bool true) ∧ Mt w' 36 g r (u - a + b) (max m (u - a + b)) ∧ Ch g w w' := by
  have hu36 := Try.underlying36
  have hblk := Lib.hid h
  obtain ⟨c0, c1, c2⟩ := mt_cell h
  obtain ⟨f0, f1, f2⟩ := mt_free h
  clear h
  have h1 := decide_eq_false ha
  have h2 := decide_eq_false hb
  have h3 := decide_eq_false hu
  have h4 := decide_eq_false hl
  have e1 : IntKind.i64.wrap (u - a) = u - a := IntWalk.i64_in _ (by omega)
  have e2 : IntKind.i64.wrap (r - (u - a)) = r - (u - a) := IntWalk.i64_in _ (by omega)
  have e3 : IntKind.i64.wrap (b - a) = b - a := IntWalk.i64_in _ (by omega)
  have e4 : IntKind.i64.wrap (u + (b - a)) = u + (b - a) := IntWalk.i64_in _ (by omega)
  go_enter Try.func10, Try.ntmps10
  go_wp2
  go_quiet (fail)
  go_wp2
  go_region
  all_goals go_wp2
  all_goals go_ret
  · refine ⟨rfl, ?_, (((Ch.refl g w).drewN nq |>.setCell 1 _).setCell 2 _).drew⟩
    rw [show max m (u - a + b) = u + (b - a) by omega, show u - a + b = u + (b - a) by omega]
    exact blk_put (blk_put (w := w.drewN nq) hblk.out 1 _ rfl) 2 _ rfl
  · refine ⟨rfl, ?_, (((Ch.refl g w).drewN nq |>.setCell 1 _).setCell 2 _).drew⟩
    rw [show max m (u - a + b) = m by omega, show u - a + b = u + (b - a) by omega]
    exact blk_put (blk_put (w := w.drewN nq) hblk.out 1 _ rfl) 2 _ rfl

/-! ### the reference's Swap -/
set_option maxHeartbeats 1000000 in
theorem rswap_no1 (g : Nat) (a b : Int) (w : World) (ha : a < 0) :
    Calls Try.prog 8 #[.pointer (some ⟨g, 0, none⟩), .int .i64 a, .int .i64 b] w fun e w' => e = .returned (.bool false) ∧ ∃ n, w' = w.drewN n := by
  have hu28 := Try.underlying28
  have h1 := decide_eq_true ha
  go_enter Try.func8, Try.ntmps8
  go_wp2
  go_ret
  exact ⟨rfl, 0, rfl⟩

set_option maxHeartbeats 1000000 in
theorem rswap_no2 (g : Nat) (a b : Int) (w : World) (ha : ¬ a < 0) (hb : b < 0) :
    Calls Try.prog 8 #[.pointer (some ⟨g, 0, none⟩), .int .i64 a, .int .i64 b] w fun e w' => e = .returned (.bool false) ∧ ∃ n, w' = w.drewN n := by
  have hu28 := Try.underlying28
  have h1 := decide_eq_false ha
  have h2 := decide_eq_true hb
  go_enter Try.func8, Try.ntmps8
  go_wp2
  go_ret
  exact ⟨rfl, 0, rfl⟩

set_option maxHeartbeats 1000000 in
theorem rswap_no3 (g : Nat) (r u m a b : Int) (w : World) (h : Mt w 28 g r u m) (ha : ¬ a < 0) (hb : ¬ b < 0) (hu : u < a) :
    Calls Try.prog 8 #[.pointer (some ⟨g, 0, none⟩), .int .i64 a, .int .i64 b] w fun e w' => e = .returned (.bool false) ∧ ∃ n, w' = w.drewN n := by
  have hu28 := Try.underlying28
  obtain ⟨c0, c1, c2⟩ := mt_cell h
  clear h
  have h1 := decide_eq_false ha
  have h2 := decide_eq_false hb
  have h3 := decide_eq_true hu
  go_enter Try.func8, Try.ntmps8
  go_wp2
  go_ret
  exact ⟨rfl, 0, rfl⟩

set_option maxHeartbeats 1000000 in
theorem rswap_no4 (g : Nat) (r u m a b : Int) (w : World) (h : Mt w 28 g r u m) (ha : ¬ a < 0) (hb : ¬ b < 0) (hu : ¬ u < a) (h0 : 0 ≤ u) (hr : u ≤ r) (hm : r ≤ 9223372036854775807) (hl : r - (u - a) < b) :
    Calls Try.prog 8 #[.pointer (some ⟨g, 0, none⟩), .int .i64 a, .int .i64 b] w fun e w' => e = .returned (.bool false) ∧ ∃ n, w' = w.drewN n := by
  have hu28 := Try.underlying28
  obtain ⟨c0, c1, c2⟩ := mt_cell h
  clear h
  have h1 := decide_eq_false ha
  have h2 := decide_eq_false hb
  have h3 := decide_eq_false hu
  have h4 := decide_eq_true hl
  have e1 : IntKind.i64.wrap (u - a) = u - a := IntWalk.i64_in _ (by omega)
  have e2 : IntKind.i64.wrap (r - (u - a)) = r - (u - a) := IntWalk.i64_in _ (by omega)
  go_enter Try.func8, Try.ntmps8
  go_wp2
  go_ret
  exact ⟨rfl, 0, rfl⟩

set_option maxHeartbeats 1000000 in
theorem rswap_yes (g : Nat) (r u m a b : Int) (w : World) (h : Mt w 28 g r u m) (ha : ¬ a < 0) (hb : ¬ b < 0) (hu : ¬ u < a) (h0 : 0 ≤ u) (hr : u ≤ r) (hm : r ≤ 9223372036854775807) (hl : ¬ r - (u - a) < b) :
    Calls Try.prog 8 #[.pointer (some ⟨g, 0, none⟩), .int .i64 a, .int .i64 b] w fun e w' => e = .returned (.bool true) ∧ Mt w' 28 g r (u - a + b) (max m (u - a + b)) ∧ Ch g w w' := by
  have hu28 := Try.underlying28
  have hblk := Lib.hid h
  obtain ⟨c0, c1, c2⟩ := mt_cell h
  obtain ⟨f0, f1, f2⟩ := mt_free h
  clear h
  have h1 := decide_eq_false ha
  have h2 := decide_eq_false hb
  have h3 := decide_eq_false hu
  have h4 := decide_eq_false hl
  have e1 : IntKind.i64.wrap (u - a) = u - a := IntWalk.i64_in _ (by omega)
  have e2 : IntKind.i64.wrap (r - (u - a)) = r - (u - a) := IntWalk.i64_in _ (by omega)
  have e3 : IntKind.i64.wrap (u - a + b) = u - a + b := IntWalk.i64_in _ (by omega)
  go_enter Try.func8, Try.ntmps8
  go_wp2
  go_region
  all_goals go_wp2
  all_goals go_ret
  · refine ⟨rfl, ?_, (((Ch.refl g w).setCell 1 _).setCell 2 _).drew⟩
    rw [show max m (u - a + b) = u - a + b by omega]
    exact blk_put (blk_put hblk.out 1 _ rfl) 2 _ rfl
  · refine ⟨rfl, ?_, (((Ch.refl g w).setCell 1 _).setCell 2 _).drew⟩
    rw [show max m (u - a + b) = m by omega]
    exact blk_put (blk_put hblk.out 1 _ rfl) 2 _ rfl

end Go.Proofs.Ytfojebhmmilcnaa.M
