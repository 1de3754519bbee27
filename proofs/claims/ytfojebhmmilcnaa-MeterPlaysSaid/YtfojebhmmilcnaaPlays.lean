/- Marline, layer 33: the walk of MeterPlays: for all numbers and all lists of calls it answers true. No condition. -/
import Derived.Test.YtfojebhmmilcnaaN
import Derived.Test.YtfojebhmmilcnaaK
import Derived.Deep.DeepCutAuto
namespace Go.Proofs.Ytfojebhmmilcnaa.M
open Go.RowKit Go.Proofs.YtfojebhmmilcnaaW.PrintWords Go.Proofs.YtfojebhmmilcnaaW.PrintLast Go.Proofs.YtfojebhmmilcnaaW.PrintMore Go.Proofs.Ytfojebhmmilcnaa.Kinds
attribute [local go_sem] max2_int min2_int max_two min_two
set_option linter.unusedVariables false
set_option linter.unusedSimpArgs false

/-- what a swap answers, how much is taken behind it, and the most there was. -/
def okB (r u a b : Int) : Bool := decide (0 ≤ a ∧ 0 ≤ b ∧ a ≤ u ∧ b ≤ r - (u - a))
def usd (r u a b : Int) : Int := if okB r u a b = true then u - a + b else u
def mst (r u m a b : Int) : Int := if okB r u a b = true then max m (u - a + b) else m
theorem usd_in (r u a b : Int) (h0 : 0 ≤ u) (hr : u ≤ r) : 0 ≤ usd r u a b ∧ usd r u a b ≤ r := by
  unfold usd okB
  split
  · rename_i h; have := of_decide_eq_true h; omega
  · omega

theorem swap_any (g : Nat) (r u m a b : Int) (w : World) (h : Mt w 36 g r u m) (h0 : 0 ≤ u) (hr : u ≤ r) (hm : r ≤ 9223372036854775807) :
    Calls Try.prog 10 #[.pointer (some ⟨g, 0, none⟩), .int .i64 a, .int .i64 b] w fun e w' => e = .returned (.bool (okB r u a b)) ∧ Mt w' 36 g r (usd r u a b) (mst r u m a b) ∧ Ch g w w' := by
  by_cases hc : okB r u a b = true
  · have hd := of_decide_eq_true hc
    unfold usd mst
    rw [if_pos hc, if_pos hc, hc]
    exact swap_yes g r u m a b w h (by omega) (by omega) (by omega) h0 hr hm (by omega)
  · have hd : ¬ (0 ≤ a ∧ 0 ≤ b ∧ a ≤ u ∧ b ≤ r - (u - a)) := fun hh => hc (decide_eq_true hh)
    unfold usd mst
    rw [if_neg hc, if_neg hc, Bool.not_eq_true _ |>.mp hc]
    refine (swap_no g r u m a b w h h0 hr hm (by omega)).mono ?_
    rintro e w' ⟨rfl, n, rfl⟩
    exact ⟨rfl, h, (Ch.refl g w).drewN n⟩
theorem rswap_any (g : Nat) (r u m a b : Int) (w : World) (h : Mt w 28 g r u m) (h0 : 0 ≤ u) (hr : u ≤ r) (hm : r ≤ 9223372036854775807) :
    Calls Try.prog 8 #[.pointer (some ⟨g, 0, none⟩), .int .i64 a, .int .i64 b] w fun e w' => e = .returned (.bool (okB r u a b)) ∧ Mt w' 28 g r (usd r u a b) (mst r u m a b) ∧ Ch g w w' := by
  by_cases hc : okB r u a b = true
  · have hd := of_decide_eq_true hc
    unfold usd mst
    rw [if_pos hc, if_pos hc, hc]
    exact rswap_yes g r u m a b w h (by omega) (by omega) (by omega) h0 hr hm (by omega)
  · have hd : ¬ (0 ≤ a ∧ 0 ≤ b ∧ a ≤ u ∧ b ≤ r - (u - a)) := fun hh => hc (decide_eq_true hh)
    unfold usd mst
    rw [if_neg hc, if_neg hc, Bool.not_eq_true _ |>.mp hc]
    refine (rswap_no g r u m a b w h h0 hr hm (by omega)).mono ?_
    rintro e w' ⟨rfl, n, rfl⟩
    exact ⟨rfl, h, (Ch.refl g w).drewN n⟩
set_option maxHeartbeats 1000000 in
theorem take_any (g : Nat) (r u m b : Int) (w : World) (h : Mt w 36 g r u m) (h0 : 0 ≤ u) (hr : u ≤ r) (hm : r ≤ 9223372036854775807) :
    Calls Try.prog 7 #[.pointer (some ⟨g, 0, none⟩), .int .i64 b] w fun e w' => e = .returned (.bool (okB r u 0 b)) ∧ Mt w' 36 g r (usd r u 0 b) (mst r u m 0 b) ∧ Ch g w w' := by
  have H := Lib.hid h
  clear h
  go_enter Try.func7, Try.ntmps7
  go_wp2_with (go_at_call 10; refine (swap_any g r u m 0 b _ H.out h0 hr hm).mono ?_; rintro e w' ⟨rfl, hM, hC⟩; have HM := Lib.hid hM; have HC := Lib.hid hC; clear hM hC)
  go_ret
  exact ⟨rfl, HM.out, HC.out⟩
set_option maxHeartbeats 1000000 in
theorem give_any (g : Nat) (r u m a : Int) (w : World) (h : Mt w 36 g r u m) (h0 : 0 ≤ u) (hr : u ≤ r) (hm : r ≤ 9223372036854775807) :
    Calls Try.prog 9 #[.pointer (some ⟨g, 0, none⟩), .int .i64 a] w fun e w' => e = .returned (.bool (okB r u a 0)) ∧ Mt w' 36 g r (usd r u a 0) (mst r u m a 0) ∧ Ch g w w' := by
  have H := Lib.hid h
  clear h
  go_enter Try.func9, Try.ntmps9
  go_wp2_with (go_at_call 10; refine (swap_any g r u m a 0 _ H.out h0 hr hm).mono ?_; rintro e w' ⟨rfl, hM, hC⟩; have HM := Lib.hid hM; have HC := Lib.hid hC; clear hM hC)
  go_ret
  exact ⟨rfl, HM.out, HC.out⟩

set_option maxHeartbeats 8000000 in
set_option maxRecDepth 100000 in
theorem plays_core (a r : Int) (l : List S30) (A : Option Addr) (c : Nat) (w : World) (hC : Kd.C k30 w A l.length l) (hc : l.length ≤ c) (hl : l.length ≤ 150) (ha : a ≤ 9223372036854775807) (hr : (if 0 < a then a else 0) = r) :
    Calls Try.prog 3 #[.int .i64 a, .slice A l.length c] w fun e w' => e = .returned (.bool true) ∧ Below w.heap.size w w' := by
  have hu28 := Try.underlying28
  have hu30 := Try.underlying30
  have hu36 := Try.underlying36
  have r0 : 0 ≤ r := by split at hr <;> omega
  have rm : r ≤ 9223372036854775807 := by split at hr <;> omega
  have ra : max 0 a = r := by split at hr <;> omega
  have ra' := Lib.hid ra
  have HC0 := Lib.hid hC
  clear ra hC
  have hlen : decide (150 < (l.length : Int)) = false := decide_eq_false (by omega)
  have hlen2 : decide (150 < l.length) = false := decide_eq_false (by omega)
  go_enter Try.func3, Try.ntmps3
  go_wp2_with fail
  refine (works_yes _).mono ?_
  rintro e w1 ⟨rfl, hB⟩
  have B0 := Lib.hid hB; clear hB
  go_wp2_with fail
  refine (new_any _ _).mono ?_
  rintro e w2 ⟨g, rfl, hM, hg, hB⟩
  rw [ra'.out] at hM
  have M0 := Lib.hid hM; have B1 := Lib.hid (below_then B0.out B0.out.size hB); clear hM hB
  go_wp2_with fail
  have hg2 : w.heap.size ≤ w2.heap.size := B1.out.size
  have hg1 : w.heap.size ≤ g := Nat.le_trans B0.out.size hg
  have M1 := Lib.hid (show Mt (w2.alloc (Obj.cells #[.int .i64 r, .int .i64 0, .int .i64 0] 28)) 36 g r 0 0 from blk_alloc M0.out _)
  have N1 := Lib.hid (show Mt (w2.alloc (Obj.cells #[.int .i64 r, .int .i64 0, .int .i64 0] 28)) 28 w2.heap.size r 0 0 from blk_new w2 _)
  have B2 := Lib.hid (below_alloc B1.out (Obj.cells #[.int .i64 r, .int .i64 0, .int .i64 0] 28))
  clear M0 B0 B1
  generalize w2.alloc (Obj.cells #[.int .i64 r, .int .i64 0, .int .i64 0] 28) = w3 at *
  generalize w2.heap.size = g2 at *
  go_loopw [8] (fun i wr => ∃ (x u m : Int), i = .int .i64 x ∧ 0 ≤ x ∧ x ≤ l.length ∧ 0 ≤ u ∧ u ≤ r ∧ Hid (Mt wr 36 g r u m) ∧ Hid (Mt wr 28 g2 r u m) ∧ Hid (Below w.heap.size w wr)) (fun i _ => l.length - (intOf i).toNat)
  case atStart => exact ⟨0, 0, 0, rfl, by omega, by omega, by omega, by omega, M1, N1, B2⟩
  case round =>
    obtain ⟨x, u, m, rfl, x0, xl, u0, ur, MM, NN, BB⟩ := hrel
    by_cases hx : x < (l.length : Int)
    · have hx1 := decide_eq_true hx
      obtain ⟨ad, e, hx_0, hx_1, hx_2⟩ := at_T30 (Kd.C_below HC0.out BB.out) x x0 hx
      cases e
      have HH := Lib.hid hx_0
      generalize (rd_T30 l x).f0 = k at *
      generalize (rd_T30 l x).f1 = p at *
      generalize (rd_T30 l x).f2 = q at *
      have px := eq_true x0
      have qx := eq_true hx
      have n12 : g ≠ g2 := blk_ne MM.out NN.out (by decide)
      have n21 : g2 ≠ g := Ne.symm n12
      have no1 : wr.heap.size ≠ g := Nat.ne_of_gt (blk_lt MM.out)
      have no2 : wr.heap.size ≠ g2 := Nat.ne_of_gt (blk_lt NN.out)
      by_cases k0 : k = 0
      · subst k0
        go_wp2_with fail
        refine (take_any g r u m p _ (by exact blk_alloc MM.out _) u0 ur rm).mono ?_
        rintro e w4 ⟨rfl, hM, hCh⟩
        have M4 := Lib.hid hM
        have N4 := Lib.hid (hCh.blk (blk_alloc NN.out _) n21)
        have O4 : w4.heap[wr.heap.size]? = some (.cells #[.int .i64 0, .int .i64 p, .int .i64 q] 30 (0, 0)) := hCh.blk (blk_new _ _) no1
        have B4 := Lib.hid (Ch.below (below_alloc BB.out _) hg1 hCh)
        have o1 : w4.cell? ⟨wr.heap.size, 1, none⟩ = some (.int .i64 p) := (blk_cell O4 1).trans rfl
        have o2 : w4.cell? ⟨wr.heap.size, 2, none⟩ = some (.int .i64 q) := (blk_cell O4 2).trans rfl
        have O4' := Lib.hid O4
        clear hM hCh O4 hx_0 hx_1 hx_2 HH
        go_wp2_with fail
        refine (rswap_any g2 r u m 0 p w4 N4.out u0 ur rm).mono ?_
        rintro e w5 ⟨rfl, hM, hCh⟩
        obtain ⟨v0, vr⟩ := usd_in r u 0 p u0 ur
        have N5 := Lib.hid hM
        have M5 := Lib.hid (hCh.blk M4.out n12)
        have O5 : w5.heap[wr.heap.size]? = some (.cells #[.int .i64 0, .int .i64 p, .int .i64 q] 30 (0, 0)) := hCh.blk O4'.out no2
        have B5 := Lib.hid (Ch.below B4.out hg2 hCh)
        have o1' : w5.cell? ⟨wr.heap.size, 1, none⟩ = some (.int .i64 p) := (blk_cell O5 1).trans rfl
        have o2' : w5.cell? ⟨wr.heap.size, 2, none⟩ = some (.int .i64 q) := (blk_cell O5 2).trans rfl
        clear hM hCh O5 o1 o2
        generalize usd r u 0 p = u' at *
        generalize mst r u m 0 p = m' at *
        generalize okB r u 0 p = z at *
        obtain ⟨d0, d1, d2⟩ := mt_cell N5.out
        have e1 : IntKind.i64.wrap (r - u') = r - u' := IntWalk.i64_in _ (by omega)
        have e2 : IntKind.i64.wrap (x + 1) = x + 1 := IntWalk.i64_in _ (by omega)
        go_wp2_with fail
        go_quiet ((first
          | (go_at_call 11; exact Calls.quiet_of_same (used g r u' m' _ (by exact M5.out)))
          | (go_at_call 12; exact Calls.quiet_of_same (most g r u' m' _ (by exact M5.out)))
          | (go_at_call 13; exact Calls.quiet_of (left g r u' m' _ (by exact M5.out) v0 vr rm))
          | (go_at_call 7; exact Calls.quiet_of (nil_take _ _))
          | (go_at_call 9; exact Calls.quiet_of (nil_give _ _))
          | (go_at_call 10; exact Calls.quiet_of (nil_swap _ _ _))))
        go_wp2_with fail
        go_roundw
        case rel => exact ⟨x + 1, u', m', rfl, by omega, by omega, v0, vr, M5, N5, Lib.hid (pw_below_drewN B5.out _)⟩
        case measure => simp [intOf]; omega
      by_cases k1 : k = 1
      · subst k1
        go_wp2_with fail
        refine (take_any g r u m p _ (by exact blk_alloc MM.out _) u0 ur rm).mono ?_
        rintro e w4 ⟨rfl, hM, hCh⟩
        have M4 := Lib.hid hM
        have N4 := Lib.hid (hCh.blk (blk_alloc NN.out _) n21)
        have O4 : w4.heap[wr.heap.size]? = some (.cells #[.int .i64 1, .int .i64 p, .int .i64 q] 30 (0, 0)) := hCh.blk (blk_new _ _) no1
        have B4 := Lib.hid (Ch.below (below_alloc BB.out _) hg1 hCh)
        have o1 : w4.cell? ⟨wr.heap.size, 1, none⟩ = some (.int .i64 p) := (blk_cell O4 1).trans rfl
        have o2 : w4.cell? ⟨wr.heap.size, 2, none⟩ = some (.int .i64 q) := (blk_cell O4 2).trans rfl
        have O4' := Lib.hid O4
        clear hM hCh O4 hx_0 hx_1 hx_2 HH
        go_wp2_with fail
        refine (rswap_any g2 r u m 0 p w4 N4.out u0 ur rm).mono ?_
        rintro e w5 ⟨rfl, hM, hCh⟩
        obtain ⟨v0, vr⟩ := usd_in r u 0 p u0 ur
        have N5 := Lib.hid hM
        have M5 := Lib.hid (hCh.blk M4.out n12)
        have O5 : w5.heap[wr.heap.size]? = some (.cells #[.int .i64 1, .int .i64 p, .int .i64 q] 30 (0, 0)) := hCh.blk O4'.out no2
        have B5 := Lib.hid (Ch.below B4.out hg2 hCh)
        have o1' : w5.cell? ⟨wr.heap.size, 1, none⟩ = some (.int .i64 p) := (blk_cell O5 1).trans rfl
        have o2' : w5.cell? ⟨wr.heap.size, 2, none⟩ = some (.int .i64 q) := (blk_cell O5 2).trans rfl
        clear hM hCh O5 o1 o2
        generalize usd r u 0 p = u' at *
        generalize mst r u m 0 p = m' at *
        generalize okB r u 0 p = z at *
        obtain ⟨d0, d1, d2⟩ := mt_cell N5.out
        have e1 : IntKind.i64.wrap (r - u') = r - u' := IntWalk.i64_in _ (by omega)
        have e2 : IntKind.i64.wrap (x + 1) = x + 1 := IntWalk.i64_in _ (by omega)
        go_wp2_with fail
        go_quiet ((first
          | (go_at_call 11; exact Calls.quiet_of_same (used g r u' m' _ (by exact M5.out)))
          | (go_at_call 12; exact Calls.quiet_of_same (most g r u' m' _ (by exact M5.out)))
          | (go_at_call 13; exact Calls.quiet_of (left g r u' m' _ (by exact M5.out) v0 vr rm))
          | (go_at_call 7; exact Calls.quiet_of (nil_take _ _))
          | (go_at_call 9; exact Calls.quiet_of (nil_give _ _))
          | (go_at_call 10; exact Calls.quiet_of (nil_swap _ _ _))))
        go_wp2_with fail
        go_roundw
        case rel => exact ⟨x + 1, u', m', rfl, by omega, by omega, v0, vr, M5, N5, Lib.hid (pw_below_drewN B5.out _)⟩
        case measure => simp [intOf]; omega
      by_cases k2 : k = 2
      · subst k2
        go_wp2_with fail
        refine (give_any g r u m p _ (by exact blk_alloc MM.out _) u0 ur rm).mono ?_
        rintro e w4 ⟨rfl, hM, hCh⟩
        have M4 := Lib.hid hM
        have N4 := Lib.hid (hCh.blk (blk_alloc NN.out _) n21)
        have O4 : w4.heap[wr.heap.size]? = some (.cells #[.int .i64 2, .int .i64 p, .int .i64 q] 30 (0, 0)) := hCh.blk (blk_new _ _) no1
        have B4 := Lib.hid (Ch.below (below_alloc BB.out _) hg1 hCh)
        have o1 : w4.cell? ⟨wr.heap.size, 1, none⟩ = some (.int .i64 p) := (blk_cell O4 1).trans rfl
        have o2 : w4.cell? ⟨wr.heap.size, 2, none⟩ = some (.int .i64 q) := (blk_cell O4 2).trans rfl
        have O4' := Lib.hid O4
        clear hM hCh O4 hx_0 hx_1 hx_2 HH
        go_wp2_with fail
        refine (rswap_any g2 r u m p 0 w4 N4.out u0 ur rm).mono ?_
        rintro e w5 ⟨rfl, hM, hCh⟩
        obtain ⟨v0, vr⟩ := usd_in r u p 0 u0 ur
        have N5 := Lib.hid hM
        have M5 := Lib.hid (hCh.blk M4.out n12)
        have O5 : w5.heap[wr.heap.size]? = some (.cells #[.int .i64 2, .int .i64 p, .int .i64 q] 30 (0, 0)) := hCh.blk O4'.out no2
        have B5 := Lib.hid (Ch.below B4.out hg2 hCh)
        have o1' : w5.cell? ⟨wr.heap.size, 1, none⟩ = some (.int .i64 p) := (blk_cell O5 1).trans rfl
        have o2' : w5.cell? ⟨wr.heap.size, 2, none⟩ = some (.int .i64 q) := (blk_cell O5 2).trans rfl
        clear hM hCh O5 o1 o2
        generalize usd r u p 0 = u' at *
        generalize mst r u m p 0 = m' at *
        generalize okB r u p 0 = z at *
        obtain ⟨d0, d1, d2⟩ := mt_cell N5.out
        have e1 : IntKind.i64.wrap (r - u') = r - u' := IntWalk.i64_in _ (by omega)
        have e2 : IntKind.i64.wrap (x + 1) = x + 1 := IntWalk.i64_in _ (by omega)
        go_wp2_with fail
        go_quiet ((first
          | (go_at_call 11; exact Calls.quiet_of_same (used g r u' m' _ (by exact M5.out)))
          | (go_at_call 12; exact Calls.quiet_of_same (most g r u' m' _ (by exact M5.out)))
          | (go_at_call 13; exact Calls.quiet_of (left g r u' m' _ (by exact M5.out) v0 vr rm))
          | (go_at_call 7; exact Calls.quiet_of (nil_take _ _))
          | (go_at_call 9; exact Calls.quiet_of (nil_give _ _))
          | (go_at_call 10; exact Calls.quiet_of (nil_swap _ _ _))))
        go_wp2_with fail
        go_roundw
        case rel => exact ⟨x + 1, u', m', rfl, by omega, by omega, v0, vr, M5, N5, Lib.hid (pw_below_drewN B5.out _)⟩
        case measure => simp [intOf]; omega
      · have kb : (k == 0) = false := beq_eq_false_iff_ne.2 k0
        have kc : (k == 1) = false := beq_eq_false_iff_ne.2 k1
        have kd : (k == 2) = false := beq_eq_false_iff_ne.2 k2
        go_wp2_with fail
        refine (swap_any g r u m p q _ (by exact blk_alloc MM.out _) u0 ur rm).mono ?_
        rintro e w4 ⟨rfl, hM, hCh⟩
        have M4 := Lib.hid hM
        have N4 := Lib.hid (hCh.blk (blk_alloc NN.out _) n21)
        have O4 : w4.heap[wr.heap.size]? = some (.cells #[.int .i64 k, .int .i64 p, .int .i64 q] 30 (0, 0)) := hCh.blk (blk_new _ _) no1
        have B4 := Lib.hid (Ch.below (below_alloc BB.out _) hg1 hCh)
        have o1 : w4.cell? ⟨wr.heap.size, 1, none⟩ = some (.int .i64 p) := (blk_cell O4 1).trans rfl
        have o2 : w4.cell? ⟨wr.heap.size, 2, none⟩ = some (.int .i64 q) := (blk_cell O4 2).trans rfl
        have O4' := Lib.hid O4
        clear hM hCh O4 hx_0 hx_1 hx_2 HH
        go_wp2_with fail
        refine (rswap_any g2 r u m p q w4 N4.out u0 ur rm).mono ?_
        rintro e w5 ⟨rfl, hM, hCh⟩
        obtain ⟨v0, vr⟩ := usd_in r u p q u0 ur
        have N5 := Lib.hid hM
        have M5 := Lib.hid (hCh.blk M4.out n12)
        have O5 : w5.heap[wr.heap.size]? = some (.cells #[.int .i64 k, .int .i64 p, .int .i64 q] 30 (0, 0)) := hCh.blk O4'.out no2
        have B5 := Lib.hid (Ch.below B4.out hg2 hCh)
        have o1' : w5.cell? ⟨wr.heap.size, 1, none⟩ = some (.int .i64 p) := (blk_cell O5 1).trans rfl
        have o2' : w5.cell? ⟨wr.heap.size, 2, none⟩ = some (.int .i64 q) := (blk_cell O5 2).trans rfl
        clear hM hCh O5 o1 o2
        generalize usd r u p q = u' at *
        generalize mst r u m p q = m' at *
        generalize okB r u p q = z at *
        obtain ⟨d0, d1, d2⟩ := mt_cell N5.out
        have e1 : IntKind.i64.wrap (r - u') = r - u' := IntWalk.i64_in _ (by omega)
        have e2 : IntKind.i64.wrap (x + 1) = x + 1 := IntWalk.i64_in _ (by omega)
        go_wp2_with fail
        go_quiet ((first
          | (go_at_call 11; exact Calls.quiet_of_same (used g r u' m' _ (by exact M5.out)))
          | (go_at_call 12; exact Calls.quiet_of_same (most g r u' m' _ (by exact M5.out)))
          | (go_at_call 13; exact Calls.quiet_of (left g r u' m' _ (by exact M5.out) v0 vr rm))
          | (go_at_call 7; exact Calls.quiet_of (nil_take _ _))
          | (go_at_call 9; exact Calls.quiet_of (nil_give _ _))
          | (go_at_call 10; exact Calls.quiet_of (nil_swap _ _ _))))
        go_wp2_with fail
        go_roundw
        case rel => exact ⟨x + 1, u', m', rfl, by omega, by omega, v0, vr, M5, N5, Lib.hid (pw_below_drewN B5.out _)⟩
        case measure => simp [intOf]; omega
    · have hx1 := decide_eq_false hx
      clear MM NN
      go_wp2_with fail
      refine (nil_used _).mono ?_
      rintro e w' ⟨rfl, rfl⟩
      go_wp2_with fail
      refine (nil_left _).mono ?_
      rintro e w' ⟨rfl, rfl⟩
      go_wp2_with fail
      refine (nil_most _).mono ?_
      rintro e w' ⟨rfl, rfl⟩
      go_wp2_with fail
      go_ret
      exact ⟨rfl, BB.out⟩
end Go.Proofs.Ytfojebhmmilcnaa.M
