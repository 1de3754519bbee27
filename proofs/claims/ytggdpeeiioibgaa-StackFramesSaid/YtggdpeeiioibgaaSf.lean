/- Marline, layer 36: step on a frame, the reference having none: pushes. Conditions: as each says. -/
import Derived.Test.YtggdpeeiioibgaaSq
import Derived.Test.YtggdpeeiioibgaaSv
namespace Go.Proofs.Ytggdpeeiioibgaa.E
open Go.RowKit Go.Proofs.YtggdpeeiioibgaaW.PrintWords Go.Proofs.YtggdpeeiioibgaaW.PrintLast Go.Proofs.YtggdpeeiioibgaaW.PrintMore Go.Proofs.Ytggdpeeiioibgaa.Kinds Go.Proofs.Ytggdpeeiioibgaa.Obj
set_option linter.unusedVariables false
set_option linter.unusedSimpArgs false

/-- what a step does to a stack: the innermost frame alone is another one. -/
def StepF (N0 : Nat) (P : Nat → Prop) (s : Nat) (w : World) (x : S65) (l : List S65) (e : Ending) (w' : World) : Prop :=
  ∃ v r x', e = .returned (.tuple #[v, .bool r]) ∧ x'.f1 = x.f1 ∧ x'.f3.length ≤ x.f3.length + 1 ∧ Stk N0 w' (fun k => P k ∨ w.heap.size ≤ k) s (x' :: l) ∧ Ch P w w'
set_option maxHeartbeats 4000000 in
set_option maxRecDepth 100000 in
theorem stepF3 {N0 : Nat} {P : Nat → Prop} {s : Nat} {x : S65} {l : List S65} (w : World) (h : Stk N0 w P s (x :: l)) (a b c : Int) (y : S24) (A : Option Addr) (cy : Nat) (hy : y.f2.length ≤ cy) (hF : Kd.F k24 w (fun k => k < N0) A y.f2.length y.f2) (hbig : x.f3.length ≤ 1000000) :
    Calls Try.prog 39 #[.pointer (some ⟨s, 0, none⟩), .slice none 0 0, op61 3 a b c y A cy] w (StepF N0 P s w x l) := by
  have hu24 := Try.underlying24
  obtain ⟨g, hg⟩ : ∃ g, w.heap.size = g := ⟨_, rfl⟩
  have G : Hid (∃ w1 : World, w.alloc (.cells #[.int .i64 3, .int .i64 a, .int .i64 b, .int .i64 c, .int .i64 y.f0, .int .i64 y.f1, .slice A y.f2.length cy] 61) = w1 ∧ Op w1 g 3 a b c y A cy ∧ Below w.heap.size w w1) :=
    Lib.hid ⟨_, rfl, ⟨by rw [← hg]; exact blk_new _ _⟩, below_alloc (Below.refl _ _) _⟩
  have GA := Lib.hid hg
  have PU := Lib.hid (fun w1 (hb : Below w.heap.size w w1) => push_yes w1 (h.below hb) y A cy hy (Kd.F_below hF hb) hbig)
  clear hg h hy hF hbig
  go_enter Try.func39, Try.ntmps39
  go_upto_region 1 with (fail)
  rw [GA.out]
  obtain ⟨w1, hw1, v1, b1⟩ := G.out
  rw [hw1]
  have V1 := Lib.hid v1; have B1 := Lib.hid b1
  clear G GA hw1 v1 b1
  obtain ⟨k0, k1, k2, k3, k4, k5, k6⟩ := V1.out.cells
  go_wp2_with fail
  refine (PU.out w1 B1.out).mono ?_
  rintro e w2 ⟨rfl, h1, h2⟩
  have S2 := Lib.hid (h1.mono (Q := fun k => P k ∨ w.heap.size ≤ k) (fun k hk => hk.imp id (fun e => Nat.le_trans B1.out.size e))); have C2 := Lib.hid (Ch.trans (F := P) (Ch.of_below B1.out) h2 (fun i hi => .inl hi))
  clear h1 h2 k0 k1 k2 k3 k4 k5 k6
  go_wp2_with fail
  go_ret2
  exact ⟨_, _, ⟨x.f0, x.f1, x.f2, x.f3 ++ [y]⟩, rfl, rfl, by simp, S2.out, C2.out⟩
set_option maxHeartbeats 4000000 in
set_option maxRecDepth 100000 in
theorem stepF4 {N0 : Nat} {P : Nat → Prop} {s : Nat} {x : S65} {l : List S65} (w : World) (h : Stk N0 w P s (x :: l)) (a b c : Int) (y : S24) (A : Option Addr) (cy : Nat) (hy : y.f2.length ≤ cy) (hF : Kd.F k24 w (fun k => k < N0) A y.f2.length y.f2) (hbig : x.f3.length ≤ 1000000) :
    Calls Try.prog 39 #[.pointer (some ⟨s, 0, none⟩), .slice none 0 0, op61 4 a b c y A cy] w (StepF N0 P s w x l) := by
  have hu24 := Try.underlying24
  obtain ⟨g, hg⟩ : ∃ g, w.heap.size = g := ⟨_, rfl⟩
  have G : Hid (∃ w1 : World, w.alloc (.cells #[.int .i64 4, .int .i64 a, .int .i64 b, .int .i64 c, .int .i64 y.f0, .int .i64 y.f1, .slice A y.f2.length cy] 61) = w1 ∧ Op w1 g 4 a b c y A cy ∧ Below w.heap.size w w1) :=
    Lib.hid ⟨_, rfl, ⟨by rw [← hg]; exact blk_new _ _⟩, below_alloc (Below.refl _ _) _⟩
  have GA := Lib.hid hg
  have PU := Lib.hid (fun w1 (hb : Below w.heap.size w w1) => push_yes w1 (h.below hb) y A cy hy (Kd.F_below hF hb) hbig)
  clear hg h hy hF hbig
  go_enter Try.func39, Try.ntmps39
  go_upto_region 1 with (fail)
  rw [GA.out]
  obtain ⟨w1, hw1, v1, b1⟩ := G.out
  rw [hw1]
  have V1 := Lib.hid v1; have B1 := Lib.hid b1
  clear G GA hw1 v1 b1
  obtain ⟨k0, k1, k2, k3, k4, k5, k6⟩ := V1.out.cells
  go_wp2_with fail
  refine (PU.out w1 B1.out).mono ?_
  rintro e w2 ⟨rfl, h1, h2⟩
  have S2 := Lib.hid (h1.mono (Q := fun k => P k ∨ w.heap.size ≤ k) (fun k hk => hk.imp id (fun e => Nat.le_trans B1.out.size e))); have C2 := Lib.hid (Ch.trans (F := P) (Ch.of_below B1.out) h2 (fun i hi => .inl hi))
  clear h1 h2 k0 k1 k2 k3 k4 k5 k6
  go_wp2_with fail
  go_ret2
  exact ⟨_, _, ⟨x.f0, x.f1, x.f2, x.f3 ++ [y]⟩, rfl, rfl, by simp, S2.out, C2.out⟩
set_option maxHeartbeats 4000000 in
set_option maxRecDepth 100000 in
theorem stepF5 {N0 : Nat} {P : Nat → Prop} {s : Nat} {x : S65} {l : List S65} (w : World) (h : Stk N0 w P s (x :: l)) (a b c : Int) (y : S24) (A : Option Addr) (cy : Nat) (hy : y.f2.length ≤ cy) (hF : Kd.F k24 w (fun k => k < N0) A y.f2.length y.f2) (hbig : x.f3.length ≤ 1000000) :
    Calls Try.prog 39 #[.pointer (some ⟨s, 0, none⟩), .slice none 0 0, op61 5 a b c y A cy] w (StepF N0 P s w x l) := by
  have hu24 := Try.underlying24
  obtain ⟨g, hg⟩ : ∃ g, w.heap.size = g := ⟨_, rfl⟩
  have G : Hid (∃ w1 : World, w.alloc (.cells #[.int .i64 5, .int .i64 a, .int .i64 b, .int .i64 c, .int .i64 y.f0, .int .i64 y.f1, .slice A y.f2.length cy] 61) = w1 ∧ Op w1 g 5 a b c y A cy ∧ Below w.heap.size w w1) :=
    Lib.hid ⟨_, rfl, ⟨by rw [← hg]; exact blk_new _ _⟩, below_alloc (Below.refl _ _) _⟩
  have GA := Lib.hid hg
  have PU := Lib.hid (fun w1 (hb : Below w.heap.size w w1) => push_yes w1 (h.below hb) y A cy hy (Kd.F_below hF hb) hbig)
  clear hg h hy hF hbig
  go_enter Try.func39, Try.ntmps39
  go_upto_region 1 with (fail)
  rw [GA.out]
  obtain ⟨w1, hw1, v1, b1⟩ := G.out
  rw [hw1]
  have V1 := Lib.hid v1; have B1 := Lib.hid b1
  clear G GA hw1 v1 b1
  obtain ⟨k0, k1, k2, k3, k4, k5, k6⟩ := V1.out.cells
  go_wp2_with fail
  refine (PU.out w1 B1.out).mono ?_
  rintro e w2 ⟨rfl, h1, h2⟩
  have S2 := Lib.hid (h1.mono (Q := fun k => P k ∨ w.heap.size ≤ k) (fun k hk => hk.imp id (fun e => Nat.le_trans B1.out.size e))); have C2 := Lib.hid (Ch.trans (F := P) (Ch.of_below B1.out) h2 (fun i hi => .inl hi))
  clear h1 h2 k0 k1 k2 k3 k4 k5 k6
  go_wp2_with fail
  go_ret2
  exact ⟨_, _, ⟨x.f0, x.f1, x.f2, x.f3 ++ [y]⟩, rfl, rfl, by simp, S2.out, C2.out⟩
set_option maxHeartbeats 4000000 in
set_option maxRecDepth 100000 in
theorem stepF9a {N0 : Nat} {P : Nat → Prop} {s : Nat} {x : S65} {l : List S65} (w : World) (h : Stk N0 w P s (x :: l)) (n : Nat) (hn : n < x.f2.length) (b c : Int) (y : S24) (A : Option Addr) (cy : Nat) (hy : y.f2.length ≤ cy) (hF : Kd.F k24 w (fun k => k < N0) A y.f2.length y.f2) (hbig : x.f3.length ≤ 1000000) :
    Calls Try.prog 39 #[.pointer (some ⟨s, 0, none⟩), .slice none 0 0, op61 9 n b c y A cy] w (StepF N0 P s w x l) := by
  have hu24 := Try.underlying24
  obtain ⟨g, hg⟩ : ∃ g, w.heap.size = g := ⟨_, rfl⟩
  have G : Hid (∃ w1 : World, w.alloc (.cells #[.int .i64 9, .int .i64 n, .int .i64 b, .int .i64 c, .int .i64 y.f0, .int .i64 y.f1, .slice A y.f2.length cy] 61) = w1 ∧ Op w1 g 9 n b c y A cy ∧ Below w.heap.size w w1) :=
    Lib.hid ⟨_, rfl, ⟨by rw [← hg]; exact blk_new _ _⟩, below_alloc (Below.refl _ _) _⟩
  have GA := Lib.hid hg
  have PU := Lib.hid (fun w1 (hb : Below w.heap.size w w1) => store_yes w1 (h.below hb) n hn y A cy hy (Kd.F_below hF hb))
  clear hg h hy hF hbig hn
  go_enter Try.func39, Try.ntmps39
  go_upto_region 1 with (fail)
  rw [GA.out]
  obtain ⟨w1, hw1, v1, b1⟩ := G.out
  rw [hw1]
  have V1 := Lib.hid v1; have B1 := Lib.hid b1
  clear G GA hw1 v1 b1
  obtain ⟨k0, k1, k2, k3, k4, k5, k6⟩ := V1.out.cells
  go_wp2_with fail
  refine (PU.out w1 B1.out).mono ?_
  rintro e w2 ⟨rfl, h1, h2⟩
  have S2 := Lib.hid (h1.mono (Q := fun k => P k ∨ w.heap.size ≤ k) (fun k hk => .inl hk)); have C2 := Lib.hid (Ch.trans (F := P) (Ch.of_below B1.out) h2 (fun i hi => .inl hi))
  clear h1 h2 k0 k1 k2 k3 k4 k5 k6
  go_wp2_with fail
  go_quiet (fail)
  have S3 := Lib.hid (S2.out.below (pw_below_drewN (Below.refl w2.heap.size w2) nq)); have C3 := Lib.hid (C2.out.drewN nq)
  generalize w2.drewN nq = w3 at *
  go_wp2_with fail
  go_ret2
  exact ⟨_, _, ⟨x.f0, x.f1, x.f2.set n y, x.f3⟩, rfl, rfl, by simp, S3.out, C3.out⟩
set_option maxHeartbeats 4000000 in
set_option maxRecDepth 100000 in
theorem stepF9b {N0 : Nat} {P : Nat → Prop} {s : Nat} {x : S65} {l : List S65} (w : World) (h : Stk N0 w P s (x :: l)) (a b c : Int) (y : S24) (A : Option Addr) (cy : Nat) (hy : y.f2.length ≤ cy) (hF : Kd.F k24 w (fun k => k < N0) A y.f2.length y.f2) (hn : a < 0 ∨ (x.f2.length : Int) ≤ a) (hbig : x.f3.length ≤ 1000000) :
    Calls Try.prog 39 #[.pointer (some ⟨s, 0, none⟩), .slice none 0 0, op61 9 a b c y A cy] w (StepF N0 P s w x l) := by
  have hu24 := Try.underlying24
  obtain ⟨g, hg⟩ : ∃ g, w.heap.size = g := ⟨_, rfl⟩
  have G : Hid (∃ w1 : World, w.alloc (.cells #[.int .i64 9, .int .i64 a, .int .i64 b, .int .i64 c, .int .i64 y.f0, .int .i64 y.f1, .slice A y.f2.length cy] 61) = w1 ∧ Op w1 g 9 a b c y A cy ∧ Below w.heap.size w w1) :=
    Lib.hid ⟨_, rfl, ⟨by rw [← hg]; exact blk_new _ _⟩, below_alloc (Below.refl _ _) _⟩
  have GA := Lib.hid hg
  have PU := Lib.hid (fun w1 (hb : Below w.heap.size w w1) => store_out w1 (h.below hb) a hn y A cy)
  have HH := Lib.hid h
  clear hg h hy hF hbig hn
  go_enter Try.func39, Try.ntmps39
  go_upto_region 1 with (fail)
  rw [GA.out]
  obtain ⟨w1, hw1, v1, b1⟩ := G.out
  rw [hw1]
  have V1 := Lib.hid v1; have B1 := Lib.hid b1
  clear G GA hw1 v1 b1
  obtain ⟨k0, k1, k2, k3, k4, k5, k6⟩ := V1.out.cells
  go_wp2_with fail
  refine (PU.out w1 B1.out).mono ?_
  rintro e w2 ⟨rfl, hb⟩
  have B2 := Lib.hid (B1.out.trans (hb.mono B1.out.size))
  clear hb k0 k1 k2 k3 k4 k5 k6
  go_wp2_with fail
  go_quiet (fail)
  have B3 := Lib.hid (pw_below_drewN B2.out nq)
  generalize w2.drewN nq = w3 at *
  go_wp2_with fail
  go_ret2
  exact ⟨_, _, x, rfl, rfl, by simp, (HH.out.below B3.out).mono (fun k hk => .inl hk), Ch.of_below B3.out⟩
set_option maxHeartbeats 4000000 in
set_option maxRecDepth 100000 in
theorem stepF7a {N0 : Nat} {P : Nat → Prop} {s : Nat} {x : S65} {l : List S65} (w : World) (h : Stk N0 w P s (x :: l)) (n : Nat) (hn : n ≤ x.f3.length) (b c : Int) (y : S24) (A : Option Addr) (cy : Nat) (hy : y.f2.length ≤ cy) (hF : Kd.F k24 w (fun k => k < N0) A y.f2.length y.f2) (hbig : x.f3.length ≤ 1000000) :
    Calls Try.prog 39 #[.pointer (some ⟨s, 0, none⟩), .slice none 0 0, op61 7 n b c y A cy] w (StepF N0 P s w x l) := by
  have hu24 := Try.underlying24
  obtain ⟨g, hg⟩ : ∃ g, w.heap.size = g := ⟨_, rfl⟩
  have G : Hid (∃ w1 : World, w.alloc (.cells #[.int .i64 7, .int .i64 n, .int .i64 b, .int .i64 c, .int .i64 y.f0, .int .i64 y.f1, .slice A y.f2.length cy] 61) = w1 ∧ Op w1 g 7 n b c y A cy ∧ Below w.heap.size w w1) :=
    Lib.hid ⟨_, rfl, ⟨by rw [← hg]; exact blk_new _ _⟩, below_alloc (Below.refl _ _) _⟩
  have GA := Lib.hid hg
  have PU := Lib.hid (fun w1 (hb : Below w.heap.size w w1) => take_is w1 (h.bound.below hb) n hn (by omega))
  have gw : w.heap.size ≤ g := by omega
  clear hg h hy hF hbig hn
  go_enter Try.func39, Try.ntmps39
  go_upto_region 1 with (fail)
  rw [GA.out]
  obtain ⟨w1, hw1, v1, b1⟩ := G.out
  rw [hw1]
  have V1 := Lib.hid v1; have B1 := Lib.hid b1
  clear G GA hw1 v1 b1
  obtain ⟨k0, k1, k2, k3, k4, k5, k6⟩ := V1.out.cells
  go_wp2_with fail
  refine (PU.out w1 B1.out).mono ?_
  rintro e w2 ⟨v, rfl, _, _, h1, h2⟩
  have S2 := Lib.hid (h1.mono (Q := fun k => P k ∨ w.heap.size ≤ k) (fun k hk => .inl hk.1)); have C2 := Lib.hid (Ch.trans (F := P) (Ch.of_below B1.out) (h2.mono (G := P) (fun k hk => hk.1)) (fun i hi => .inl hi))
  obtain ⟨_, O2, _, _, _, _, _⟩ := Op.cells (Op.mk (h2.blk V1.out.blk (fun hk => by have := hk.2; omega)))
  clear h1 h2 k0 k1 k2 k3 k4 k5 k6
  go_wp2_with fail
  refine (refTake_nil n w2).mono ?_
  rintro e w3 ⟨rfl, hb⟩
  have S3 := Lib.hid (S2.out.below hb); have C3 := Lib.hid (C2.out.below hb)
  clear hb O2
  go_wp2_with fail
  go_ret2
  exact ⟨_, _, ⟨x.f0, x.f1, x.f2, x.f3.take (x.f3.length - n)⟩, rfl, rfl, by simp; omega, S3.out, C3.out⟩
set_option maxHeartbeats 4000000 in
set_option maxRecDepth 100000 in
theorem stepF7b {N0 : Nat} {P : Nat → Prop} {s : Nat} {x : S65} {l : List S65} (w : World) (h : Stk N0 w P s (x :: l)) (a b c : Int) (y : S24) (A : Option Addr) (cy : Nat) (hy : y.f2.length ≤ cy) (hF : Kd.F k24 w (fun k => k < N0) A y.f2.length y.f2) (hn : a < 0 ∨ (x.f3.length : Int) < a) (hbig : x.f3.length ≤ 1000000) :
    Calls Try.prog 39 #[.pointer (some ⟨s, 0, none⟩), .slice none 0 0, op61 7 a b c y A cy] w (StepF N0 P s w x l) := by
  have hu24 := Try.underlying24
  obtain ⟨g, hg⟩ : ∃ g, w.heap.size = g := ⟨_, rfl⟩
  have G : Hid (∃ w1 : World, w.alloc (.cells #[.int .i64 7, .int .i64 a, .int .i64 b, .int .i64 c, .int .i64 y.f0, .int .i64 y.f1, .slice A y.f2.length cy] 61) = w1 ∧ Op w1 g 7 a b c y A cy ∧ Below w.heap.size w w1) :=
    Lib.hid ⟨_, rfl, ⟨by rw [← hg]; exact blk_new _ _⟩, below_alloc (Below.refl _ _) _⟩
  have GA := Lib.hid hg
  have PU := Lib.hid (fun w1 (hb : Below w.heap.size w w1) => take_out w1 (h.below hb) a hn)
  have HH := Lib.hid h
  clear hg h hy hF hbig hn
  go_enter Try.func39, Try.ntmps39
  go_upto_region 1 with (fail)
  rw [GA.out]
  obtain ⟨w1, hw1, v1, b1⟩ := G.out
  rw [hw1]
  have V1 := Lib.hid v1; have B1 := Lib.hid b1
  clear G GA hw1 v1 b1
  obtain ⟨k0, k1, k2, k3, k4, k5, k6⟩ := V1.out.cells
  go_wp2_with fail
  refine (PU.out w1 B1.out).mono ?_
  rintro e w2 ⟨rfl, hb⟩
  have B2 := Lib.hid (B1.out.trans (hb.mono B1.out.size)); have V2 := Lib.hid (V1.out.below hb)
  clear hb k0 k1 k2 k3 k4 k5 k6 V1
  obtain ⟨k0, k1, k2, k3, k4, k5, k6⟩ := V2.out.cells
  go_wp2_with fail
  refine (refTake_nil a w2).mono ?_
  rintro e w3 ⟨rfl, hb⟩
  have B3 := Lib.hid (B2.out.trans (hb.mono B2.out.size))
  clear hb k0 k1 k2 k3 k4 k5 k6 V2
  go_wp2_with fail
  refine (sameNil w3).mono ?_
  rintro e w4 ⟨rfl, hb⟩
  have B4 := Lib.hid (B3.out.trans (hb.mono B3.out.size))
  clear hb
  go_wp2_with fail
  go_ret2
  exact ⟨_, _, x, rfl, rfl, by simp, (HH.out.below B4.out).mono (fun k hk => .inl hk), Ch.of_below B4.out⟩
set_option maxHeartbeats 4000000 in
set_option maxRecDepth 100000 in
theorem stepFX {N0 : Nat} {P : Nat → Prop} {s : Nat} {x : S65} {l : List S65} (w : World) (h : Stk N0 w P s (x :: l)) (K a b c : Int) (hK : 9 < K) (y : S24) (A : Option Addr) (cy : Nat) (hy : y.f2.length ≤ cy) (hF : Kd.F k24 w (fun k => k < N0) A y.f2.length y.f2) (hbig : x.f3.length ≤ 1000000) :
    Calls Try.prog 39 #[.pointer (some ⟨s, 0, none⟩), .slice none 0 0, op61 K a b c y A cy] w (StepF N0 P s w x l) := by
  have hu24 := Try.underlying24
  obtain ⟨g, hg⟩ : ∃ g, w.heap.size = g := ⟨_, rfl⟩
  have G : Hid (∃ w1 : World, w.alloc (.cells #[.int .i64 K, .int .i64 a, .int .i64 b, .int .i64 c, .int .i64 y.f0, .int .i64 y.f1, .slice A y.f2.length cy] 61) = w1 ∧ Op w1 g K a b c y A cy ∧ Below w.heap.size w w1) :=
    Lib.hid ⟨_, rfl, ⟨by rw [← hg]; exact blk_new _ _⟩, below_alloc (Below.refl _ _) _⟩
  have GA := Lib.hid hg
  have p0 : (K == 0) = false := beq_eq_false_iff_ne.2 (by omega)
  have p1 : (K == 1) = false := beq_eq_false_iff_ne.2 (by omega)
  have p2 : (K == 2) = false := beq_eq_false_iff_ne.2 (by omega)
  have p3 : (K == 3) = false := beq_eq_false_iff_ne.2 (by omega)
  have p4 : (K == 4) = false := beq_eq_false_iff_ne.2 (by omega)
  have p5 : (K == 5) = false := beq_eq_false_iff_ne.2 (by omega)
  have p6 : (K == 6) = false := beq_eq_false_iff_ne.2 (by omega)
  have p7 : (K == 7) = false := beq_eq_false_iff_ne.2 (by omega)
  have p8 : (K == 8) = false := beq_eq_false_iff_ne.2 (by omega)
  have p9 : (K == 9) = false := beq_eq_false_iff_ne.2 (by omega)
  have HH := Lib.hid h
  clear hg h hy hF hbig hK
  go_enter Try.func39, Try.ntmps39
  go_upto_region 1 with (fail)
  rw [GA.out]
  obtain ⟨w1, hw1, v1, b1⟩ := G.out
  rw [hw1]
  have V1 := Lib.hid v1; have B1 := Lib.hid b1
  clear G GA hw1 v1 b1
  obtain ⟨k0, k1, k2, k3, k4, k5, k6⟩ := V1.out.cells
  go_wp2_with fail
  go_ret2
  exact ⟨_, _, x, rfl, rfl, by simp, (HH.out.below B1.out).mono (fun k hk => .inl hk), Ch.of_below B1.out⟩
set_option maxHeartbeats 4000000 in
set_option maxRecDepth 100000 in
theorem stepF8b {N0 : Nat} {P : Nat → Prop} {s : Nat} {x : S65} {l : List S65} (w : World) (h : Stk N0 w P s (x :: l)) (a b c : Int) (y : S24) (A : Option Addr) (cy : Nat) (hy : y.f2.length ≤ cy) (hF : Kd.F k24 w (fun k => k < N0) A y.f2.length y.f2) (hn : a < 0 ∨ (x.f2.length : Int) ≤ a) (hbig : x.f3.length ≤ 1000000) :
    Calls Try.prog 39 #[.pointer (some ⟨s, 0, none⟩), .slice none 0 0, op61 8 a b c y A cy] w (StepF N0 P s w x l) := by
  have hu24 := Try.underlying24
  obtain ⟨g, hg⟩ : ∃ g, w.heap.size = g := ⟨_, rfl⟩
  have G : Hid (∃ w1 : World, w.alloc (.cells #[.int .i64 8, .int .i64 a, .int .i64 b, .int .i64 c, .int .i64 y.f0, .int .i64 y.f1, .slice A y.f2.length cy] 61) = w1 ∧ Op w1 g 8 a b c y A cy ∧ Below w.heap.size w w1) :=
    Lib.hid ⟨_, rfl, ⟨by rw [← hg]; exact blk_new _ _⟩, below_alloc (Below.refl _ _) _⟩
  have GA := Lib.hid hg
  have PU := Lib.hid (fun w1 (hb : Below w.heap.size w w1) => load_out w1 (h.below hb) a hn)
  have HH := Lib.hid h
  clear hg h hy hF hbig hn
  go_enter Try.func39, Try.ntmps39
  go_upto_region 1 with (fail)
  rw [GA.out]
  obtain ⟨w1, hw1, v1, b1⟩ := G.out
  rw [hw1]
  have V1 := Lib.hid v1; have B1 := Lib.hid b1
  clear G GA hw1 v1 b1
  obtain ⟨k0, k1, k2, k3, k4, k5, k6⟩ := V1.out.cells
  go_wp2_with fail
  refine (PU.out w1 B1.out).mono ?_
  rintro e w2 ⟨rfl, hb⟩
  have V2 := Lib.hid (V1.out.below hb); have B2 := Lib.hid (B1.out.trans (hb.mono B1.out.size))
  clear hb V1 B1 k0 k1 k2 k3 k4 k5 k6
  obtain ⟨h, hh⟩ : ∃ h, w2.heap.size = h := ⟨_, rfl⟩
  have G3 : Hid (∃ w3 : World, w2.alloc (.cells #[.int .i64 0, .int .i64 0, .slice none 0 0] 24) = w3 ∧ Var w3 h z24 none 0 ∧ Below w2.heap.size w2 w3) := Lib.hid ⟨_, rfl, by rw [← hh]; exact blk_new _ _, below_alloc (Below.refl _ _) _⟩
  have HQ := Lib.hid hh
  clear hh
  go_upto_region 41 with (fail)
  rw [HQ.out]
  obtain ⟨w3, hw3, v3, hb⟩ := G3.out
  rw [hw3]
  have U3 := Lib.hid v3; have V3 := Lib.hid (V2.out.below hb); have B3 := Lib.hid (B2.out.trans (hb.mono B2.out.size))
  clear G3 HQ hw3 v3 hb V2 B2
  obtain ⟨k0, k1, k2, k3, k4, k5, k6⟩ := V3.out.cells
  go_wp2_with fail
  go_quiet (fail)
  have B4 := Lib.hid (pw_below_drewN B3.out nq); have U4 := Lib.hid (show Var (w3.drewN nq) h z24 none 0 from U3.out)
  generalize w3.drewN nq = w4 at *
  clear k0 k1 k2 k3 k4 k5 k6 V3 B3 U3
  obtain ⟨m0, m1, m2, _, _, _⟩ := U4.out.cells
  simp only [z24] at m0 m1 m2
  simp only [List.length_nil] at m2
  go_wp2_with fail
  refine (same0 w4).mono ?_
  rintro e w5 ⟨rfl, hb⟩
  have B5 := Lib.hid (B4.out.trans (hb.mono B4.out.size))
  clear hb
  go_wp2_with fail
  go_ret2
  exact ⟨_, _, x, rfl, rfl, by simp, (HH.out.below B5.out).mono (fun k hk => .inl hk), Ch.of_below B5.out⟩
set_option maxHeartbeats 4000000 in
set_option maxRecDepth 100000 in
theorem stepF8a {N0 : Nat} {P : Nat → Prop} {s : Nat} {x : S65} {l : List S65} (w : World) (h : Stk N0 w P s (x :: l)) (n : Nat) (b c : Int) (y : S24) (A : Option Addr) (cy : Nat) (hy : y.f2.length ≤ cy) (hF : Kd.F k24 w (fun k => k < N0) A y.f2.length y.f2) (hn : n < x.f2.length) (hbig : x.f3.length ≤ 1000000) :
    Calls Try.prog 39 #[.pointer (some ⟨s, 0, none⟩), .slice none 0 0, op61 8 n b c y A cy] w (StepF N0 P s w x l) := by
  have hu24 := Try.underlying24
  obtain ⟨g, hg⟩ : ∃ g, w.heap.size = g := ⟨_, rfl⟩
  have G : Hid (∃ w1 : World, w.alloc (.cells #[.int .i64 8, .int .i64 n, .int .i64 b, .int .i64 c, .int .i64 y.f0, .int .i64 y.f1, .slice A y.f2.length cy] 61) = w1 ∧ Op w1 g 8 n b c y A cy ∧ Below w.heap.size w w1) :=
    Lib.hid ⟨_, rfl, ⟨by rw [← hg]; exact blk_new _ _⟩, below_alloc (Below.refl _ _) _⟩
  have GA := Lib.hid hg
  have PU := Lib.hid (fun w1 (hb : Below w.heap.size w w1) => load_yes w1 (h.below hb) n hn)
  obtain ⟨z, hz⟩ : ∃ z, rd_T24 x.f2 n = z := ⟨_, rfl⟩
  rw [hz] at PU
  clear hz
  have HH := Lib.hid h
  clear hg h hy hF hbig hn
  go_enter Try.func39, Try.ntmps39
  go_upto_region 1 with (fail)
  rw [GA.out]
  obtain ⟨w1, hw1, v1, b1⟩ := G.out
  rw [hw1]
  have V1 := Lib.hid v1; have B1 := Lib.hid b1
  clear G GA hw1 v1 b1
  obtain ⟨k0, k1, k2, k3, k4, k5, k6⟩ := V1.out.cells
  go_wp2_with fail
  refine (PU.out w1 B1.out).mono ?_
  rintro e w2 ⟨Bz, dz, rfl, _, _, hb⟩
  have V2 := Lib.hid (V1.out.below hb); have B2 := Lib.hid (B1.out.trans (hb.mono B1.out.size))
  clear hb V1 B1 k0 k1 k2 k3 k4 k5 k6
  obtain ⟨h, hh⟩ : ∃ h, w2.heap.size = h := ⟨_, rfl⟩
  have G3 : Hid (∃ w3 : World, w2.alloc (.cells #[.int .i64 z.f0, .int .i64 z.f1, .slice Bz z.f2.length dz] 24) = w3 ∧ Var w3 h z Bz dz ∧ Below w2.heap.size w2 w3) := Lib.hid ⟨_, rfl, by rw [← hh]; exact blk_new _ _, below_alloc (Below.refl _ _) _⟩
  have HQ := Lib.hid hh
  clear hh
  go_upto_region 41 with (fail)
  rw [HQ.out]
  obtain ⟨w3, hw3, v3, hb⟩ := G3.out
  rw [hw3]
  have U3 := Lib.hid v3; have V3 := Lib.hid (V2.out.below hb); have B3 := Lib.hid (B2.out.trans (hb.mono B2.out.size))
  clear G3 HQ hw3 v3 hb V2 B2
  obtain ⟨k0, k1, k2, k3, k4, k5, k6⟩ := V3.out.cells
  go_wp2_with fail
  go_quiet (fail)
  have B4 := Lib.hid (pw_below_drewN B3.out nq); have U4 := Lib.hid (show Var (w3.drewN nq) h z Bz dz from U3.out)
  generalize w3.drewN nq = w4 at *
  clear k0 k1 k2 k3 k4 k5 k6 V3 B3 U3
  obtain ⟨m0, m1, m2, _, _, _⟩ := U4.out.cells
  go_wp2_with fail
  go_ret2
  exact ⟨_, _, x, rfl, rfl, by simp, (HH.out.below B4.out).mono (fun k hk => .inl hk), Ch.of_below B4.out⟩
end Go.Proofs.Ytggdpeeiioibgaa.E
