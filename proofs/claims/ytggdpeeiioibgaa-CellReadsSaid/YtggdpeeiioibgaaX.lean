/- Marline, values: contracts, as printed functions are told. Conditions: as each says. -/
import Derived.Test.YtggdpeeiioibgaaCl
namespace Go.Proofs.Ytggdpeeiioibgaa.E
open Go.RowKit Go.Proofs.YtggdpeeiioibgaaW.PrintWords Go.Proofs.YtggdpeeiioibgaaW.PrintLast Go.Proofs.YtggdpeeiioibgaaW.PrintMore Go.Proofs.Ytggdpeeiioibgaa.Kinds Go.Proofs.Ytggdpeeiioibgaa.Obj
set_option linter.unusedVariables false

def At.f (a b : Int) (l : List S24) (m : List S38) : Option (Int × Int × List S24 × Int) := some ((at_ ⟨a, b, l⟩ m).1.f0, (at_ ⟨a, b, l⟩ m).1.f1, (at_ ⟨a, b, l⟩ m).1.f2, (at_ ⟨a, b, l⟩ m).2)
theorem At.calls (a0_0 a0_1 : Int) (P0_2_ : Nat → Prop) (A0_2 : Option Addr) (c0_2 : Nat) (l0_2 : List S24) (A1 : Option Addr) (c1 : Nat) (l1 : List S38) (r1 r2 : Int) (r3 : List S24) (r4 : Int) (w : World) (hs0_2 : Kd.V k24 24 w w.heap.size (fun k_ => P0_2_ k_) (.slice A0_2 l0_2.length c0_2) l0_2) (hr1 : Kd.C k38 w A1 l1.length l1) (hc1 : l1.length ≤ c1) (h : At.f a0_0 a0_1 l0_2 l1 = some (r1, r2, r3, r4)) :
    Calls Try.prog 18 #[.agg #[.int .i64 a0_0, .int .i64 a0_1, .slice A0_2 l0_2.length c0_2], .slice A1 l1.length c1] w fun e w' => ∃ v2_ : Value, e = .returned (.tuple #[.agg #[.int .i64 r1, .int .i64 r2, v2_], .int .i64 r4]) ∧ Kd.V k24 24 w' w.heap.size (fun k_ => (P0_2_ k_ ∨ w.heap.size ≤ k_)) v2_ r3 ∧ Below w.heap.size w w' := by
  obtain ⟨_, h2, h3⟩ := Kd.V_at hs0_2
  simp only [At.f, Option.some.injEq, Prod.mk.injEq] at h
  obtain ⟨rfl, rfl, rfl, rfl⟩ := h
  refine (at_is P0_2_ ⟨a0_0, a0_1, l0_2⟩ A0_2 c0_2 l1 A1 c1 w h2 h3 hc1 hr1).mono ?_
  rintro e w' ⟨B, d, rfl, g1, g2, g3⟩
  exact ⟨_, rfl, Kd.V_mk g1 (Kd.F_mono (Kd.F_below g2 g3) (fun k hk => .inl hk)), g3⟩
def RefAt.f (a b : Int) (l : List S24) (m : List S38) : Option (Int × Int × List S24 × Int) := some ((at_ ⟨a, b, l⟩ m).1.f0, (at_ ⟨a, b, l⟩ m).1.f1, (at_ ⟨a, b, l⟩ m).1.f2, (at_ ⟨a, b, l⟩ m).2)
theorem RefAt.calls (a0_0 a0_1 : Int) (P0_2_ : Nat → Prop) (A0_2 : Option Addr) (c0_2 : Nat) (l0_2 : List S24) (A1 : Option Addr) (c1 : Nat) (l1 : List S38) (r1 r2 : Int) (r3 : List S24) (r4 : Int) (w : World) (hs0_2 : Kd.V k24 24 w w.heap.size (fun k_ => P0_2_ k_) (.slice A0_2 l0_2.length c0_2) l0_2) (hr1 : Kd.C k38 w A1 l1.length l1) (hc1 : l1.length ≤ c1) (h : RefAt.f a0_0 a0_1 l0_2 l1 = some (r1, r2, r3, r4)) :
    Calls Try.prog 19 #[.agg #[.int .i64 a0_0, .int .i64 a0_1, .slice A0_2 l0_2.length c0_2], .slice A1 l1.length c1] w fun e w' => ∃ v2_ : Value, e = .returned (.tuple #[.agg #[.int .i64 r1, .int .i64 r2, v2_], .int .i64 r4]) ∧ Kd.V k24 24 w' w.heap.size (fun k_ => (P0_2_ k_ ∨ w.heap.size ≤ k_)) v2_ r3 ∧ Below w.heap.size w w' := by
  obtain ⟨_, h2, h3⟩ := Kd.V_at hs0_2
  simp only [RefAt.f, Option.some.injEq, Prod.mk.injEq] at h
  obtain ⟨rfl, rfl, rfl, rfl⟩ := h
  refine (refAt_is P0_2_ ⟨a0_0, a0_1, l0_2⟩ A0_2 c0_2 l1 A1 c1 w h2 h3 hc1 hr1).mono ?_
  rintro e w' ⟨B, d, rfl, g1, g2, g3⟩
  exact ⟨_, rfl, Kd.V_mk g1 (Kd.F_mono (Kd.F_below g2 g3) (fun k hk => .inl hk)), g3⟩
def Clone.f (l : List S24) : Option (List S24) := if l.length * 40 ≤ 140737488355328 then some l else none
theorem Clone.calls (P0_ : Nat → Prop) (A0 : Option Addr) (c0 : Nat) (l0 : List S24) (r : List S24) (w : World) (hs0 : Kd.V k24 24 w w.heap.size (fun k_ => P0_ k_) (.slice A0 l0.length c0) l0) (h : Clone.f l0 = some r) :
    Calls Try.prog 67 #[.slice A0 l0.length c0] w fun e w' => ∃ v0_ : Value, e = .returned (v0_) ∧ Kd.N k24 24 w' w.heap.size (fun k_ => (P0_ k_ ∨ w.heap.size ≤ k_)) v0_ r ∧ Below w.heap.size w w' := by
  obtain ⟨_, h2, h3⟩ := Kd.V_at hs0
  unfold Clone.f at h
  split at h
  · rename_i hb
    obtain rfl := Option.some.inj h
    refine (clone_is P0_ A0 c0 l0 w h2 h3 hb).mono ?_
    rintro e w' ⟨v, rfl, g1, g2⟩
    exact ⟨v, rfl, Kd.N_mono g1 (fun k hk => hk.imp (fun q => q.1) id), g2⟩
  · cases h

/-- Fill, of less than none. -/
theorem fill_no (n : Int) (x : S24) (A : Option Addr) (c : Nat) (w : World) (hn : n < 0) :
    Calls Try.prog 23 #[.int .i64 n, v24 x.f0 x.f1 A x.f2.length c] w fun e w' => e = .returned (.tuple #[.agg #[.int .i64 0, .int .i64 0, .slice none 0 0], .int .i64 3]) ∧ Below w.heap.size w w' := by
  have hu24 := Try.underlying24
  have h1 := decide_eq_true hn
  obtain ⟨q, hq⟩ : ∃ q, w.heap.size + 1 = q := ⟨_, rfl⟩
  have V4 : Hid (Var ((w.alloc (.cells #[.int .i64 x.f0, .int .i64 x.f1, .slice A x.f2.length c] 24)).alloc (.cells #[.int .i64 0, .int .i64 0, .slice none 0 0] 24)) q z24 none 0) := by
    rw [← hq, ← size_al w (.cells #[.int .i64 x.f0, .int .i64 x.f1, .slice A x.f2.length c] 24)]; exact Lib.hid (blk_new _ _)
  have HQ := Lib.hid hq
  clear hq
  go_enter Try.func23, Try.ntmps23
  go_wp2_with fail
  rw [HQ.out]
  refine bodyPost_ret (results_ct rfl _ _ q 24 #[.int .i64 0, .int .i64 0, .slice none 0 0] (0, 0) _ rfl V4.out Try.underlying24 rfl (by kernel_rfl)) rfl ?_
  exact ⟨rfl, below_alloc (below_alloc (Below.refl w.heap.size w) _) _⟩
def Fill.f (n : Int) (a b : Int) (l : List S24) : Option (Int × Int × List S24 × Int) := if n < 0 then some (0, 0, [], 3) else none
theorem Fill.calls (a0 : Int) (a1_0 a1_1 : Int) (P1_2_ : Nat → Prop) (A1_2 : Option Addr) (c1_2 : Nat) (l1_2 : List S24) (r1 r2 : Int) (r3 : List S24) (r4 : Int) (w : World) (hs1_2 : Kd.V k24 24 w w.heap.size (fun k_ => P1_2_ k_) (.slice A1_2 l1_2.length c1_2) l1_2) (h : Fill.f a0 a1_0 a1_1 l1_2 = some (r1, r2, r3, r4)) :
    Calls Try.prog 23 #[.int .i64 a0, .agg #[.int .i64 a1_0, .int .i64 a1_1, .slice A1_2 l1_2.length c1_2]] w fun e w' => ∃ v2_ : Value, e = .returned (.tuple #[.agg #[.int .i64 r1, .int .i64 r2, v2_], .int .i64 r4]) ∧ Kd.V k24 24 w' w.heap.size (fun k_ => (P1_2_ k_ ∨ w.heap.size ≤ k_)) v2_ r3 ∧ Below w.heap.size w w' := by
  unfold Fill.f at h
  split at h
  · rename_i hb
    simp only [Option.some.injEq, Prod.mk.injEq] at h
    obtain ⟨rfl, rfl, rfl, rfl⟩ := h
    refine (fill_no a0 ⟨a1_0, a1_1, l1_2⟩ A1_2 c1_2 w hb).mono ?_
    rintro e w' ⟨rfl, g⟩
    exact ⟨_, rfl, Kd.V_nil _ _ _ _ _, g⟩
  · cases h
end Go.Proofs.Ytggdpeeiioibgaa.E
