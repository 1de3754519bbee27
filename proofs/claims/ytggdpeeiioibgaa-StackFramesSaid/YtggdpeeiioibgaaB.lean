/- Marline, values: the contracts of At, Set, Small and Same, in one form: what a value is, read. Conditions: as each says. -/
import Derived.Test.YtggdpeeiioibgaaV2
import Derived.Test.YtggdpeeiioibgaaKq
namespace Go.Proofs.Ytggdpeeiioibgaa.E
open Go.RowKit Go.Proofs.YtggdpeeiioibgaaW.PrintWords Go.Proofs.YtggdpeeiioibgaaW.PrintLast Go.Proofs.YtggdpeeiioibgaaW.PrintMore Go.Proofs.Ytggdpeeiioibgaa.Kinds Go.Proofs.Ytggdpeeiioibgaa.Obj
set_option linter.unusedVariables false

theorem at24 (x : S24) (A : Option Addr) (c : Nat) (l : List S38) (A1 : Option Addr) (c1 : Nat) (w : World) (h : Kd24 w A c x) (hc1 : l.length ≤ c1) (hr1 : Kd.C k38 w A1 l.length l) :
    Calls Try.prog 18 #[v24 x.f0 x.f1 A x.f2.length c, .slice A1 l.length c1] w fun e w' => ∃ B d, e = .returned (.tuple #[v24 (at_ x l).1.f0 (at_ x l).1.f1 B (at_ x l).1.f2.length d, .int .i64 (at_ x l).2]) ∧ Kd24 w' B d (at_ x l).1 ∧ Below w.heap.size w w' := by
  refine (at_is _ x A c l A1 c1 w h.1 (Kd.C_F k24_heap h.2) hc1 hr1).mono ?_
  rintro e w' ⟨B, d, rfl, g1, g2, g3⟩
  exact ⟨B, d, rfl, ⟨g1, Kd.C_below (Kd.F_now g2) g3⟩, g3⟩
theorem refAt24 (x : S24) (A : Option Addr) (c : Nat) (l : List S38) (A1 : Option Addr) (c1 : Nat) (w : World) (h : Kd24 w A c x) (hc1 : l.length ≤ c1) (hr1 : Kd.C k38 w A1 l.length l) :
    Calls Try.prog 19 #[v24 x.f0 x.f1 A x.f2.length c, .slice A1 l.length c1] w fun e w' => ∃ B d, e = .returned (.tuple #[v24 (at_ x l).1.f0 (at_ x l).1.f1 B (at_ x l).1.f2.length d, .int .i64 (at_ x l).2]) ∧ Kd24 w' B d (at_ x l).1 ∧ Below w.heap.size w w' := by
  refine (refAt_is _ x A c l A1 c1 w h.1 (Kd.C_F k24_heap h.2) hc1 hr1).mono ?_
  rintro e w' ⟨B, d, rfl, g1, g2, g3⟩
  exact ⟨B, d, rfl, ⟨g1, Kd.C_below (Kd.F_now g2) g3⟩, g3⟩
theorem set24 (x : S24) (A : Option Addr) (c : Nat) (y : S24) (A' : Option Addr) (c' : Nat) (l : List S38) (A1 : Option Addr) (c1 : Nat) (w : World) (hx : Ok x) (hy : Ok y) (h : Kd24 w A c x) (h' : Kd24 w A' c' y) (hc1 : l.length ≤ c1) (hr1 : Kd.C k38 w A1 l.length l) :
    Calls Try.prog 20 #[v24 x.f0 x.f1 A x.f2.length c, v24 y.f0 y.f1 A' y.f2.length c', .slice A1 l.length c1] w fun e w' => ∃ B d, e = .returned (.tuple #[v24 (set_ x y l).1.f0 (set_ x y l).1.f1 B (set_ x y l).1.f2.length d, .int .i64 (set_ x y l).2]) ∧ Kd24 w' B d (set_ x y l).1 ∧ Below w.heap.size w w' := by
  obtain ⟨k, hk⟩ := set_ev l x y hx hy
  refine (PA.path_Set.calls k x.f0 x.f1 _ A c x.f2 y.f0 y.f1 _ A' c' y.f2 A1 c1 l _ _ _ _ w h.V h'.V hr1 hc1 hk).mono ?_
  rintro e w' ⟨v, rfl, g1, g3⟩
  obtain ⟨B, d, rfl⟩ := Kd.V_slice g1
  obtain ⟨_, q2, q3⟩ := Kd.V_reads' g1
  exact ⟨B, d, rfl, ⟨q2, q3⟩, g3⟩
theorem small24 (x : S24) (A : Option Addr) (c : Nat) (w : World) (hx : Ok x) (h : Kd24 w A c x) (n : Int) (hn : (if szw x > 300 then 0 else 1) = n) :
    Calls Try.prog 15 #[v24 x.f0 x.f1 A x.f2.length c] w fun e w' => e = .returned (.int .i64 n) ∧ Below w.heap.size w w' := by
  refine PA.marlinelaw06_Small.calls (2 * sz x) x.f0 x.f1 A c x.f2 n w h.2 h.1 ?_
  unfold PA.marlinelaw06_Small.f
  rw [rsize_ev x hx _ (Nat.le_refl _), Option.bind_some, ← hn]
  split <;> rfl
theorem same24 (x : S24) (A : Option Addr) (c : Nat) (y : S24) (A' : Option Addr) (c' : Nat) (w : World) (h : Kd24 w A c x) (h' : Kd24 w A' c' y) :
    Calls Try.prog 22 #[v24 x.f0 x.f1 A x.f2.length c, v24 y.f0 y.f1 A' y.f2.length c'] w fun e w' => e = .returned (.bool (same x y)) ∧ Below w.heap.size w w' := by
  refine Same.calls x.f0 x.f1 A c x.f2 y.f0 y.f1 A' c' y.f2 _ w h.2 h.1 h'.2 h'.1 ?_
  unfold Same.f
  rw [s24_eta, s24_eta]
end Go.Proofs.Ytggdpeeiioibgaa.E
