/- Marline, layer 36: a frame begins of arguments, or of values that are there. Conditions: as each says. -/
import Derived.Test.YtggdpeeiioibgaaSb
namespace Go.Proofs.Ytggdpeeiioibgaa.E
open Go.RowKit Go.Proofs.YtggdpeeiioibgaaW.PrintWords Go.Proofs.YtggdpeeiioibgaaW.PrintLast Go.Proofs.YtggdpeeiioibgaaW.PrintMore Go.Proofs.Ytggdpeeiioibgaa.Kinds Go.Proofs.Ytggdpeeiioibgaa.Obj
set_option linter.unusedVariables false
set_option linter.unusedSimpArgs false

theorem start_yes {N0 : Nat} {P : Nat → Prop} {s : Nat} {l : List S65} (w : World) (h : Stk N0 w P s l) (fn : Int) (n : Nat) (hn : n ≤ 1000000) (A : Option Addr) (c : Nat) (ys : List S24) (hv : Kd.N k24 24 w N0 (fun k => k < N0 ∨ (Value.slice A ys.length c).ownBlock = some k) (.slice A ys.length c) ys) (hy : ys.length ≤ n) (hl : l.length ≤ 1000000) :
    Calls Try.prog 43 #[.pointer (some ⟨s, 0, none⟩), .int .i64 fn, .int .i64 n, .slice A ys.length c] w fun e w' => e = .returned (.bool true) ∧ Stk N0 w' (fun k => P k ∨ w.heap.size ≤ k) s (⟨fn, 0, slots n ys, []⟩ :: l) ∧ Ch P w w' := by
  have BG := Lib.hid (begin_is w h fn 0 n hn _ ys hv hy hl)
  have p1 : decide ((n : Int) < (ys.length : Int)) = false := decide_eq_false (by omega)
  have p2 : ¬ n < ys.length := by omega
  clear h hv hn hy hl
  go_enter Try.func43, Try.ntmps43
  go_wp2_with fail
  refine BG.out.mono ?_
  rintro e w2 ⟨rfl, h1, h2⟩
  have H1 := Lib.hid h1; have H2 := Lib.hid h2
  clear h1 h2
  go_wp2_with fail
  go_ret
  exact ⟨rfl, H1.out, H2.out⟩
theorem start_no {N0 : Nat} {P : Nat → Prop} {s : Nat} {l : List S65} (w : World) (h : Stk N0 w P s l) (fn : Int) (n : Int) (A : Option Addr) (c m : Nat) (hn : n < m) :
    Calls Try.prog 43 #[.pointer (some ⟨s, 0, none⟩), .int .i64 fn, .int .i64 n, .slice A m c] w fun e w' => e = .returned (.bool false) ∧ Below w.heap.size w w' := by
  have p1 : decide (n < (m : Int)) = true := decide_eq_true hn
  clear h
  go_enter Try.func43, Try.ntmps43
  go_wp2_with fail
  go_ret
  exact ⟨rfl, Below.refl _ _⟩
theorem enter_yes {N0 : Nat} {P : Nat → Prop} {s : Nat} {x : S65} {l : List S65} (w : World) (h : Stk N0 w P s (x :: l)) (fn bk : Int) (n m : Nat) (hn : n ≤ 1000000) (hm : m ≤ x.f3.length) (hmn : m ≤ n) (hbig : x.f3.length ≤ 1000000) (hl : l.length < 1000000) :
    Calls Try.prog 46 #[.pointer (some ⟨s, 0, none⟩), .int .i64 fn, .int .i64 bk, .int .i64 n, .int .i64 m] w fun e w' => e = .returned (.bool true) ∧
      Stk N0 w' (fun k => P k ∨ w.heap.size ≤ k) s (⟨fn, bk, slots n (x.f3.drop (x.f3.length - m)), []⟩ :: ⟨x.f0, x.f1, x.f2, x.f3.take (x.f3.length - m)⟩ :: l) ∧ Ch P w w' := by
  have TK := Lib.hid (take_is w h m hm (by omega))
  have p1 : decide ((n : Int) < (m : Int)) = false := decide_eq_false (by omega)
  have p2 : ¬ n < m := by omega
  have HN := Lib.hid hn; have HM := Lib.hid hm; have HMN := Lib.hid hmn; have HL := Lib.hid hl
  clear h hn hm hmn hbig hl
  go_enter Try.func46, Try.ntmps46
  go_wp2_with fail
  refine TK.out.mono ?_
  rintro e w2 ⟨v, rfl, h1, h2, h3, h4⟩
  have BG := Lib.hid (begin_is w2 h3 fn bk n HN.out v _ h1 (by rw [List.length_drop]; have := HM.out; have := HMN.out; omega) (by have := HL.out; simp; omega))
  have H4 := Lib.hid h4
  clear h1 h2 h3 h4
  go_wp2_with fail
  refine BG.out.mono ?_
  rintro e w3 ⟨rfl, h1, h2⟩
  have H1 := Lib.hid (h1.mono (Q := fun k => P k ∨ w.heap.size ≤ k) (fun k hk => hk.imp id (fun e => Nat.le_trans H4.out.size e))); have H2 := Lib.hid (Ch.trans H4.out h2 (fun i hi => .inl hi))
  clear h1 h2
  go_wp2_with fail
  go_ret
  exact ⟨rfl, H1.out, H2.out⟩
end Go.Proofs.Ytggdpeeiioibgaa.E
