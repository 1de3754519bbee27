/- Marline, values: slices.Clone of values. Conditions: as each says. -/
import Derived.Test.YtggdpeeiioibgaaAr
import Derived.Lib.SliceRun
import Derived.Lib.Walk
namespace Go.Proofs.Ytggdpeeiioibgaa.E
open Go.RowKit Go.Proofs.YtggdpeeiioibgaaW.PrintWords Go.Proofs.YtggdpeeiioibgaaW.PrintLast Go.Proofs.YtggdpeeiioibgaaW.PrintMore Go.Proofs.Ytggdpeeiioibgaa.Kinds Go.Proofs.Ytggdpeeiioibgaa.Obj
set_option linter.unusedVariables false
set_option linter.unusedSimpArgs false

theorem R_made (w : World) (ok : Nat → Prop) (hok : ok w.heap.size) : Kd.R k24 24 (w.alloc (.cells #[] 24)) w.heap.size ok (.slice (some ⟨w.heap.size, 0, none⟩) 0 0) [] :=
  ⟨fun k hk => by simp [Value.ownBlock] at hk; exact hk ▸ hok, [], World.ownsRow_made w #[] 0 (Nat.le_refl _) (Nat.zero_le _) (by simp), Reps.none _ _⟩
set_option maxHeartbeats 4000000 in
set_option maxRecDepth 100000 in
theorem clone_is (P : Nat → Prop) (A : Option Addr) (c : Nat) (l : List S24) (w : World) (hc : l.length ≤ c) (hF : Kd.F k24 w P A l.length l) (hbig : l.length * 40 ≤ 140737488355328) :
    Calls Try.prog 67 #[.slice A l.length c] w fun e w' => ∃ v, e = .returned v ∧ Kd.N k24 24 w' w.heap.size (fun k => (P k ∧ k < w.heap.size) ∨ w.heap.size ≤ k) v l ∧ Below w.heap.size w w' := by
  have q22 : ∀ (w : World) (a : Option Addr) (n c n' c' : Nat), (binOp .eql 22 (.slice a n c) (.slice none n' c')).run Try.prog w = .ok (.bool a.isNone) w := fun w a n c n' c' => Lib.run_eql_slice_nil w _ _ a n c n' c' Try.underlying22
  have hFF := hF
  have HF := Lib.hid hF
  clear hF
  cases A with
  | none =>
    have hl : l = [] := by
      rcases Nat.eq_zero_or_pos l.length with h | h
      · exact List.length_eq_zero_iff.1 h
      · obtain ⟨ad, he, _⟩ := (Kd.F_now hFF).2.2 h
        cases he
    clear hFF
    subst hl
    go_enter Try.func67, Try.ntmps67
    go_wp2_with fail
    go_ret
    exact ⟨_, rfl, Kd.N_nil _ _ _ _ _, Below.refl _ _⟩
  | some ad =>
    clear hFF
    have HF2 := Lib.hid (Kd.F_alloc (Kd.F_bound HF.out) (.cells #[] 24))
    have HN := Lib.hid (Kd.R_N (R_made w (fun k => (P k ∧ k < w.heap.size) ∨ w.heap.size ≤ k) (.inr (Nat.le_refl _))))
    have HB := Lib.hid (below_alloc (Below.refl w.heap.size w) (.cells #[] 24))
    go_enter Try.func67, Try.ntmps67
    go_wp2_with (at_builtin; refine Kd.N_append_rows k24 (w0 := w) w.heap.size rfl (.tmp 5) (.tmp 6) 22 24 (.agg #[(.int .i64 0), (.int .i64 0), (.slice none 0 0)]) 40 rfl Try.underlying22 info24 rfl (by decide) (by decide) (.slice (some ⟨w.heap.size, 0, none⟩) 0 0) [] l (some ad) l.length c (fun k => (P k ∧ k < w.heap.size) ∨ w.heap.size ≤ k) (fun k => P k ∧ k < w.heap.size) rfl rfl ?h1 ?h2 ?h3 ?h4 ?h5 ?h6 ?h7 ?_; (case h1 => exact HN.out); (case h2 => exact HF2.out); (case h3 => intro k hk; exact ⟨.inl hk, by simp [Value.ownBlock]; omega⟩); (case h4 => intro k hk; simp at hk; right; omega); (case h5 => exact HB.out); (case h6 => simp); (case h7 => simpa using hbig); intro v1 w1 hn hb hg hat; have HN1 := Lib.hid hn; have HB1 := Lib.hid hb; clear hn hb hg hat)
    go_ret
    exact ⟨_, rfl, HN1.out, HB1.out⟩
end Go.Proofs.Ytggdpeeiioibgaa.E
