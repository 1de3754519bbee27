/- Marline, layer 26: what the document's Name, Args and Right come to. No condition. -/
import Derived.Test.YtfofpammnfcmiaaDoorNc
import Derived.Test.YtfofpammnfcmiaaDoorIb
namespace Go.Proofs.YtfofpammnfcmiaaDoor.Ip
open Go.RowKit Go.Proofs.YtfofpammnfcmiaaDoorW.PrintWords Go.Proofs.YtfofpammnfcmiaaDoorW.PrintLast Go.Proofs.YtfofpammnfcmiaaDoorW.PrintMore Go.Proofs.YtfofpammnfcmiaaDoor.Kinds Go.Proofs.YtfofpammnfcmiaaDoor.Obj Go.Proofs.YtfofpammnfcmiaaDoor.Sp Go.Proofs.YtfofpammnfcmiaaDoor.E
set_option linter.unusedVariables false
set_option linter.unusedSimpArgs false
set_option maxRecDepth 100000
theorem refName_in : ∀ n : Fin 34, PA.marlineref26_Name.f (n.val : Int) = some ⟨(nm n.val).toArray⟩ := by decide +kernel
theorem refArgs_in : ∀ n : Fin 34, PA.marlineref26_Args.f (n.val : Int) = some (ag n.val : Int) := by decide +kernel
theorem refName_ev (op : Int) : PA.marlineref26_Name.f op = some ⟨(nameI op).toArray⟩ := by
  by_cases h : op < 0 ∨ 34 ≤ op
  · have e : nameI op = [] := by unfold nameI; rw [if_pos h]
    rw [e]
    unfold PA.marlineref26_Name.f
    by_cases h1 : op < 1
    · rw [if_pos h1]
    · rw [if_neg h1, if_pos (by omega)]
  · obtain ⟨m, rfl⟩ : ∃ m : Nat, op = m := ⟨op.toNat, by omega⟩
    rw [name_at (by omega)]
    exact refName_in ⟨m, by omega⟩
theorem refArgs_ev (op : Int) : PA.marlineref26_Args.f op = some (argsI op : Int) := by
  by_cases h : op < 0 ∨ 34 ≤ op
  · have e : argsI op = 0 := by unfold argsI; rw [if_pos h]
    rw [e]
    unfold PA.marlineref26_Args.f
    rw [Option.bind_some]
    by_cases h1 : op < 1
    · rw [if_pos h1]; rfl
    · rw [if_neg h1, if_pos (by omega)]; rfl
  · obtain ⟨m, rfl⟩ : ∃ m : Nat, op = m := ⟨op.toNat, by omega⟩
    rw [args_at (by omega)]
    exact refArgs_in ⟨m, by omega⟩
theorem refName_calls (n : Int) (w : World) : Calls Tryd.prog 29 #[.int .i64 n] w fun e w' => e = .returned (.string ⟨(nameI n).toArray⟩) ∧ Below w.heap.size w w' := PA.marlineref26_Name.calls n _ w (refName_ev n)
theorem refArgs_calls (n : Int) (w : World) : Calls Tryd.prog 31 #[.int .i64 n] w fun e w' => e = .returned (.int .i64 (argsI n : Nat)) ∧ Below w.heap.size w w' := PA.marlineref26_Args.calls n _ w (refArgs_ev n)
def badS (op a b : Int) : Prop := nameI op = [] ∨ (argsI op < 1 ∧ a ≠ 0) ∨ (argsI op < 2 ∧ b ≠ 0) ∨ b < 0
theorem rightS_no {op a b : Int} (h : badS op a b) : rightS op a b = false := by unfold rightS; exact if_pos h
theorem rightS_yes {op a b : Int} (h : ¬ badS op a b) : rightS op a b = if op = 1 then true else if op = 2 ∨ op = 10 then decide (a = 0 ∨ a = 1) else if op = 6 then decide (1 ≤ a ∧ a ≤ 5) else if op = 9 then decide (8 ≤ a ∧ a ≤ 11) else decide (0 ≤ a) := by unfold rightS; exact if_neg h
theorem refRight_ev (q : Nat) (op a b d : Int) : PA.marlineref26_Right.f (q + 3) op a b d = some (rightS op a b) := by
  unfold PA.marlineref26_Right.f
  rw [refName_ev, Option.bind_some, refArgs_ev, Option.bind_some]
  have hl : (⟨(nameI op).toArray⟩ : ByteArray).toList = nameI op := by rw [ByteArray.toList_eq]
  rw [hl]
  have hle := args_le op
  have hj0 : ∀ b1 : Bool, PA.marlineref26_Right.j0 (q + 3) b1 op a b d = if b1 = true then some false else (PA.marlineref26_Args.f op).bind fun t => (if t = 0 then some (a == 0) else if op = 2 then PA.marlineref26_Right.j1 (q + 2) true op a b d else PA.marlineref26_Right.j1 (q + 2) (op == 10) op a b d) := fun _ => rfl
  have ht : PA.marlineref26_Right.j0 (q + 3) true op a b d = some false := by rw [hj0, if_pos rfl]
  have hj : PA.marlineref26_Right.j0 (q + 3) false op a b d = (if (argsI op : Int) = 0 then some (a == 0) else if op = 2 then PA.marlineref26_Right.j1 (q + 2) true op a b d else PA.marlineref26_Right.j1 (q + 2) (op == 10) op a b d) := by
    rw [hj0, if_neg Bool.false_ne_true, refArgs_ev, Option.bind_some]
  by_cases h0 : nameI op = []
  · rw [if_pos h0, rightS_no (.inl h0), ht]
  · rw [if_neg h0]
    by_cases h3 : b < 0
    · rw [rightS_no (.inr (.inr (.inr h3))), decide_eq_true h3, ht]; simp
    · rw [decide_eq_false h3]
      by_cases h2 : argsI op < 2 ∧ b ≠ 0
      · rw [rightS_no (.inr (.inr (.inl h2))), if_pos (by omega), if_neg h2.2, ht]
      · have e1 : (if (argsI op : Int) < 2 then (if b = 0 then PA.marlineref26_Right.j0 (q + 3) false op a b d else PA.marlineref26_Right.j0 (q + 3) true op a b d) else PA.marlineref26_Right.j0 (q + 3) false op a b d) = PA.marlineref26_Right.j0 (q + 3) false op a b d := by
          by_cases h : argsI op < 2
          · have hb : b = 0 := Classical.byContradiction fun e => h2 ⟨h, e⟩
            rw [if_pos (by omega), if_pos hb]
          · rw [if_neg (by omega)]
        rw [e1, hj]
        by_cases h1 : argsI op < 1 ∧ a ≠ 0
        · rw [rightS_no (.inr (.inl h1)), if_pos (by omega), beq_no h1.2]
        · rw [rightS_yes (show ¬ badS op a b from fun h => h.elim h0 (fun h => h.elim h1 (fun h => h.elim h2 h3)))]
          have j1 : ∀ b1 : Bool, PA.marlineref26_Right.j1 (q + 2) b1 op a b d = if b1 = true then (if a ≥ 0 then some (decide (a ≤ 1)) else some false) else if op = 6 then (if a ≥ 1 then some (decide (a ≤ 5)) else some false) else if op = 9 then (if a ≥ 8 then some (decide (a ≤ 11)) else some false) else if op = 1 then some true else some (decide (a ≥ 0)) := fun b1 => rfl
          have s01 : (if a ≥ 0 then some (decide (a ≤ 1)) else some false) = some (decide (a = 0 ∨ a = 1)) := by
            split <;> (congr 1; rw [Bool.eq_iff_iff]; simp; omega)
          by_cases y0 : argsI op = 0
          · have ha : a = 0 := Classical.byContradiction fun e => h1 ⟨by omega, e⟩
            rw [if_pos (by omega)]
            have k1 : op ≠ 1 := by rintro rfl; exact absurd y0 (by decide)
            have k2 : ¬ (op = 2 ∨ op = 10) := by rintro (rfl | rfl) <;> exact absurd y0 (by decide)
            have k6 : op ≠ 6 := by rintro rfl; exact absurd y0 (by decide)
            have k9 : op ≠ 9 := by rintro rfl; exact absurd y0 (by decide)
            rw [if_neg k1, if_neg k2, if_neg k6, if_neg k9, ha]; rfl
          · rw [if_neg (by omega)]
            by_cases g1 : op = 1
            · rw [if_pos g1, if_neg (by omega), beq_no (by omega), j1, if_neg Bool.false_ne_true, if_neg (by omega), if_neg (by omega), if_pos g1]
            · rw [if_neg g1]
              by_cases g2 : op = 2
              · rw [if_pos g2, if_pos (.inl g2), j1, if_pos rfl, s01]
              · rw [if_neg g2]
                by_cases g10 : op = 10
                · rw [if_pos (.inr g10), j1, if_pos (by rw [g10]; rfl), s01]
                · rw [if_neg (fun h => h.elim g2 g10), j1, beq_no g10, if_neg Bool.false_ne_true]
                  by_cases g6 : op = 6
                  · rw [if_pos g6, if_pos g6]; split <;> (congr 1; rw [Bool.eq_iff_iff]; simp; omega)
                  · rw [if_neg g6, if_neg g6]
                    by_cases g9 : op = 9
                    · rw [if_pos g9, if_pos g9]; split <;> (congr 1; rw [Bool.eq_iff_iff]; simp; omega)
                    · rw [if_neg g9, if_neg g9, if_neg g1]
theorem refRight_calls (op a b d : Int) (w : World) : Calls Tryd.prog 33 #[insV op a b d] w fun e w' => e = .returned (.bool (rightS op a b)) ∧ Below w.heap.size w w' := PA.marlineref26_Right.calls 3 op a b d _ w (refRight_ev 0 op a b d)
end Go.Proofs.YtfofpammnfcmiaaDoor.Ip
