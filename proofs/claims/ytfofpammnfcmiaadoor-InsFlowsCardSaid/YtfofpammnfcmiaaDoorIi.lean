/- Marline, layer 26: Flow by the program: what it comes to. Conditions: as each says. -/
import Derived.Test.YtfofpammnfcmiaaDoorIh
namespace Go.Proofs.YtfofpammnfcmiaaDoor.Ip
open Go.RowKit Go.Proofs.YtfofpammnfcmiaaDoorW.PrintWords Go.Proofs.YtfofpammnfcmiaaDoorW.PrintLast Go.Proofs.YtfofpammnfcmiaaDoorW.PrintMore Go.Proofs.YtfofpammnfcmiaaDoor.Kinds Go.Proofs.YtfofpammnfcmiaaDoor.Obj Go.Proofs.YtfofpammnfcmiaaDoor.Sp Go.Proofs.YtfofpammnfcmiaaDoor.E
set_option linter.unusedVariables false
set_option linter.unusedSimpArgs false
set_option maxRecDepth 100000
def flow2 (o : Option Nat) (l : Int) : Int × Int × Bool := match o with | none => (0, 0, false) | some n => ((n : Int) + 2, l, true)
def flowS (op a b : Int) (l1 : List S104) (n2 : Int) (l3 : List (List Int)) : Int × Int × Bool :=
  if rightS op a b = false then (0, 0, false)
  else if op = 24 ∨ op = 27 then
    (if (l1.length : Int) ≤ a ∨ (rd_T104 l1 a).f2 < 0 then (0, 0, false) else ((rd_T104 l1 a).f2, if op = 27 ∨ (rd_T104 l1 a).f4 = true then 1 else 0, true))
  else if (20 ≤ op ∧ op ≤ 23) ∧ n2 ≤ a then (0, 0, false)
  else if op = 19 then flow2 (idxS l3 a) 1
  else if op = 23 then flow2 (idxS l3 b) 0
  else if op = 13 ∨ op = 14 then (a, 1, true)
  else ((takesI op : Nat), (laysI op : Nat), true)
theorem idx_le (l3 : List (List Int)) (hl : ∀ j, (rd_L5 l3 j).length ≤ 1000000000000000) (a : Int) (n : Nat) (h : idxS l3 a = some n) : wrap64 ((n : Int) + 2) = (n : Int) + 2 := by
  unfold idxS at h
  split at h
  · cases h
  · injection h with h
    have h1 := List.countP_le_length (l := rd_L5 l3 a) (p := (· == -1))
    have := hl a
    unfold wrap64; omega
theorem nonneg_of {op a b : Int} (h : rightS op a b = true) (h1 : op ≠ 1) : 0 ≤ a := by
  by_cases hb : badS op a b
  · rw [rightS_no hb] at h; cases h
  · rw [rightS_yes hb, if_neg h1] at h
    split at h
    · have := of_decide_eq_true h; omega
    · split at h
      · have := of_decide_eq_true h; omega
      · split at h
        · have := of_decide_eq_true h; omega
        · exact of_decide_eq_true h
theorem flow_is (op a b d : Int) (l0 : List S48) (l1 : List S104) (l2 : List S226) (l3 : List (List Int)) (hl : ∀ j, (rd_L5 l3 j).length ≤ 1000000000000000) : FlowP op a b d l0 l1 l2 l3 (flowS op a b l1 (l2.length : Int) l3) := by
  unfold flowS
  cases hr : rightS op a b with
  | false => rw [if_pos rfl]; exact flow_no op a b d l0 l1 l2 l3 hr
  | true =>
    rw [if_neg (by simp)]
    by_cases h24 : op = 24
    · subst h24
      have h0 := nonneg_of hr (by decide)
      rw [if_pos (.inl rfl)]
      by_cases hg : (l1.length : Int) ≤ a
      · rw [if_pos (.inl hg)]; exact flow_24g a b d l0 l1 l2 l3 hr (decide_eq_true hg)
      · by_cases hp : (rd_T104 l1 a).f2 < 0
        · rw [if_pos (.inr hp)]; exact flow_24p a b d l0 l1 l2 l3 hr _ rfl h0 (by omega) (decide_eq_false hg) (decide_eq_true hp)
        · rw [if_neg (fun h => h.elim hg hp)]
          cases hv : (rd_T104 l1 a).f4 with
          | true => rw [if_pos (.inr rfl)]; exact flow_24y a b d l0 l1 l2 l3 hr _ rfl h0 (by omega) (decide_eq_false hg) (decide_eq_false hp) hv
          | false => rw [if_neg (by simp)]; exact flow_24n a b d l0 l1 l2 l3 hr _ rfl h0 (by omega) (decide_eq_false hg) (decide_eq_false hp) hv
    · by_cases h27 : op = 27
      · subst h27
        have h0 := nonneg_of hr (by decide)
        rw [if_pos (.inr rfl)]
        by_cases hg : (l1.length : Int) ≤ a
        · rw [if_pos (.inl hg)]; exact flow_27g a b d l0 l1 l2 l3 hr (decide_eq_true hg)
        · by_cases hp : (rd_T104 l1 a).f2 < 0
          · rw [if_pos (.inr hp)]; exact flow_27p a b d l0 l1 l2 l3 hr _ rfl h0 (by omega) (decide_eq_false hg) (decide_eq_true hp)
          · rw [if_neg (fun h => h.elim hg hp), if_pos (.inl rfl)]
            exact flow_27y a b d l0 l1 l2 l3 hr _ rfl h0 (by omega) (decide_eq_false hg) (decide_eq_false hp)
      · rw [if_neg (fun h => h.elim h24 h27)]
        by_cases h20 : op = 20
        · subst h20
          by_cases hg : a < (l2.length : Int)
          · rw [if_neg (by omega)]; exact flow_20y a b d l0 l1 l2 l3 hr (decide_eq_true hg)
          · rw [if_pos (by omega)]; exact flow_20n a b d l0 l1 l2 l3 hr (decide_eq_false hg)
        by_cases h21 : op = 21
        · subst h21
          by_cases hg : a < (l2.length : Int)
          · rw [if_neg (by omega)]; exact flow_21y a b d l0 l1 l2 l3 hr (decide_eq_true hg)
          · rw [if_pos (by omega)]; exact flow_21n a b d l0 l1 l2 l3 hr (decide_eq_false hg)
        by_cases h22 : op = 22
        · subst h22
          by_cases hg : a < (l2.length : Int)
          · rw [if_neg (by omega)]; exact flow_22y a b d l0 l1 l2 l3 hr (decide_eq_true hg)
          · rw [if_pos (by omega)]; exact flow_22n a b d l0 l1 l2 l3 hr (decide_eq_false hg)
        by_cases h23 : op = 23
        · subst h23
          by_cases hg : a < (l2.length : Int)
          · rw [if_neg (by omega), if_neg (by decide), if_pos rfl]
            cases hi : idxS l3 b with
            | none => exact flow_23n a b d l0 l1 l2 l3 hr (by rw [hi]; rfl)
            | some n =>
              have := flow_23y a b d l0 l1 l2 l3 hr (n : Int) (by rw [hi]; rfl) (decide_eq_true hg)
              rw [idx_le l3 hl b n hi] at this; exact this
          · rw [if_pos (by omega)]
            cases hi : idxS l3 b with
            | none => exact flow_23n a b d l0 l1 l2 l3 hr (by rw [hi]; rfl)
            | some n => exact flow_23f a b d l0 l1 l2 l3 hr (n : Int) (by rw [hi]; rfl) (decide_eq_false hg)
        rw [if_neg (by omega)]
        by_cases h19 : op = 19
        · subst h19
          rw [if_pos rfl]
          cases hi : idxS l3 a with
          | none => exact flow_19n a b d l0 l1 l2 l3 hr (by rw [hi]; rfl)
          | some n =>
            have := flow_19s a b d l0 l1 l2 l3 hr (n : Int) (by rw [hi]; rfl)
            rw [idx_le l3 hl a n hi] at this; exact this
        rw [if_neg h19, if_neg h23]
        by_cases h13 : op = 13
        · subst h13; rw [if_pos (.inl rfl)]; exact flow_13 a b d l0 l1 l2 l3 hr
        by_cases h14 : op = 14
        · subst h14; rw [if_pos (.inr rfl)]; exact flow_14 a b d l0 l1 l2 l3 hr
        rw [if_neg (fun h => h.elim h13 h14)]
        exact flow_z op a b d l0 l1 l2 l3 hr (beq_no h13) (beq_no h14) (beq_no h19) (beq_no h20) (beq_no h21) (beq_no h22) (beq_no h23) (beq_no h24) (beq_no h27)
theorem flow_calls (op a b d : Int) {w : World} {v : Value} {l0 : List S48} {l1 : List S104} {l2 : List S226} {l3 : List (List Int)} (ho : Ops w) (hc : CodeIs w v l0 l1 l2 l3) : Calls Tryd.prog 38 #[insV op a b d, v] w fun e w' => e = .returned (flowV (flowS op a b l1 (l2.length : Int) l3)) ∧ Below w.heap.size w w' := flow_is op a b d l0 l1 l2 l3 hc.small w v ho hc
end Go.Proofs.YtfofpammnfcmiaaDoor.Ip
