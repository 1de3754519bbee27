/- Marline, layer 26: how many values an instruction takes, and lays: plain; the indexes of a way. Conditions: as each says. -/
import Derived.Test.YtfofpammnfcmiaaDoorIf
namespace Go.Proofs.YtfofpammnfcmiaaDoor.Ip
open Go.RowKit Go.Proofs.YtfofpammnfcmiaaDoorW.PrintWords Go.Proofs.YtfofpammnfcmiaaDoorW.PrintLast Go.Proofs.YtfofpammnfcmiaaDoorW.PrintMore Go.Proofs.YtfofpammnfcmiaaDoor.Kinds Go.Proofs.YtfofpammnfcmiaaDoor.Obj Go.Proofs.YtfofpammnfcmiaaDoor.Sp Go.Proofs.YtfofpammnfcmiaaDoor.E
set_option linter.unusedVariables false
set_option linter.unusedSimpArgs false
set_option maxRecDepth 100000
/-- how many indexes a way has: none, there is no such way. -/
def idxS (paths : List (List Int)) (way : Int) : Option Nat := if way < 0 ∨ (paths.length : Int) ≤ way then none else some ((rd_L5 paths way).countP (· == -1))
def idxR (o : Option Nat) : Int × Bool := match o with | none => (0, false) | some n => ((n : Int), true)
theorem cnt_at (l : List Int) (j : Nat) (h : j < l.length) : (l.drop j).countP (· == -1) = (if rd l j = -1 then 1 else 0) + (l.drop (j + 1)).countP (· == -1) := by
  have e : l.drop j = rd l j :: l.drop (j + 1) := by
    rw [List.drop_eq_getElem_cons h]
    unfold rd
    rw [Int.toNat_natCast]; simp [List.getD, List.getElem?_eq_getElem h]
  rw [e, List.countP_cons]
  by_cases hx : rd l j = -1
  · rw [if_pos hx]; simp [hx]; omega
  · rw [if_neg hx]; simp [hx]
theorem idx_l0 (l : List Int) (hl : l.length ≤ 1000000000000000) : ∀ (n j c k : Nat), j + n = l.length → c + n ≤ 1000000000000000 → n + 1 ≤ k → PA.ins_indexes.l0 k (c : Int) l (l.length : Int) (j : Int) = some (((c + (l.drop j).countP (· == -1) : Nat) : Int), true)
  | 0, j, c, k, hj, hc, hk => by
    obtain ⟨k, rfl⟩ : ∃ q, k = q + 1 := ⟨k - 1, by omega⟩
    unfold PA.ins_indexes.l0
    rw [if_neg (by omega), List.drop_of_length_le (by omega)]; simp
  | n + 1, j, c, k, hj, hc, hk => by
    obtain ⟨k, rfl⟩ : ∃ q, k = q + 1 := ⟨k - 1, by omega⟩
    unfold PA.ins_indexes.l0
    rw [if_pos (by omega), if_pos (by omega), if_pos (by omega), cnt_at l j (by omega)]
    have w1 : wrap64 ((j : Int) + 1) = ((j + 1 : Nat) : Int) := by unfold wrap64; omega
    have w2 : wrap64 ((c : Int) + 1) = ((c + 1 : Nat) : Int) := by unfold wrap64; omega
    by_cases hx : rd l j = -1
    · rw [if_pos hx, w1, w2, idx_l0 l hl n (j + 1) (c + 1) k (by omega) (by omega) (by omega), if_pos hx]
      simp; omega
    · rw [if_neg hx, w1, idx_l0 l hl n (j + 1) c k (by omega) (by omega) (by omega), if_neg hx]
      simp
theorem idx_ev (l0 : List S48) (l1 : List S104) (l2 : List S226) (l3 : List (List Int)) (a : Int) (hl : ∀ j, (rd_L5 l3 j).length ≤ 1000000000000000) : PA.ins_indexes.f ((rd_L5 l3 a).length + 2) l0 l1 l2 l3 a = some (idxR (idxS l3 a)) := by
  unfold PA.ins_indexes.f idxS
  have hj : ∀ b : Bool, PA.ins_indexes.j0 ((rd_L5 l3 a).length + 2) a b l0 l1 l2 l3 = if b = true then some (0, false) else if 0 ≤ a then (if a < (l3.length : Int) then PA.ins_indexes.l0 ((rd_L5 l3 a).length + 1) 0 (rd_L5 l3 a) ((rd_L5 l3 a).length : Int) 0 else none) else none := fun _ => rfl
  by_cases h0 : a < 0
  · rw [if_pos h0, if_pos (.inl h0), hj, if_pos rfl]; rfl
  · rw [if_neg h0]
    by_cases h1 : (l3.length : Int) ≤ a
    · rw [if_pos (.inr h1), hj, if_pos (decide_eq_true h1)]; rfl
    · rw [if_neg (by omega), hj, if_neg (by simpa using h1), if_pos (by omega), if_pos (by omega)]
      have := idx_l0 (rd_L5 l3 a) (hl a) (rd_L5 l3 a).length 0 0 ((rd_L5 l3 a).length + 1) (by omega) (by have := hl a; omega) (by omega)
      simp only [List.drop_zero, Nat.zero_add] at this
      exact this
theorem ways_l0 (l0 : List S48) (l1 : List S104) (l2 : List S226) (l3 : List (List Int)) (a : Int) (ha : 0 ≤ a ∧ a < (l3.length : Int)) (hl : (rd_L5 l3 a).length ≤ 1000000000000000) : ∀ (n j c k : Nat), j + n = (rd_L5 l3 a).length → c + n ≤ 1000000000000000 → n + 1 ≤ k → PA.marlineref26_Ways.l0 k a (c : Int) (j : Int) l0 l1 l2 l3 = some ((c + ((rd_L5 l3 a).drop j).countP (· == -1) : Nat) : Int)
  | 0, j, c, k, hj, hc, hk => by
    obtain ⟨k, rfl⟩ : ∃ q, k = q + 1 := ⟨k - 1, by omega⟩
    unfold PA.marlineref26_Ways.l0
    rw [if_pos ha.1, if_pos ha.2, if_neg (by omega), List.drop_of_length_le (by omega)]; simp
  | n + 1, j, c, k, hj, hc, hk => by
    obtain ⟨k, rfl⟩ : ∃ q, k = q + 1 := ⟨k - 1, by omega⟩
    unfold PA.marlineref26_Ways.l0
    rw [if_pos ha.1, if_pos ha.2, if_pos (by omega), if_pos (by omega), cnt_at _ j (by omega)]
    have w1 : wrap64 ((j : Int) + 1) = ((j + 1 : Nat) : Int) := by unfold wrap64; omega
    have w2 : wrap64 ((c : Int) + 1) = ((c + 1 : Nat) : Int) := by unfold wrap64; omega
    by_cases hx : rd (rd_L5 l3 a) j = -1
    · rw [if_pos hx, w1, w2, ways_l0 l0 l1 l2 l3 a ha hl n (j + 1) (c + 1) k (by omega) (by omega) (by omega), if_pos hx]
      simp; omega
    · rw [if_neg hx, w1, ways_l0 l0 l1 l2 l3 a ha hl n (j + 1) c k (by omega) (by omega) (by omega), if_neg hx]
      simp
def waysR (o : Option Nat) : Int := match o with | none => -1 | some n => (n : Int)
theorem ways_ev (l0 : List S48) (l1 : List S104) (l2 : List S226) (l3 : List (List Int)) (a : Int) (hl : ∀ j, (rd_L5 l3 j).length ≤ 1000000000000000) (q : Nat) (hq : (rd_L5 l3 a).length + 2 ≤ q) : PA.marlineref26_Ways.f q l0 l1 l2 l3 a = some (waysR (idxS l3 a)) := by
  obtain ⟨q, rfl⟩ : ∃ z, q = z + 1 := ⟨q - 1, by omega⟩
  unfold PA.marlineref26_Ways.f idxS
  have hj : ∀ b : Bool, PA.marlineref26_Ways.j0 (q + 1) a b l0 l1 l2 l3 = if b = true then some (-1) else PA.marlineref26_Ways.l0 q a 0 0 l0 l1 l2 l3 := fun _ => rfl
  by_cases h0 : a < 0
  · rw [if_pos h0, if_pos (.inl h0), hj, if_pos rfl]; rfl
  · rw [if_neg h0]
    by_cases h1 : (l3.length : Int) ≤ a
    · rw [if_pos (.inr h1), hj, if_pos (decide_eq_true h1)]; rfl
    · rw [if_neg (by omega), hj, if_neg (by simpa using h1)]
      have := ways_l0 l0 l1 l2 l3 a (by omega) (hl a) (rd_L5 l3 a).length 0 0 q (by omega) (by have := hl a; omega) (by omega)
      simp only [List.drop_zero, Nat.zero_add] at this
      exact this
/-- a code, as it is read. -/
structure CodeIs (w : World) (v : Value) (l0 : List S48) (l1 : List S104) (l2 : List S226) (l3 : List (List Int)) : Prop where
  ex : ∃ A0 c0 A1 c1 A2 c2 A3 c3, v = .agg #[.slice A0 l0.length c0, .slice A1 l1.length c1, .slice A2 l2.length c2, .slice A3 l3.length c3] ∧
    Kd.C k48 w A0 l0.length l0 ∧ l0.length ≤ c0 ∧ Kd.C k104 w A1 l1.length l1 ∧ l1.length ≤ c1 ∧ Kd.C k226 w A2 l2.length l2 ∧ l2.length ≤ c2 ∧ Kd.C (Kd.slice 3 (Kd.int .i64)) w A3 l3.length l3 ∧ l3.length ≤ c3
  small : ∀ j, (rd_L5 l3 j).length ≤ 1000000000000000
theorem CodeIs.below {w w' : World} {v : Value} {l0 : List S48} {l1 : List S104} {l2 : List S226} {l3 : List (List Int)} (h : CodeIs w v l0 l1 l2 l3) (hb : Below w.heap.size w w') : CodeIs w' v l0 l1 l2 l3 := by
  obtain ⟨A0, c0, A1, c1, A2, c2, A3, c3, rfl, h0, e0, h1, e1, h2, e2, h3, e3⟩ := h.ex
  exact ⟨⟨A0, c0, A1, c1, A2, c2, A3, c3, rfl, Kd.C_below h0 hb, e0, Kd.C_below h1 hb, e1, Kd.C_below h2 hb, e2, Kd.C_below h3 hb, e3⟩, h.small⟩
theorem idx_calls {w : World} {v : Value} {l0 : List S48} {l1 : List S104} {l2 : List S226} {l3 : List (List Int)} (h : CodeIs w v l0 l1 l2 l3) (a : Int) : Calls Tryd.prog 72 #[v, .int .i64 a] w fun e w' => e = .returned (.tuple #[.int .i64 (idxR (idxS l3 a)).1, .bool (idxR (idxS l3 a)).2]) ∧ Below w.heap.size w w' := by
  obtain ⟨A0, c0, A1, c1, A2, c2, A3, c3, rfl, h0, e0, h1, e1, h2, e2, h3, e3⟩ := h.ex
  exact PA.ins_indexes.calls _ A0 c0 l0 A1 c1 l1 A2 c2 l2 A3 c3 l3 a _ _ w h0 e0 h1 e1 h2 e2 h3 e3 (idx_ev l0 l1 l2 l3 a h.small)
end Go.Proofs.YtfofpammnfcmiaaDoor.Ip
