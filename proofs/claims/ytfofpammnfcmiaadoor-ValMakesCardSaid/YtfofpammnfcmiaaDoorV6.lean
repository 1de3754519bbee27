/- Marline, values: what the printed functions come to. Conditions: as each says (sizes up to 1048576). -/
import Derived.Test.YtfofpammnfcmiaaDoorV5
import Derived.Test.YtfofpammnfcmiaaDoorPVx3
import Derived.Test.YtfofpammnfcmiaaDoorVp
namespace Go.Proofs.YtfofpammnfcmiaaDoor.Vl
open Go.RowKit Go.Proofs.YtfofpammnfcmiaaDoorW.PrintWords Go.Proofs.YtfofpammnfcmiaaDoorW.PrintLast Go.Proofs.YtfofpammnfcmiaaDoorW.PrintMore Go.Proofs.YtfofpammnfcmiaaDoor.Kinds Go.Proofs.YtfofpammnfcmiaaDoor.Obj
set_option linter.unusedVariables false
set_option linter.unusedSimpArgs false
set_option maxRecDepth 100000
theorem szL_drop (l : List S67) (i : Nat) (h : i < l.length) : szL (l.drop i) = sz (rd_T67 l (i : Int)) + szL (l.drop (i + 1)) := by
  rw [List.drop_eq_getElem_cons h, rd67_at l i h]; rfl
theorem szL_drop_le (l : List S67) (i : Nat) : szL (l.drop i) ≤ szL l := by
  induction i generalizing l with
  | zero => exact Nat.le_refl _
  | succ i ih =>
    cases l with
    | nil => exact Nat.zero_le _
    | cons x l => have := ih l; simp only [List.drop_succ_cons, szL]; omega
theorem w_ixv {i n : Nat} (h : i < n) (hn : n ≤ 1048576) : wrap64 ((i : Int) + 1) = ((i + 1 : Nat) : Int) := by unfold wrap64; omega
theorem w_add {a b : Nat} (h : a + b ≤ 1048577) : wrap64 ((a : Int) + (b : Int)) = ((a + b : Nat) : Int) := by unfold wrap64; omega
theorem w_sc {a : Nat} (h : a ≤ 1048577) : wrap64 ((a : Int) + 1) = ((a + 1 : Nat) : Int) := by unfold wrap64; omega
theorem size_is : ∀ (m : Nat) (x : S67), sz x ≤ m → m ≤ 1048576 → ∀ k, 2 * sz x ≤ k → PV.val_Size.f k x.f0 x.f1 x.f2 = some (sz x : Int) ∧ PV.marlineref06_Size.f k x.f0 x.f1 x.f2 = some (sz x : Int) := by
  intro m
  induction m with
  | zero => intro x h; have := sz_pos x; omega
  | succ m ih =>
    intro x hx hm k hk
    have he := sz_eq x
    obtain ⟨k, rfl⟩ : ∃ k', k = k' + 1 := ⟨k - 1, by have := sz_pos x; omega⟩
    have hlen := szL_len x.f2
    have key : ∀ (d i a K : Nat), i + d = x.f2.length → d + 1 + 2 * szL (x.f2.drop i) ≤ K + d → a + szL (x.f2.drop i) = sz x →
        PV.val_Size.l0 K (a : Int) x.f2 (x.f2.length : Int) (i : Int) = some (sz x : Int) ∧ PV.marlineref06_Size.l0 K (a : Int) (i : Int) x.f0 x.f1 x.f2 = some (sz x : Int) := by
      intro d
      induction d with
      | zero =>
        intro i a K hi hK ha
        obtain ⟨K, rfl⟩ : ∃ K', K = K' + 1 := ⟨K - 1, by omega⟩
        rw [List.drop_of_length_le (by omega)] at ha
        rw [PV.val_Size.l0, PV.marlineref06_Size.l0, if_neg (by omega), if_neg (by omega), ← ha]
        exact ⟨rfl, rfl⟩
      | succ d ihd =>
        intro i a K hi hK ha
        have hdr := szL_drop x.f2 i (by omega)
        have hle := szL_drop_le x.f2 i
        have hpos := sz_pos (rd_T67 x.f2 (i : Int))
        obtain ⟨K, rfl⟩ : ∃ K', K = K' + 1 := ⟨K - 1, by omega⟩
        obtain ⟨g1, g2⟩ := ih (rd_T67 x.f2 (i : Int)) (by omega) (by omega) K (by omega)
        obtain ⟨g3, g4⟩ := ihd (i + 1) (a + sz (rd_T67 x.f2 (i : Int))) K (by omega) (by omega) (by omega)
        rw [PV.val_Size.l0, PV.marlineref06_Size.l0, if_pos (by omega), if_pos (by omega), if_pos (by omega), if_pos (by omega), if_pos (by omega), g1, g2, Option.bind_some, Option.bind_some, w_add (by omega), w_ixv (i := i) (n := x.f2.length) (by omega) (by omega)]
        exact ⟨g3, g4⟩
    rw [PV.val_Size.f, PV.marlineref06_Size.f]
    exact key x.f2.length 0 1 k (by omega) (by rw [List.drop_zero]; omega) (by rw [List.drop_zero]; omega)
mutual
/-- how many values lie in one another. -/
def dp : S67 → Nat
  | ⟨_, _, l⟩ => dpL l + 1
def dpL : List S67 → Nat
  | [] => 0
  | x :: l => Nat.max (dp x) (dpL l)
end
theorem dp_eq (x : S67) : dp x = dpL x.f2 + 1 := by cases x; simp [dp]
theorem dp_le : ∀ (n : Nat) (x : S67), sz x ≤ n → dp x ≤ sz x := by
  intro n
  induction n with
  | zero => intro x h; have := sz_pos x; omega
  | succ n ih =>
    intro x h
    have he := sz_eq x
    have hd := dp_eq x
    have : ∀ l : List S67, szL l ≤ n → dpL l ≤ szL l := by
      intro l
      induction l with
      | nil => intro _; exact Nat.le_refl _
      | cons y l ihl =>
        intro hl
        simp only [szL] at hl
        have h1 := ih y (by omega)
        have h2 := ihl (by omega)
        simp only [szL, dpL]
        exact Nat.max_le.2 ⟨by omega, by omega⟩
    have := this x.f2 (by omega)
    omega
theorem dpL_drop (l : List S67) (i : Nat) (h : i < l.length) : dpL (l.drop i) = Nat.max (dp (rd_T67 l (i : Int))) (dpL (l.drop (i + 1))) := by
  rw [List.drop_eq_getElem_cons h, rd67_at l i h]; rfl
theorem mx_nat (a b : Nat) : mx (a : Int) (b : Int) = ((Nat.max a b : Nat) : Int) := by
  unfold mx
  split <;> (show _ = ((max a b : Nat) : Int)) <;> omega
theorem deep_is : ∀ (m : Nat) (x : S67), sz x ≤ m → m ≤ 1048576 → ∀ k, 2 * sz x ≤ k → PV.val_Deep.f k x.f0 x.f1 x.f2 = some (dp x : Int) ∧ PV.marlineref06_Deep.f k x.f0 x.f1 x.f2 = some (dp x : Int) := by
  intro m
  induction m with
  | zero => intro x h; have := sz_pos x; omega
  | succ m ih =>
    intro x hx hm k hk
    have he := sz_eq x
    have hd := dp_eq x
    have hdl := dp_le _ x (Nat.le_refl _)
    obtain ⟨k, rfl⟩ : ∃ k', k = k' + 1 := ⟨k - 1, by have := sz_pos x; omega⟩
    have hlen := szL_len x.f2
    have key : ∀ (d i a K : Nat), i + d = x.f2.length → d + 1 + 2 * szL (x.f2.drop i) ≤ K + d → Nat.max a (dpL (x.f2.drop i)) = dpL x.f2 →
        PV.val_Deep.l0 K (a : Int) x.f2 (x.f2.length : Int) (i : Int) = some (dp x : Int) ∧ PV.marlineref06_Deep.l0 K (a : Int) (i : Int) x.f0 x.f1 x.f2 = some (dp x : Int) := by
      intro d
      induction d with
      | zero =>
        intro i a K hi hK ha
        obtain ⟨K, rfl⟩ : ∃ K', K = K' + 1 := ⟨K - 1, by omega⟩
        rw [List.drop_of_length_le (by omega)] at ha
        have ha2 : a = dpL x.f2 := by rw [← ha]; exact (Nat.max_eq_left (Nat.zero_le a)).symm
        rw [PV.val_Deep.l0, PV.marlineref06_Deep.l0, if_neg (by omega), if_neg (by omega), w_sc (by omega), ha2, hd]
        exact ⟨rfl, rfl⟩
      | succ d ihd =>
        intro i a K hi hK ha
        have hdr := szL_drop x.f2 i (by omega)
        have hdd := dpL_drop x.f2 i (by omega)
        have hle := szL_drop_le x.f2 i
        have hpos := sz_pos (rd_T67 x.f2 (i : Int))
        obtain ⟨K, rfl⟩ : ∃ K', K = K' + 1 := ⟨K - 1, by omega⟩
        obtain ⟨g1, g2⟩ := ih (rd_T67 x.f2 (i : Int)) (by omega) (by omega) K (by omega)
        obtain ⟨g3, g4⟩ := ihd (i + 1) (Nat.max a (dp (rd_T67 x.f2 (i : Int)))) K (by omega) (by omega) (by rw [← ha, hdd]; exact Nat.max_assoc _ _ _)
        rw [PV.val_Deep.l0, PV.marlineref06_Deep.l0, if_pos (by omega), if_pos (by omega), if_pos (by omega), if_pos (by omega), if_pos (by omega), g1, g2, Option.bind_some, Option.bind_some, mx_nat, w_ixv (i := i) (n := x.f2.length) (by omega) (by omega)]
        exact ⟨g3, g4⟩
    rw [PV.val_Deep.f, PV.marlineref06_Deep.f]
    exact key x.f2.length 0 0 k (by omega) (by rw [List.drop_zero]; omega) (by rw [List.drop_zero]; exact Nat.max_eq_right (Nat.zero_le _))
theorem small_is (x : S67) (h : sz x ≤ 1048576) : PV.marlinelaw06_Small.f (2 * sz x) x.f0 x.f1 x.f2 = some (if sz x > 300 then 0 else 1) := by
  unfold PV.marlinelaw06_Small.f
  rw [(size_is _ x (Nat.le_refl _) h _ (Nat.le_refl _)).2, Option.bind_some]
  by_cases h3 : sz x > 300
  · rw [if_pos h3, if_pos (by omega)]
  · rw [if_neg h3, if_neg (by omega)]
theorem rightL_drop (l : List S67) (i : Nat) (h : i < l.length) : rightL (l.drop i) = (right (rd_T67 l (i : Int)) && rightL (l.drop (i + 1))) := by
  rw [List.drop_eq_getElem_cons h, rd67_at l i h]; rfl
theorem refright_is : ∀ (m : Nat) (x : S67), sz x ≤ m → m ≤ 1048576 → ∀ k, 4 * sz x ≤ k → PV.marlineref06_Right.f k x.f0 x.f1 x.f2 = some (right x) := by
  intro m
  induction m with
  | zero => intro x h; have := sz_pos x; omega
  | succ m ih =>
    intro x hx hm k hk
    have he := sz_eq x
    have hpx := sz_pos x
    obtain ⟨k, rfl⟩ : ∃ k', k = k' + 3 := ⟨k - 3, by omega⟩
    have hlen := szL_len x.f2
    have key : ∀ (d i K : Nat), i + d = x.f2.length → d + 1 + 4 * szL (x.f2.drop i) ≤ K + d →
        PV.marlineref06_Right.l0 K (i : Int) x.f0 x.f1 x.f2 = some (rightL (x.f2.drop i)) := by
      intro d
      induction d with
      | zero =>
        intro i K hi hK
        obtain ⟨K, rfl⟩ : ∃ K', K = K' + 1 := ⟨K - 1, by omega⟩
        rw [PV.marlineref06_Right.l0, if_neg (by omega), List.drop_of_length_le (by omega)]
        rfl
      | succ d ihd =>
        intro i K hi hK
        have hdr := szL_drop x.f2 i (by omega)
        have hle := szL_drop_le x.f2 i
        have hpos := sz_pos (rd_T67 x.f2 (i : Int))
        obtain ⟨K, rfl⟩ : ∃ K', K = K' + 1 := ⟨K - 1, by omega⟩
        rw [PV.marlineref06_Right.l0, if_pos (by omega), if_pos (by omega), ih (rd_T67 x.f2 (i : Int)) (by omega) (by omega) K (by omega), Option.bind_some, rightL_drop x.f2 i (by omega)]
        cases hr : right (rd_T67 x.f2 (i : Int)) with
        | true =>
          rw [if_pos rfl, w_ixv (i := i) (n := x.f2.length) (by omega) (by omega), ihd (i + 1) K (by omega) (by omega), Bool.true_and]
        | false => rw [if_neg Bool.false_ne_true, Bool.false_and]
    have hk0 := key x.f2.length 0 k (by omega) (by rw [List.drop_zero]; omega)
    rw [List.drop_zero] at hk0
    obtain ⟨xk, xn, xl⟩ := x
    simp only at *
    rw [PV.marlineref06_Right.f]
    by_cases h0 : xk = 0
    · subst h0
      rw [if_pos rfl, PV.marlineref06_Right.j0, if_pos rfl]
      unfold right
      cases xl with
      | nil => rfl
      | cons a b => rw [if_neg (show ¬ (((a :: b).length : Nat) : Int) = 0 by simp only [List.length_cons]; omega)]; rfl
    · rw [if_neg h0]
      by_cases h1 : xk = 1
      · subst h1
        rw [PV.marlineref06_Right.j0, if_pos (by decide)]
        unfold right
        rw [if_neg (show ¬ (1 : Int) = 0 by decide), if_neg (show ¬ (1 : Int) = 0 by decide), if_pos (rfl : (1 : Int) = 1)]
        cases xl with
        | nil =>
          rw [if_pos (show ((([] : List S67).length : Nat) : Int) = 0 from rfl)]
          by_cases n0 : xn = 0
          · subst n0; rfl
          · rw [if_neg n0, decide_eq_false n0]
            by_cases n1 : xn = 1
            · subst n1; rfl
            · have : (xn == 1) = false := beq_eq_false_iff_ne.2 n1
              rw [this, decide_eq_false n1]; rfl
        | cons a b => rw [if_neg (show ¬ (((a :: b).length : Nat) : Int) = 0 by simp only [List.length_cons]; omega)]; rfl
      · rw [PV.marlineref06_Right.j0, if_neg (by simpa using h1)]
        unfold right
        rw [if_neg h0, if_neg h1]
        by_cases h2 : xk = 2 ∨ xk = 3
        · rw [if_pos h2]
          have hj : (if xk = 2 then PV.marlineref06_Right.j1 (k + 1) (xn != 0) xk xn xl else if xk = 3 then PV.marlineref06_Right.j1 (k + 1) (xn != 0) xk xn xl else PV.marlineref06_Right.j1 (k + 1) true xk xn xl) = PV.marlineref06_Right.j1 (k + 1) (xn != 0) xk xn xl := by
            rcases h2 with h2 | h2
            · rw [if_pos h2]
            · rw [if_neg (by omega), if_pos h2]
          rw [hj, PV.marlineref06_Right.j1]
          by_cases n0 : xn = 0
          · subst n0
            rw [if_neg (by decide)]
            exact hk0
          · rw [if_pos (by simpa using n0), decide_eq_false n0]; rfl
        · rw [if_neg h2, if_neg (fun h => h2 (.inl h)), if_neg (fun h => h2 (.inr h)), PV.marlineref06_Right.j1, if_pos rfl]
theorem eta67 (x : S67) : (⟨x.f0, x.f1, x.f2⟩ : S67) = x := by cases x; rfl
theorem clone_is : ∀ (m : Nat) (x : S67), sz x ≤ m → m ≤ 1048576 → ∀ k, 2 * sz x ≤ k → PV.val_Clone.f k x.f0 x.f1 x.f2 = some (x.f0, x.f1, x.f2) := by
  intro m
  induction m with
  | zero => intro x h; have := sz_pos x; omega
  | succ m ih =>
    intro x hx hm k hk
    have he := sz_eq x
    obtain ⟨k, rfl⟩ : ∃ k', k = k' + 1 := ⟨k - 1, by have := sz_pos x; omega⟩
    have hlen := szL_len x.f2
    have key : ∀ (d i K : Nat), i + d = x.f2.length → d + 1 + 2 * szL (x.f2.drop i) ≤ K + d →
        PV.val_Clone.l0 K x.f2 (x.f2.length : Int) (i : Int) x.f0 x.f1 (x.f2.take i) = some (x.f0, x.f1, x.f2) := by
      intro d
      induction d with
      | zero =>
        intro i K hi hK
        obtain ⟨K, rfl⟩ : ∃ K', K = K' + 1 := ⟨K - 1, by omega⟩
        rw [PV.val_Clone.l0, if_neg (by omega), List.take_of_length_le (by omega)]
      | succ d ihd =>
        intro i K hi hK
        have hdr := szL_drop x.f2 i (by omega)
        have hle := szL_drop_le x.f2 i
        have hpos := sz_pos (rd_T67 x.f2 (i : Int))
        obtain ⟨K, rfl⟩ : ∃ K', K = K' + 1 := ⟨K - 1, by omega⟩
        have hi2 : i < x.f2.length := by omega
        have et : x.f2.take (i + 1) = x.f2.take i ++ [rd_T67 x.f2 (i : Int)] := by rw [List.take_succ_eq_append_getElem hi2, rd67_at x.f2 i hi2]
        rw [PV.val_Clone.l0, if_pos (by omega), if_pos (by omega), if_pos (by omega), ih (rd_T67 x.f2 (i : Int)) (by omega) (by omega) K (by omega), Option.bind_some, if_pos (by rw [List.length_take]; omega), w_ixv (i := i) (n := x.f2.length) (by omega) (by omega), eta67, ← et]
        exact ihd (i + 1) K (by omega) (by omega)
    rw [PV.val_Clone.f]
    exact key x.f2.length 0 k (by omega) (by rw [List.drop_zero]; omega)
end Go.Proofs.YtfofpammnfcmiaaDoor.Vl
