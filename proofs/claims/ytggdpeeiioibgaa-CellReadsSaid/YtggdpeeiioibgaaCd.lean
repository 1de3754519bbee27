/- Marline, layer 08: values as bytes, in plain Lean. Conditions: as each says. -/
import Derived.Test.YtggdpeeiioibgaaPCx3
import Derived.Test.YtggdpeeiioibgaaPCx1
import Derived.Lib.Zigzag
import Derived.Laws.BitsAllLaws
namespace Go.Proofs.Ytggdpeeiioibgaa.E
open Go.RowKit Go.Proofs.YtggdpeeiioibgaaW.PrintWords Go.Proofs.YtggdpeeiioibgaaW.PrintLast Go.Proofs.YtggdpeeiioibgaaW.PrintMore Go.Proofs.Ytggdpeeiioibgaa.Kinds Go.Proofs.Ytggdpeeiioibgaa.Obj
set_option linter.unusedVariables false
set_option linter.unusedSimpArgs false

/-- a number's groups, so many at most. -/
def leb : Nat → Nat → List Int
  | 0, m => [(m : Int) % 256]
  | k + 1, m => if m < 128 then [(m : Int)] else ((m % 128 + 128 : Nat) : Int) :: leb k (m / 128)
def grp (n : Int) : List Int := leb 9 (Go.Lib.zigzag n)
theorem leb_len : ∀ k m, (leb k m).length ≤ k + 1
  | 0, m => by simp [leb]
  | k + 1, m => by
    have := leb_len k (m / 128)
    unfold leb
    split
    · simp
    · simp; omega
theorem leb_pos : ∀ k m, 0 < (leb k m).length
  | 0, m => by simp [leb]
  | k + 1, m => by unfold leb; split <;> simp
theorem grp_len (n : Int) : (grp n).length ≤ 10 := leb_len 9 _
def i64 (n : Int) : Prop := -9223372036854775808 ≤ n ∧ n ≤ 9223372036854775807
theorem or128 (a : Int) (h0 : 0 ≤ a) (h1 : a < 256) : Go.bits .or .u8 a 128 = a % 128 + 128 := by
  have h := Go.Lib.or128_nat ⟨a.toNat, by omega⟩
  have e := u8_or a 128 h0 h1 (by omega) (by omega)
  rw [e]
  have h2 : a.toNat ||| (128 : Int).toNat = a.toNat % 128 + 128 := h
  rw [h2]; omega
theorem groups_l : ∀ (d m : Nat) (k : Nat) (l : List Int), m < 128 ^ (d + 1) → d + 1 ≤ k → l.length + d < 140737488355328 → PC.cell_groups.l0 k l (m : Int) = some (l ++ leb d m) := by
  intro d
  induction d with
  | zero =>
    intro m k l hm hk hl
    obtain ⟨k, rfl⟩ : ∃ q, k = q + 1 := ⟨k - 1, by omega⟩
    simp only [PC.cell_groups.l0]
    rw [if_neg (by simp at hm; omega), if_pos (by omega)]
    rfl
  | succ d ih =>
    intro m k l hm hk hl
    obtain ⟨k, rfl⟩ : ∃ q, k = q + 1 := ⟨k - 1, by omega⟩
    simp only [PC.cell_groups.l0, leb]
    by_cases h : m < 128
    · rw [if_neg (by omega), if_pos (by omega), if_pos h, Int.emod_eq_of_lt (by omega) (by omega)]
    · have e1 : ((m : Int) / 128) = ((m / 128 : Nat) : Int) := (Int.natCast_ediv m 128).symm
      have e2 : Go.bits .or .u8 ((m : Int) % 256) 128 = ((m % 128 + 128 : Nat) : Int) := by
        rw [or128 _ (by omega) (by omega)]; omega
      rw [if_pos (by omega), if_pos (by omega), if_neg h, e1, e2, ih (m / 128) k _ (by rw [Nat.pow_succ] at hm; exact Nat.div_lt_of_lt_mul (by rw [Nat.mul_comm]; exact hm)) (by omega) (by rw [List.length_append, List.length_singleton]; omega)]
      simp
theorem rgroups_l : ∀ (d m : Nat) (k : Nat) (l : List Int), m < 128 ^ (d + 1) → m < 18446744073709551616 → d + 1 ≤ k → l.length + d < 140737488355328 → PC.marlineref08_groups.l0 k (m : Int) l = some (l ++ leb d m) := by
  intro d
  induction d with
  | zero =>
    intro m k l hm hm2 hk hl
    obtain ⟨k, rfl⟩ : ∃ q, k = q + 1 := ⟨k - 1, by omega⟩
    simp only [PC.marlineref08_groups.l0]
    rw [if_neg (by simp at hm; omega), if_pos (by omega)]
    rfl
  | succ d ih =>
    intro m k l hm hm2 hk hl
    obtain ⟨k, rfl⟩ : ∃ q, k = q + 1 := ⟨k - 1, by omega⟩
    simp only [PC.marlineref08_groups.l0, leb]
    by_cases h : m < 128
    · rw [if_neg (by omega), if_pos (by omega), if_pos h, Int.emod_eq_of_lt (by omega) (by omega)]
    · have e1 : IntKind.u64.wrap (Int.tdiv (m : Int) 128) = ((m / 128 : Nat) : Int) := by
        rw [Int.tdiv_eq_ediv_of_nonneg (by omega), IntKind.wrap_u64]; omega
      have e2 : ((Int.tmod (m : Int) 128) + 128) % 256 = ((m % 128 + 128 : Nat) : Int) := by
        rw [Int.tmod_eq_emod_of_nonneg (by omega)]; omega
      rw [if_pos (by omega), if_pos (by omega), if_neg h, e1, e2, ih (m / 128) k _ (by rw [Nat.pow_succ] at hm; exact Nat.div_lt_of_lt_mul (by rw [Nat.mul_comm]; exact hm)) (by omega) (by omega) (by rw [List.length_append, List.length_singleton]; omega)]
      simp
theorem zz_pos (n : Int) (h : i64 n) (h0 : ¬ n < 0) : IntKind.u64.wrap ((IntKind.u64.wrap n) * 2) = ((Go.Lib.zigzag n : Nat) : Int) := by
  rw [Go.Lib.zigzag_nonneg (by omega), IntKind.wrap_u64, IntKind.wrap_u64]
  have := h.1; have := h.2; omega
theorem zz_neg (n : Int) (h : i64 n) (h0 : n < 0) : Go.bits .xor .u64 18446744073709551615 (IntKind.u64.wrap ((IntKind.u64.wrap n) * 2)) = ((Go.Lib.zigzag n : Nat) : Int) := by
  have e : IntKind.u64.max = 18446744073709551615 := by decide
  rw [← e]
  exact Go.Lib.zigzag_neg h.1 h0
theorem zz_lt (n : Int) (h : i64 n) : Go.Lib.zigzag n < 128 ^ (9 + 1) := Nat.lt_of_lt_of_le (Go.Lib.zigzag_lt h.1 h.2) (by decide)
theorem groups_ev (n : Int) (h : i64 n) (l : List Int) (hl : l.length + 9 < 140737488355328) : ∀ k, 11 ≤ k → PC.cell_groups.f k l n = some (l ++ grp n) := by
  intro k hk
  obtain ⟨k, rfl⟩ : ∃ q, k = q + 1 := ⟨k - 1, by omega⟩
  unfold PC.cell_groups.f
  by_cases h0 : n < 0
  · rw [if_pos h0, zz_neg n h h0]
    simp only [PC.cell_groups.j0]
    exact groups_l 9 _ k l (zz_lt n h) (by omega) hl
  · rw [if_neg h0, zz_pos n h h0]
    simp only [PC.cell_groups.j0]
    exact groups_l 9 _ k l (zz_lt n h) (by omega) hl
theorem rzz_neg (n : Int) (h : i64 n) (h0 : n < 0) : IntKind.u64.wrap ((IntKind.u64.wrap (2 * (Go.bits .xor .u64 18446744073709551615 (IntKind.u64.wrap n)))) + 1) = ((Go.Lib.zigzag n : Nat) : Int) := by
  have e1 : IntKind.u64.wrap n = (((n + 18446744073709551616).toNat : Nat) : Int) := by
    rw [IntKind.wrap_u64]; have := h.1; omega
  have e2 : (18446744073709551615 : Int) = ((2 ^ 64 - 1 : Nat) : Int) := by decide
  rw [e1, e2, u64_xor_nat _ _ (by decide) (by omega), Go.Lib.xor_ones64 _ (by omega), IntKind.wrap_u64, IntKind.wrap_u64]
  unfold Go.Lib.zigzag
  rw [if_neg (by omega)]
  have := h.1
  omega
theorem rgroups_ev (n : Int) (h : i64 n) : ∀ k, 12 ≤ k → PC.marlineref08_groups.f k n = some (grp n) := by
  intro k hk
  obtain ⟨k, rfl⟩ : ∃ q, k = q + 1 := ⟨k - 1, by omega⟩
  have hz := Go.Lib.zigzag_lt h.1 h.2
  unfold PC.marlineref08_groups.f
  by_cases h0 : n < 0
  · rw [if_neg (by omega), rzz_neg n h h0]
    simp only [PC.marlineref08_groups.j0]
    have := rgroups_l 9 _ k [] (zz_lt n h) hz (by omega) (by simp)
    rw [this]; rfl
  · have e : IntKind.u64.wrap (2 * (IntKind.u64.wrap n)) = ((Go.Lib.zigzag n : Nat) : Int) := by rw [Int.mul_comm]; exact zz_pos n h h0
    rw [if_pos (by omega), e]
    simp only [PC.marlineref08_groups.j0]
    have := rgroups_l 9 _ k [] (zz_lt n h) hz (by omega) (by simp)
    rw [this]; rfl
mutual
/-- a value's bytes. -/
def enc : S24 → List Int
  | ⟨k, n, l⟩ => k % 256 :: (if k = 0 then grp n else if k = 1 then [n % 256] else grp (l.length : Int) ++ encL l)
def encL : List S24 → List Int
  | [] => []
  | x :: l => enc x ++ encL l
end
mutual
theorem enc_len : ∀ x, (enc x).length ≤ 11 * sz x
  | ⟨k, n, l⟩ => by
    have h1 := grp_len n
    have h2 := grp_len (l.length : Int)
    have h3 := encL_len l
    have h4 : sz ⟨k, n, l⟩ = szL l + 1 := by simp [sz]
    rw [h4]
    unfold enc
    split
    · simp; omega
    · split
      · simp; omega
      · simp; omega
theorem encL_len : ∀ l, (encL l).length ≤ 11 * szL l
  | [] => by simp [encL]
  | x :: l => by
    have h1 := enc_len x
    have h2 := encL_len l
    simp only [encL, szL, List.length_append]; omega
end
theorem encL_append (l m : List S24) : encL (l ++ m) = encL l ++ encL m := by
  induction l with
  | nil => rfl
  | cons x l ih => simp only [List.cons_append, encL, ih, List.append_assoc]
theorem encL_step (l : List S24) (n : Nat) (h : n < l.length) : encL (l.take (n + 1)) = encL (l.take n) ++ enc (rd_T24 l n) := by
  rw [List.take_succ_eq_append_getElem h, encL_append, rd_eq l n h]
  simp [encL]
end Go.Proofs.Ytggdpeeiioibgaa.E
