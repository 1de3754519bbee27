/- Marline, values: a value has a text. Conditions: as each says. -/
import Derived.Test.YtggdpeeiioibgaaB
import Derived.Test.YtggdpeeiioibgaaPT
namespace Go.Proofs.Ytggdpeeiioibgaa.E
open Go.RowKit Go.Proofs.YtggdpeeiioibgaaW.PrintWords Go.Proofs.YtggdpeeiioibgaaW.PrintLast Go.Proofs.YtggdpeeiioibgaaW.PrintMore Go.Proofs.Ytggdpeeiioibgaa.Kinds Go.Proofs.Ytggdpeeiioibgaa.Obj
set_option linter.unusedVariables false
set_option linter.unusedSimpArgs false

abbrev ten : ByteArray := ⟨#[48, 49, 50, 51, 52, 53, 54, 55, 56, 57]⟩
theorem u64_in (a : Int) (h : 0 ≤ a) (h' : a < 18446744073709551616) : IntKind.u64.wrap a = a := by
  simp only [IntKind.wrap, IntKind.bits, IntKind.signed]
  first | omega | (simp; omega)
theorem ten_size (a : Int) (h : 0 ≤ a) (h' : a ≤ 9) : (ten.extract (a : Int).toNat ((a + 1 : Int)).toNat).size = 1 := by
  rw [ByteArray.size_extract, show ten.size = 10 from rfl]
  omega
theorem dig_ev (b : Bool) : ∀ (k : Nat) (m : Int) (x : ByteArray), 0 ≤ m → m < 10 ^ (k + 1) → m < 18446744073709551616 → x.size + k ≤ 1000 → ∃ s, PT.marlineref01_Text.l0 (k + 1) b m x = some s ∧ s.size ≤ x.size + k + 2 := by
  intro k
  induction k with
  | zero =>
    intro m x h0 h1 h2 h3
    have e := u64_in (m + 1) (by omega) (by omega)
    have hz := ten_size m h0 (by omega)
    simp only [PT.marlineref01_Text.l0]
    rw [if_neg (by omega), if_pos h0, e, if_pos (by omega), if_pos (by omega), if_pos (by rw [hz]; omega)]
    cases b with
    | true =>
      rw [if_pos rfl, if_pos (by rw [ByteArray.size_append, hz]; omega)]
      exact ⟨_, rfl, by rw [ByteArray.size_append, ByteArray.size_append, hz, show (⟨#[45]⟩ : ByteArray).size = 1 from rfl]; omega⟩
    | false =>
      rw [if_neg (by decide)]
      exact ⟨_, rfl, by rw [ByteArray.size_append, hz]; omega⟩
  | succ k ih =>
    intro m x h0 h1 h2 h3
    by_cases h9 : m > 9
    · have t1 : Int.tmod m 10 = m % 10 := by rw [Int.tmod_eq_emod_of_nonneg h0]
      have t2 : Int.tdiv m 10 = m / 10 := by rw [Int.tdiv_eq_ediv_of_nonneg h0]
      have e := u64_in (m % 10 + 1) (by omega) (by omega)
      have e2 := u64_in (m / 10) (by omega) (by omega)
      have hz := ten_size (m % 10) (by omega) (by omega)
      have hp : (10 : Int) ^ (k + 1 + 1) = 10 ^ (k + 1) * 10 := Int.pow_succ _ _
      rw [PT.marlineref01_Text.l0, t1, t2, e, e2, if_pos h9, if_pos (by omega), if_pos (by omega), if_pos (by omega), if_pos (by rw [hz]; omega)]
      obtain ⟨s, hs, hb⟩ := ih (m / 10) (ten.extract (m % 10 : Int).toNat ((m % 10 + 1 : Int)).toNat ++ x) (by omega) (by omega) (by omega) (by rw [ByteArray.size_append, hz]; omega)
      exact ⟨s, hs, by rw [ByteArray.size_append, hz] at hb; omega⟩
    · have e := u64_in (m + 1) (by omega) (by omega)
      have hz := ten_size m h0 (by omega)
      simp only [PT.marlineref01_Text.l0]
      rw [if_neg (by omega), if_pos h0, e, if_pos (by omega), if_pos (by omega), if_pos (by rw [hz]; omega)]
      cases b with
      | true =>
        rw [if_pos rfl, if_pos (by rw [ByteArray.size_append, hz]; omega)]
        exact ⟨_, rfl, by rw [ByteArray.size_append, ByteArray.size_append, hz, show (⟨#[45]⟩ : ByteArray).size = 1 from rfl]; omega⟩
      | false =>
        rw [if_neg (by decide)]
        exact ⟨_, rfl, by rw [ByteArray.size_append, hz]; omega⟩
theorem u64_range (a : Int) : 0 ≤ IntKind.u64.wrap a ∧ IntKind.u64.wrap a < 18446744073709551616 := by
  simp only [IntKind.wrap, IntKind.bits, IntKind.signed]
  first | omega | (simp; omega)
theorem num_ev (a : Int) : ∃ s, PT.marlineref01_Text.f 21 a = some s ∧ s.size ≤ 22 := by
  unfold PT.marlineref01_Text.f PT.marlineref01_big.f
  split
  · rw [Option.bind_some]
    obtain ⟨h1, h2⟩ := u64_range (Go.bits .xor .u64 18446744073709551615 (IntKind.u64.wrap a) + 1)
    exact dig_ev true 20 _ _ h1 (by omega) h2 (by decide)
  · rw [Option.bind_some]
    obtain ⟨h1, h2⟩ := u64_range a
    exact dig_ev false 20 _ _ h1 (by omega) h2 (by decide)
theorem num_le (a : Int) (k : Nat) (h : 21 ≤ k) : ∃ s, PT.marlineref01_Text.f k a = some s ∧ s.size ≤ 22 := by
  obtain ⟨d, rfl⟩ : ∃ d, k = 21 + d := ⟨k - 21, by omega⟩
  clear h
  obtain ⟨s, hs, hb⟩ := num_ev a
  refine ⟨s, ?_, hb⟩
  induction d with
  | zero => exact hs
  | succ d ih => exact PT.marlineref01_Text.mono _ _ _ ih

theorem text_l (n : Nat) (ih : ∀ m, m < n → ∀ x : S24, sz x = m → 25 * sz x ≤ 1000000000000000 → ∀ k, 2 * sz x + 30 ≤ k → ∃ s, PT.marlineref06_Text.f k x.f0 x.f1 x.f2 = some s ∧ s.size + 3 ≤ 25 * sz x)
    (a b : Int) (l : List S24) (hn : szL l < n) (hb : 25 * szL l ≤ 1000000000000000) : ∀ (d i q : Nat) (acc : ByteArray), i + d = l.length → 2 * szL (l.drop i) + 31 ≤ q → acc.size ≤ 25 * szL (l.take i) →
    ∃ s, PT.marlineref06_Text.l0 q acc (i : Int) a b l = some s ∧ s.size ≤ 25 * szL l + 2 := by
  intro d
  induction d with
  | zero =>
    intro i q acc hi hq ha
    obtain ⟨q, rfl⟩ : ∃ m, q = m + 1 := ⟨q - 1, by omega⟩
    rw [List.take_of_length_le (by omega)] at ha
    simp only [PT.marlineref06_Text.l0]
    rw [if_neg (by omega)]
    split
    · rw [if_pos (by omega), if_pos (by rw [ByteArray.size_append, show (⟨#[123]⟩ : ByteArray).size = 1 from rfl]; omega)]
      exact ⟨_, rfl, by rw [ByteArray.size_append, ByteArray.size_append, show (⟨#[123]⟩ : ByteArray).size = 1 from rfl, show (⟨#[125]⟩ : ByteArray).size = 1 from rfl]; omega⟩
    · rw [if_pos (by omega), if_pos (by rw [ByteArray.size_append, show (⟨#[91]⟩ : ByteArray).size = 1 from rfl]; omega)]
      exact ⟨_, rfl, by rw [ByteArray.size_append, ByteArray.size_append, show (⟨#[91]⟩ : ByteArray).size = 1 from rfl, show (⟨#[93]⟩ : ByteArray).size = 1 from rfl]; omega⟩
  | succ d ihd =>
    intro i q acc hi hq ha
    obtain ⟨q, rfl⟩ : ∃ m, q = m + 1 := ⟨q - 1, by omega⟩
    have hlt : i < l.length := by omega
    have h1 := szL_drop l i hlt
    have h2 := szL_take l i hlt
    have h3 := szL_split l i
    have hm := rd_mem l i hlt
    have h4 := szL_mem l _ hm
    have h6 := szL_len l
    have h7 := sz_pos (rd_T24 l i)
    have e2 : wrap64 ((i : Int) + 1) = ((i + 1 : Nat) : Int) := wrap_nat i (by omega)
    have hlt' : (i : Int) < (l.length : Int) := Int.ofNat_lt.2 hlt
    have hi0 : 0 ≤ (i : Int) := Int.natCast_nonneg i
    obtain ⟨s, hs, hz⟩ := ih (sz (rd_T24 l i)) (by omega) (rd_T24 l i) rfl (by omega) q (by omega)
    simp only [PT.marlineref06_Text.l0]
    rw [if_pos hlt']
    by_cases h0 : (i : Int) > 0
    · rw [if_pos h0, if_pos (by omega), if_pos hi0, hs, Option.bind_some, if_pos (by rw [ByteArray.size_append, show (⟨#[44, 32]⟩ : ByteArray).size = 2 from rfl]; omega), e2]
      exact ihd (i + 1) q _ (by omega) (by omega) (by rw [ByteArray.size_append, ByteArray.size_append, show (⟨#[44, 32]⟩ : ByteArray).size = 2 from rfl]; omega)
    · rw [if_neg h0, if_pos hi0, hs, Option.bind_some, if_pos (by omega), e2]
      exact ihd (i + 1) q _ (by omega) (by omega) (by rw [ByteArray.size_append]; omega)
theorem text_ev : ∀ (n : Nat) (x : S24), sz x = n → 25 * sz x ≤ 1000000000000000 → ∀ k, 2 * sz x + 30 ≤ k → ∃ s, PT.marlineref06_Text.f k x.f0 x.f1 x.f2 = some s ∧ s.size + 3 ≤ 25 * sz x := by
  intro n
  induction n using Nat.strongRecOn with
  | _ n ih =>
    intro x hn hb k hk
    obtain ⟨k, rfl⟩ : ∃ m, k = m + 1 := ⟨k - 1, by omega⟩
    have h5 := sz_eq x
    simp only [PT.marlineref06_Text.f]
    split
    · obtain ⟨s, hs, hz⟩ := num_le x.f1 k (by omega)
      rw [hs, Option.bind_some]
      exact ⟨s, rfl, by omega⟩
    · split
      · split
        · exact ⟨_, rfl, by show 4 + 3 ≤ _; omega⟩
        · exact ⟨_, rfl, by show 5 + 3 ≤ _; omega⟩
      · obtain ⟨s, hs, hz⟩ := text_l n ih x.f0 x.f1 x.f2 (by omega) (by omega) x.f2.length 0 k ⟨#[]⟩ (by omega) (by simpa using by omega) (Nat.zero_le _)
        exact ⟨s, hs, by omega⟩
theorem text24 (x : S24) (h : sz x ≤ 1000000000000) : ∃ s, ∀ (A : Option Addr) (c : Nat) (w : World), Kd24 w A c x →
    Calls Try.prog 17 #[v24 x.f0 x.f1 A x.f2.length c] w fun e w' => e = .returned (.string s) ∧ Below w.heap.size w w' := by
  obtain ⟨s, hs, _⟩ := text_ev _ x rfl (by omega) _ (Nat.le_refl _)
  exact ⟨s, fun A c w hk => PT.marlineref06_Text.calls _ x.f0 x.f1 A c x.f2 s w hk.2 hk.1 hs⟩
end Go.Proofs.Ytggdpeeiioibgaa.E
