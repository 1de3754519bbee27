/- Marline, values: what the printed functions come to: sizes, a value with another one. No condition. -/
import Derived.Test.YtggdpeeiioibgaaKq
import Derived.Test.YtggdpeeiioibgaaPAx1
namespace Go.Proofs.Ytggdpeeiioibgaa.E
open Go.RowKit Go.Proofs.YtggdpeeiioibgaaW.PrintWords Go.Proofs.YtggdpeeiioibgaaW.PrintLast Go.Proofs.YtggdpeeiioibgaaW.PrintMore Go.Proofs.Ytggdpeeiioibgaa.Kinds Go.Proofs.Ytggdpeeiioibgaa.Obj
set_option linter.unusedVariables false

theorem wrap_add (a b : Int) : wrap64 (wrap64 a + wrap64 b) = wrap64 (a + b) := by unfold wrap64; omega
theorem wrap_nat (i : Nat) (h : i ≤ 9000000000000000000) : wrap64 ((i : Int) + 1) = ((i + 1 : Nat) : Int) := by unfold wrap64; omega
theorem wrap_one : wrap64 (((0 : Nat) : Int) + 1) = 1 := by unfold wrap64; omega
theorem s24_eta (p : S24) : (⟨p.f0, p.f1, p.f2⟩ : S24) = p := by cases p; rfl
/-- the size that a call answers. -/
def szw (x : S24) : Int := wrap64 (sz x : Int)
/-- no list of a value is longer than a slice may be. -/
inductive Ok : S24 → Prop
  | mk (x : S24) : x.f2.length * 40 ≤ 140737488351232 → (∀ y ∈ x.f2, Ok y) → Ok x
theorem Ok.len {x : S24} (h : Ok x) : x.f2.length * 40 ≤ 140737488351232 := by cases h with | mk _ h _ => exact h
theorem Ok.kid {x : S24} (h : Ok x) {y : S24} (hy : y ∈ x.f2) : Ok y := by cases h with | mk _ _ h => exact h y hy
theorem rsize_l (n : Nat) (ih : ∀ m, m < n → ∀ (l : List S24), szL l = m → (∀ x ∈ l, Ok x) → l.length * 40 ≤ 140737488351232 → ∀ (a b : Int) (k : Nat), 2 * szL l + 2 ≤ k → PA.marlineref06_Size.f k a b l = some (wrap64 ((szL l : Int) + 1)))
    (l : List S24) (hn : szL l = n) (hok : ∀ x ∈ l, Ok x) (hl : l.length * 40 ≤ 140737488351232) (a b : Int) : ∀ (d i q : Nat), i + d = l.length → 2 * szL (l.drop i) + 1 ≤ q →
    PA.marlineref06_Size.l0 q (wrap64 ((szL (l.take i) : Int) + 1)) (i : Int) a b l = some (wrap64 ((szL l : Int) + 1)) := by
  intro d
  induction d with
  | zero =>
    intro i q hi hq
    obtain ⟨q, rfl⟩ : ∃ m, q = m + 1 := ⟨q - 1, by omega⟩
    simp only [PA.marlineref06_Size.l0]
    rw [if_neg (by omega), List.take_of_length_le (by omega)]
  | succ d ihd =>
    intro i q hi hq
    obtain ⟨q, rfl⟩ : ∃ m, q = m + 1 := ⟨q - 1, by omega⟩
    have hlt : i < l.length := by omega
    have h1 := szL_drop l i hlt
    have h2 := szL_take l i hlt
    have h3 := szL_split l i
    have hm := rd_mem l i hlt
    have h4 := szL_mem l _ hm
    have h5 := sz_eq (rd_T24 l i)
    have h6 := szL_len l
    simp only [PA.marlineref06_Size.l0]
    rw [if_pos (by omega), if_pos (by omega)]
    rw [ih (szL (rd_T24 l i).f2) (by omega) (rd_T24 l i).f2 rfl (fun x hx => (hok _ hm).kid hx) (hok _ hm).len _ _ q (by omega)]
    simp only [Option.bind_some]
    have e1 : wrap64 (wrap64 ((szL (l.take i) : Int) + 1) + wrap64 ((szL (rd_T24 l i).f2 : Int) + 1)) = wrap64 ((szL (l.take (i + 1)) : Int) + 1) := by
      rw [wrap_add, h2, h5]
      congr 1
      push_cast
      omega
    have e2 : wrap64 ((i : Int) + 1) = ((i + 1 : Nat) : Int) := wrap_nat i (by omega)
    rw [e1, e2]
    exact ihd (i + 1) q (by omega) (by omega)
theorem rsize : ∀ (n : Nat) (l : List S24), szL l = n → (∀ x ∈ l, Ok x) → l.length * 40 ≤ 140737488351232 → ∀ (a b : Int) (k : Nat), 2 * szL l + 2 ≤ k → PA.marlineref06_Size.f k a b l = some (wrap64 ((szL l : Int) + 1)) := by
  intro n
  induction n using Nat.strongRecOn with
  | _ n ih =>
    intro l hn hok hl a b k hk
    obtain ⟨k, rfl⟩ : ∃ m, k = m + 1 := ⟨k - 1, by omega⟩
    simp only [PA.marlineref06_Size.f]
    have h := rsize_l n ih l hn hok hl a b l.length 0 k (by omega) (by simpa using by omega)
    have e : wrap64 ((szL (l.take 0) : Int) + 1) = 1 := by simp only [List.take_zero, szL]; exact wrap_one
    rw [e] at h
    exact h
theorem rsize_ev (x : S24) (h : Ok x) : ∀ k, 2 * sz x ≤ k → PA.marlineref06_Size.f k x.f0 x.f1 x.f2 = some (szw x) := by
  intro k hk
  have h5 := sz_eq x
  have := rsize _ x.f2 rfl (fun y hy => h.kid hy) h.len x.f0 x.f1 k (by omega)
  rw [this, szw, h5]
  rfl

/-! ### put -/
end Go.Proofs.Ytggdpeeiioibgaa.E
