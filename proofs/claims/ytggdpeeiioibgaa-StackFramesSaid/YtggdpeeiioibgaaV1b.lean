/- Marline, values: sizes by the program, and a value with another one: printed functions. Conditions: as each says. -/
import Derived.Test.YtggdpeeiioibgaaV1
import Derived.Test.YtggdpeeiioibgaaPAx1b
namespace Go.Proofs.Ytggdpeeiioibgaa.E
open Go.RowKit Go.Proofs.YtggdpeeiioibgaaW.PrintWords Go.Proofs.YtggdpeeiioibgaaW.PrintLast Go.Proofs.YtggdpeeiioibgaaW.PrintMore Go.Proofs.Ytggdpeeiioibgaa.Kinds Go.Proofs.Ytggdpeeiioibgaa.Obj
set_option linter.unusedVariables false

theorem vsize_l (n : Nat) (ih : ∀ m, m < n → ∀ (l : List S24), szL l = m → (∀ x ∈ l, Ok x) → l.length * 40 ≤ 140737488351232 → ∀ (a b : Int) (k : Nat), 2 * szL l + 2 ≤ k → PA.val_Size.f k a b l = some (wrap64 ((szL l : Int) + 1)))
    (l : List S24) (hn : szL l = n) (hok : ∀ x ∈ l, Ok x) (hl : l.length * 40 ≤ 140737488351232) : ∀ (d i q : Nat), i + d = l.length → 2 * szL (l.drop i) + 1 ≤ q →
    PA.val_Size.l0 q (wrap64 ((szL (l.take i) : Int) + 1)) l (l.length : Int) (i : Int) = some (wrap64 ((szL l : Int) + 1)) := by
  intro d
  induction d with
  | zero =>
    intro i q hi hq
    obtain ⟨q, rfl⟩ : ∃ m, q = m + 1 := ⟨q - 1, by omega⟩
    simp only [PA.val_Size.l0]
    rw [if_neg (by omega), List.take_of_length_le (by omega)]
  | succ d ihd =>
    intro i q hi hq
    obtain ⟨q, rfl⟩ : ∃ m, q = m + 1 := ⟨q - 1, by omega⟩
    have hlt : i < l.length := by omega
    have h1 := szL_drop l i hlt
    have h2 := szL_take l i hlt
    have h3 := szL_split l i
    have hm := rd_mem l i hlt
    have h4 := szL_mem l _ hm
    have h5 := sz_eq (rd_T24 l i)
    have h6 := szL_len l
    simp only [PA.val_Size.l0]
    rw [if_pos (by omega), if_pos (by omega), if_pos (by omega)]
    rw [ih (szL (rd_T24 l i).f2) (by omega) (rd_T24 l i).f2 rfl (fun x hx => (hok _ hm).kid hx) (hok _ hm).len _ _ q (by omega)]
    simp only [Option.bind_some]
    have e1 : wrap64 (wrap64 ((szL (l.take i) : Int) + 1) + wrap64 ((szL (rd_T24 l i).f2 : Int) + 1)) = wrap64 ((szL (l.take (i + 1)) : Int) + 1) := by
      rw [wrap_add, h2, h5]
      congr 1
      push_cast
      omega
    have e2 : wrap64 ((i : Int) + 1) = ((i + 1 : Nat) : Int) := wrap_nat i (by omega)
    rw [e1, e2]
    exact ihd (i + 1) q (by omega) (by omega)
theorem vsize : ∀ (n : Nat) (l : List S24), szL l = n → (∀ x ∈ l, Ok x) → l.length * 40 ≤ 140737488351232 → ∀ (a b : Int) (k : Nat), 2 * szL l + 2 ≤ k → PA.val_Size.f k a b l = some (wrap64 ((szL l : Int) + 1)) := by
  intro n
  induction n using Nat.strongRecOn with
  | _ n ih =>
    intro l hn hok hl a b k hk
    obtain ⟨k, rfl⟩ : ∃ m, k = m + 1 := ⟨k - 1, by omega⟩
    simp only [PA.val_Size.f]
    have h := vsize_l n ih l hn hok hl l.length 0 k (by omega) (by simpa using by omega)
    have e : wrap64 ((szL (l.take 0) : Int) + 1) = 1 := by simp only [List.take_zero, szL]; exact wrap_one
    rw [e] at h
    exact h
theorem vsize_ev (x : S24) (h : Ok x) : ∀ k, 2 * sz x ≤ k → PA.val_Size.f k x.f0 x.f1 x.f2 = some (szw x) := by
  intro k hk
  have h5 := sz_eq x
  have := vsize _ x.f2 rfl (fun y hy => h.kid hy) h.len x.f0 x.f1 k (by omega)
  rw [this, szw, h5]
  rfl
theorem put_ev : ∀ (m : List S38) (x y : S24), Ok x → (at_ x m).2 = 0 → ∀ k, m.length + 1 ≤ k →
    PA.path_put.f k x.f0 x.f1 x.f2 y.f0 y.f1 y.f2 m = some ((put_ x y m).f0, (put_ x y m).f1, (put_ x y m).f2)
  | [], x, y, _, _, k, hk => by
    obtain ⟨k, rfl⟩ : ∃ q, k = q + 1 := ⟨k - 1, by omega⟩
    simp only [PA.path_put.f]
    rw [if_pos (by simp)]
    rfl
  | z :: m, x, y, hx, h, k, hk => by
    obtain ⟨k, rfl⟩ : ∃ q, k = q + 1 := ⟨k - 1, by omega⟩
    obtain ⟨h1, h2⟩ := at_cons x z m h
    obtain ⟨b0, b1⟩ := leads_bd h1
    rw [h2] at h
    have hlen := hx.len
    have ez : rd_T38 (z :: m) 0 = z := rfl
    have hkid : Ok (rd_T24 x.f2 z.f1) := hx.kid (by
      have := rd_mem x.f2 z.f1.toNat (by omega)
      rw [show ((z.f1.toNat : Nat) : Int) = z.f1 by omega] at this
      exact this)
    have ih := put_ev m (rd_T24 x.f2 z.f1) y hkid h k (by simpa using hk)
    simp only [PA.path_put.f]
    rw [if_neg (by simp; omega), ez]
    simp only [Clone.f]
    rw [if_pos (by omega)]
    simp only [Option.bind_some]
    rw [if_pos (by simp <;> omega), if_pos b0, if_pos b1, if_pos (by simp <;> omega)]
    have e : (z :: m).drop 1 = m := rfl
    rw [e, ih]
    simp only [Option.bind_some, s24_eta]
    rfl
end Go.Proofs.Ytggdpeeiioibgaa.E
