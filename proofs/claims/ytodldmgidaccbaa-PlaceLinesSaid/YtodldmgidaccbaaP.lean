/- Marline, layer 02: the reference's At, what works() needs, and any place's line and column. Conditions: as each says. -/
import Derived.Test.YtodldmgidaccbaaO
import Derived.Test.YtodldmgidaccbaaPAx1
namespace Go.Proofs.Ytodldmgidaccbaa.M
open Go.RowKit Go.Proofs.YtodldmgidaccbaaW.PrintWords Go.Proofs.YtodldmgidaccbaaW.PrintLast Go.Proofs.YtodldmgidaccbaaW.PrintMore Go.Proofs.Ytodldmgidaccbaa.Kinds Go.Proofs.Ytodldmgidaccbaa.Obj
attribute [local go_sem] max2_int min2_int max_two min_two
set_option linter.unusedVariables false
set_option linter.unusedSimpArgs false

/-- where the line begins in which byte n lies. -/
def st (s : ByteArray) : Nat → Int
  | 0 => 0
  | n + 1 => if bt s n = 10 then (n : Int) + 1 else st s n
theorem st_bd (s : ByteArray) : ∀ n : Nat, 0 ≤ st s n ∧ st s n ≤ n
  | 0 => by simp [st]
  | n + 1 => by
    have := st_bd s n
    unfold st
    split <;> push_cast <;> omega
theorem bg_all (s : ByteArray) : ∀ (n : Nat) x, x ∈ bg s n → 0 ≤ x ∧ x ≤ n
  | 0, x, h => by simp [bg] at h; omega
  | n + 1, x, h => by
    unfold bg at h
    have ih := bg_all s n x
    split at h
    · rcases List.mem_append.1 h with h | h
      · have := ih h; push_cast; omega
      · have : x = (n : Int) + 1 := by simpa using h
        push_cast; omega
    · have := ih h; push_cast; omega
theorem bg_more (s : ByteArray) (m : Nat) : ∀ n : Nat, m ≤ n → ∃ ex, bg s n = bg s m ++ ex ∧ ∀ x ∈ ex, (m : Int) < x
  | 0, h => by
    obtain rfl : m = 0 := Nat.le_zero.1 h
    exact ⟨[], by simp, by simp⟩
  | n + 1, h => by
    by_cases e : m = n + 1
    · exact ⟨[], by rw [e]; simp, by simp⟩
    · obtain ⟨ex, h1, h2⟩ := bg_more s m n (by omega)
      by_cases hb : bt s n = 10
      · refine ⟨ex ++ [(n : Int) + 1], by rw [bg, if_pos hb, h1, List.append_assoc], fun x hx => ?_⟩
        rcases List.mem_append.1 hx with hx | hx
        · exact h2 x hx
        · have : x = (n : Int) + 1 := by simpa using hx
          omega
      · exact ⟨ex, by rw [bg, if_neg hb, h1], h2⟩
theorem rd_last (l : List Int) (x : Int) : rd (l ++ [x]) (((l ++ [x]).length : Int) - 1) = x := by
  unfold rd
  have : (((l ++ [x]).length : Int) - 1).toNat = l.length := by simp
  rw [this]; simp
theorem bg_last (s : ByteArray) : ∀ n : Nat, rd (bg s n) (((bg s n).length : Int) - 1) = st s n
  | 0 => rfl
  | n + 1 => by
    unfold bg st
    split
    · exact rd_last _ _
    · exact bg_last s n
theorem rd_app (l m : List Int) (i : Int) (h0 : 0 ≤ i) (h : i < l.length) : rd (l ++ m) i = rd l i := by
  unfold rd
  rw [List.getD_eq_getElem?_getD, List.getD_eq_getElem?_getD, List.getElem?_append_left (by omega)]
theorem rd_mem' (l : List Int) (i : Int) (h0 : 0 ≤ i) (h : i < l.length) : rd l i ∈ l := by
  unfold rd
  rw [List.getD_eq_getElem?_getD, List.getElem?_eq_getElem (show i.toNat < l.length by omega)]
  exact List.getElem_mem _
/-- A line that holds a place is the last one that begins there or before. -/
theorem bg_place (s : ByteArray) (o n : Nat) (ho : o ≤ n) (k : Int) (h1 : 1 ≤ k) (h2 : k ≤ (bg s n).length) (h3 : rd (bg s n) (k - 1) ≤ o) (h4 : k < (bg s n).length → (o : Int) < rd (bg s n) k) :
    k = (bg s o).length ∧ rd (bg s n) (k - 1) = st s o := by
  obtain ⟨ex, he, hx⟩ := bg_more s o n ho
  have hl := (bg_len s o).1
  have hle : (bg s n).length = (bg s o).length + ex.length := by rw [he]; simp
  have ek : k = (bg s o).length := by
    rcases Int.lt_trichotomy k (bg s o).length with h | h | h
    · have h5 := h4 (by omega)
      rw [he, rd_app _ _ _ (by omega) h] at h5
      have := bg_all s o _ (rd_mem' (bg s o) k (by omega) h)
      omega
    · exact h
    · have hm : rd (bg s n) (k - 1) ∈ ex := by
        rw [he]
        unfold rd
        rw [List.getD_eq_getElem?_getD, List.getElem?_append_right (by omega), List.getElem?_eq_getElem (by omega)]
        exact List.getElem_mem _
      have := hx _ hm
      omega
  refine ⟨ek, ?_⟩
  rw [he, rd_app _ _ _ (by omega) (by omega), ek, bg_last]

/-! ### the reference -/
theorem l0_is (s : ByteArray) (O : Nat) (hO : O ≤ s.size) (hs : s.size ≤ 1000) : ∀ (d k n : Nat), n + d = O → d < k →
    PA.marlineref02_At.l0 k s (O : Int) ((bg s n).length : Int) ((n : Int) - st s n + 1) (n : Int) = some (((bg s O).length : Int), (O : Int) - st s O + 1)
  | 0, k, n, hn, hk => by
    obtain ⟨k, rfl⟩ : ∃ m, k = m + 1 := ⟨k - 1, by omega⟩
    obtain rfl : n = O := by omega
    simp only [PA.marlineref02_At.l0]
    rw [if_neg (by omega)]
  | d + 1, k, n, hn, hk => by
    obtain ⟨k, rfl⟩ : ∃ m, k = m + 1 := ⟨k - 1, by omega⟩
    simp only [PA.marlineref02_At.l0]
    have hl := (bg_len s n).2
    have hb := st_bd s n
    rw [if_pos (by omega), if_pos (by omega), if_pos (by omega)]
    have e8 : wrap64 ((n : Int) + 1) = ((n + 1 : Nat) : Int) := by unfold wrap64; omega
    have ih := l0_is s O hO hs d k (n + 1) (by omega) (by omega)
    by_cases h10 : bt s n = 10
    · rw [if_pos h10, e8]
      have e6 : wrap64 (((bg s n).length : Int) + 1) = ((bg s (n + 1)).length : Int) := by
        have : bg s (n + 1) = bg s n ++ [(n : Int) + 1] := by rw [bg, if_pos h10]
        rw [this, List.length_append, List.length_singleton]
        unfold wrap64; push_cast; omega
      have e7 : (1 : Int) = ((n + 1 : Nat) : Int) - st s (n + 1) + 1 := by rw [st, if_pos h10]; push_cast; omega
      rw [e6]
      have goal : ∀ z : Int, z = ((n + 1 : Nat) : Int) - st s (n + 1) + 1 → PA.marlineref02_At.l0 k s (O : Int) ((bg s (n + 1)).length : Int) z ((n + 1 : Nat) : Int) = some (((bg s O).length : Int), (O : Int) - st s O + 1) := fun z hz => by rw [hz]; exact ih
      exact goal 1 e7
    · rw [if_neg h10, e8]
      have e6 : bg s (n + 1) = bg s n := by rw [bg, if_neg h10]
      have e5 : st s (n + 1) = st s n := by rw [st, if_neg h10]
      have e7 : wrap64 ((n : Int) - st s n + 1 + 1) = ((n + 1 : Nat) : Int) - st s (n + 1) + 1 := by rw [e5]; unfold wrap64; push_cast; omega
      rw [e7, ← e6]
      exact ih
theorem ref_ev (s : ByteArray) (off o m : Int) (hs : s.size ≤ 1000) (hmm : (if (s.size : Int) < off then (s.size : Int) else off) = m) (ho : (if 0 < m then m else 0) = o) :
    PA.marlineref02_At.f (s.size + 3) s off = some (((bg s o.toNat).length : Int), o - st s o.toNat + 1) := by
  have o0 : 0 ≤ o ∧ o ≤ s.size := by split at ho <;> split at hmm <;> omega
  obtain ⟨O, hO⟩ : ∃ O : Nat, o = O := ⟨o.toNat, by omega⟩
  have hl := l0_is s O (by omega) hs O (s.size + 1) 0 (by omega) (by omega)
  have e0 : (bg s 0).length = 1 := rfl
  have e1 : ((0 : Nat) : Int) - st s 0 + 1 = 1 := rfl
  rw [e0, e1] at hl
  rw [hO, Int.toNat_natCast]
  unfold PA.marlineref02_At.f
  by_cases h1 : off < 0
  · have : O = 0 := by split at ho <;> split at hmm <;> omega
    subst this
    rw [if_pos h1]
    simp only [PA.marlineref02_At.j0, PA.marlineref02_At.j1]
    rw [if_neg (by omega)]
    exact hl
  · rw [if_neg h1]
    simp only [PA.marlineref02_At.j0, PA.marlineref02_At.j1]
    by_cases h2 : off > (s.size : Int)
    · have : O = s.size := by split at ho <;> split at hmm <;> omega
      subst this
      rw [if_pos h2]
      exact hl
    · have : off = O := by split at ho <;> split at hmm <;> omega
      rw [if_neg h2, this]
      exact hl
theorem ref_is (s : ByteArray) (off o m : Int) (w : World) (hs : s.size ≤ 1000) (hmm : (if (s.size : Int) < off then (s.size : Int) else off) = m) (ho : (if 0 < m then m else 0) = o) :
    Calls Try.prog 8 #[.string s, .int .i64 off] w fun e w' => e = .returned (.tuple #[.int .i64 (bg s o.toNat).length, .int .i64 (o - st s o.toNat + 1)]) ∧ Drawn0 w w' :=
  PA.marlineref02_At.calls _ s off _ _ w (ref_ev s off o m hs hmm ho)

/-- At, as the reference has it. -/
theorem at_ref (g : Nat) (off o m : Int) (s : ByteArray) (w : World) (h : Ln w g s (bg s s.size)) (hs : s.size ≤ 400) (hmm : (if (s.size : Int) < off then (s.size : Int) else off) = m) (ho : (if 0 < m then m else 0) = o) :
    Calls Try.prog 7 #[.pointer (some ⟨g, 0, none⟩), .int .i64 off] w fun e w' => e = .returned (.tuple #[.int .i64 (bg s o.toNat).length, .int .i64 (o - st s o.toNat + 1)]) ∧ Below w.heap.size w w' := by
  have hl := bg_len s s.size
  have o0 : 0 ≤ o ∧ o ≤ s.size := by split at ho <;> split at hmm <;> omega
  refine (at_is g off o m s (bg s s.size) w h (by omega) (by omega) (by omega) (fun x hx => by have := bg_all s s.size x hx; omega) ?_ hmm ho).mono ?_
  · obtain ⟨ex, he, _⟩ := bg_more s 0 s.size (Nat.zero_le _)
    rw [he]; rfl
  · rintro e w' ⟨k, rfl, h1, h2, h3, h4, hb⟩
    obtain ⟨e1, e2⟩ := bg_place s o.toNat s.size (by omega) k h1 h2 (by omega) (fun q => by have := h4 q; omega)
    rw [e2, e1]
    exact ⟨rfl, hb⟩
end Go.Proofs.Ytodldmgidaccbaa.M
