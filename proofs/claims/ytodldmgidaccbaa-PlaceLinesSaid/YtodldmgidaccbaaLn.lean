/- Marline, layer 02: the reference's lines, in plain Lean; Line and Off, all ways. Conditions: as each says. -/
import Derived.Test.YtodldmgidaccbaaTells
namespace Go.Proofs.Ytodldmgidaccbaa.M
open Go.RowKit Go.Proofs.YtodldmgidaccbaaW.PrintWords Go.Proofs.YtodldmgidaccbaaW.PrintLast Go.Proofs.YtodldmgidaccbaaW.PrintMore Go.Proofs.Ytodldmgidaccbaa.Kinds Go.Proofs.Ytodldmgidaccbaa.Obj
attribute [local go_sem] max2_int min2_int max_two min_two
set_option linter.unusedVariables false
set_option linter.unusedSimpArgs false

theorem rd_last2 (l : List Int) (x : Int) : rd (l ++ [x]) (l.length : Int) = x := by
  unfold rd
  simp
theorem bg_mono (s : ByteArray) (n : Nat) : ∀ i : Nat, i + 1 < (bg s n).length → rd (bg s n) i < rd (bg s n) ((i : Int) + 1) := by
  induction n with
  | zero => intro i h; simp [bg] at h
  | succ n ih =>
    intro i h
    by_cases hb : bt s n = 10
    · have e : bg s (n + 1) = bg s n ++ [(n : Int) + 1] := by rw [bg, if_pos hb]
      rw [e] at h ⊢
      rw [List.length_append, List.length_singleton] at h
      rw [rd_app _ _ _ (by omega) (by omega)]
      by_cases hl : i + 1 < (bg s n).length
      · rw [rd_app _ _ _ (by omega) (by omega)]
        exact ih i hl
      · have hx : rd (bg s n ++ [(n : Int) + 1]) ((i : Int) + 1) = (n : Int) + 1 := by
          rw [show ((i : Int) + 1) = ((bg s n).length : Int) by omega]
          exact rd_last2 _ _
        rw [hx]
        have := bg_all s n _ (rd_mem' (bg s n) i (by omega) (by omega))
        omega
    · have e : bg s (n + 1) = bg s n := by rw [bg, if_neg hb]
      rw [e] at h ⊢
      exact ih i h
/-- line n (from 1 on) of a text. -/
def lineN (s : ByteArray) (B : List Int) (n : Int) : ByteArray := s.extract (rd B (n - 1)).toNat (endN s B n).toNat
/-- what a line's begin and end are. -/
theorem line_bd (s : ByteArray) (m : Nat) (hm : m = s.size) (n : Int) (h1 : 1 ≤ n) (h2 : n ≤ (bg s m).length) : 0 ≤ rd (bg s m) (n - 1) ∧ rd (bg s m) (n - 1) ≤ endN s (bg s m) n ∧ endN s (bg s m) n ≤ s.size := by
  have a := bg_all s m _ (rd_mem' (bg s m) (n - 1) (by omega) (by omega))
  unfold endN
  split
  · rename_i hlt
    have b := bg_all s m _ (rd_mem' (bg s m) n (by omega) (by omega))
    have c := bg_mono s m (n - 1).toNat (by omega)
    rw [show (((n - 1).toNat : Nat) : Int) = n - 1 by omega, show n - 1 + 1 = n by omega] at c
    omega
  · omega
/-- the j-th line of the first n bytes. -/
def lnAt (s : ByteArray) (n j : Nat) : ByteArray := s.extract (rd (bg s n) j).toNat (if j + 1 < (bg s n).length then (rd (bg s n) ((j : Int) + 1)).toNat - 1 else n)
def lnsL (s : ByteArray) (n : Nat) : List ByteArray := (List.range (bg s n).length).map fun j => lnAt s n j
theorem lnsL_len (s : ByteArray) (n : Nat) : (lnsL s n).length = (bg s n).length := by simp [lnsL]
theorem lnsL_at (s : ByteArray) (n j : Nat) (h : j < (bg s n).length) : (lnsL s n)[j]? = some (lnAt s n j) := by simp [lnsL, h]
theorem ba_ext_empty (s : ByteArray) (a : Nat) : s.extract a a = (⟨#[]⟩ : ByteArray) := by
  apply ByteArray.ext
  simp [ByteArray.data_extract]
theorem lnsL_nl (s : ByteArray) (n : Nat) (hb : bt s n = 10) : lnsL s (n + 1) = lnsL s n ++ [(⟨#[]⟩ : ByteArray)] := by
  have e : bg s (n + 1) = bg s n ++ [(n : Int) + 1] := by rw [bg, if_pos hb]
  have hl := (bg_len s n).1
  apply List.ext_getElem?
  intro j
  by_cases hj : j < (bg s n).length
  · rw [lnsL_at s (n + 1) j (by rw [e]; simp; omega), List.getElem?_append_left (by rw [lnsL_len]; exact hj), lnsL_at s n j hj]
    congr 1
    unfold lnAt
    rw [e, List.length_append, List.length_singleton, if_pos (by omega), rd_app _ _ _ (by omega) (by omega)]
    by_cases hk : j + 1 < (bg s n).length
    · rw [if_pos hk, rd_app _ _ _ (by omega) (by omega)]
    · rw [if_neg hk]
      have : rd (bg s n ++ [(n : Int) + 1]) ((j : Int) + 1) = (n : Int) + 1 := by
        rw [show ((j : Int) + 1) = ((bg s n).length : Int) by omega]
        exact rd_last2 _ _
      rw [this]
      congr 1
  · by_cases hk : j = (bg s n).length
    · subst hk
      rw [lnsL_at s (n + 1) _ (by rw [e]; simp), List.getElem?_append_right (by rw [lnsL_len]; omega), lnsL_len]
      simp only [Nat.sub_self, List.getElem?_cons_zero]
      congr 1
      unfold lnAt
      rw [e, List.length_append, List.length_singleton, if_neg (by omega)]
      have : rd (bg s n ++ [(n : Int) + 1]) (((bg s n).length : Nat) : Int) = (n : Int) + 1 := by
        exact rd_last2 _ _
      rw [this]
      exact ba_ext_empty s _
    · rw [List.getElem?_eq_none (by rw [lnsL_len, e]; simp; omega), List.getElem?_eq_none (by simp [lnsL_len]; omega)]
theorem ba_ext_snoc (s : ByteArray) (a n : Nat) (h : a ≤ n) : s.extract a n ++ s.extract n (n + 1) = s.extract a (n + 1) := by
  apply ByteArray.ext
  simp only [ByteArray.data_append, ByteArray.data_extract]
  rw [Array.extract_append_extract]
  congr 1 <;> omega
theorem ba_ext_app (s : ByteArray) (a n m : Nat) (h : a ≤ n) (k : n ≤ m) : s.extract a n ++ s.extract n m = s.extract a m := by
  apply ByteArray.ext
  simp only [ByteArray.data_append, ByteArray.data_extract]
  rw [Array.extract_append_extract]
  congr 1 <;> omega
theorem lnsL_ch (s : ByteArray) (n : Nat) (hb : ¬ bt s n = 10) : lnsL s (n + 1) = (lnsL s n).set ((bg s n).length - 1) ((lnsL s n).getD ((bg s n).length - 1) ByteArray.empty ++ s.extract n (n + 1)) := by
  have e : bg s (n + 1) = bg s n := by rw [bg, if_neg hb]
  have hl := (bg_len s n).1
  apply List.ext_getElem?
  intro j
  by_cases hj : j < (bg s n).length
  · rw [lnsL_at s (n + 1) j (by rw [e]; exact hj)]
    by_cases hk : j + 1 < (bg s n).length
    · rw [List.getElem?_set_ne (by omega), lnsL_at s n j hj]
      congr 1
      unfold lnAt
      rw [e, if_pos hk, if_pos hk]
    · obtain rfl : j = (bg s n).length - 1 := by omega
      rw [List.getElem?_set_self (by rw [lnsL_len]; omega), List.getD_eq_getElem?_getD, lnsL_at s n _ hj]
      congr 1
      simp only [Option.getD_some]
      unfold lnAt
      rw [e, if_neg hk, if_neg hk]
      have a := bg_all s n _ (rd_mem' (bg s n) (((bg s n).length - 1 : Nat) : Int) (by omega) (by omega))
      exact (ba_ext_snoc s _ n (by omega)).symm
  · rw [List.getElem?_eq_none (by rw [lnsL_len, e]; omega), List.getElem?_eq_none (by simp [lnsL_len]; omega)]

theorem lns0_is (s : ByteArray) (hs : s.size ≤ 1000) : ∀ (d k n : Nat), n + d = s.size → d < k → PA.marlineref02_Lines.l0 k s (lnsL s n) (n : Int) = some (lnsL s s.size)
  | 0, k, n, hn, hk => by
    obtain ⟨k, rfl⟩ : ∃ m, k = m + 1 := ⟨k - 1, by omega⟩
    obtain rfl : n = s.size := by omega
    simp only [PA.marlineref02_Lines.l0]
    rw [if_neg (by omega)]
  | d + 1, k, n, hn, hk => by
    obtain ⟨k, rfl⟩ : ∃ m, k = m + 1 := ⟨k - 1, by omega⟩
    simp only [PA.marlineref02_Lines.l0]
    have hl := bg_len s n
    have ih := lns0_is s hs d k (n + 1) (by omega) (by omega)
    have e8 : wrap64 ((n : Int) + 1) = ((n + 1 : Nat) : Int) := by unfold wrap64; omega
    have e9 : wrap64 (((bg s n).length : Int) - 1) = (((bg s n).length - 1 : Nat) : Int) := by unfold wrap64; omega
    rw [if_pos (by omega), if_pos (by omega), e8, lnsL_len, e9]
    by_cases h10 : bt s n = 10
    · rw [if_pos h10, if_pos (by omega), ← lnsL_nl s n h10]
      exact ih
    · have hsz : ((lnsL s n).getD ((bg s n).length - 1) ByteArray.empty).size ≤ 1000 := by
        rw [List.getD_eq_getElem?_getD, lnsL_at s n _ (by omega)]
        simp only [Option.getD_some, lnAt, ByteArray.size_extract]
        omega
      rw [if_neg h10, if_pos (by omega), if_pos (by omega), if_pos (by omega), if_pos (by omega), if_pos (by
        simp only [rdOf, Int.toNat_natCast, ByteArray.size_extract]
        omega)]
      have e10 : (lnsL s n).set ((((bg s n).length - 1 : Nat) : Int)).toNat (rdOf ByteArray.empty (lnsL s n) (((bg s n).length - 1 : Nat) : Int) ++ s.extract ((n : Int)).toNat (((n + 1 : Nat) : Int)).toNat) = lnsL s (n + 1) := by
        simp only [rdOf, Int.toNat_natCast]
        exact (lnsL_ch s n h10).symm
      rw [e10]
      exact ih
theorem lines_is (s : ByteArray) (w : World) (hs : s.size ≤ 400) :
    Calls Try.prog 12 #[.string s] w fun e w' => ∃ v, e = .returned v ∧ Row Kd.string 9 w' v (lnsL s s.size) ∧ Below w.heap.size w w' := by
  refine (PA.marlineref02_Lines.calls (s.size + 1) s (lnsL s s.size) w ?_).mono ?_
  · unfold PA.marlineref02_Lines.f
    have h := lns0_is s (by omega) s.size (s.size + 1) 0 (by omega) (by omega)
    have e : lnsL s 0 = [(⟨#[]⟩ : ByteArray)] := by
      show [lnAt s 0 0] = _
      unfold lnAt
      exact congrArg (fun z => [z]) (ba_ext_empty s 0)
    rw [e] at h
    exact h
  · rintro e w' ⟨v, rfl, h1, h2⟩
    exact ⟨v, rfl, Kd.R_lower (base' := 0) h1 (Nat.zero_le _), h2⟩

set_option maxHeartbeats 4000000 in
set_option maxRecDepth 100000 in
theorem line_yes (g : Nat) (n u d : Int) (s : ByteArray) (B : List Int) (w : World) (h : Ln w g s B) (hl : B.length ≤ 1000) (hs : s.size ≤ 1000) (hB : ∀ x ∈ B, 0 ≤ x ∧ x ≤ 1000) (n1 : 1 ≤ n) (n2 : n ≤ B.length) (hu : rd B (n - 1) = u) (hd : endN s B n = d) (hud : 0 ≤ u ∧ u ≤ d ∧ d ≤ s.size) :
    Calls Try.prog 10 #[.pointer (some ⟨g, 0, none⟩), .int .i64 n] w fun e w' => e = .returned (.tuple #[.string (s.extract u.toNat d.toNat), .bool true]) ∧ ∃ k, w' = w.drewN k := by
  have hu39 := Try.underlying39
  have H := Lib.hid h
  have HBB := Lib.hid hB
  obtain ⟨v, hb, h0⟩ := h
  obtain ⟨A0, c0, rfl⟩ := Kd.R_slice h0
  obtain ⟨k0, k1⟩ := cells2 hb
  have j0 : 0 ≤ n - 1 := by omega
  have j1 : n - 1 < (B.length : Int) := by omega
  obtain ⟨ad, ea, hx⟩ := Kd.at_int (Kd.R_reads' h0).2.2 (n - 1) j0 j1
  cases ea
  have HD := Lib.hid hd
  rw [hu] at hx
  rw [show (n - 1).toNat = n.toNat - 1 by omega] at hx
  obtain ⟨q1, q2, q3⟩ := hud
  have px := eq_true j0
  have qx := eq_true j1
  have p1 := eq_true q1
  have p2 := eq_true q2
  have p3 := eq_true q3
  have e1 : IntKind.i64.wrap (n - 1) = n - 1 := IntWalk.i64_in _ (by omega)
  clear hb h0 hB hu hd
  go_enter Try.func10, Try.ntmps10
  go_wp2_with fail
  refine (has_yes g n s B w H.out ⟨n1, n2⟩).mono ?_
  rintro e w' ⟨rfl, rfl⟩
  go_wp2_with fail
  go_quiet ((go_at_call 16; exact Calls.quiet_of_same (end_val g n d s B _ (by exact H.out) (by omega) HBB.out HD.out)))
  go_wp2_with fail
  go_ret2
  exact ⟨rfl, _, rfl⟩
end Go.Proofs.Ytodldmgidaccbaa.M
