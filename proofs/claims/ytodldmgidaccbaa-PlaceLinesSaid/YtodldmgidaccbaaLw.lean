/- Marline, layer 02: any text's lines, and which columns there are. Conditions: as each says. -/
import Derived.Test.YtodldmgidaccbaaLn
namespace Go.Proofs.Ytodldmgidaccbaa.M
open Go.RowKit Go.Proofs.YtodldmgidaccbaaW.PrintWords Go.Proofs.YtodldmgidaccbaaW.PrintLast Go.Proofs.YtodldmgidaccbaaW.PrintMore Go.Proofs.Ytodldmgidaccbaa.Kinds Go.Proofs.Ytodldmgidaccbaa.Obj
attribute [local go_sem] max2_int min2_int max_two min_two
set_option linter.unusedVariables false
set_option linter.unusedSimpArgs false

theorem bg_nl (s : ByteArray) (n : Nat) : ∀ i : Nat, 1 ≤ i → i < (bg s n).length → bt s (rd (bg s n) i - 1) = 10 := by
  induction n with
  | zero => intro i h1 h; simp [bg] at h; omega
  | succ n ih =>
    intro i h1 h
    by_cases hb : bt s n = 10
    · have e : bg s (n + 1) = bg s n ++ [(n : Int) + 1] := by rw [bg, if_pos hb]
      rw [e] at h ⊢
      rw [List.length_append, List.length_singleton] at h
      by_cases hl : i < (bg s n).length
      · rw [rd_app _ _ _ (by omega) (by omega)]
        exact ih i h1 hl
      · obtain rfl : i = (bg s n).length := by omega
        rw [rd_last2, show (n : Int) + 1 - 1 = n by omega]
        exact hb
    · have e : bg s (n + 1) = bg s n := by rw [bg, if_neg hb]
      rw [e] at h ⊢
      exact ih i h1 h
theorem ba_snoc10 (s : ByteArray) (e : Nat) (he : e < s.size) (hb : bt s e = 10) : s.extract 0 e ++ (⟨#[10]⟩ : ByteArray) = s.extract 0 (e + 1) := by
  rw [← ba_ext_snoc s 0 e (Nat.zero_le _)]
  congr 1
  apply ByteArray.ext
  rw [ByteArray.data_extract]
  have h1 : s.data.size = s.size := rfl
  have h2 : (s.data.extract e (e + 1)).size = 1 := by simp; omega
  apply Array.ext
  · rw [h2]; rfl
  · intro i hi1 hi2
    have hi : i = 0 := by rw [h2] at hi2; omega
    subst hi
    have h3 : ((s[e]'he).toNat : Int) = 10 := by rw [← hb]; exact bt_at s (e : Int) he
    have h4 : s[e]'he = 10 := by
      apply UInt8.toNat_inj.1
      have : (s[e]'he).toNat = 10 := by omega
      rw [this]; rfl
    show (10 : UInt8) = (s.data.extract e (e + 1))[0]
    rw [Array.getElem_extract]
    exact h4.symm
/-- the text up to the end of line i. -/
def pre (s : ByteArray) (B : List Int) (i : Nat) : ByteArray := if i = 0 then (⟨#[]⟩ : ByteArray) else s.extract 0 (endN s B i).toNat
theorem pre_all (s : ByteArray) (i : Nat) (h1 : 1 ≤ i) (h : i = (bg s s.size).length) : pre s (bg s s.size) i = s := by
  unfold pre endN
  rw [if_neg (by omega), if_neg (by omega)]
  apply ByteArray.ext
  rw [ByteArray.data_extract]
  exact Array.extract_size
theorem pre_size (s : ByteArray) (i : Nat) : (pre s (bg s s.size) i).size ≤ s.size := by
  unfold pre
  split
  · exact Nat.zero_le _
  · rw [ByteArray.size_extract]; omega
theorem pre_one (s : ByteArray) (h : 0 < (bg s s.size).length) : lineN s (bg s s.size) 1 = pre s (bg s s.size) 1 := by
  unfold lineN pre
  rw [if_neg (by omega)]
  have e : rd (bg s s.size) (1 - 1) = 0 := by
    obtain ⟨ex, he, _⟩ := bg_more s 0 s.size (Nat.zero_le _)
    rw [he]; rfl
  rw [e]; rfl
theorem pre_more (s : ByteArray) (i : Nat) (h1 : 1 ≤ i) (h : i < (bg s s.size).length) : pre s (bg s s.size) i ++ (⟨#[10]⟩ : ByteArray) ++ lineN s (bg s s.size) ((i : Int) + 1) = pre s (bg s s.size) (i + 1) := by
  have hb := line_bd s s.size rfl ((i : Int) + 1) (by omega) (by omega)
  have hb0 := line_bd s s.size rfl (i : Int) (by omega) (by omega)
  rw [show (i : Int) + 1 - 1 = i by omega] at hb
  have hnl := bg_nl s s.size i h1 h
  have hm := bg_mono s s.size (i - 1) (by omega)
  rw [show (((i - 1 : Nat) : Int) + 1) = (i : Int) by omega] at hm
  have h0 := bg_all s s.size _ (rd_mem' (bg s s.size) ((i - 1 : Nat) : Int) (by omega) (by omega))
  have h9 := bg_all s s.size _ (rd_mem' (bg s s.size) (i : Int) (by omega) (by omega))
  have e1 : (endN s (bg s s.size) (i : Int)) = rd (bg s s.size) i - 1 := by unfold endN; rw [if_pos (by omega)]
  unfold pre lineN
  rw [if_neg (by omega), if_neg (by omega), e1, show (i : Int) + 1 - 1 = i by omega]
  rw [ba_snoc10 s _ (by omega) (by rw [show (((rd (bg s s.size) i - 1).toNat : Nat) : Int) = rd (bg s s.size) i - 1 by omega]; exact hnl)]
  rw [show (rd (bg s s.size) (i : Int) - 1).toNat + 1 = (rd (bg s s.size) (i : Int)).toNat by omega]
  rw [show (((i + 1 : Nat) : Int)) = (i : Int) + 1 by push_cast; rfl]
  exact ba_ext_app s 0 _ _ (by omega) (by omega)
theorem lnAt_line (s : ByteArray) (i : Nat) (h : i < (bg s s.size).length) : lnAt s s.size i = lineN s (bg s s.size) ((i : Int) + 1) := by
  unfold lnAt lineN endN
  rw [show (i : Int) + 1 - 1 = i by omega]
  by_cases hk : i + 1 < (bg s s.size).length
  · rw [if_pos hk, if_pos (by omega)]
    congr 1
    have := bg_all s s.size _ (rd_mem' (bg s s.size) ((i : Int) + 1) (by omega) (by omega))
    omega
  · rw [if_neg hk, if_neg (by omega)]
    congr 1

/-! ### what Line and Off say of no line, or no column -/
theorem has_no (g : Nat) (n : Int) (s : ByteArray) (B : List Int) (w : World) (h : Ln w g s B) (hn : ¬ (1 ≤ n ∧ n ≤ B.length)) :
    Calls Try.prog 15 #[.pointer (some ⟨g, 0, none⟩), .int .i64 n] w fun e w' => e = .returned (.bool false) ∧ w' = w := by
  refine (has_is g n s B w h).mono ?_
  rintro e w' ⟨rfl, rfl⟩
  rw [decide_eq_false hn]
  exact ⟨rfl, rfl⟩
theorem line_no (g : Nat) (n : Int) (s : ByteArray) (B : List Int) (w : World) (h : Ln w g s B) (hn : ¬ (1 ≤ n ∧ n ≤ B.length)) :
    Calls Try.prog 10 #[.pointer (some ⟨g, 0, none⟩), .int .i64 n] w fun e w' => e = .returned (.tuple #[.string ⟨#[]⟩, .bool false]) ∧ ∃ k, w' = w.drewN k := by
  have H := Lib.hid h
  have HN := Lib.hid hn
  clear h hn
  go_enter Try.func10, Try.ntmps10
  go_wp2_with fail
  refine (has_no g n s B w H.out HN.out).mono ?_
  rintro e w' ⟨rfl, rfl⟩
  go_wp2_with fail
  go_ret2
  exact ⟨rfl, 0, rfl⟩
set_option maxHeartbeats 4000000 in
theorem off_no1 (g : Nat) (n c : Int) (s : ByteArray) (B : List Int) (w : World) (h : Ln w g s B) (hn : ¬ (1 ≤ n ∧ n ≤ B.length)) :
    Calls Try.prog 9 #[.pointer (some ⟨g, 0, none⟩), .int .i64 n, .int .i64 c] w fun e w' => e = .returned (.tuple #[.int .i64 0, .bool false]) ∧ ∃ k, w' = w.drewN k := by
  have H := Lib.hid h
  have HN := Lib.hid hn
  clear h hn
  go_enter Try.func9, Try.ntmps9
  go_wp2_with fail
  go_quiet ((go_at_call 15; exact Calls.quiet_of_same (has_no g n s B _ (by exact H.out) HN.out)))
  go_wp2_with fail
  go_ret2
  exact ⟨rfl, _, rfl⟩
set_option maxHeartbeats 4000000 in
theorem off_no2 (g : Nat) (n c : Int) (s : ByteArray) (B : List Int) (w : World) (h : Ln w g s B) (hn : 1 ≤ n ∧ n ≤ B.length) (hc : c < 1) :
    Calls Try.prog 9 #[.pointer (some ⟨g, 0, none⟩), .int .i64 n, .int .i64 c] w fun e w' => e = .returned (.tuple #[.int .i64 0, .bool false]) ∧ ∃ k, w' = w.drewN k := by
  have H := Lib.hid h
  have HN := Lib.hid hn
  have g1 : decide (c < 1) = true := decide_eq_true hc
  clear h hn
  go_enter Try.func9, Try.ntmps9
  go_wp2_with fail
  go_quiet ((go_at_call 15; exact Calls.quiet_of_same (has_yes g n s B _ (by exact H.out) HN.out)))
  go_wp2_with fail
  go_ret2
  exact ⟨rfl, _, rfl⟩
set_option maxHeartbeats 4000000 in
set_option maxRecDepth 100000 in
theorem off_no3 (g : Nat) (n c u d : Int) (s : ByteArray) (B : List Int) (w : World) (h : Ln w g s B) (hl : B.length ≤ 1000) (hs : s.size ≤ 1000) (hB : ∀ x ∈ B, 0 ≤ x ∧ x ≤ 1000) (n1 : 1 ≤ n) (n2 : n ≤ B.length) (hu : rd B (n - 1) = u) (hd : endN s B n = d) (hud : 0 ≤ u ∧ u ≤ d ∧ d ≤ s.size) (c1 : 1 ≤ c) (c2 : d - u + 1 < c) :
    Calls Try.prog 9 #[.pointer (some ⟨g, 0, none⟩), .int .i64 n, .int .i64 c] w fun e w' => e = .returned (.tuple #[.int .i64 0, .bool false]) ∧ ∃ k, w' = w.drewN k := by
  have hu39 := Try.underlying39
  have H := Lib.hid h
  have HBB := Lib.hid hB
  obtain ⟨v, hb, h0⟩ := h
  obtain ⟨A0, c0, rfl⟩ := Kd.R_slice h0
  obtain ⟨k0, k1⟩ := cells2 hb
  have j0 : 0 ≤ n - 1 := by omega
  have j1 : n - 1 < (B.length : Int) := by omega
  obtain ⟨ad, ea, hx⟩ := Kd.at_int (Kd.R_reads' h0).2.2 (n - 1) j0 j1
  cases ea
  have HU := Lib.hid hu; have HD := Lib.hid hd
  rw [hu] at hx
  rw [show (n - 1).toNat = n.toNat - 1 by omega] at hx
  have px := eq_true j0
  have qx := eq_true j1
  have e1 : IntKind.i64.wrap (n - 1) = n - 1 := IntWalk.i64_in _ (by omega)
  have e2 : IntKind.i64.wrap (d - u) = d - u := IntWalk.i64_in _ (by omega)
  have e3 : IntKind.i64.wrap (d - u + 1) = d - u + 1 := IntWalk.i64_in _ (by omega)
  have g1 : decide (c < 1) = false := decide_eq_false (by omega)
  have g2 : decide (d - u + 1 < c) = true := decide_eq_true (by omega)
  clear hb h0 hB hu hd
  go_enter Try.func9, Try.ntmps9
  go_wp2_with fail
  go_quiet ((first | (go_at_call 15; exact Calls.quiet_of_same (has_yes g n s B _ (by exact H.out) ⟨n1, n2⟩)) | (go_at_call 16; exact Calls.quiet_of_same (end_val g n d s B _ (by exact H.out) (by omega) HBB.out HD.out))))
  go_wp2_with fail
  go_ret2
  exact ⟨rfl, _, rfl⟩
end Go.Proofs.Ytodldmgidaccbaa.M
