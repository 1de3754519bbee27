/- Marline, layer 01: the reference's Read and Text; any number's text and the number of it: the walk. Conditions: as each says. -/
import Derived.Test.YtacpolhilhindaaDoorWt
namespace Go.Proofs.YtacpolhilhindaaDoor.E
open Go.RowKit Go.Proofs.YtacpolhilhindaaDoorW.PrintWords Go.Proofs.YtacpolhilhindaaDoorW.PrintLast Go.Proofs.YtacpolhilhindaaDoorW.PrintMore Go.Proofs.YtacpolhilhindaaDoor.Obj
set_option linter.unusedVariables false
set_option linter.unusedSimpArgs false

/-- what is left is told by what has come, as the reference reckons. -/
def Left2 (l : List UInt8) (k : Nat) (n : Int) (far : Bool) : Prop :=
  ∃ v, val l 0 = val (l.drop k) v ∧ 0 ≤ v ∧ (far = true → 9223372036854775807 < v) ∧ (far = false → n = v) ∧ 0 ≤ n ∧ n ≤ 10000000000000000009
theorem left2_bad {l r : List UInt8} {k : Nat} {m : Int} {bg : Bool} {ch : UInt8} (h : Left2 l k m bg) (h0 : l ≠ []) (hd : l.drop k = ch :: r) (hc : ¬ (48 ≤ ch.toNat ∧ ch.toNat ≤ 57)) : readS l = (0, 1) := by
  obtain ⟨v, h1, _⟩ := h
  rw [hd] at h1
  simp only [val] at h1
  rw [if_neg hc] at h1
  unfold readS
  rw [if_neg h0, h1]
theorem left2_end {l : List UInt8} {k : Nat} {m : Int} {bg : Bool} (h : Left2 l k m bg) (h0 : l ≠ []) (hd : l.drop k = []) : readS l = if bg = true ∨ 9223372036854775808 ≤ m then (0, 2) else (m, 0) := by
  obtain ⟨v, h1, h2, h3, h4, h5, h6⟩ := h
  rw [hd] at h1
  simp only [val] at h1
  unfold readS
  rw [if_neg h0, h1]
  cases bg
  · obtain rfl := h4 rfl
    by_cases h7 : 9223372036854775808 ≤ m
    · rw [if_pos (.inr h7)]; exact if_neg (by omega)
    · rw [if_neg (fun e => e.elim (by decide) h7)]; exact if_pos (by omega)
  · have := h3 rfl
    rw [if_pos (.inl rfl)]
    exact if_neg (by omega)
theorem left2_step {l : List UInt8} {k : Nat} {m : Int} {bg : Bool} {ch : UInt8} (h : Left2 l k m bg) (hd : l.drop k = ch :: l.drop (k + 1)) (hc : 48 ≤ ch.toNat ∧ ch.toNat ≤ 57) :
    (bg = true ∨ 1000000000000000000 < m → Left2 l (k + 1) m true) ∧
    (bg = false → ¬ 1000000000000000000 < m → Left2 l (k + 1) (10 * m + ((ch.toNat : Int) - 48)) false) := by
  obtain ⟨v, h1, h2, h3, h4, h5, h6⟩ := h
  rw [hd] at h1
  simp only [val] at h1
  rw [if_pos hc] at h1
  constructor
  · intro hb
    refine ⟨10 * v + ((ch.toNat : Int) - 48), h1, by omega, fun _ => ?_, fun e => absurd e (by decide), h5, h6⟩
    cases bg
    · obtain rfl := h4 rfl
      have := hb.resolve_left (by decide)
      omega
    · have := h3 rfl
      omega
  · intro hb hn
    obtain rfl := h4 hb
    exact ⟨10 * m + ((ch.toNat : Int) - 48), h1, by omega, fun e => absurd e (by decide), fun _ => rfl, by omega, by omega⟩
set_option maxHeartbeats 4000000 in
set_option maxRecDepth 100000 in
theorem refRead_is (s : ByteArray) (w : World) (hs : s.size ≤ 140737488355328) :
    Calls Tryd.prog 16 #[.string s] w fun e w' => e = .returned (.tuple #[.int .i64 (readS s.data.toList).1, .int .i64 (readS s.data.toList).2]) ∧ Below w.heap.size w w' := by
  obtain ⟨l, hl⟩ : ∃ l, s.data.toList = l := ⟨_, rfl⟩
  have hlen : s.size = l.length := by rw [← hl]; rfl
  by_cases h0 : l = []
  · have h1 : s.toList.isEmpty = true := by rw [ByteArray.toList_eq, hl, h0]; rfl
    have h2 : readS s.data.toList = (0, 1) := by rw [hl, h0]; rfl
    rw [h2]
    clear hl h2 hlen h0
    go_enter Tryd.func16, Tryd.ntmps16
    go_wp2_with fail
    go_ret2
    exact ⟨rfl, Below.refl _ _⟩
  · have h1 : s.toList.isEmpty = false := by rw [ByteArray.toList_eq, hl]; cases l <;> simp_all
    rw [hl]
    obtain ⟨r, hr⟩ : ∃ r, readS l = r := ⟨_, rfl⟩
    rw [hr]
    obtain ⟨r1, r2⟩ := r
    have HR := Lib.hid hr
    have H0 := Lib.hid h0
    have HN := Lib.hid hlen
    have HL := Lib.hid hl
    clear hlen hl hr h0
    go_enter Tryd.func16, Tryd.ntmps16
    go_wp2_with fail
    go_loop [4, 5, 6] (fun n b i => ∃ (k : Nat) (m : Int) (bg : Bool), i = .int .i64 k ∧ k ≤ s.size ∧ n = .int .u64 m ∧ b = .bool bg ∧ 0 ≤ m ∧ m ≤ 10000000000000000009 ∧ Hid (Left2 l k m bg)) (fun _ _ i => s.size - (intOf i).toNat)
    case atStart => exact ⟨0, 0, false, rfl, by omega, rfl, rfl, by omega, by omega, Lib.hid ⟨0, rfl, by omega, fun h => absurd h (by decide), fun _ => rfl, by omega, by omega⟩⟩
    case round =>
      obtain ⟨k, m, bg, rfl, hk, rfl, rfl, hm0, hm1, LF⟩ := hrel
      by_cases hx : (k : Int) < (s.size : Int)
      · have hlt : k < s.size := by omega
        obtain ⟨c, hc⟩ : ∃ c : Int, (s[k].toNat : Int) = c := ⟨_, rfl⟩
        have hcb : 0 ≤ c ∧ c ≤ 255 := by rw [← hc]; exact byte_bd _
        have hge : s[k] = s.data.toList.getD k 0 := by
          rw [List.getD_eq_getElem?_getD, List.getElem?_eq_getElem (by exact hlt)]; rfl
        have hdr : l.drop k = (s.data.toList.getD k 0) :: l.drop (k + 1) := by rw [HL.out]; exact drop_get l k (by rw [← HN.out]; exact hlt)
        have hc2 : ((s.data.toList.getD k 0).toNat : Int) = c := by rw [← hge]; exact hc
        have HC := Lib.hid hc2; have HD := Lib.hid hdr
        have hc0 := hcb.1; have hc1 := hcb.2
        have ec : 0 ≤ (c - 48) → True := fun _ => trivial
        clear hdr hcb hge hc2 ec
        by_cases c1 : c < 48
        · have p1 : decide (c < 48) = true := decide_eq_true c1
          go_wp2_with fail
          go_ret2
          exact ⟨ret_two ((left2_bad LF.out H0.out HD.out (by have := HC.out; omega)).symm.trans HR.out), Below.refl _ _⟩
        · by_cases c2 : 57 < c
          · have p1 : decide (c < 48) = false := decide_eq_false c1
            have p2 : decide (57 < c) = true := decide_eq_true c2
            go_wp2_with fail
            go_ret2
            exact ⟨ret_two ((left2_bad LF.out H0.out HD.out (by have := HC.out; omega)).symm.trans HR.out), Below.refl _ _⟩
          · have p1 : decide (c < 48) = false := decide_eq_false c1
            have p2 : decide (57 < c) = false := decide_eq_false c2
            by_cases c3 : 1000000000000000000 < m
            · have p3 : decide (1000000000000000000 < m) = true := decide_eq_true c3
              go_wp2_with fail
              go_round
              case rel => exact ⟨k + 1, m, true, by push_cast; rfl, by omega, rfl, rfl, hm0, hm1, Lib.hid ((left2_step LF.out HD.out (by have := HC.out; omega)).1 (.inr c3))⟩
              case measure => simp [intOf]; omega
            · have p3 : decide (1000000000000000000 < m) = false := decide_eq_false c3
              cases bg
              · go_wp2_with fail
                go_round
                case rel => exact ⟨k + 1, 10 * m + (c - 48), false, by push_cast; rfl, by omega, rfl, rfl, by omega, by omega, Lib.hid (by have h := (left2_step LF.out HD.out (by have := HC.out; omega)).2 rfl c3; rw [HC.out] at h; exact h)⟩
                case measure => simp [intOf]; omega
              · go_wp2_with fail
                go_round
                case rel => exact ⟨k + 1, m, true, by push_cast; rfl, by omega, rfl, rfl, hm0, hm1, Lib.hid ((left2_step LF.out HD.out (by have := HC.out; omega)).1 (.inl rfl))⟩
                case measure => simp [intOf]; omega
      · have hend := left2_end LF.out H0.out (List.drop_of_length_le (by rw [← HN.out]; omega))
        cases bg
        · by_cases c4 : 9223372036854775808 ≤ m
          · have p4 : decide (9223372036854775808 ≤ m) = true := decide_eq_true c4
            rw [if_pos (.inr c4)] at hend
            have HE := Lib.hid hend
            clear hend
            go_wp2_with fail
            go_ret2
            exact ⟨ret_two (HE.out.symm.trans HR.out), Below.refl _ _⟩
          · have p4 : decide (9223372036854775808 ≤ m) = false := decide_eq_false c4
            rw [if_neg (fun e => e.elim (by decide) c4)] at hend
            have HE := Lib.hid hend
            clear hend
            go_wp2_with fail
            go_ret2
            exact ⟨ret_two (HE.out.symm.trans HR.out), Below.refl _ _⟩
        · rw [if_pos (.inl rfl)] at hend
          have HE := Lib.hid hend
          clear hend
          go_wp2_with fail
          go_ret2
          exact ⟨ret_two (HE.out.symm.trans HR.out), Below.refl _ _⟩
end Go.Proofs.YtacpolhilhindaaDoor.E
