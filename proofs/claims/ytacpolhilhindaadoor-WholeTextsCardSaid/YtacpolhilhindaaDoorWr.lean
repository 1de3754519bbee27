/- Marline, layer 01: the number that digits are, in the program and in the reference. Conditions: as each says. -/
import Derived.Test.YtacpolhilhindaaDoorObj
import Derived.Test.YtacpolhilhindaaDoorWp
import Derived.Lib.ConvBytes
namespace Go.Proofs.YtacpolhilhindaaDoor.E
open Go.RowKit Go.Proofs.YtacpolhilhindaaDoorW.PrintWords Go.Proofs.YtacpolhilhindaaDoorW.PrintLast Go.Proofs.YtacpolhilhindaaDoorW.PrintMore Go.Proofs.YtacpolhilhindaaDoor.Obj
set_option linter.unusedVariables false
set_option linter.unusedSimpArgs false

/-- the value of digits behind a value; none: not all are digits. -/
def val : List UInt8 → Int → Option Int
  | [], v => some v
  | c :: r, v => if 48 ≤ c.toNat ∧ c.toNat ≤ 57 then val r (10 * v + (c.toNat - 48)) else none
def readS (l : List UInt8) : Int × Int :=
  if l = [] then (0, 1) else match val l 0 with
  | none => (0, 1)
  | some v => if v ≤ 9223372036854775807 then (v, 0) else (0, 2)
theorem byte_bd (c : UInt8) : (0 : Int) ≤ (c.toNat : Int) ∧ (c.toNat : Int) ≤ 255 := by have := c.toNat_lt; omega
theorem drop_get (l : List UInt8) (k : Nat) (h : k < l.length) : l.drop k = l.getD k 0 :: l.drop (k + 1) := by
  rw [List.drop_eq_getElem_cons h, List.getD_eq_getElem?_getD, List.getElem?_eq_getElem h]; rfl
theorem val_far (l : List UInt8) : ∀ v : Int, 9223372036854775807 < v → ∀ u, val l v = some u → 9223372036854775807 < u := by
  induction l with
  | nil => intro v hv u h; simp only [val, Option.some.injEq] at h; omega
  | cons c r ih =>
    intro v hv u h
    simp only [val] at h
    by_cases hc : 48 ≤ c.toNat ∧ c.toNat ≤ 57
    · rw [if_pos hc] at h
      exact ih _ (by omega) u h
    · rw [if_neg hc] at h; exact absurd h (by simp)
/-- what is left is told by what has come. -/
def Left (l : List UInt8) (k : Nat) (n : Int) (big : Bool) : Prop :=
  ∃ v, val l 0 = val (l.drop k) v ∧ 0 ≤ v ∧ (big = true → 9223372036854775807 < v) ∧ (big = false → n = v ∧ v ≤ 9223372036854775807) ∧ 0 ≤ n ∧ n ≤ 9223372036854775807
theorem left_bad {l r : List UInt8} {k : Nat} {m : Int} {bg : Bool} {ch : UInt8} (h : Left l k m bg) (h0 : l ≠ []) (hd : l.drop k = ch :: r) (hc : ¬ (48 ≤ ch.toNat ∧ ch.toNat ≤ 57)) : readS l = (0, 1) := by
  obtain ⟨v, h1, _⟩ := h
  rw [hd] at h1
  simp only [val] at h1
  rw [if_neg hc] at h1
  unfold readS
  rw [if_neg h0, h1]
theorem left_end {l : List UInt8} {k : Nat} {m : Int} {bg : Bool} (h : Left l k m bg) (h0 : l ≠ []) (hd : l.drop k = []) : readS l = if bg = true then (0, 2) else (m, 0) := by
  obtain ⟨v, h1, h2, h3, h4, h5, h6⟩ := h
  rw [hd] at h1
  simp only [val] at h1
  unfold readS
  rw [if_neg h0, h1]
  cases bg
  · obtain ⟨rfl, h7⟩ := h4 rfl
    rw [if_neg (by decide)]
    exact if_pos h7
  · have := h3 rfl
    rw [if_pos rfl]
    exact if_neg (by omega)
theorem left_step {l : List UInt8} {k : Nat} {m : Int} {bg : Bool} {ch : UInt8} (h : Left l k m bg) (hd : l.drop k = ch :: l.drop (k + 1)) (hc : 48 ≤ ch.toNat ∧ ch.toNat ≤ 57) :
    (bg = true ∨ (9223372036854775807 - ((ch.toNat : Int) - 48)) / 10 < m → Left l (k + 1) m true) ∧
    (bg = false → ¬ (9223372036854775807 - ((ch.toNat : Int) - 48)) / 10 < m → Left l (k + 1) (10 * m + ((ch.toNat : Int) - 48)) false) := by
  obtain ⟨v, h1, h2, h3, h4, h5, h6⟩ := h
  rw [hd] at h1
  simp only [val] at h1
  rw [if_pos hc] at h1
  constructor
  · intro hb
    refine ⟨10 * v + ((ch.toNat : Int) - 48), h1, by omega, fun _ => ?_, fun e => absurd e (by decide), h5, h6⟩
    cases bg
    · obtain ⟨rfl, h7⟩ := h4 rfl
      have := hb.resolve_left (by decide)
      omega
    · have := h3 rfl
      omega
  · intro hb hn
    obtain ⟨rfl, h7⟩ := h4 hb
    exact ⟨10 * m + ((ch.toNat : Int) - 48), h1, by omega, fun e => absurd e (by decide), fun _ => ⟨rfl, by omega⟩, by omega, by omega⟩
theorem ret_two {a b c d : Int} (h : (a, b) = (c, d)) : Ending.returned (.tuple #[.int .i64 a, .int .i64 b]) = .returned (.tuple #[.int .i64 c, .int .i64 d]) := by injection h with h1 h2; rw [h1, h2]
set_option maxHeartbeats 4000000 in
set_option maxRecDepth 100000 in
theorem read_is (s : ByteArray) (w : World) (hs : s.size ≤ 140737488355328) :
    Calls Tryd.prog 15 #[.string s] w fun e w' => e = .returned (.tuple #[.int .i64 (readS s.data.toList).1, .int .i64 (readS s.data.toList).2]) ∧ Below w.heap.size w w' := by
  obtain ⟨l, hl⟩ : ∃ l, s.data.toList = l := ⟨_, rfl⟩
  have hlen : s.size = l.length := by rw [← hl]; rfl
  have hconv := fun W => Lib.run_convert_string_bytes (P := Tryd.prog) W 9 55 5 s (u := .string) Tryd.underlying9 Tryd.underlying55 Tryd.underlying5
  by_cases h0 : l = []
  · have h1 : s.toList.isEmpty = true := by rw [ByteArray.toList_eq, hl, h0]; rfl
    have h2 : readS s.data.toList = (0, 1) := by rw [hl, h0]; rfl
    rw [h2]
    clear hconv hl h2 hlen h0
    go_enter Tryd.func15, Tryd.ntmps15
    go_wp2_with fail
    go_ret2
    exact ⟨rfl, Below.refl _ _⟩
  · have h1 : s.toList.isEmpty = false := by rw [ByteArray.toList_eq, hl]; cases l <;> simp_all
    rw [hl]
    obtain ⟨r, hr⟩ : ∃ r, readS l = r := ⟨_, rfl⟩
    rw [hr]
    obtain ⟨r1, r2⟩ := r
    have HR := Lib.hid hr
    have H0 := Lib.hid h0
    have HN := Lib.hid hlen
    have HL := Lib.hid hl
    obtain ⟨w2, hw2⟩ : ∃ w2, Lib.bytesWorld w 5 s = w2 := ⟨_, rfl⟩
    obtain ⟨g, hg⟩ : ∃ g, w.heap.size = g := ⟨_, rfl⟩
    obtain ⟨cp, hcp⟩ : ∃ c, grownCap w s.size 0 5 = c := ⟨_, rfl⟩
    have hc : (convert 9 55 (.string s)).run Tryd.prog w = .ok (.slice (some ⟨g, 0, none⟩) s.size cp) w2 := by rw [← hw2, ← hg, ← hcp]; exact hconv w
    have CELL := Lib.hid (fun (j : Nat) (hj : j < s.size) => (by rw [← hw2, ← hg]; exact Lib.bytesWorld_cell w 5 s j hj : w2.cell? ⟨g, j, none⟩ = some (.int .u8 (s.data.toList.getD j 0).toNat)))
    have BB := Lib.hid (show Below w.heap.size w w2 from by
      rw [← hw2]
      exact ⟨rfl, rfl, rfl, by rw [Lib.bytesWorld_size]; omega, fun k hk => Lib.bytesWorld_at_old w 5 s k hk⟩)
    clear hconv hw2 hg hcp hlen hl hr h0
    go_enter Tryd.func15, Tryd.ntmps15
    go_wp2_with fail
    go_loop [4, 5, 15] (fun n b i => ∃ (k : Nat) (m : Int) (bg : Bool), i = .int .i64 k ∧ k ≤ s.size ∧ n = .int .i64 m ∧ b = .bool bg ∧ 0 ≤ m ∧ m ≤ 9223372036854775807 ∧ Hid (Left l k m bg)) (fun _ _ i => s.size - (intOf i).toNat)
    case atStart => exact ⟨0, 0, false, rfl, by omega, rfl, rfl, by omega, by omega, Lib.hid ⟨0, rfl, by omega, fun h => absurd h (by decide), fun _ => ⟨rfl, by omega⟩, by omega, by omega⟩⟩
    case round =>
      obtain ⟨k, m, bg, rfl, hk, rfl, rfl, hm0, hm1, LF⟩ := hrel
      by_cases hx : (k : Int) < (s.size : Int)
      · have hlt : k < s.size := by omega
        have q := CELL.out k hlt
        obtain ⟨c, hc⟩ : ∃ c : Int, ((s.data.toList.getD k 0).toNat : Int) = c := ⟨_, rfl⟩
        have hcb : 0 ≤ c ∧ c ≤ 255 := by rw [← hc]; exact byte_bd _
        rw [hc] at q
        have hdr : l.drop k = (s.data.toList.getD k 0) :: l.drop (k + 1) := by rw [HL.out]; exact drop_get l k (by rw [← HN.out]; exact hlt)
        have HC := Lib.hid hc; have HD := Lib.hid hdr
        have hc0 := hcb.1; have hc1 := hcb.2
        clear hc hdr hcb
        by_cases c1 : c < 48
        · have p1 : decide (c < 48) = true := decide_eq_true c1
          go_wp2_with fail
          go_ret2
          exact ⟨ret_two ((left_bad LF.out H0.out HD.out (by have := HC.out; omega)).symm.trans HR.out), BB.out⟩
        · by_cases c2 : 57 < c
          · have p1 : decide (c < 48) = false := decide_eq_false c1
            have p2 : decide (57 < c) = true := decide_eq_true c2
            go_wp2_with fail
            go_ret2
            exact ⟨ret_two ((left_bad LF.out H0.out HD.out (by have := HC.out; omega)).symm.trans HR.out), BB.out⟩
          · have p1 : decide (c < 48) = false := decide_eq_false c1
            have p2 : decide (57 < c) = false := decide_eq_false c2
            cases bg
            · by_cases c3 : (9223372036854775807 - (c - 48)) / 10 < m
              · have p3 : decide ((9223372036854775807 - (c - 48)) / 10 < m) = true := decide_eq_true c3
                go_wp2_with fail
                go_round
                case rel => exact ⟨k + 1, m, true, by push_cast; rfl, by omega, rfl, rfl, hm0, hm1, Lib.hid ((left_step LF.out HD.out (by have := HC.out; omega)).1 (.inr (by rw [HC.out]; exact c3)))⟩
                case measure => simp [intOf]; omega
              · have p3 : decide ((9223372036854775807 - (c - 48)) / 10 < m) = false := decide_eq_false c3
                go_wp2_with fail
                go_round
                case rel => exact ⟨k + 1, 10 * m + (c - 48), false, by push_cast; rfl, by omega, rfl, rfl, by omega, by omega, Lib.hid (by have h := (left_step LF.out HD.out (by have := HC.out; omega)).2 rfl (by rw [HC.out]; exact c3); rw [HC.out] at h; exact h)⟩
                case measure => simp [intOf]; omega
            · go_wp2_with fail
              go_round
              case rel => exact ⟨k + 1, m, true, by push_cast; rfl, by omega, rfl, rfl, hm0, hm1, Lib.hid ((left_step LF.out HD.out (by have := HC.out; omega)).1 (.inl rfl))⟩
              case measure => simp [intOf]; omega
      · cases bg
        · go_wp2_with fail
          go_ret2
          exact ⟨ret_two ((left_end LF.out H0.out (List.drop_of_length_le (by rw [← HN.out]; omega))).symm.trans HR.out), BB.out⟩
        · go_wp2_with fail
          go_ret2
          exact ⟨ret_two ((left_end LF.out H0.out (List.drop_of_length_le (by rw [← HN.out]; omega))).symm.trans HR.out), BB.out⟩
end Go.Proofs.YtacpolhilhindaaDoor.E
