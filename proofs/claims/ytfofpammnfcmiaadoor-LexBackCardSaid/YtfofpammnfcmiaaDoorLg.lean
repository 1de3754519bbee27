/- Marline, layer 10: what the document's lexer comes to. Conditions: as each says. -/
import Derived.Test.YtfofpammnfcmiaaDoorLc
import Derived.Test.YtfofpammnfcmiaaDoorLf
import Derived.Test.YtfofpammnfcmiaaDoorLxp
namespace Go.Proofs.YtfofpammnfcmiaaDoor.Lx
open Go.RowKit Go.Proofs.YtfofpammnfcmiaaDoorW.PrintWords Go.Proofs.YtfofpammnfcmiaaDoorW.PrintLast Go.Proofs.YtfofpammnfcmiaaDoor.Kinds Go.Proofs.YtfofpammnfcmiaaDoor.E
set_option linter.unusedVariables false
set_option linter.unusedSimpArgs false
set_option maxRecDepth 100000
theorem up {α : Type} {f : Nat → Option α} (hm : ∀ k, LeO (f k) (f (k + 1))) {r : α} {k0 : Nat} (h0 : f k0 = some r) : ∀ d, f (k0 + d) = some r
  | 0 => h0
  | d + 1 => hm (k0 + d) r (up hm h0 d)
theorem up_to {α : Type} {f : Nat → Option α} (hm : ∀ k, LeO (f k) (f (k + 1))) {r : α} {k0 k : Nat} (h : k0 ≤ k) (h0 : f k0 = some r) : f k = some r := by
  have := up hm h0 (k - k0)
  rwa [show k0 + (k - k0) = k by omega] at this
def cls (c : UInt8) : Int := if letterB c = true then 1 else if digitB c = true then 2 else if blankB c = true then 3 else if c.toNat = 35 then 4 else 0
theorem class_fin : ∀ n : Fin 256, PL.marlineref10_class.f 4 (n.val : Int) = some (cls (UInt8.ofNat n.val)) := by decide +kernel
theorem class_is (c : UInt8) (k : Nat) (hk : 4 ≤ k) : PL.marlineref10_class.f k (c.toNat : Int) = some (cls c) := by
  refine up_to (f := fun k => PL.marlineref10_class.f k (c.toNat : Int)) (fun k => PL.marlineref10_class.mono _ k) hk ?_
  have h := class_fin ⟨c.toNat, c.toNat_lt⟩
  simpa using h
theorem bt_get (s : ByteArray) (p : Nat) (h : p < s.size) : bt s (p : Int) = ((s.data.toList.getD p 0).toNat : Int) := by
  unfold bt
  rw [dif_pos (by simpa using h)]
  simp only [Int.toNat_natCast]
  rw [List.getD_eq_getElem?_getD, List.getElem?_eq_getElem (by exact h)]
  rfl
theorem isref (s : ByteArray) (k : Nat) (hk : 30 ≤ k) : PL.marlineref09_Is.f k s = some (isS s.data.toList) := up_to (f := fun k => PL.marlineref09_Is.f k s) (fun k => PL.marlineref09_Is.mono _ k) hk (refIs_is s)
theorem markref (s : ByteArray) (k : Nat) (hk : 100 ≤ k) : PL.marlineref09_Mark.f k s = some ⟨(markS s.data.toList).toArray⟩ := up_to (f := fun k => PL.marlineref09_Mark.f k s) (fun k => PL.marlineref09_Mark.mono _ k) hk (refMark_is s)
theorem ext_data (s : ByteArray) (i j : Nat) : (s.extract i j).data.toList = (s.data.toList.drop i).take (j - i) := by
  simp [List.drop_take]
/-- the number of digits by the document. -/
theorem read_l0 (s : ByteArray) (h0 : s.data.toList ≠ []) (hs : s.size ≤ 1000000000) : ∀ (d p k : Nat) (m : Int) (bg : Bool), p + d = s.size → 2 * d + 1 ≤ k → Left2 s.data.toList p m bg → PL.marlineref01_Read.l0 k s m bg (p : Int) = some (readS s.data.toList)
  | 0, p, k, m, bg, hp, hk, hL => by
    obtain ⟨k, rfl⟩ : ∃ q, k = q + 1 := ⟨k - 1, by omega⟩
    have hlen : s.data.toList.length = s.size := rfl
    have hd : s.data.toList.drop p = [] := List.drop_of_length_le (by omega)
    rw [left2_end hL h0 hd]
    obtain ⟨v, _, _, _, _, h5, h6⟩ := hL
    unfold PL.marlineref01_Read.l0
    rw [if_neg (by omega)]
    cases bg with
    | true => rw [if_pos rfl, if_pos (.inl rfl)]
    | false =>
      rw [if_neg Bool.false_ne_true]
      by_cases h7 : m ≥ 9223372036854775808
      · rw [if_pos h7, if_pos (.inr h7)]
      · rw [if_neg h7, if_neg (fun e => e.elim Bool.false_ne_true h7)]
        have : wrap64 m = m := by unfold wrap64; omega
        rw [this]
  | d + 1, p, k, m, bg, hp, hk, hL => by
    obtain ⟨k, rfl⟩ : ∃ q, k = q + 2 := ⟨k - 2, by omega⟩
    have hlen : s.data.toList.length = s.size := rfl
    have hd : s.data.toList.drop p = s.data.toList.getD p 0 :: s.data.toList.drop (p + 1) := drop_get _ p (by omega)
    have hw : wrap64 ((p : Int) + 1) = ((p + 1 : Nat) : Int) := by unfold wrap64; omega
    obtain ⟨c, hc⟩ : ∃ c, s.data.toList.getD p 0 = c := ⟨_, rfl⟩
    have hb : bt s (p : Int) = (c.toNat : Int) := by rw [bt_get s p (by omega), hc]
    rw [hc] at hd
    have hc0 := c.toNat_lt
    have hj : ∀ b1 : Bool, PL.marlineref01_Read.j1 (k + 1) s m bg (p : Int) b1 = if b1 = true then some (0, 1) else (if m > 1000000000000000000 then PL.marlineref01_Read.l0 k s m true (wrap64 ((p : Int) + 1)) else (if bg = true then PL.marlineref01_Read.l0 k s m bg (wrap64 ((p : Int) + 1)) else (if 0 ≤ (p : Int) then (if (p : Int) < (s.size : Int) then PL.marlineref01_Read.l0 k s (IntKind.u64.wrap ((IntKind.u64.wrap (10 * m)) + (((bt s (p : Int)) - 48) % 256))) bg (wrap64 ((p : Int) + 1)) else none) else none))) := fun _ => rfl
    unfold PL.marlineref01_Read.l0
    rw [if_pos (show (p : Int) < (s.size : Int) by omega), if_pos (show (0 : Int) ≤ (p : Int) by omega), hb]
    by_cases c1 : (c.toNat : Int) < 48
    · rw [if_pos c1, hj, if_pos rfl, left2_bad hL h0 hd (by omega)]
    · rw [if_neg c1, hj]
      by_cases c2 : (c.toNat : Int) > 57
      · rw [decide_eq_true c2, if_pos rfl, left2_bad hL h0 hd (by omega)]
      · rw [decide_eq_false c2, if_neg Bool.false_ne_true, hw]
        obtain ⟨g1, g2⟩ := left2_step hL hd (by omega)
        by_cases c3 : m > 1000000000000000000
        · rw [if_pos c3]; exact read_l0 s h0 hs d (p + 1) k m true (by omega) (by omega) (g1 (.inr c3))
        · rw [if_neg c3]
          cases bg with
          | true => rw [if_pos rfl]; exact read_l0 s h0 hs d (p + 1) k m true (by omega) (by omega) (g1 (.inl rfl))
          | false =>
            rw [if_neg Bool.false_ne_true, if_pos (by omega), if_pos (by omega), hb]
            have g3 := g2 rfl c3
            obtain ⟨v, _, _, _, _, h5, h6⟩ := hL
            have e1 : IntKind.u64.wrap ((IntKind.u64.wrap (10 * m)) + (((c.toNat : Int) - 48) % 256)) = 10 * m + ((c.toNat : Int) - 48) := by
              have e2 : IntKind.u64.wrap (10 * m) = 10 * m := by show (10 * m) % 18446744073709551616 = _; omega
              rw [e2]
              show (10 * m + ((c.toNat : Int) - 48) % 256) % 18446744073709551616 = _
              omega
            rw [e1]
            exact read_l0 s h0 hs d (p + 1) k _ false (by omega) (by omega) g3
theorem readref (s : ByteArray) (hs : s.size ≤ 1000000000) (k : Nat) (hk : 2 * s.size + 1 ≤ k) : PL.marlineref01_Read.f k s = some (readS s.data.toList) := by
  unfold PL.marlineref01_Read.f
  rw [ByteArray.toList_eq]
  by_cases h0 : s.data.toList = []
  · rw [if_pos h0, h0]; rfl
  · rw [if_neg h0]
    exact read_l0 s h0 hs s.size 0 k 0 false (by omega) (by omega) ⟨0, rfl, by omega, fun h => absurd h (by decide), fun _ => rfl, by omega, by omega⟩
/-- the language's words, marks and numbers. -/
def W0 : Words := ⟨isS, markS, readS⟩
theorem markS_pre (l : List UInt8) : ∃ r, l = markS l ++ r := by
  match l with
  | [] => exact ⟨[], rfl⟩
  | [a] =>
    by_cases ha : a ∈ singleL
    · have e : markS [a] = [a] := by unfold markS; simp only; rw [if_pos ha]
      rw [e]; exact ⟨[], rfl⟩
    · have e : markS [a] = [] := by unfold markS; simp only; rw [if_neg ha]
      rw [e]; exact ⟨[a], rfl⟩
  | a :: b :: r =>
    by_cases h2 : [a, b] ∈ splL
    · have e : markS (a :: b :: r) = [a, b] := by unfold markS; simp only; rw [if_pos h2]
      rw [e]; exact ⟨r, rfl⟩
    · by_cases ha : a ∈ singleL
      · have e : markS (a :: b :: r) = [a] := by unfold markS; simp only; rw [if_neg h2, if_pos ha]
        rw [e]; exact ⟨b :: r, rfl⟩
      · have e : markS (a :: b :: r) = [] := by unfold markS; simp only; rw [if_neg h2, if_neg ha]
        rw [e]; exact ⟨a :: b :: r, rfl⟩
theorem not_32 : ∀ n : Fin 256, ([UInt8.ofNat n.val, 32] ∈ splL) = False := by
  intro n; exact eq_false (by revert n; decide +kernel)
theorem no_two (a : UInt8) : ¬ [a, 32] ∈ splL := by
  have h := not_32 ⟨a.toNat, a.toNat_lt⟩
  simp only [UInt8.ofNat_toNat] at h
  rw [h]; exact id
theorem markS_back (l r : List UInt8) (h : markS l ≠ []) : markS (markS l ++ 32 :: r) = markS l := by
  match l, h with
  | [], h => exact absurd rfl h
  | [a], h =>
    unfold markS at h
    simp only at h
    by_cases ha : a ∈ singleL
    · have e : markS [a] = [a] := by unfold markS; simp only; rw [if_pos ha]
      rw [e]
      show markS (a :: 32 :: r) = [a]
      unfold markS; simp only; rw [if_neg (no_two a), if_pos ha]
    · rw [if_neg ha] at h; exact absurd rfl h
  | a :: b :: q, h =>
    by_cases h2 : [a, b] ∈ splL
    · have e : ∀ q, markS (a :: b :: q) = [a, b] := fun q => by unfold markS; simp only; rw [if_pos h2]
      rw [e]; exact e _
    · by_cases ha : a ∈ singleL
      · have e : markS (a :: b :: q) = [a] := by unfold markS; simp only; rw [if_neg h2, if_pos ha]
        rw [e]
        show markS (a :: 32 :: r) = [a]
        unfold markS; simp only; rw [if_neg (no_two a), if_pos ha]
      · unfold markS at h; simp only at h; rw [if_neg h2, if_neg ha] at h; exact absurd rfl h
theorem markS_self (l : List UInt8) (h : markS l ≠ []) : markS (markS l) = markS l := by
  match l, h with
  | [], h => exact absurd rfl h
  | [a], h =>
    by_cases ha : a ∈ singleL
    · have e : markS [a] = [a] := by unfold markS; simp only; rw [if_pos ha]
      rw [e, e]
    · unfold markS at h; simp only at h; rw [if_neg ha] at h; exact absurd rfl h
  | a :: b :: q, h =>
    by_cases h2 : [a, b] ∈ splL
    · have e : ∀ q, markS (a :: b :: q) = [a, b] := fun q => by unfold markS; simp only; rw [if_pos h2]
      rw [e]; exact e _
    · by_cases ha : a ∈ singleL
      · have e : markS (a :: b :: q) = [a] := by unfold markS; simp only; rw [if_neg h2, if_pos ha]
        have e2 : markS [a] = [a] := by unfold markS; simp only; rw [if_pos ha]
        rw [e, e2]
      · unfold markS at h; simp only at h; rw [if_neg h2, if_neg ha] at h; exact absurd rfl h
theorem markS_two (l : List UInt8) : markS (l.take 2) = markS l := by
  match l with
  | [] => rfl
  | [a] => rfl
  | a :: b :: r => rfl
theorem w0_ok : W0.Ok := ⟨markS_pre, markS_back, markS_self⟩
/-- a token as the code has it. -/
def enc (t : Tok) : S44 := ⟨t.kind, (t.at_ : Int), t.n, ⟨t.text.toArray⟩⟩
theorem while_get (f : UInt8 → Bool) (l : List UInt8) : ∀ (j : Nat), j < (l.takeWhile f).length → f (l.getD j 0) = true := by
  intro j hj
  have h1 := take_while_pre f l
  have h2 : l.getD j 0 = (l.takeWhile f).getD j 0 := by
    conv => lhs; rw [h1]
    rw [List.getD_eq_getElem?_getD, List.getD_eq_getElem?_getD, List.getElem?_append_left hj]
  rw [h2, List.getD_eq_getElem?_getD, List.getElem?_eq_getElem hj]
  exact while_all f l _ (List.getElem_mem hj)
theorem while_end (f : UInt8 → Bool) : ∀ (l : List UInt8), (l.takeWhile f).length < l.length → f (l.getD (l.takeWhile f).length 0) = false
  | [], h => by simp at h
  | c :: r, h => by
    by_cases hc : f c = true
    · rw [List.takeWhile_cons_of_pos hc] at h ⊢
      simp only [List.length_cons, List.getD_cons_succ]
      exact while_end f r (by simpa using h)
    · rw [List.takeWhile_cons_of_neg hc]
      simpa using hc
theorem drop_getD (l : List UInt8) (p j : Nat) : (l.drop p).getD j 0 = l.getD (p + j) 0 := by
  rw [List.getD_eq_getElem?_getD, List.getD_eq_getElem?_getD, List.getElem?_drop]
theorem while_le (f : UInt8 → Bool) (l : List UInt8) : (l.takeWhile f).length ≤ l.length := by
  have := congrArg List.length (take_while_pre f l)
  rw [List.length_append] at this; omega
theorem take_while_is (f : UInt8 → Bool) (l : List UInt8) : l.take (l.takeWhile f).length = l.takeWhile f := take_of_pre (take_while_pre f l)
/-- a name, or a word, by the document. -/
theorem one_l0 (s : ByteArray) (p n : Nat) (hs : s.size ≤ 1000000000) (hn : ((s.data.toList.drop p).takeWhile nameB).length = n) (hp : p < s.size) : ∀ (d j k : Nat), j + d = n → d + 40 ≤ k →
    PL.marlineref10_one.l0 k s (p : Int) ((p + j : Nat) : Int) = some (if isS ((s.data.toList.drop p).takeWhile nameB) = true then 3 else 1, (p : Int), 0, ⟨((s.data.toList.drop p).takeWhile nameB).toArray⟩, if 32 < ((s.data.toList.drop p).takeWhile nameB).length then 3 else 0)
  | 0, j, k, hj, hk => by
    obtain ⟨k, rfl⟩ : ∃ q, k = q + 2 := ⟨k - 2, by omega⟩
    obtain rfl : j = n := by omega
    have hlen : s.data.toList.length = s.size := rfl
    have hle := while_le nameB (s.data.toList.drop p)
    rw [hn, List.length_drop] at hle
    have hx : s.extract (p : Int).toNat ((p + j : Nat) : Int).toNat = ⟨((s.data.toList.drop p).takeWhile nameB).toArray⟩ := by
      refine bytes_of ?_
      rw [ext_data]
      simp only [Int.toNat_natCast]
      rw [show p + j - p = j by omega, ← hn, take_while_is]
    have hsz : (⟨((s.data.toList.drop p).takeWhile nameB).toArray⟩ : ByteArray).size = ((s.data.toList.drop p).takeWhile nameB).length := by show Array.size _ = _; simp
    have hj1 : PL.marlineref10_one.j1 (k + 1) s (p : Int) ((p + j : Nat) : Int) = some (if isS ((s.data.toList.drop p).takeWhile nameB) = true then 3 else 1, (p : Int), 0, ⟨((s.data.toList.drop p).takeWhile nameB).toArray⟩, if 32 < ((s.data.toList.drop p).takeWhile nameB).length then 3 else 0) := by
      rw [PL.marlineref10_one.j1]
      rw [if_pos (by omega), if_pos (by omega), if_pos (by omega), hx, isref _ k (by omega), Option.bind_some, hsz]
      by_cases h1 : isS ((s.data.toList.drop p).takeWhile nameB) = true
      · rw [if_pos h1, if_pos h1]
        by_cases h2 : 32 < ((s.data.toList.drop p).takeWhile nameB).length
        · rw [if_pos (show _ > (32 : Int) by omega), if_pos h2]
        · rw [if_neg (show ¬ _ > (32 : Int) by omega), if_neg h2]
      · rw [if_neg h1, if_neg h1]
        by_cases h2 : 32 < ((s.data.toList.drop p).takeWhile nameB).length
        · rw [if_pos (show _ > (32 : Int) by omega), if_pos h2]
        · rw [if_neg (show ¬ _ > (32 : Int) by omega), if_neg h2]
    rw [PL.marlineref10_one.l0]
    by_cases he : p + j < s.size
    · have hc := while_end nameB (s.data.toList.drop p) (by rw [hn, List.length_drop]; omega)
      rw [hn, drop_getD] at hc
      rw [if_pos (by omega), if_pos (by omega), bt_get s (p + j) he, class_is _ (k + 1) (by omega), Option.bind_some, Option.bind_some]
      have h1 : cls (s.data.toList.getD (p + j) 0) ≠ 1 ∧ cls (s.data.toList.getD (p + j) 0) ≠ 2 := by
        unfold nameB at hc
        rw [Bool.or_eq_false_iff] at hc
        unfold cls
        rw [hc.1, hc.2, if_neg Bool.false_ne_true, if_neg Bool.false_ne_true]
        split
        · decide
        · split <;> decide
      rw [if_neg h1.1, if_neg h1.2]
      exact hj1
    · rw [if_neg (by omega)]; exact hj1
  | d + 1, j, k, hj, hk => by
    obtain ⟨k, rfl⟩ : ∃ q, k = q + 1 := ⟨k - 1, by omega⟩
    have hlen : s.data.toList.length = s.size := rfl
    have hle := while_le nameB (s.data.toList.drop p)
    rw [hn, List.length_drop] at hle
    have hc := while_get nameB (s.data.toList.drop p) j (by rw [hn]; omega)
    rw [drop_getD] at hc
    have hw : wrap64 (((p + j : Nat) : Int) + 1) = ((p + (j + 1) : Nat) : Int) := by unfold wrap64; omega
    have ih := one_l0 s p n hs hn hp d (j + 1) k (by omega) (by omega)
    rw [PL.marlineref10_one.l0]
    rw [if_pos (by omega), if_pos (by omega), bt_get s (p + j) (by omega), class_is _ k (by omega), Option.bind_some, Option.bind_some, hw, ih]
    unfold nameB at hc
    rw [Bool.or_eq_true] at hc
    by_cases h1 : letterB (s.data.toList.getD (p + j) 0) = true
    · rw [if_pos (by unfold cls; rw [if_pos h1])]
    · have h2 := hc.resolve_left h1
      have e : cls (s.data.toList.getD (p + j) 0) = 2 := by unfold cls; rw [if_neg h1, if_pos h2]
      rw [e, if_neg (by decide), if_pos rfl]
/-- a number by the document. -/
theorem one_l1 (s : ByteArray) (p n : Nat) (hs : s.size ≤ 1000000000) (hn : ((s.data.toList.drop p).takeWhile digitB).length = n) (hp : p < s.size) : ∀ (d j k : Nat), j + d = n → d + 2 * s.size + 10 ≤ k →
    PL.marlineref10_one.l1 k s (p : Int) ((p + j : Nat) : Int) = some (2, (p : Int), (readS ((s.data.toList.drop p).takeWhile digitB)).1, ⟨((s.data.toList.drop p).takeWhile digitB).toArray⟩, (readS ((s.data.toList.drop p).takeWhile digitB)).2)
  | 0, j, k, hj, hk => by
    obtain ⟨k, rfl⟩ : ∃ q, k = q + 2 := ⟨k - 2, by omega⟩
    obtain rfl : j = n := by omega
    have hlen : s.data.toList.length = s.size := rfl
    have hle := while_le digitB (s.data.toList.drop p)
    rw [hn, List.length_drop] at hle
    have hx : s.extract (p : Int).toNat ((p + j : Nat) : Int).toNat = ⟨((s.data.toList.drop p).takeWhile digitB).toArray⟩ := by
      refine bytes_of ?_
      rw [ext_data]
      simp only [Int.toNat_natCast]
      rw [show p + j - p = j by omega, ← hn, take_while_is]
    have hsz : (⟨((s.data.toList.drop p).takeWhile digitB).toArray⟩ : ByteArray).size = ((s.data.toList.drop p).takeWhile digitB).length := by show Array.size _ = _; simp
    have hj1 : PL.marlineref10_one.j3 (k + 1) s (p : Int) ((p + j : Nat) : Int) = some (2, (p : Int), (readS ((s.data.toList.drop p).takeWhile digitB)).1, ⟨((s.data.toList.drop p).takeWhile digitB).toArray⟩, (readS ((s.data.toList.drop p).takeWhile digitB)).2) := by
      rw [PL.marlineref10_one.j3]
      rw [if_pos (by omega), if_pos (by omega), if_pos (by omega), hx, readref _ (by rw [hsz, hn]; omega) k (by rw [hsz, hn]; omega), Option.bind_some]
    rw [PL.marlineref10_one.l1]
    by_cases he : p + j < s.size
    · have hc := while_end digitB (s.data.toList.drop p) (by rw [hn, List.length_drop]; omega)
      rw [hn, drop_getD] at hc
      rw [if_pos (by omega), if_pos (by omega), bt_get s (p + j) he, class_is _ (k + 1) (by omega), Option.bind_some]
      have h1 : cls (s.data.toList.getD (p + j) 0) ≠ 2 := by
        unfold cls
        rw [hc]
        split
        · decide
        · rw [if_neg Bool.false_ne_true]
          split
          · decide
          · split <;> decide
      rw [if_neg h1]
      exact hj1
    · rw [if_neg (by omega)]; exact hj1
  | d + 1, j, k, hj, hk => by
    obtain ⟨k, rfl⟩ : ∃ q, k = q + 1 := ⟨k - 1, by omega⟩
    have hlen : s.data.toList.length = s.size := rfl
    have hle := while_le digitB (s.data.toList.drop p)
    rw [hn, List.length_drop] at hle
    have hc := while_get digitB (s.data.toList.drop p) j (by rw [hn]; omega)
    rw [drop_getD] at hc
    have hw : wrap64 (((p + j : Nat) : Int) + 1) = ((p + (j + 1) : Nat) : Int) := by unfold wrap64; omega
    have ih := one_l1 s p n hs hn hp d (j + 1) k (by omega) (by omega)
    have hcl : cls (s.data.toList.getD (p + j) 0) = 2 := by
      unfold cls
      have hnl : ¬ letterB (s.data.toList.getD (p + j) 0) = true := by
        intro h
        unfold letterB at h
        unfold digitB at hc
        have h1 := of_decide_eq_true hc
        have h2 := of_decide_eq_true h
        omega
      rw [if_neg hnl, if_pos hc]
    rw [PL.marlineref10_one.l1]
    rw [if_pos (by omega), if_pos (by omega), bt_get s (p + j) (by omega), class_is _ k (by omega), Option.bind_some, hw, ih, hcl, if_pos rfl]
end Go.Proofs.YtfofpammnfcmiaaDoor.Lx
