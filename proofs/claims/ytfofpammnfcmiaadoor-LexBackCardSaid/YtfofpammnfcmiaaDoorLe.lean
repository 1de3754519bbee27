/- Marline, layer 09: words, signs and marks, plain. No condition. -/
import Derived.Test.YtfofpammnfcmiaaDoorLd
import Derived.Test.YtfofpammnfcmiaaDoorLb
import Derived.Lib.SlicesS
namespace Go.Proofs.YtfofpammnfcmiaaDoor.E
open Go.RowKit Go.Proofs.YtfofpammnfcmiaaDoorW.PrintWords
set_option linter.unusedVariables false
set_option linter.unusedSimpArgs false
set_option maxRecDepth 100000

theorem small_cases {P : Int → Prop} (n : Int) (h : ∀ k : Fin 15, P (k.val : Int)) (ho : (n < 0 ∨ 15 ≤ n) → P n) : P n := by
  by_cases hn : 0 ≤ n ∧ n < 15
  · have := h ⟨n.toNat, by omega⟩
    have e : ((n.toNat : Nat) : Int) = n := by omega
    simp only at this
    rw [e] at this
    exact this
  · exact ho (by omega)
/-! Spell. -/
def spellS (n : Int) : List UInt8 := if 0 ≤ n ∧ n < 15 then spl n.toNat else []
theorem refSpell_is (n : Int) (hn : -9223372036854775808 ≤ n ∧ n ≤ 9223372036854775807) : PL.marlineref09_Spell.f n = some ⟨(spellS n).toArray⟩ := by
  unfold PL.marlineref09_Spell.f spellS
  rw [Option.bind_some]
  by_cases h1 : n < 1
  · rw [if_pos h1]
    by_cases h0 : 0 ≤ n ∧ n < 15
    · rw [if_pos h0]
      obtain rfl : n = 0 := by omega
      rfl
    · rw [if_neg h0]
  · rw [if_neg h1]
    by_cases h2 : n > 14
    · rw [if_pos h2, if_neg (by omega)]
    · have hw : wrap64 (n - 1) = n - 1 := by unfold wrap64; omega
      rw [if_neg h2, hw, if_pos (by omega), if_pos (by simp only [List.length_cons, List.length_nil]; omega), if_pos (by omega)]
      obtain ⟨k, rfl⟩ : ∃ k : Nat, n = k := ⟨n.toNat, by omega⟩
      have h : k = 1 ∨ k = 2 ∨ k = 3 ∨ k = 4 ∨ k = 5 ∨ k = 6 ∨ k = 7 ∨ k = 8 ∨ k = 9 ∨ k = 10 ∨ k = 11 ∨ k = 12 ∨ k = 13 ∨ k = 14 := by omega
      rcases h with rfl | rfl | rfl | rfl | rfl | rfl | rfl | rfl | rfl | rfl | rfl | rfl | rfl | rfl <;> rfl
/-! Sign. -/
theorem signF_spec (l : List UInt8) : ∀ d k, (∃ m, k ≤ m ∧ m < k + d ∧ 0 < m ∧ spl m = l ∧ signF l k d = ((m : Int), true)) ∨ (signF l k d = (0, false) ∧ ∀ m, k ≤ m → m < k + d → 0 < m → spl m ≠ l) := by
  intro d
  induction d with
  | zero => intro k; exact .inr ⟨rfl, fun m h1 h2 => by omega⟩
  | succ d ih =>
    intro k
    simp only [signF]
    by_cases h : 0 < k ∧ spl k = l
    · rw [if_pos h]
      exact .inl ⟨k, by omega, by omega, h.1, h.2, rfl⟩
    · rw [if_neg h]
      rcases ih (k + 1) with ⟨m, h1, h2, h3, h4, h5⟩ | ⟨h1, h2⟩
      · exact .inl ⟨m, by omega, by omega, h3, h4, h5⟩
      · refine .inr ⟨h1, fun m h3 h4 h5 h6 => ?_⟩
        by_cases hm : m = k
        · exact h ⟨by omega, hm ▸ h6⟩
        · exact h2 m (by omega) (by omega) h5 h6
theorem sign_spec (l : List UInt8) : (∃ m : Nat, 1 ≤ m ∧ m ≤ 14 ∧ spl m = l ∧ signS l = ((m : Int), true)) ∨ (signS l = (0, false) ∧ ∀ m : Nat, 1 ≤ m → m ≤ 14 → spl m ≠ l) := by
  rcases signF_spec l 15 0 with ⟨m, h1, h2, h3, h4, h5⟩ | ⟨h1, h2⟩
  · exact .inl ⟨m, h3, by omega, h4, h5⟩
  · exact .inr ⟨h1, fun m h3 h4 => h2 m (by omega) (by omega) (by omega)⟩
theorem spl_ne (m : Nat) (h1 : 1 ≤ m) (h2 : m ≤ 14) : spl m ≠ [] := by
  have : ∀ k : Fin 15, 1 ≤ k.val → spl k.val ≠ [] := by decide
  exact this ⟨m, by omega⟩ h1
theorem sign_spell (n : Int) : ((spellS n ≠ []) ∧ signS (spellS n) = (n, true)) ∨ (spellS n = [] ∧ signS (spellS n) = (0, false)) := by
  refine small_cases (P := fun n => ((spellS n ≠ []) ∧ signS (spellS n) = (n, true)) ∨ (spellS n = [] ∧ signS (spellS n) = (0, false))) n (by decide) (fun h => .inr ?_)
  have e : spellS n = [] := if_neg (by omega)
  rw [e]
  exact ⟨rfl, by decide⟩
/-! Words. -/
def wordsL : List (List UInt8) := [[114, 101, 99], [105, 115, 111], [102, 117, 110], [109, 101, 114, 103, 101], [109, 97, 105, 110], [118, 97, 114], [105, 102], [101, 108, 115, 101], [119, 104, 105, 108, 101], [114, 101, 116, 117, 114, 110], [102, 111, 114, 107], [106, 111, 105, 110], [112, 114, 105, 110, 116], [110, 101, 119], [98, 121], [105, 110, 116], [98, 111, 111, 108], [114, 101, 118], [116, 114, 117, 101], [102, 97, 108, 115, 101]]
def wordsB : List ByteArray := wordsL.map fun l => ⟨l.toArray⟩
def isS (l : List UInt8) : Bool := decide (l ∈ wordsL)
theorem refAll_is : PL.marlineref09_All.f = some wordsB := rfl
theorem refIs_l0 (s : ByteArray) : ∀ (d i k : Nat), i + d = 20 → d < k → PL.marlineref09_Is.l0 k s wordsB (i : Int) = some (decide (s.data.toList ∈ wordsL.drop i)) := by
  intro d
  induction d with
  | zero =>
    intro i k hi hk
    obtain ⟨k, rfl⟩ : ∃ m, k = m + 1 := ⟨k - 1, by omega⟩
    have : i = 20 := by omega
    subst this
    simp only [PL.marlineref09_Is.l0]
    rw [if_neg (by decide)]
    rfl
  | succ d ih =>
    intro i k hi hk
    obtain ⟨k, rfl⟩ : ∃ m, k = m + 1 := ⟨k - 1, by omega⟩
    simp only [PL.marlineref09_Is.l0]
    have hlen : wordsB.length = 20 := rfl
    have hL : wordsL.length = 20 := rfl
    rw [if_pos (by rw [hlen]; omega), if_pos (by omega)]
    have hr : rdOf ByteArray.empty wordsB (i : Int) = ⟨(wordsL.getD i []).toArray⟩ := by
      unfold rdOf wordsB
      rw [Int.toNat_natCast, List.getD_eq_getElem?_getD, List.getElem?_map, List.getElem?_eq_getElem (by omega), List.getD_eq_getElem?_getD, List.getElem?_eq_getElem (by omega)]
      rfl
    have hdrop : wordsL.drop i = wordsL.getD i [] :: wordsL.drop (i + 1) := by
      rw [List.drop_eq_getElem_cons (by omega), List.getD_eq_getElem?_getD, List.getElem?_eq_getElem (by omega)]; rfl
    rw [hr, ByteArray.toList_eq, ByteArray.toList_eq, hdrop]
    by_cases h : wordsL.getD i [] = s.data.toList
    · rw [if_pos (by simpa using h), decide_eq_true]
      rw [h]; exact List.mem_cons_self
    · rw [if_neg (by simpa using h)]
      have hw : wrap64 ((i : Int) + 1) = ((i + 1 : Nat) : Int) := by unfold wrap64; omega
      rw [hw, ih (i + 1) k (by omega) (by omega)]
      congr 1
      rw [decide_eq_decide, List.mem_cons]
      constructor
      · exact .inr
      · rintro (e | e)
        · exact absurd e.symm h
        · exact e
theorem refIs_is (s : ByteArray) : PL.marlineref09_Is.f 30 s = some (isS s.data.toList) := by
  unfold PL.marlineref09_Is.f
  rw [refAll_is, Option.bind_some]
  exact refIs_l0 s 20 0 30 rfl (by decide)
/-! Mark. -/
/-- the texts that marks are sought among. -/
def tenL : List (List UInt8) := [[40], [41], [123], [125], [91], [93], [44], [59], [46], [61]]
def marksL : List (List UInt8) := tenL ++ splL.drop 1
def bestOf (l : List UInt8) : List (List UInt8) → List UInt8 → List UInt8
  | [], b => b
  | t :: r, b => bestOf l r (if t.length ≤ l.length ∧ l.take t.length = t ∧ b.length < t.length then t else b)
def singleL : List UInt8 := [40, 41, 123, 125, 91, 93, 44, 59, 46, 61, 60, 62, 43, 45, 42, 47, 37, 33]
def markS (l : List UInt8) : List UInt8 := match l with
  | [] => []
  | [a] => if a ∈ singleL then [a] else []
  | a :: b :: _ => if [a, b] ∈ splL then [a, b] else if a ∈ singleL then [a] else []
theorem mark_l1 (s : ByteArray) (xs : List ByteArray) (hx : xs.length ≤ 1000) (hxs : ∀ x ∈ xs, x.size ≤ 1000) : ∀ (d i k : Nat) (b : ByteArray), i + d = xs.length → d < k →
    PL.marlineref09_Mark.l1 k s xs b (i : Int) = some ⟨(bestOf s.data.toList ((xs.drop i).map fun x => x.data.toList) b.data.toList).toArray⟩ := by
  intro d
  induction d with
  | zero =>
    intro i k b hi hk
    obtain ⟨k, rfl⟩ : ∃ m, k = m + 1 := ⟨k - 1, by omega⟩
    simp only [PL.marlineref09_Mark.l1]
    rw [if_neg (by omega), List.drop_of_length_le (by omega)]
    rfl
  | succ d ih =>
    intro i k b hi hk
    obtain ⟨k, rfl⟩ : ∃ m, k = m + 1 := ⟨k - 1, by omega⟩
    have hr : rdOf ByteArray.empty xs (i : Int) = xs[i]'(by omega) := by
      unfold rdOf
      rw [Int.toNat_natCast, List.getD_eq_getElem?_getD, List.getElem?_eq_getElem (by omega)]; rfl
    have hdrop : xs.drop i = xs[i]'(by omega) :: xs.drop (i + 1) := List.drop_eq_getElem_cons (by omega)
    have hw : wrap64 ((i : Int) + 1) = ((i + 1 : Nat) : Int) := by unfold wrap64; omega
    obtain ⟨x, hxi⟩ : ∃ x, xs[i]'(by omega) = x := ⟨_, rfl⟩
    simp only [PL.marlineref09_Mark.l1]
    rw [hxi] at hr hdrop
    rw [if_pos (by omega), if_pos (by omega), hr, hw, hdrop]
    simp only [List.map_cons, bestOf]
    have e1 : x.data.toList.length = x.size := rfl
    have e2 : s.data.toList.length = s.size := rfl
    have e3 : b.data.toList.length = b.size := rfl
    have e4 : (s.extract 0 ((x.size : Int)).toNat).toList = s.data.toList.take x.size := by
      rw [Int.toNat_natCast, ByteArray.toList_eq]; simp
    rw [e1, e2, e3, ByteArray.toList_eq x]
    by_cases h1 : (x.size : Int) ≤ (s.size : Int)
    · rw [if_pos h1, if_pos (by omega), e4]
      by_cases h2 : s.data.toList.take x.size = x.data.toList
      · rw [if_pos h2]
        by_cases h3 : (x.size : Int) > (b.size : Int)
        · rw [if_pos h3, if_pos ⟨by omega, h2, by omega⟩, ih (i + 1) k x (by omega) (by omega)]
        · rw [if_neg h3, if_neg (fun h => h3 (by have := h.2.2; omega)), ih (i + 1) k b (by omega) (by omega)]
      · rw [if_neg h2, if_neg (fun h => h2 h.2.1), ih (i + 1) k b (by omega) (by omega)]
    · rw [if_neg h1, if_neg (fun h => h1 (by have := h.1; omega)), ih (i + 1) k b (by omega) (by omega)]
def marksB : List ByteArray := marksL.map fun l => ⟨l.toArray⟩
theorem mark_l0 (s : ByteArray) (r : Option ByteArray) : ∀ (d i k : Nat), i + d = 15 → 1 ≤ i → (∀ m, 25 ≤ m → PL.marlineref09_Mark.l1 m s marksB ⟨#[]⟩ 0 = r) → d + 26 ≤ k →
    PL.marlineref09_Mark.l0 k s (marksB.take (9 + i)) (i : Int) = r := by
  intro d
  induction d with
  | zero =>
    intro i k hi h1 hr hk
    obtain ⟨k, rfl⟩ : ∃ m, k = m + 1 := ⟨k - 1, by omega⟩
    simp only [PL.marlineref09_Mark.l0]
    rw [if_neg (by omega), List.take_of_length_le (by show 24 ≤ _; omega)]
    exact hr k (by omega)
  | succ d ih =>
    intro i k hi h1 hr hk
    obtain ⟨k, rfl⟩ : ∃ m, k = m + 1 := ⟨k - 1, by omega⟩
    have hw : wrap64 ((i : Int) + 1) = ((i + 1 : Nat) : Int) := by unfold wrap64; omega
    have hl : marksB.length = 24 := rfl
    simp only [PL.marlineref09_Mark.l0]
    rw [if_pos (by omega), refSpell_is _ (by omega), Option.bind_some, if_pos (by rw [List.length_take]; omega), hw]
    have ha : marksB.take (9 + i) ++ [⟨(spellS (i : Int)).toArray⟩] = marksB.take (9 + (i + 1)) := by
      rw [show 9 + (i + 1) = (9 + i) + 1 by omega, List.take_succ_eq_append_getElem (by omega)]
      congr 1
      have h : i = 1 ∨ i = 2 ∨ i = 3 ∨ i = 4 ∨ i = 5 ∨ i = 6 ∨ i = 7 ∨ i = 8 ∨ i = 9 ∨ i = 10 ∨ i = 11 ∨ i = 12 ∨ i = 13 ∨ i = 14 := by omega
      rcases h with rfl | rfl | rfl | rfl | rfl | rfl | rfl | rfl | rfl | rfl | rfl | rfl | rfl | rfl <;> rfl
    rw [ha]
    exact ih (i + 1) k (by omega) (by omega) hr (by omega)
/-- the best of texts of one or two letters. -/
theorem best_two (a b : UInt8) (l : List UInt8) : ∀ (ts : List (List UInt8)), (∀ t ∈ ts, t.length = 1 ∨ t.length = 2) → 
    bestOf (a :: b :: l) ts [a, b] = [a, b] ∧ bestOf (a :: b :: l) ts [a] = (if [a, b] ∈ ts then [a, b] else [a]) ∧ bestOf (a :: b :: l) ts [] = (if [a, b] ∈ ts then [a, b] else if [a] ∈ ts then [a] else []) := by
  intro ts
  induction ts with
  | nil => intro _; exact ⟨rfl, rfl, rfl⟩
  | cons t ts ih =>
    intro h
    obtain ⟨i1, i2, i3⟩ := ih (fun t' h' => h t' (List.mem_cons_of_mem _ h'))
    simp only [bestOf]
    rcases h t List.mem_cons_self with h1 | h1
    · obtain ⟨c, rfl⟩ : ∃ c, t = [c] := by
        match t, h1 with
        | [c], _ => exact ⟨c, rfl⟩
      have n2 : [a, b] ∈ [c] :: ts ↔ [a, b] ∈ ts := by simp
      have n1 : [a] ∈ [c] :: ts ↔ a = c ∨ [a] ∈ ts := by simp
      refine ⟨?_, ?_, ?_⟩
      · rw [if_neg (by simp)]; exact i1
      · rw [if_neg (by simp), i2]; simp only [n2]
      · by_cases hac : a = c
        · subst hac
          rw [if_pos ⟨by simp, rfl, by simp⟩, i2]
          simp only [n2]
          by_cases hm : [a, b] ∈ ts
          · rw [if_pos hm, if_pos hm]
          · rw [if_neg hm, if_neg hm, if_pos List.mem_cons_self]
        · rw [if_neg (fun h => hac (by have := h.2.1; simpa using this)), i3]
          simp only [n2, n1, hac, false_or]
    · obtain ⟨c, d, rfl⟩ : ∃ c d, t = [c, d] := by
        match t, h1 with
        | [c, d], _ => exact ⟨c, d, rfl⟩
      have n2 : [a, b] ∈ [c, d] :: ts ↔ (a = c ∧ b = d) ∨ [a, b] ∈ ts := by simp
      have n1 : [a] ∈ [c, d] :: ts ↔ [a] ∈ ts := by simp
      by_cases hac : a = c ∧ b = d
      · obtain ⟨rfl, rfl⟩ := hac
        refine ⟨?_, ?_, ?_⟩
        · rw [if_neg (by simp)]; exact i1
        · rw [if_pos ⟨by simp, rfl, by simp⟩, i1, if_pos List.mem_cons_self]
        · rw [if_pos ⟨by simp, rfl, by simp⟩, i1, if_pos List.mem_cons_self]
      · have hne : ¬ (a :: b :: l).take [c, d].length = [c, d] := fun h => hac (by simpa using h)
        refine ⟨?_, ?_, ?_⟩
        · rw [if_neg (fun h => hne h.2.1)]; exact i1
        · rw [if_neg (fun h => hne h.2.1), i2]; simp only [n2, hac, false_or]
        · rw [if_neg (fun h => hne h.2.1), i3]; simp only [n2, n1, hac, false_or]
theorem best_one (a : UInt8) : ∀ (ts : List (List UInt8)), (∀ t ∈ ts, t.length = 1 ∨ t.length = 2) → 
    bestOf [a] ts [a] = [a] ∧ bestOf [a] ts [] = (if [a] ∈ ts then [a] else []) := by
  intro ts
  induction ts with
  | nil => intro _; exact ⟨rfl, rfl⟩
  | cons t ts ih =>
    intro h
    obtain ⟨i1, i2⟩ := ih (fun t' h' => h t' (List.mem_cons_of_mem _ h'))
    simp only [bestOf]
    rcases h t List.mem_cons_self with h1 | h1
    · obtain ⟨c, rfl⟩ : ∃ c, t = [c] := by
        match t, h1 with
        | [c], _ => exact ⟨c, rfl⟩
      have n1 : [a] ∈ [c] :: ts ↔ a = c ∨ [a] ∈ ts := by simp
      refine ⟨by rw [if_neg (by simp)]; exact i1, ?_⟩
      by_cases hac : a = c
      · subst hac
        rw [if_pos ⟨by simp, rfl, by simp⟩, i1, if_pos List.mem_cons_self]
      · rw [if_neg (fun h => hac (by have := h.2.1; simpa using this)), i2]
        simp only [n1, hac, false_or]
    · have n1 : [a] ∈ t :: ts ↔ [a] ∈ ts := by
        rw [List.mem_cons]
        exact ⟨fun e => e.resolve_left (fun e => by rw [← e] at h1; simp at h1), .inr⟩
      have hn : ¬ t.length ≤ [a].length := by rw [h1]; simp
      refine ⟨by rw [if_neg (fun h => hn h.1)]; exact i1, ?_⟩
      rw [if_neg (fun h => hn h.1), i2]
      simp only [n1]
theorem best_nil : ∀ (ts : List (List UInt8)), (∀ t ∈ ts, t.length = 1 ∨ t.length = 2) → bestOf [] ts [] = [] := by
  intro ts
  induction ts with
  | nil => intro _; rfl
  | cons t ts ih =>
    intro h
    simp only [bestOf]
    rw [if_neg (fun e => by have := e.1; rcases h t List.mem_cons_self with h1 | h1 <;> rw [h1] at this <;> exact absurd this (by decide))]
    exact ih (fun t' h' => h t' (List.mem_cons_of_mem _ h'))
theorem marks_len : ∀ t ∈ marksL, t.length = 1 ∨ t.length = 2 := by decide
theorem marks_one (a : UInt8) : [a] ∈ marksL ↔ a ∈ singleL := by
  have : ∀ n : Fin 256, ([UInt8.ofNat n.val] ∈ marksL ↔ UInt8.ofNat n.val ∈ singleL) := by decide +kernel
  have h := this ⟨a.toNat, a.toNat_lt⟩
  simpa using h
theorem marks_two (a b : UInt8) : [a, b] ∈ marksL ↔ [a, b] ∈ splL := by
  simp [marksL, tenL, splL]
theorem best_is (l : List UInt8) : bestOf l marksL [] = markS l := by
  match l with
  | [] => exact best_nil _ marks_len
  | [a] =>
    rw [(best_one a _ marks_len).2]
    simp only [markS, marks_one]
  | a :: b :: r =>
    rw [(best_two a b r _ marks_len).2.2]
    simp only [markS, marks_one, marks_two]
theorem refMark_is (s : ByteArray) : PL.marlineref09_Mark.f 100 s = some ⟨(markS s.data.toList).toArray⟩ := by
  have h := mark_l0 s (some ⟨(markS s.data.toList).toArray⟩) 14 1 100 rfl (by decide) (fun m hm => ?_) (by decide)
  · exact h
  · have h2 := mark_l1 s marksB (by decide) (by decide) 24 0 m ⟨#[]⟩ rfl (by omega)
    rw [List.drop_zero] at h2
    have e : (marksB.map fun x => x.data.toList) = marksL := by decide
    rw [e] at h2
    rw [← best_is]
    exact h2
end Go.Proofs.YtfofpammnfcmiaaDoor.E
