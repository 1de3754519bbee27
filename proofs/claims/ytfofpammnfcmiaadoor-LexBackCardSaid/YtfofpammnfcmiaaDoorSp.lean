/- A text cut at each byte c; the pieces put together again. Plain. -/
import Derived.Lib.SplitLaws
import Derived.Lib.Join
import Derived.Lib.Strings
namespace Go.Proofs.YtfofpammnfcmiaaDoor.Sp
open Go.Lib

/-- the pieces between the bytes c. -/
def pieces (c : UInt8) : List UInt8 → List (List UInt8)
  | [] => [[]]
  | b :: l => if b = c then [] :: pieces c l else match pieces c l with
    | [] => [[b]]
    | p :: ps => (b :: p) :: ps
theorem pieces_ne (c : UInt8) (l : List UInt8) : pieces c l ≠ [] := by
  cases l with
  | nil => simp [pieces]
  | cons b l =>
    unfold pieces
    split
    · simp
    · split <;> simp
theorem pieces_free (c : UInt8) : ∀ l : List UInt8, c ∉ l → pieces c l = [l]
  | [], _ => rfl
  | b :: l, h => by
    have h1 : b ≠ c := fun e => h (e ▸ List.mem_cons_self)
    have h2 : c ∉ l := fun e => h (List.mem_cons_of_mem _ e)
    rw [pieces, if_neg h1, pieces_free c l h2]
theorem pieces_app (c : UInt8) (r : List UInt8) : ∀ l : List UInt8, c ∉ l → pieces c (l ++ c :: r) = l :: pieces c r
  | [], _ => by rw [List.nil_append, pieces, if_pos rfl]
  | b :: l, h => by
    have h1 : b ≠ c := fun e => h (e ▸ List.mem_cons_self)
    have h2 : c ∉ l := fun e => h (List.mem_cons_of_mem _ e)
    rw [List.cons_append, pieces, if_neg h1, pieces_app c r l h2]
theorem pieces_no (c : UInt8) : ∀ (l p : List UInt8), p ∈ pieces c l → c ∉ p
  | [], p, h => by simp [pieces] at h; subst h; simp
  | b :: l, p, h => by
    have ih := pieces_no c l
    unfold pieces at h
    split at h
    · rcases List.mem_cons.1 h with h | h
      · subst h; simp
      · exact ih p h
    · rename_i hb
      split at h
      · simp at h; subst h
        intro h; simp at h; exact hb h.symm
      · rename_i q qs hq
        rcases List.mem_cons.1 h with h | h
        · subst h
          intro h
          rcases List.mem_cons.1 h with h | h
          · exact hb h.symm
          · exact ih q (by rw [hq]; exact List.mem_cons_self) h
        · exact ih p (by rw [hq]; exact List.mem_cons_of_mem _ h)
theorem join_two (x y : List UInt8) (r : List (List UInt8)) (s : List UInt8) : join (x :: y :: r) s = x ++ s ++ join (y :: r) s := by
  simp [join, List.intercalate]
theorem join_pieces (c : UInt8) : ∀ l : List UInt8, join (pieces c l) [c] = l
  | [] => by simp [pieces, join_one]
  | b :: l => by
    have ih := join_pieces c l
    unfold pieces
    split
    · rename_i h
      cases hp : pieces c l with
      | nil => exact absurd hp (pieces_ne c l)
      | cons p ps => rw [join_two, ← hp, ih, h]; rfl
    · cases hp : pieces c l with
      | nil => exact absurd hp (pieces_ne c l)
      | cons p ps =>
        rw [hp] at ih
        simp only
        rw [← ih, join_cons, join_cons]; rfl
theorem pieces_join (c : UInt8) : ∀ xs : List (List UInt8), xs ≠ [] → (∀ x, x ∈ xs → c ∉ x) → pieces c (join xs [c]) = xs
  | [], h, _ => absurd rfl h
  | [x], _, h => by rw [join_one, pieces_free c x (h x List.mem_cons_self)]
  | x :: y :: r, _, h => by
    rw [join_two, List.append_assoc, List.singleton_append, pieces_app c _ x (h x List.mem_cons_self), pieces_join c (y :: r) (by simp) (fun z hz => h z (List.mem_cons_of_mem _ hz))]
theorem index_no (c : UInt8) (l : List UInt8) (h : c ∉ l) : index l [c] = -1 := by
  rw [index_one]
  cases hi : (decide (indexByte l c = -1)) with
  | true => exact of_decide_eq_true hi
  | false =>
    have hn := of_decide_eq_false hi
    have := indexByte_ge l c
    obtain ⟨o, ho⟩ : ∃ o : Nat, indexByte l c = o := ⟨(indexByte l c).toNat, by omega⟩
    exact absurd (List.mem_of_getElem? (indexByte_some ho).1) h
/-- there is none, or the first one stands behind bytes that are others. -/
theorem index_at (c : UInt8) (l : List UInt8) : (c ∉ l ∧ index l [c] = -1) ∨ ∃ x r, l = x ++ c :: r ∧ c ∉ x ∧ index l [c] = x.length := by
  by_cases h : c ∈ l
  · have hi : indexByte l c ≠ -1 := fun e => by
      obtain ⟨k, hk⟩ := List.getElem?_of_mem h
      exact indexByte_none e k hk
    have := indexByte_ge l c
    obtain ⟨o, ho⟩ : ∃ o : Nat, indexByte l c = o := ⟨(indexByte l c).toNat, by omega⟩
    obtain ⟨h1, h2⟩ := indexByte_some ho
    obtain ⟨hl, h3⟩ := List.getElem?_eq_some_iff.1 h1
    refine .inr ⟨l.take o, l.drop (o + 1), ?_, ?_, ?_⟩
    · rw [← h3, List.getElem_cons_drop, List.take_append_drop]
    · intro hm
      obtain ⟨k, hk⟩ := List.getElem?_of_mem hm
      rw [List.getElem?_take] at hk
      split at hk
      · rename_i hk2; exact h2 k hk2 hk
      · cases hk
    · rw [index_one, ho, List.length_take]; omega
  · exact .inl ⟨h, index_no c l h⟩
theorem count_app (c : UInt8) (x r : List UInt8) (h : c ∉ x) : count (x ++ c :: r) [c] = 1 + count r [c] := by
  rw [count_one, count_one, List.count_append, List.count_cons_self, List.count_eq_zero_of_not_mem h]; omega
theorem split_pieces (c : UInt8) : ∀ (k : Nat) (l : List UInt8), count l [c] = k → splitK [c] 0 k l = pieces c l
  | 0, l, h => by
    rw [count_one, List.count_eq_zero] at h
    rw [pieces_free c l h]; rfl
  | k + 1, l, h => by
    rcases index_at c l with ⟨h1, _⟩ | ⟨x, r, h1, h2, h3⟩
    · rw [count_one, List.count_eq_zero_of_not_mem h1] at h; omega
    · subst h1
      rw [count_app c x r h2] at h
      have hn : ¬ ((index (x ++ c :: r) [c] == -1) = true) := fun e => by have := beq_iff_eq.1 e; omega
      rw [splitK, if_neg hn, h3, pieces_app c r x h2]
      have e1 : ((x.length : Int)).toNat = x.length := by omega
      rw [e1]
      congr 1
      · simp
      · have e2 : (x ++ c :: r).drop (x.length + [c].length) = r := by
          rw [← List.drop_drop, List.drop_left]; rfl
        rw [e2, split_pieces c k r (by omega)]
/-- strings.Split at one byte. -/
theorem splitB_pieces (c : UInt8) (s : ByteArray) : (splitB ⟨#[c]⟩ 0 (countB s ⟨#[c]⟩) s).map (·.data.toList) = pieces c s.data.toList := by
  rw [splitB_data]
  exact split_pieces c _ _ rfl
theorem cut_no (c : UInt8) (l : List UInt8) (h : c ∉ l) : cut l [c] = (l, [], false) := by
  unfold cut; rw [index_no c l h, if_neg (by omega)]
theorem cut_at (c : UInt8) (x r : List UInt8) (h : c ∉ x) : cut (x ++ c :: r) [c] = (x, r, true) := by
  rcases index_at c (x ++ c :: r) with ⟨h1, _⟩ | ⟨y, q, h1, h2, h3⟩
  · exact absurd (List.mem_append_right _ List.mem_cons_self) h1
  · have h4 : pieces c (x ++ c :: r) = pieces c (y ++ c :: q) := by rw [h1]
    rw [pieces_app c r x h, pieces_app c q y h2] at h4
    injection h4 with h5 h6
    subst h5
    have e1 : ((x.length : Int)).toNat = x.length := by omega
    unfold cut; rw [h3, if_pos (by omega), e1]
    have e2 : (x ++ c :: r).drop (x.length + [c].length) = r := by
      rw [← List.drop_drop, List.drop_left]; rfl
    rw [e2]; simp
/-- what a cut tells. -/
theorem cut_is (c : UInt8) (l a b : List UInt8) (h : cut l [c] = (a, b, true)) : l = a ++ c :: b ∧ c ∉ a := by
  rcases index_at c l with ⟨h1, _⟩ | ⟨x, r, h1, h2, _⟩
  · rw [cut_no c l h1] at h; simp at h
  · subst h1
    rw [cut_at c x r h2] at h
    injection h with h3 h4
    injection h4 with h4 _
    subst h3; subst h4
    exact ⟨rfl, h2⟩
theorem suffix_yes (c : UInt8) (l : List UInt8) : hasSuffix (l ++ [c]) [c] = true ∧ trimSuffix (l ++ [c]) [c] = l := by
  have h : hasSuffix (l ++ [c]) [c] = true := by unfold hasSuffix; exact List.isSuffixOf_iff_suffix.2 (List.suffix_append _ _)
  refine ⟨h, ?_⟩
  unfold trimSuffix; rw [if_pos h]; simp
/-- a text that ends so, or not. -/
theorem suffix_at (c : UInt8) (l : List UInt8) : (∃ x, l = x ++ [c] ∧ hasSuffix l [c] = true ∧ trimSuffix l [c] = x) ∨ (hasSuffix l [c] = false ∧ trimSuffix l [c] = l ∧ ∀ x, l ≠ x ++ [c]) := by
  cases h : hasSuffix l [c] with
  | true =>
    obtain ⟨x, hx⟩ := List.isSuffixOf_iff_suffix.1 (show [c].isSuffixOf l = true from h)
    subst hx
    exact .inl ⟨x, rfl, rfl, (suffix_yes c x).2⟩
  | false =>
    refine .inr ⟨rfl, ?_, ?_⟩
    · unfold trimSuffix; rw [h]; rfl
    · rintro x rfl
      rw [(suffix_yes c x).1] at h; cases h
end Go.Proofs.YtfofpammnfcmiaaDoor.Sp
