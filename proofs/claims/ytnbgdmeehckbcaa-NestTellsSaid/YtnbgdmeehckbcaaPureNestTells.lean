/- Marline, layer 12: of any tokens, how many brackets are open at most, and signs in a row, and the first that is too deep, are what the document defines: of the printed functions. Condition: the list is one that can be an argument. -/
import Derived.Test.YtnbgdmeehckbcaaPNestTellsx
import Derived.Test.YtnbgdmeehckbcaaOpn
namespace Go.Proofs.Ytnbgdmeehckbcaa.PureT
open Go.RowKit Go.Proofs.Ytnbgdmeehckbcaa.PNestTells Go.Proofs.YtnbgdmeehckbcaaW.PrintWords Go.Proofs.YtnbgdmeehckbcaaW.PrintLast Go.Proofs.YtnbgdmeehckbcaaW.PrintMore Go.Proofs.Ytnbgdmeehckbcaa.Opn
set_option linter.unusedSimpArgs false
set_option linter.unusedVariables false

theorem bnd {α β : Type} {o : Option α} {a : α} {f : α → Option β} {r : Option β} (h : o = some a) (k : f a = r) : o.bind f = r := by rw [h]; exact k

/-- 1 opens, 2 shuts, 3 a sign of a row, 0 others. -/
def markOf (t : S35) : Int :=
  if t.f0 = 4 then
    if t.f3.toList = [40] ∨ t.f3.toList = [91] ∨ t.f3.toList = [123] then 1
    else if t.f3.toList = [41] ∨ t.f3.toList = [93] ∨ t.f3.toList = [125] then 2
    else if t.f3.toList = [45] ∨ t.f3.toList = [33] then 3 else 0
  else 0

/-- A text is one of the eight, or none of them. -/
theorem eight (x : List UInt8) : x = [40] ∨ x = [91] ∨ x = [123] ∨ x = [41] ∨ x = [93] ∨ x = [125] ∨ x = [45] ∨ x = [33] ∨ (x ≠ [40] ∧ x ≠ [91] ∧ x ≠ [123] ∧ x ≠ [41] ∧ x ≠ [93] ∧ x ≠ [125] ∧ x ≠ [45] ∧ x ≠ [33]) := by
  by_cases h1 : x = [40]; · exact .inl h1
  by_cases h2 : x = [91]; · exact .inr (.inl h2)
  by_cases h3 : x = [123]; · exact .inr (.inr (.inl h3))
  by_cases h4 : x = [41]; · exact .inr (.inr (.inr (.inl h4)))
  by_cases h5 : x = [93]; · exact .inr (.inr (.inr (.inr (.inl h5))))
  by_cases h6 : x = [125]; · exact .inr (.inr (.inr (.inr (.inr (.inl h6)))))
  by_cases h7 : x = [45]; · exact .inr (.inr (.inr (.inr (.inr (.inr (.inl h7))))))
  by_cases h8 : x = [33]; · exact .inr (.inr (.inr (.inr (.inr (.inr (.inr (.inl h8)))))))
  exact .inr (.inr (.inr (.inr (.inr (.inr (.inr (.inr ⟨h1, h2, h3, h4, h5, h6, h7, h8⟩)))))))

theorem mark_is (k : Nat) (t : S35) (hk : 3 ≤ k) : marlineref12_mark.f k t.f0 t.f1 t.f2 t.f3 = some (markOf t) := by
  obtain ⟨k, rfl⟩ : ∃ j, k = j + 3 := ⟨k - 3, by omega⟩
  simp only [markOf, marlineref12_mark.f, marlineref12_mark.j0, marlineref12_mark.j1]
  generalize t.f3.toList = x
  by_cases h : t.f0 = 4
  · rw [if_pos h, if_pos h]
    rcases eight x with rfl | rfl | rfl | rfl | rfl | rfl | rfl | rfl | ⟨h1, h2, h3, h4, h5, h6, h7, h8⟩
    · simp
    · simp
    · simp
    · simp
    · simp
    · simp
    · simp
    · simp
    · simp [h1, h2, h3, h4, h5, h6, h7, h8]
  · rw [if_neg h, if_neg h]

/-- the depth behind a token. -/
def stp (m : Int) (o r : Int) : Int × Int := if m = 1 then (o + 1, 0) else if m = 2 then (max 0 (o - 1), 0) else if m = 3 then (o, r + 1) else (o, 0)

theorem wr (x : Int) (h : -1 ≤ x) (h2 : x ≤ 1000) : wrap64 x = x := by unfold wrap64; omega
theorem mx_max (a b : Int) : mx a b = max a b := by unfold mx; split <;> omega

theorem behind_is (k : Nat) (t : S35) (o r : Int) (hk : 4 ≤ k) (ho : 0 ≤ o) (hr : 0 ≤ r) (ho2 : o ≤ 600) (hr2 : r ≤ 600) : nest_depth_behind.f k o r t.f0 t.f1 t.f2 t.f3 = some (stp (markOf t) o r) := by
  obtain ⟨k, rfl⟩ : ∃ j, k = j + 4 := ⟨k - 4, by omega⟩
  have w1 := wr (o + 1) (by omega) (by omega)
  have w2 := wr (r + 1) (by omega) (by omega)
  have w3 := wr (o - 1) (by omega) (by omega)
  have e0 : (⟨#[]⟩ : ByteArray).toList = [] := by decide +kernel
  by_cases h : t.f0 = 4
  · rcases eight t.f3.toList with h1 | h1 | h1 | h1 | h1 | h1 | h1 | h1 | ⟨h1, h2, h3, h4, h5, h6, h7, h8⟩
    · simp [stp, markOf, nest_depth_behind.f, nest_depth_behind.j0, nest_depth_behind.j1, nest_depth_behind.j2, w1, w2, w3, mx_max, h, h1]
    · simp [stp, markOf, nest_depth_behind.f, nest_depth_behind.j0, nest_depth_behind.j1, nest_depth_behind.j2, w1, w2, w3, mx_max, h, h1]
    · simp [stp, markOf, nest_depth_behind.f, nest_depth_behind.j0, nest_depth_behind.j1, nest_depth_behind.j2, w1, w2, w3, mx_max, h, h1]
    · simp [stp, markOf, nest_depth_behind.f, nest_depth_behind.j0, nest_depth_behind.j1, nest_depth_behind.j2, w1, w2, w3, mx_max, h, h1]
    · simp [stp, markOf, nest_depth_behind.f, nest_depth_behind.j0, nest_depth_behind.j1, nest_depth_behind.j2, w1, w2, w3, mx_max, h, h1]
    · simp [stp, markOf, nest_depth_behind.f, nest_depth_behind.j0, nest_depth_behind.j1, nest_depth_behind.j2, w1, w2, w3, mx_max, h, h1]
    · simp [stp, markOf, nest_depth_behind.f, nest_depth_behind.j0, nest_depth_behind.j1, nest_depth_behind.j2, w1, w2, w3, mx_max, h, h1]
    · simp [stp, markOf, nest_depth_behind.f, nest_depth_behind.j0, nest_depth_behind.j1, nest_depth_behind.j2, w1, w2, w3, mx_max, h, h1]
    · simp [stp, markOf, nest_depth_behind.f, nest_depth_behind.j0, nest_depth_behind.j1, nest_depth_behind.j2, w1, w2, w3, mx_max, h, h1, h2, h3, h4, h5, h6, h7, h8]
  · simp [stp, markOf, nest_depth_behind.f, nest_depth_behind.j0, nest_depth_behind.j1, nest_depth_behind.j2, w1, w2, w3, mx_max, h, e0]

/-- the depths behind the tokens, one by one. -/
def states : List S35 → Int → Int → List S26
  | [], _, _ => []
  | t :: ts, o, r => ⟨(stp (markOf t) o r).1, (stp (markOf t) o r).2⟩ :: states ts (stp (markOf t) o r).1 (stp (markOf t) o r).2

theorem stp_in (m o r : Int) (n : Nat) (ho : 0 ≤ o) (hr : 0 ≤ r) (ho2 : o ≤ n) (hr2 : r ≤ n) : 0 ≤ (stp m o r).1 ∧ 0 ≤ (stp m o r).2 ∧ (stp m o r).1 ≤ (n + 1 : Nat) ∧ (stp m o r).2 ≤ (n + 1 : Nat) := by
  unfold stp
  repeat' split
  all_goals (refine ⟨?_, ?_, ?_, ?_⟩ <;> simp only <;> omega)

theorem drop_cons (l : List S35) (i : Nat) (h : i < l.length) : l.drop i = rd_T35 l (i : Int) :: l.drop (i + 1) := by
  rw [List.drop_eq_getElem_cons h]; congr 1
  unfold rd_T35
  rw [Int.toNat_natCast, List.getD_eq_getElem?_getD, List.getElem?_eq_getElem h]; rfl
theorem drop_cons26 (l : List S26) (i : Nat) (h : i < l.length) : l.drop i = rd_T26 l (i : Int) :: l.drop (i + 1) := by
  rw [List.drop_eq_getElem_cons h]; congr 1
  unfold rd_T26
  rw [Int.toNat_natCast, List.getD_eq_getElem?_getD, List.getElem?_eq_getElem h]; rfl
theorem states_len : ∀ (l : List S35) (o r : Int), (states l o r).length = l.length
  | [], _, _ => rfl
  | t :: ts, o, r => by simp [states, states_len ts]

theorem wi (i : Nat) (h : i ≤ 600) : wrap64 ((i : Int) + 1) = ((i + 1 : Nat) : Int) := by unfold wrap64; omega

/-- the reference's list. -/
theorem at_loop (l : List S35) (hl : l.length ≤ 600) (d : Nat) : ∀ (i k : Nat) (acc : List S26) (o r : Int), i + d = l.length → 4 * d + 8 < k → acc.length = i → 0 ≤ o → 0 ≤ r → o ≤ i → r ≤ i →
    marlineref12_At.l0 k l acc o r (i : Int) = some (acc ++ states (l.drop i) o r) := by
  induction d with
  | zero =>
    intro i k acc o r hi hk ha ho hr ho2 hr2
    obtain ⟨k, rfl⟩ : ∃ j, k = j + 1 := ⟨k - 1, by omega⟩
    rw [marlineref12_At.l0, if_neg (by omega), List.drop_eq_nil_of_le (by omega)]
    simp [states]
  | succ d ih =>
    intro i k acc o r hi hk ha ho hr ho2 hr2
    obtain ⟨k, rfl⟩ : ∃ j, k = j + 3 := ⟨k - 3, by omega⟩
    rw [marlineref12_At.l0, if_pos (by omega), if_pos (by omega)]
    refine bnd (mark_is _ _ (by omega)) ?_
    have hs := stp_in (markOf (rd_T35 l (i : Int))) o r i ho hr ho2 hr2
    have w1 := wr (o + 1) (by omega) (by omega)
    have w2 := wr (r + 1) (by omega) (by omega)
    have w3 := wr (o - 1) (by omega) (by omega)
    rw [drop_cons l i (by omega), states]
    have hstep : ∀ o' r' : Int, stp (markOf (rd_T35 l (i : Int))) o r = (o', r') → marlineref12_At.l0 k l (acc ++ [(⟨o', r'⟩ : S26)]) o' r' (wrap64 ((i : Int) + 1)) = some (acc ++ (⟨o', r'⟩ : S26) :: states (l.drop (i + 1)) o' r') := by
      intro o' r' he
      rw [he] at hs
      rw [wi i (by omega), ih (i + 1) k _ o' r' (by omega) (by omega) (by simp [ha]) hs.1 hs.2.1 hs.2.2.1 hs.2.2.2]
      simp
    generalize markOf (rd_T35 l (i : Int)) = m at *
    have hlen : acc.length < 8796093022208 := by omega
    simp only [marlineref12_At.j1, marlineref12_At.j2, w1, w2, w3]
    by_cases m1 : m = 1
    · subst m1
      simp [hlen]
      have := hstep (o + 1) 0 (by simp [stp])
      simp [stp]
      exact this
    · by_cases m2 : m = 2
      · subst m2
        by_cases ho0 : o = 0
        · subst ho0
          have em : max (0 : Int) (-1) = 0 := by decide
          simp [hlen]
          have := hstep 0 0 (by simp [stp, em])
          simp [stp, em]
          exact this
        · have e : max 0 (o - 1) = o - 1 := by omega
          have hp : 0 < o := by omega
          simp [hlen, hp]
          have := hstep (o - 1) 0 (by simp [stp, e])
          simp [stp, e]
          exact this
      · by_cases m3 : m = 3
        · subst m3
          simp [hlen]
          have := hstep o (r + 1) (by simp [stp])
          simp [stp]
          exact this
        · simp [hlen, m1, m2, m3]
          have := hstep o 0 (by simp [stp, m1, m2, m3])
          simp [stp, m1, m2, m3]
          exact this

/-- the greatest of two numbers, over a list. -/
def most1 : List S26 → Int → Int
  | [], a => a
  | s :: ss, a => most1 ss (max a s.f0)
def most2 : List S26 → Int → Int
  | [], a => a
  | s :: ss, a => most2 ss (max a s.f1)
theorem most1_le : ∀ (l : List S26) (a b : Int), most1 l a ≤ b ↔ a ≤ b ∧ ∀ s ∈ l, s.f0 ≤ b
  | [], a, b => by simp [most1]
  | s :: ss, a, b => by
    rw [most1, most1_le ss]
    simp only [List.mem_cons, forall_eq_or_imp]
    constructor
    · rintro ⟨h, h2⟩; exact ⟨by omega, by omega, h2⟩
    · rintro ⟨h, h1, h2⟩; exact ⟨by omega, h2⟩
theorem most2_le : ∀ (l : List S26) (a b : Int), most2 l a ≤ b ↔ a ≤ b ∧ ∀ s ∈ l, s.f1 ≤ b
  | [], a, b => by simp [most2]
  | s :: ss, a, b => by
    rw [most2, most2_le ss]
    simp only [List.mem_cons, forall_eq_or_imp]
    constructor
    · rintro ⟨h, h2⟩; exact ⟨by omega, by omega, h2⟩
    · rintro ⟨h, h1, h2⟩; exact ⟨by omega, h2⟩

theorem most_loop (l : List S35) (hl : l.length ≤ 600) (d : Nat) : ∀ (i k : Nat) (o r a b : Int), i + d = l.length → d + 8 < k → 0 ≤ o → 0 ≤ r → o ≤ i → r ≤ i →
    nest_Most.l0 k l (l.length : Int) (i : Int) o r a b = some (most1 (states (l.drop i) o r) a, most2 (states (l.drop i) o r) b) := by
  induction d with
  | zero =>
    intro i k o r a b hi hk ho hr ho2 hr2
    obtain ⟨k, rfl⟩ : ∃ j, k = j + 1 := ⟨k - 1, by omega⟩
    rw [nest_Most.l0, if_neg (by omega), List.drop_eq_nil_of_le (by omega)]
    simp [states, most1, most2]
  | succ d ih =>
    intro i k o r a b hi hk ho hr ho2 hr2
    obtain ⟨k, rfl⟩ : ∃ j, k = j + 1 := ⟨k - 1, by omega⟩
    rw [nest_Most.l0, if_pos (by omega), if_pos (by omega), if_pos (by omega)]
    refine bnd (behind_is _ _ _ _ (by omega) ho hr (by omega) (by omega)) ?_
    have hs := stp_in (markOf (rd_T35 l (i : Int))) o r i ho hr ho2 hr2
    rw [drop_cons l i (by omega), states, most1, most2, mx_max, mx_max, wi i (by omega)]
    exact ih (i + 1) k _ _ _ _ (by omega) (by omega) hs.1 hs.2.1 hs.2.2.1 hs.2.2.2

/-- the first that is too deep. -/
def first : List S35 → List S26 → Int × Int
  | t :: ts, s :: ss => if s.f0 > 60 ∨ s.f1 > 60 then (t.f1, 4) else first ts ss
  | _, _ => (0, 0)

theorem check_loop (l : List S35) (hl : l.length ≤ 600) (d : Nat) : ∀ (i k : Nat) (o r : Int), i + d = l.length → d + 8 < k → 0 ≤ o → 0 ≤ r → o ≤ i → r ≤ i →
    nest_Check.l0 k l (l.length : Int) (i : Int) o r = some (first (l.drop i) (states (l.drop i) o r)) := by
  induction d with
  | zero =>
    intro i k o r hi hk ho hr ho2 hr2
    obtain ⟨k, rfl⟩ : ∃ j, k = j + 1 := ⟨k - 1, by omega⟩
    rw [nest_Check.l0, if_neg (by omega), List.drop_eq_nil_of_le (by omega)]
    rfl
  | succ d ih =>
    intro i k o r hi hk ho hr ho2 hr2
    obtain ⟨k, rfl⟩ : ∃ j, k = j + 1 := ⟨k - 1, by omega⟩
    rw [nest_Check.l0, if_pos (by omega), if_pos (by omega), if_pos (by omega)]
    refine bnd (behind_is _ _ _ _ (by omega) ho hr (by omega) (by omega)) ?_
    have hs := stp_in (markOf (rd_T35 l (i : Int))) o r i ho hr ho2 hr2
    rw [drop_cons l i (by omega), states, first]
    by_cases h1 : (stp (markOf (rd_T35 l (i : Int))) o r).1 > 60
    · rw [if_pos h1, if_pos (.inl h1)]
    · by_cases h2 : (stp (markOf (rd_T35 l (i : Int))) o r).2 > 60
      · rw [if_neg h1, if_pos h2, if_pos (.inr h2)]
      · rw [if_neg h1, if_neg h2, if_neg (by rintro (h | h) <;> contradiction), wi i (by omega)]
        exact ih (i + 1) k _ _ (by omega) (by omega) hs.1 hs.2.1 hs.2.2.1 hs.2.2.2

theorem ref_loop (l : List S35) (xs : List S26) (hx : xs.length = l.length) (hl : l.length ≤ 600) (d : Nat) : ∀ (i k : Nat), i + d = l.length → d < k →
    marlineref12_Check.l0 k l xs (i : Int) = some (first (l.drop i) (xs.drop i)) := by
  induction d with
  | zero =>
    intro i k hi hk
    obtain ⟨k, rfl⟩ : ∃ j, k = j + 1 := ⟨k - 1, by omega⟩
    rw [marlineref12_Check.l0, if_neg (by omega), List.drop_eq_nil_of_le (by omega)]
    simp [first]
  | succ d ih =>
    intro i k hi hk
    obtain ⟨k, rfl⟩ : ∃ j, k = j + 1 := ⟨k - 1, by omega⟩
    rw [marlineref12_Check.l0, if_pos (by omega), if_pos (by omega), if_pos (by omega), drop_cons l i (by omega), drop_cons26 xs i (by omega), first]
    by_cases h1 : (rd_T26 xs (i : Int)).f0 > 60
    · rw [if_pos h1, if_pos (.inl h1)]
    · by_cases h2 : (rd_T26 xs (i : Int)).f1 > 60
      · rw [if_neg h1, if_pos h2, if_pos (.inr h2)]
      · rw [if_neg h1, if_neg h2, if_neg (by rintro (h | h) <;> contradiction), wi i (by omega)]
        exact ih (i + 1) k (by omega) (by omega)

theorem first_ok : ∀ (l : List S35) (ss : List S26), ss.length = l.length → ((first l ss).2 = 0 ↔ ∀ s ∈ ss, s.f0 ≤ 60 ∧ s.f1 ≤ 60)
  | [], [], _ => by simp [first]
  | t :: ts, s :: ss, h => by
    rw [first]
    by_cases hc : s.f0 > 60 ∨ s.f1 > 60
    · rw [if_pos hc]
      simp only [List.mem_cons, forall_eq_or_imp]
      constructor
      · intro h; exact absurd h (by decide)
      · rintro ⟨h1, _⟩; omega
    · rw [if_neg hc, first_ok ts ss (by simpa using h)]
      simp only [List.mem_cons, forall_eq_or_imp]
      constructor
      · intro h; exact ⟨by omega, h⟩
      · exact fun h => h.2
  | [], s :: ss, h => by simp at h
  | t :: ts, [], h => by simp at h

theorem at_is (l : List S35) (hl : l.length ≤ 600) (k : Nat) (hk : 4 * l.length + 8 < k) : marlineref12_At.f k l = some (states l 0 0) := by
  have h := at_loop l hl l.length 0 k [] 0 0 (by omega) hk rfl (by omega) (by omega) (by omega) (by omega)
  rw [List.drop_zero, List.nil_append] at h
  exact h

theorem law_loop (l : List S35) (hl : l.length ≤ 600) (d : Nat) : ∀ (i k : Nat) (a b : Int), i + d = l.length → d + 3000 < k → most1 ((states l 0 0).drop i) a = most1 (states l 0 0) 0 → most2 ((states l 0 0).drop i) b = most2 (states l 0 0) 0 →
    marlinelaw12_NestTells.l0 k l (states l 0 0) a b (i : Int) = some true := by
  have hsl := states_len l 0 0
  induction d with
  | zero =>
    intro i k a b hi hk h1 h2
    obtain ⟨k, rfl⟩ : ∃ j, k = j + 1 := ⟨k - 1, by omega⟩
    rw [marlinelaw12_NestTells.l0, if_neg (by omega)]
    rw [List.drop_eq_nil_of_le (by omega)] at h1 h2
    have hm := most_loop l hl l.length 0 k 0 0 0 0 (by omega) (by omega) (by omega) (by omega) (by omega) (by omega)
    have hc := check_loop l hl l.length 0 k 0 0 (by omega) (by omega) (by omega) (by omega) (by omega) (by omega)
    have hr := ref_loop l (states l 0 0) hsl hl l.length 0 k (by omega) (by omega)
    rw [List.drop_zero] at hm hc hr
    rw [List.drop_zero] at hr
    refine bnd (a := (most1 (states l 0 0) 0, most2 (states l 0 0) 0)) hm ?_
    refine bnd (a := first l (states l 0 0)) hc ?_
    refine bnd (a := first l (states l 0 0)) (bnd (at_is l hl k (by omega)) hr) ?_
    simp only [most1, most2] at h1 h2
    rw [if_pos h1.symm, if_pos h2.symm, if_pos rfl, if_pos rfl]
    have f := first_ok l (states l 0 0) hsl
    have e1 := most1_le (states l 0 0) 0 60
    have e2 := most2_le (states l 0 0) 0 60
    rw [← h1] at e1
    rw [← h2] at e2
    by_cases c1 : a ≤ 60
    · rw [if_pos c1]
      by_cases c2 : b ≤ 60
      · have : (first l (states l 0 0)).2 = 0 := f.2 (fun s hs => ⟨(e1.1 c1).2 s hs, (e2.1 c2).2 s hs⟩)
        simp [this, c2]
      · have : ¬ (first l (states l 0 0)).2 = 0 := fun h0 => c2 (e2.2 ⟨by omega, fun s hs => (f.1 h0 s hs).2⟩)
        simp [this, c2]
    · rw [if_neg c1]
      have : ¬ (first l (states l 0 0)).2 = 0 := fun h0 => c1 (e1.2 ⟨by omega, fun s hs => (f.1 h0 s hs).1⟩)
      simp [this]
  | succ d ih =>
    intro i k a b hi hk h1 h2
    obtain ⟨k, rfl⟩ : ∃ j, k = j + 1 := ⟨k - 1, by omega⟩
    rw [drop_cons26 _ i (by omega)] at h1 h2
    simp only [most1, most2] at h1 h2
    rw [marlinelaw12_NestTells.l0, if_pos (by omega), if_pos (by omega), mx_max, mx_max, wi i (by omega)]
    exact ih (i + 1) k _ _ (by omega) (by omega) h1 h2

theorem works_nest : marlinelaw12_works.f 20 = some true := by decide +kernel

theorem NestTells (l : List S35) (hw : l.length * 40 ≤ 140737488351232 ∧ ∀ y ∈ l, wf35 y) : ∃ k, marlinelaw12_NestTells.f k l = some true := by
  refine ⟨4001, ?_⟩
  unfold marlinelaw12_NestTells.f
  have w := fun k (hk : 20 ≤ k) => at_rounds (fun k => marlinelaw12_works.mono k) hk works_nest
  refine bnd (w _ (by decide)) ?_
  rw [if_pos rfl, marlinelaw12_NestTells.j0]
  by_cases h : (l.length : Int) > 600
  · rw [if_pos (decide_eq_true h)]
    exact bnd (w _ (by decide)) rfl
  · rw [if_neg (by rw [decide_eq_false h]; decide)]
    refine bnd (at_is l (by omega) 4000 (by omega)) ?_
    exact law_loop l (by omega) l.length 0 4000 0 0 (by omega) (by omega) (by rw [List.drop_zero]) (by rw [List.drop_zero])
end Go.Proofs.Ytnbgdmeehckbcaa.PureT
