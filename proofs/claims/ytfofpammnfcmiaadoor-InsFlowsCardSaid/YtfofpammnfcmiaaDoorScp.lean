/- Marline, layer 41: a schedule's text, plain: what an entry is, what is parsed. -/
import Derived.Test.YtfofpammnfcmiaaDoorSp
import Derived.Test.YtfofpammnfcmiaaDoorNb
namespace Go.Proofs.YtfofpammnfcmiaaDoor.Sp
open Go.Lib Go.Proofs.YtfofpammnfcmiaaDoor.E

/-- an entry. -/
abbrev Pk := Int × Int × Bool
def Pk.ok (p : Pk) : Prop := In p.1 ∧ In p.2.1
/-- one entry's text. -/
def word (p : Pk) : List UInt8 := itoa p.1 ++ 47 :: (itoa p.2.1 ++ (if p.2.2 then [103] else []))
def textS (l : List Pk) : List UInt8 := join (l.map word) [32]
/-- the entry of a word. -/
def entryS (l : List UInt8) : Pk × Bool :=
  (((signedS (cut (trimSuffix l [103]) [47]).1).1, (signedS (cut (trimSuffix l [103]) [47]).2.1).1, hasSuffix l [103]),
    (cut (trimSuffix l [103]) [47]).2.2 && ((signedS (cut (trimSuffix l [103]) [47]).1).2 == 0 && (signedS (cut (trimSuffix l [103]) [47]).2.1).2 == 0))
/-- the entries of words; none where one is wrong. -/
def entriesS : List (List UInt8) → Option (List Pk)
  | [] => some []
  | x :: r => if (entryS x).2 then (entriesS r).map ((entryS x).1 :: ·) else none
def parseS (l : List UInt8) : Option (List Pk) := if l = [] then some [] else entriesS (pieces 32 l)

theorem dec_range (u : Nat) : ∀ c ∈ decDigits u, 48 ≤ c.toNat ∧ c.toNat ≤ 57 := by
  induction u using Nat.strongRecOn with
  | _ u ih =>
    intro c hc
    by_cases h : u < 10
    · rw [decDigits, dif_pos h] at hc
      rw [List.mem_singleton.1 hc, UInt8.toNat_ofNat', Nat.mod_eq_of_lt (by omega)]; omega
    · rw [decDigits, dif_neg h] at hc
      rcases List.mem_append.1 hc with hc | hc
      · exact ih _ (by omega) c hc
      · rw [List.mem_singleton.1 hc, UInt8.toNat_ofNat', Nat.mod_eq_of_lt (by omega)]; omega
theorem itoa_range (n : Int) : ∀ c ∈ itoa n, c.toNat = 45 ∨ (48 ≤ c.toNat ∧ c.toNat ≤ 57) := by
  intro c hc
  unfold itoa at hc
  split at hc
  · rcases List.mem_cons.1 hc with hc | hc
    · subst hc; exact .inl rfl
    · exact .inr (dec_range _ c hc)
  · exact .inr (dec_range _ c hc)
theorem itoa_no (n : Int) (c : UInt8) (h : c.toNat ≠ 45) (h2 : c.toNat < 48 ∨ 57 < c.toNat) : c ∉ itoa n := fun hc => by
  rcases itoa_range n c hc with h3 | h3 <;> omega
theorem word_no (p : Pk) : (32 : UInt8) ∉ word p := by
  intro h
  unfold word at h
  rcases List.mem_append.1 h with h | h
  · exact itoa_no _ 32 (by decide) (by decide) h
  · rcases List.mem_cons.1 h with h | h
    · exact absurd h (by decide)
    · rcases List.mem_append.1 h with h | h
      · exact itoa_no _ 32 (by decide) (by decide) h
      · split at h
        · simp at h
        · simp at h
theorem itoa_last (n : Int) (x : List UInt8) : itoa n ≠ x ++ [103] := fun h => by
  refine itoa_no n 103 (by decide) (by decide) ?_
  rw [h]; simp
theorem word_trim (p : Pk) : hasSuffix (word p) [103] = p.2.2 ∧ trimSuffix (word p) [103] = itoa p.1 ++ 47 :: itoa p.2.1 := by
  obtain ⟨n, k, g⟩ := p
  cases g with
  | true =>
    have e : word (n, k, true) = (itoa n ++ 47 :: itoa k) ++ [103] := by simp [word]
    rw [e]
    exact ⟨(suffix_yes _ _).1, (suffix_yes _ _).2⟩
  | false =>
    have e : word (n, k, false) = itoa n ++ 47 :: itoa k := by simp [word]
    rw [e]
    rcases suffix_at 103 (itoa n ++ 47 :: itoa k) with ⟨x, h1, _⟩ | ⟨h1, h2, _⟩
    · have h3 : (103 : UInt8) ∈ itoa n ++ 47 :: itoa k := by rw [h1]; simp
      rcases List.mem_append.1 h3 with h3 | h3
      · exact absurd h3 (itoa_no n 103 (by decide) (by decide))
      · rcases List.mem_cons.1 h3 with h3 | h3
        · exact absurd h3 (by decide)
        · exact absurd h3 (itoa_no k 103 (by decide) (by decide))
    · exact ⟨h1, h2⟩
theorem entry_word (p : Pk) (h : p.ok) : entryS (word p) = (p, true) := by
  unfold entryS
  rw [(word_trim p).1, (word_trim p).2, cut_at 47 _ _ (itoa_no _ 47 (by decide) (by decide))]
  simp only
  rw [signed_itoa _ h.1, signed_itoa _ h.2]
  rfl
theorem word_entry (l : List UInt8) (h : (entryS l).2 = true) : word (entryS l).1 = l ∧ (entryS l).1.ok := by
  unfold entryS at h ⊢
  simp only [Bool.and_eq_true, beq_iff_eq] at h ⊢
  obtain ⟨h1, h2, h3⟩ := h
  obtain ⟨a, b, two, hc⟩ : ∃ a b two, cut (trimSuffix l [103]) [47] = (a, b, two) := ⟨_, _, _, rfl⟩
  rw [hc] at h1 h2 h3 ⊢
  simp only at h1 h2 h3 ⊢
  subst h1
  obtain ⟨hd, _⟩ := cut_is 47 _ _ _ hc
  have r1 := signed_ok (l := a) (c := (signedS a).1) (h := (signedS a).2) rfl
  have r2 := signed_ok (l := b) (c := (signedS b).1) (h := (signedS b).2) rfl
  rcases r1 with ⟨_, e1, i1⟩ | ⟨e1, _⟩
  · rcases r2 with ⟨_, e2, i2⟩ | ⟨e2, _⟩
    · refine ⟨?_, i1, i2⟩
      unfold word
      simp only
      rw [e1, e2]
      rcases suffix_at 103 l with ⟨x, g1, g2, g3⟩ | ⟨g1, g2, _⟩
      · rw [g3] at hd
        rw [g2, g1, hd]; simp
      · rw [g2] at hd
        rw [g1, hd]; simp
    · omega
  · omega
theorem entries_words : ∀ (l : List Pk), (∀ p ∈ l, p.ok) → entriesS (l.map word) = some l
  | [], _ => rfl
  | p :: l, h => by
    have h1 := entry_word p (h p List.mem_cons_self)
    rw [List.map_cons, entriesS, h1, if_pos rfl, entries_words l (fun q hq => h q (List.mem_cons_of_mem _ hq))]; rfl
theorem word_ne (p : Pk) : word p ≠ [] := by unfold word; simp
theorem text_ne (p : Pk) (l : List Pk) : textS (p :: l) ≠ [] := by
  unfold textS
  rw [List.map_cons, join_cons]
  intro h
  exact word_ne p (List.append_eq_nil_iff.1 h).1
/-- what is told is parsed. -/
theorem parse_text (l : List Pk) (h : ∀ p ∈ l, p.ok) : parseS (textS l) = some l := by
  cases l with
  | nil => rfl
  | cons p l =>
    unfold parseS
    rw [if_neg (text_ne p l)]
    unfold textS
    rw [pieces_join 32 _ (by simp) (by
      intro x hx
      obtain ⟨q, _, rfl⟩ := List.mem_map.1 hx
      exact word_no q)]
    exact entries_words _ h
theorem words_entries : ∀ (xs : List (List UInt8)) (l : List Pk), entriesS xs = some l → l.map word = xs ∧ ∀ p ∈ l, p.ok
  | [], l, h => by
    injection h with h; subst h
    exact ⟨rfl, fun _ h => by cases h⟩
  | x :: r, l, h => by
    unfold entriesS at h
    split at h
    · rename_i hx
      cases hr : entriesS r with
      | none => rw [hr] at h; cases h
      | some m =>
        rw [hr] at h
        injection h with h; subst h
        obtain ⟨h1, h2⟩ := words_entries r m hr
        obtain ⟨h3, h4⟩ := word_entry x hx
        refine ⟨by rw [List.map_cons, h3, h1], ?_⟩
        intro p hp
        rcases List.mem_cons.1 hp with hp | hp
        · subst hp; exact h4
        · exact h2 p hp
    · cases h
/-- what is parsed has that text. -/
theorem text_parse (s : List UInt8) (l : List Pk) (h : parseS s = some l) : textS l = s ∧ ∀ p ∈ l, p.ok := by
  unfold parseS at h
  split at h
  · rename_i hs
    injection h with h; subst h; subst hs
    exact ⟨rfl, fun _ h => by cases h⟩
  · obtain ⟨h1, h2⟩ := words_entries _ _ h
    refine ⟨?_, h2⟩
    unfold textS; rw [h1, join_pieces]
theorem nd_le (u : Nat) : ∀ k, u < 10 ^ (k + 1) → nDigits u ≤ k + 1 := by
  intro k
  induction k generalizing u with
  | zero => intro h; rw [nDigits_small (by simpa using h)]; omega
  | succ k ih =>
    intro h
    by_cases h1 : u < 10
    · rw [nDigits_small h1]; omega
    · rw [nDigits_big h1]
      have := ih (u / 10) (by rw [Nat.pow_succ] at h; exact (Nat.div_lt_iff_lt_mul (by omega)).2 h)
      omega
theorem itoa_len (n : Int) (h : In n) : (itoa n).length ≤ 20 := by
  unfold itoa
  split
  · rw [List.length_cons, decDigits_length]
    have := nd_le n.natAbs 18 (by rw [show (10 : Nat) ^ (18 + 1) = 10000000000000000000 from by decide]; have := h.1; omega)
    omega
  · rw [decDigits_length]
    have := nd_le n.toNat 18 (by rw [show (10 : Nat) ^ (18 + 1) = 10000000000000000000 from by decide]; have := h.2; omega)
    omega
theorem word_len (p : Pk) (h : p.ok) : (word p).length ≤ 42 := by
  have h1 := itoa_len p.1 h.1
  have h2 := itoa_len p.2.1 h.2
  unfold word
  split <;> simp <;> omega
theorem lens_len : ∀ (l : List Pk), (∀ p ∈ l, p.ok) → lens (l.map word) ≤ 42 * l.length
  | [], _ => by simp [lens]
  | p :: l, h => by
    have h1 := word_len p (h p List.mem_cons_self)
    have h2 := lens_len l (fun q hq => h q (List.mem_cons_of_mem _ hq))
    simp only [List.map_cons, lens, List.length_cons] at h2 ⊢
    simp at h2 ⊢
    omega
theorem text_len (l : List Pk) (h : ∀ p ∈ l, p.ok) : (textS l).length ≤ 43 * l.length := by
  cases l with
  | nil => simp [textS, join_nil]
  | cons p l =>
    have h1 := lens_len (p :: l) h
    unfold textS
    rw [List.map_cons, join_length]
    simp only [List.map_cons, List.length_cons, List.length_map] at h1 ⊢
    simp at h1 ⊢
    omega
theorem join_snoc (s x : List UInt8) : ∀ (l : List (List UInt8)), l ≠ [] → join (l ++ [x]) s = join l s ++ s ++ x
  | [], h => absurd rfl h
  | [y], _ => by rw [List.singleton_append, join_two, join_one, join_one]
  | y :: z :: r, _ => by
    have ih := join_snoc s x (z :: r) (by simp)
    rw [List.cons_append, List.cons_append, join_two, join_two, ← List.cons_append, ih]; simp
/-- one entry more. -/
theorem text_snoc (l : List Pk) (p : Pk) (h : l ≠ []) : textS (l ++ [p]) = textS l ++ [32] ++ word p := by
  unfold textS
  rw [List.map_append, List.map_cons, List.map_nil, join_snoc _ _ _ (by simpa using h)]
theorem text_one (p : Pk) : textS [p] = word p := by unfold textS; rw [List.map_cons, List.map_nil, join_one]
end Go.Proofs.YtfofpammnfcmiaaDoor.Sp
