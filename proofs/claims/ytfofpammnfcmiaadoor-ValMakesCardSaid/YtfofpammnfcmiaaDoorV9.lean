/- Marline, values: the reader in memory; does a word stand here; a number. Conditions: as each says. -/
import Derived.Test.YtfofpammnfcmiaaDoorV7
import Derived.Test.YtfofpammnfcmiaaDoorSh5
namespace Go.Proofs.YtfofpammnfcmiaaDoor.Vl
open Go.RowKit Go.Proofs.YtfofpammnfcmiaaDoorW.PrintWords Go.Proofs.YtfofpammnfcmiaaDoorW.PrintLast Go.Proofs.YtfofpammnfcmiaaDoorW.PrintMore Go.Proofs.YtfofpammnfcmiaaDoor.Kinds Go.Proofs.YtfofpammnfcmiaaDoor.Obj
set_option linter.unusedVariables false
set_option linter.unusedSimpArgs false
set_option maxRecDepth 100000
open Go.Proofs.YtfofpammnfcmiaaDoor.E
def digC : List UInt8 := [45, 48, 49, 50, 51, 52, 53, 54, 55, 56, 57]
def isC (c : UInt8) : Bool := decide (0 ≤ Lib.indexByte digC c)
theorem index_mem (c : UInt8) : ∀ l : List UInt8, 0 ≤ Lib.indexByte l c ↔ c ∈ l
  | [] => by simp [Lib.indexByte]
  | b :: l => by
    have ih := index_mem c l
    have hge := Lib.indexByte_ge l c
    unfold Lib.indexByte
    by_cases h : b = c
    · subst h; simp
    · rw [if_neg (by simpa using h), List.mem_cons]
      by_cases h2 : Lib.indexByte l c = -1
      · rw [if_pos (by simpa using h2)]
        rw [h2] at ih
        constructor
        · intro h3; omega
        · rintro (h3 | h3)
          · exact absurd h3.symm h
          · exact absurd (ih.2 h3) (by omega)
      · rw [if_neg (by simpa using h2)]
        constructor
        · intro _; exact .inr (ih.1 (by omega))
        · intro _; omega
theorem dig_all : ∀ n : Fin 256, UInt8.ofNat n.val ∈ digC ↔ (n.val = 45 ∨ (48 ≤ n.val ∧ n.val ≤ 57)) := by decide
theorem isC_iff (c : UInt8) : isC c = true ↔ (c.toNat = 45 ∨ (48 ≤ c.toNat ∧ c.toNat ≤ 57)) := by
  unfold isC
  rw [decide_eq_true_iff, index_mem]
  have h := dig_all ⟨c.toNat, c.toNat_lt⟩
  rw [UInt8.ofNat_toNat] at h
  exact h
theorem dec_range (u : Nat) : ∀ c ∈ Lib.decDigits u, 48 ≤ c.toNat ∧ c.toNat ≤ 57 := by
  induction u using Nat.strongRecOn with
  | _ u ih =>
    intro c hc
    by_cases h : u < 10
    · rw [Lib.decDigits, dif_pos h] at hc
      rw [List.mem_singleton.1 hc, UInt8.toNat_ofNat', Nat.mod_eq_of_lt (by omega)]; omega
    · rw [Lib.decDigits, dif_neg h] at hc
      rcases List.mem_append.1 hc with hc | hc
      · exact ih _ (by omega) c hc
      · rw [List.mem_singleton.1 hc, UInt8.toNat_ofNat', Nat.mod_eq_of_lt (by omega)]; omega
theorem itoa_isC (n : Int) : ∀ c ∈ Lib.itoa n, isC c = true := by
  intro c hc
  rw [isC_iff]
  unfold Lib.itoa at hc
  split at hc
  · rcases List.mem_cons.1 hc with hc | hc
    · subst hc; exact .inl rfl
    · exact .inr (dec_range _ c hc)
  · exact .inr (dec_range _ c hc)
theorem itoa_ne (n : Int) : Lib.itoa n ≠ [] := by
  unfold Lib.itoa
  split
  · simp
  · exact E.digs_ne _
/-- does a word stand here? -/
def pre (p l : List UInt8) : Bool := p.isPrefixOf l
theorem pre_iff (p l : List UInt8) : pre p l = true ↔ ∃ r, l = p ++ r := by
  unfold pre
  rw [List.isPrefixOf_iff_prefix]
  constructor
  · rintro ⟨r, rfl⟩; exact ⟨r, rfl⟩
  · rintro ⟨r, rfl⟩; exact ⟨r, rfl⟩
theorem pre_app (p r : List UInt8) : pre p (p ++ r) = true := (pre_iff _ _).2 ⟨r, rfl⟩
theorem pre_ne {p : List UInt8} {a : UInt8} {l : List UInt8} {b : UInt8} (h : b ≠ a) : pre (b :: p) (a :: l) = false := by
  cases h2 : pre (b :: p) (a :: l) with
  | false => rfl
  | true =>
    obtain ⟨r, hr⟩ := (pre_iff _ _).1 h2
    injection hr with h3 _
    exact absurd h3.symm h
theorem pre_nil (b : UInt8) (p : List UInt8) : pre (b :: p) [] = false := rfl
/-- a number here. -/
def rn (l : List UInt8) : S67 × Bool × List UInt8 := (⟨0, (E.signedS (l.takeWhile isC)).1, []⟩, (E.signedS (l.takeWhile isC)).2 == 0, l.dropWhile isC)
mutual
/-- a value here. -/
def rv : Nat → List UInt8 → S67 × Bool × List UInt8
  | 0, l => (⟨0, 0, []⟩, false, l)
  | n + 1, l =>
    if pre tT l = true then (⟨1, 1, []⟩, true, l.drop 4) else if pre tF l = true then (⟨1, 0, []⟩, true, l.drop 5)
    else if pre [91] l = true then (if pre [93] (l.drop 1) = true then (⟨2, 0, []⟩, true, (l.drop 1).drop 1) else rp n 2 93 [] (l.drop 1))
    else if pre [123] l = true then (if pre [125] (l.drop 1) = true then (⟨3, 0, []⟩, true, (l.drop 1).drop 1) else rp n 3 125 [] (l.drop 1))
    else rn l
/-- the rest of a list. -/
def rp : Nat → Int → UInt8 → List S67 → List UInt8 → S67 × Bool × List UInt8
  | 0, k, _, acc, l => (⟨k, 0, acc⟩, false, l)
  | n + 1, k, c, acc, l =>
    if (rv n l).2.1 = true then
      (if pre [c] (rv n l).2.2 = true then (⟨k, 0, acc ++ [(rv n l).1]⟩, true, (rv n l).2.2.drop 1)
       else if pre [44, 32] (rv n l).2.2 = true then rp n k c (acc ++ [(rv n l).1]) ((rv n l).2.2.drop 2)
       else (⟨k, 0, acc ++ [(rv n l).1]⟩, false, (rv n l).2.2))
    else (⟨k, 0, acc⟩, false, (rv n l).2.2)
end
def rl (n : Nat) (k : Int) (c : UInt8) (l : List UInt8) : S67 × Bool × List UInt8 := if pre [c] l = true then (⟨k, 0, []⟩, true, l.drop 1) else rp n k c [] l
theorem rv_succ (n : Nat) (l : List UInt8) : rv (n + 1) l = if pre tT l = true then (⟨1, 1, []⟩, true, l.drop 4) else if pre tF l = true then (⟨1, 0, []⟩, true, l.drop 5) else if pre [91] l = true then rl n 2 93 (l.drop 1) else if pre [123] l = true then rl n 3 125 (l.drop 1) else rn l := by
  rw [rv]; rfl
/-- right, and its numbers are numbers. -/
def Good (x : S67) : Prop := right x = true ∧ Wv x
theorem rightL_app (a : List S67) (x : S67) (h : rightL a = true) (hx : right x = true) : rightL (a ++ [x]) = true := by
  induction a with
  | nil => simp [rightL, hx]
  | cons y a ih =>
    simp only [List.cons_append, rightL, Bool.and_eq_true] at h ⊢
    exact ⟨h.1, ih h.2⟩
theorem txt_int (n : Int) : txt ⟨0, n, []⟩ = Lib.itoa n := by simp [txt]
theorem txt_list (k : Int) (h : k = 2 ∨ k = 3) (n : Int) (l : List S67) : txt ⟨k, n, l⟩ = (if k = 3 then 123 else 91) :: (jt (txts l) ++ [if k = 3 then 125 else 93]) := by
  rw [txt, if_neg (by omega), if_neg (by omega)]
theorem rn_sound (l : List UInt8) (h : (rn l).2.1 = true) : Good (rn l).1 ∧ txt (rn l).1 ++ (rn l).2.2 = l := by
  obtain ⟨n, b, hs⟩ : ∃ n b, E.signedS (l.takeWhile isC) = (n, b) := ⟨_, _, rfl⟩
  unfold rn at h ⊢
  rw [hs] at h ⊢
  have hb : b = 0 := by simpa using h
  rcases E.signed_ok hs with ⟨_, h2, h3⟩ | ⟨h2, _⟩
  · refine ⟨⟨by simp [right], .mk _ h3 (fun y hy => by simp at hy)⟩, ?_⟩
    show txt ⟨0, n, []⟩ ++ _ = _
    rw [txt_int, h2]
    exact List.takeWhile_append_dropWhile
  · rw [hb] at h2; exact absurd h2 (by decide)
theorem wv_of (k n : Int) (l : List S67) (hn : In n) (hl : ∀ y ∈ l, Wv y) : Wv ⟨k, n, l⟩ := .mk _ hn hl
theorem in0 : In 0 := ⟨by decide, by decide⟩
theorem in1 : In 1 := ⟨by decide, by decide⟩
theorem good_list (k : Int) (h : k = 2 ∨ k = 3) (l : List S67) (hr : rightL l = true) (hw : ∀ y ∈ l, Wv y) : Good ⟨k, 0, l⟩ := by
  refine ⟨?_, wv_of k 0 l in0 hw⟩
  rw [right, if_neg (by omega), if_neg (by omega), if_pos h, hr]; rfl
/-- what is read is right, and has the text that was read. -/
theorem read_sound : ∀ n : Nat, (∀ l, (rv n l).2.1 = true → Good (rv n l).1 ∧ txt (rv n l).1 ++ (rv n l).2.2 = l) ∧
    (∀ (k : Int) (c : UInt8) (acc : List S67) (l : List UInt8), (rp n k c acc l).2.1 = true → ∃ more, more ≠ [] ∧ (∀ y ∈ more, Good y) ∧ (rp n k c acc l).1 = ⟨k, 0, acc ++ more⟩ ∧ jt (txts more) ++ c :: (rp n k c acc l).2.2 = l) := by
  intro n
  induction n with
  | zero =>
    refine ⟨fun l h => ?_, fun k c acc l h => ?_⟩
    · simp [rv] at h
    · simp [rp] at h
  | succ n ih =>
    obtain ⟨ih1, ih2⟩ := ih
    refine ⟨fun l h => ?_, fun k c acc l h => ?_⟩
    · rw [rv_succ] at h ⊢
      have lst : ∀ (k : Int) (o c : UInt8), (k = 2 ∨ k = 3) → (if k = 3 then (123 : UInt8) else 91) = o → (if k = 3 then (125 : UInt8) else 93) = c → pre [o] l = true → (rl n k c (l.drop 1)).2.1 = true → Good (rl n k c (l.drop 1)).1 ∧ txt (rl n k c (l.drop 1)).1 ++ (rl n k c (l.drop 1)).2.2 = l := by
        intro k o c hk ho hc hp hok
        obtain ⟨r, rfl⟩ := (pre_iff _ _).1 hp
        show Good (rl n k c r).1 ∧ txt (rl n k c r).1 ++ (rl n k c r).2.2 = _
        replace hok : (rl n k c r).2.1 = true := hok
        unfold rl at hok ⊢
        by_cases hc2 : pre [c] r = true
        · rw [if_pos hc2]
          obtain ⟨r2, rfl⟩ := (pre_iff _ _).1 hc2
          refine ⟨good_list k hk [] rfl (fun y hy => by simp at hy), ?_⟩
          show txt ⟨k, 0, []⟩ ++ r2 = _
          rw [txt_list k hk, ho, hc]; rfl
        · rw [if_neg hc2] at hok ⊢
          obtain ⟨more, _, h2, h3, h4⟩ := ih2 k c [] r hok
          rw [h3]
          have hrl : ∀ m : List S67, (∀ y ∈ m, Good y) → rightL m = true := by
            intro m
            induction m with
            | nil => intro _; rfl
            | cons y m ihm =>
              intro hm
              rw [rightL, (hm y List.mem_cons_self).1, ihm (fun z hz => hm z (List.mem_cons_of_mem _ hz))]; rfl
          refine ⟨good_list k hk _ (hrl _ h2) (fun y hy => (h2 y hy).2), ?_⟩
          rw [txt_list k hk, ho, hc, List.nil_append]
          show o :: (jt (txts more) ++ [c]) ++ _ = o :: r
          rw [List.cons_append, List.append_assoc]
          exact congrArg (o :: ·) h4
      by_cases h1 : pre tT l = true
      · rw [if_pos h1]
        obtain ⟨r, rfl⟩ := (pre_iff _ _).1 h1
        exact ⟨⟨by simp [right], wv_of 1 1 [] in1 (fun y hy => by simp at hy)⟩, rfl⟩
      · rw [if_neg h1] at h ⊢
        by_cases h2 : pre tF l = true
        · rw [if_pos h2]
          obtain ⟨r, rfl⟩ := (pre_iff _ _).1 h2
          exact ⟨⟨by simp [right], wv_of 1 0 [] in0 (fun y hy => by simp at hy)⟩, rfl⟩
        · rw [if_neg h2] at h ⊢
          by_cases h3 : pre [91] l = true
          · rw [if_pos h3] at h ⊢
            exact lst 2 91 93 (.inl rfl) rfl rfl h3 h
          · rw [if_neg h3] at h ⊢
            by_cases h4 : pre [123] l = true
            · rw [if_pos h4] at h ⊢
              exact lst 3 123 125 (.inr rfl) rfl rfl h4 h
            · rw [if_neg h4] at h ⊢
              exact rn_sound l h
    · rw [rp] at h ⊢
      by_cases h1 : (rv n l).2.1 = true
      · rw [if_pos h1] at h ⊢
        obtain ⟨g1, g2⟩ := ih1 l h1
        generalize (rv n l).1 = x at *
        generalize (rv n l).2.2 = l1 at *
        by_cases h2 : pre [c] l1 = true
        · rw [if_pos h2]
          obtain ⟨r, rfl⟩ := (pre_iff _ _).1 h2
          refine ⟨[x], by simp, fun y hy => by rw [List.mem_singleton.1 hy]; exact g1, rfl, ?_⟩
          rw [← g2]
          simp [txts, jt]
        · rw [if_neg h2] at h ⊢
          by_cases h3 : pre [44, 32] l1 = true
          · rw [if_pos h3] at h ⊢
            obtain ⟨r, rfl⟩ := (pre_iff _ _).1 h3
            obtain ⟨more, m1, m2, m3, m4⟩ := ih2 k c (acc ++ [x]) _ h
            refine ⟨x :: more, by simp, fun y hy => ?_, by rw [m3, List.append_assoc]; rfl, ?_⟩
            · rcases List.mem_cons.1 hy with rfl | hy
              · exact g1
              · exact m2 y hy
            · rw [← g2]
              generalize (rp n k c (acc ++ [x]) (([44, 32] ++ r).drop 2)).2.2 = rest at *
              have m5 : jt (txts more) ++ c :: rest = r := m4
              rw [← m5]
              cases more with
              | nil => exact absurd rfl m1
              | cons y more => simp [txts, jt]
          · rw [if_neg h3] at h
            exact absurd h (by simp)
      · rw [if_neg h1] at h
        exact absurd h (by simp)
/-- the first byte of a right value's text. -/
theorem txt_head (x : S67) (h : right x = true) : ∃ a r, txt x = a :: r ∧ a ≠ 93 ∧ a ≠ 125 := by
  rcases right_kinds x h with h0 | ⟨h0, h1⟩ | ⟨h0, h1⟩
  · obtain ⟨k, n, l⟩ := x
    simp only at h0
    subst h0
    have e : txt ⟨0, n, l⟩ = Lib.itoa n := by simp [txt]
    rw [e]
    have h3 := itoa_isC n
    cases hi : Lib.itoa n with
    | nil => exact absurd hi (itoa_ne n)
    | cons a r =>
      have h2 := (isC_iff a).1 (h3 a (by rw [hi]; exact List.mem_cons_self))
      refine ⟨a, r, rfl, ?_, ?_⟩ <;> (rintro rfl; revert h2; decide)
  · obtain ⟨k, n, l⟩ := x
    simp only at h0 h1
    subst h0
    rcases h1 with rfl | rfl
    · exact ⟨102, _, rfl, by decide, by decide⟩
    · exact ⟨116, _, rfl, by decide, by decide⟩
  · obtain ⟨k, n, l⟩ := x
    simp only at h0 h1
    rw [txt_list k h0]
    refine ⟨_, _, rfl, ?_, ?_⟩ <;> (split <;> decide)
/-- no digit stands here. -/
def offC : List UInt8 → Prop
  | [] => True
  | a :: _ => isC a = false
theorem run_app : ∀ (p r : List UInt8), (∀ c ∈ p, isC c = true) → offC r → (p ++ r).takeWhile isC = p ∧ (p ++ r).dropWhile isC = r
  | [], r, _, h => by
    cases r with
    | nil => exact ⟨rfl, rfl⟩
    | cons a r =>
      have h2 : ¬ isC a = true := by rw [show isC a = false from h]; exact Bool.false_ne_true
      exact ⟨List.takeWhile_cons_of_neg h2, List.dropWhile_cons_of_neg h2⟩
  | a :: p, r, hp, h => by
    obtain ⟨h1, h2⟩ := run_app p r (fun c hc => hp c (List.mem_cons_of_mem _ hc)) h
    have h3 := hp a List.mem_cons_self
    rw [List.cons_append, List.takeWhile_cons_of_pos h3, List.dropWhile_cons_of_pos h3, h1, h2]
    exact ⟨rfl, rfl⟩
theorem read_int (k : Nat) (n : Int) (hn : In n) (r : List UInt8) (hr : offC r) : rv (k + 1) (Lib.itoa n ++ r) = (⟨0, n, []⟩, true, r) := by
  obtain ⟨h1, h2⟩ := run_app (Lib.itoa n) r (itoa_isC n) hr
  have h3 := itoa_isC n
  rw [rv_succ]
  have hh : ∃ a q, Lib.itoa n ++ r = a :: q ∧ isC a = true := by
    cases hi : Lib.itoa n with
    | nil => exact absurd hi (itoa_ne n)
    | cons a q => exact ⟨a, q ++ r, rfl, h3 a (by rw [hi]; exact List.mem_cons_self)⟩
  obtain ⟨a, q, e, ha⟩ := hh
  have ha2 := (isC_iff a).1 ha
  have no : ∀ b p, b ≠ a → ¬ pre (b :: p) (Lib.itoa n ++ r) = true := by
    intro b p hb
    rw [e, pre_ne hb]; exact Bool.false_ne_true
  rw [if_neg (no 116 _ (by rintro rfl; revert ha2; decide)), if_neg (no 102 _ (by rintro rfl; revert ha2; decide)), if_neg (no 91 _ (by rintro rfl; revert ha2; decide)), if_neg (no 123 _ (by rintro rfl; revert ha2; decide))]
  unfold rn
  rw [h1, h2, E.signed_itoa n hn]
  rfl
theorem offC_cons {a : UInt8} (h : isC a = false) (r : List UInt8) : offC (a :: r) := h
/-- a right value is read from its text. -/
theorem read_full : ∀ (m : Nat) (x : S67), sz x ≤ m → Good x → ∀ (r : List UInt8), offC r → ∀ n, 2 * sz x ≤ n → rv n (txt x ++ r) = (x, true, r) := by
  intro m
  induction m with
  | zero => intro x h; have := sz_pos x; omega
  | succ m ih =>
    intro x hx hg r hr n hn
    have he := sz_eq x
    have hpx := sz_pos x
    obtain ⟨n, rfl⟩ : ∃ n', n = n' + 1 := ⟨n - 1, by omega⟩
    have key : ∀ (k : Int) (c : UInt8), c = 93 ∨ c = 125 → ∀ (l : List S67), szL l ≤ m → (∀ y ∈ l, Good y) → l ≠ [] → ∀ (acc : List S67) (n : Nat), 2 * szL l + 1 ≤ n → rp n k c acc (jt (txts l) ++ c :: r) = (⟨k, 0, acc ++ l⟩, true, r) := by
      intro k c hc l
      induction l with
      | nil => intro _ _ h; exact absurd rfl h
      | cons y l ihl =>
        intro h1 h2 _ acc n hn
        simp only [szL] at h1 hn
        have hy := sz_pos y
        obtain ⟨n, rfl⟩ : ∃ n', n = n' + 1 := ⟨n - 1, by omega⟩
        have hcC : isC c = false := by rcases hc with rfl | rfl <;> decide
        cases l with
        | nil =>
          have e : jt (txts [y]) ++ c :: r = txt y ++ c :: r := by simp [txts, jt]
          have g := ih y (by simp only [szL] at h1; omega) (h2 y List.mem_cons_self) (c :: r) (offC_cons hcC r) n (by simp only [szL] at hn; omega)
          rw [e, rp, g, if_pos rfl, if_pos (show pre [c] (y, true, c :: r).2.2 = true from pre_app [c] r)]
          rfl
        | cons z l =>
          have e : jt (txts (y :: z :: l)) ++ c :: r = txt y ++ ([44, 32] ++ (jt (txts (z :: l)) ++ c :: r)) := by simp [txts, jt]
          have g := ih y (by simp only [szL] at h1; omega) (h2 y List.mem_cons_self) ([44, 32] ++ (jt (txts (z :: l)) ++ c :: r)) (offC_cons (by decide) _) n (by omega)
          rw [e, rp, g, if_pos rfl]
          have e2 : pre [c] ([44, 32] ++ (jt (txts (z :: l)) ++ c :: r)) = false := pre_ne (by rcases hc with rfl | rfl <;> decide)
          have g2 := ihl (by omega) (fun z hz => h2 z (List.mem_cons_of_mem _ hz)) (by simp) (acc ++ [y]) n (by omega)
          rw [if_neg (by show ¬ pre [c] ([44, 32] ++ (jt (txts (z :: l)) ++ c :: r)) = true; rw [e2]; exact Bool.false_ne_true), if_pos (show pre [44, 32] (y, true, [44, 32] ++ (jt (txts (z :: l)) ++ c :: r)).2.2 = true from pre_app [44, 32] _)]
          show rp n k c (acc ++ [y]) (jt (txts (z :: l)) ++ c :: r) = _
          rw [g2, List.append_assoc]
          rfl
    rcases right_kinds x hg.1 with h0 | ⟨h0, h1⟩ | ⟨h0, h1⟩
    · have hn2 := hg.2.n
      have hr2 := hg.1
      obtain ⟨k, v, l⟩ := x
      simp only at h0 hn2
      subst h0
      rw [right, if_pos rfl, List.isEmpty_iff] at hr2
      subst hr2
      rw [txt_int]
      exact read_int n v hn2 r hr
    · have hr2 := hg.1
      obtain ⟨k, v, l⟩ := x
      simp only at h0 h1
      subst h0
      rw [right, if_neg (by decide), if_pos rfl, Bool.and_eq_true, List.isEmpty_iff] at hr2
      have hl := hr2.1
      subst hl
      rw [rv_succ]
      rcases h1 with rfl | rfl
      · show (if pre tT (tF ++ r) = true then _ else _) = _
        rw [if_neg (by rw [show pre tT (tF ++ r) = false from pre_ne (by decide)]; exact Bool.false_ne_true), if_pos (show pre tF (txt ⟨1, 0, []⟩ ++ r) = true from pre_app tF r)]
        rfl
      · rw [if_pos (show pre tT (txt ⟨1, 1, []⟩ ++ r) = true from pre_app tT r)]
        rfl
    · have hr2 := hg.1
      have hkid := fun y hy => hg.2.kid (y := y) hy
      obtain ⟨k, v, l⟩ := x
      simp only at h0 h1 hkid he
      rw [right, if_neg (by omega), if_neg (by omega), if_pos h0, Bool.and_eq_true, decide_eq_true_iff] at hr2
      have hv := hr2.1
      subst hv
      have hgl : ∀ y ∈ l, Good y := fun y hy => ⟨rightL_mem l h1 y hy, hkid y hy⟩
      have lst : ∀ c, (c = 93 ∨ c = 125) → rl n k c (jt (txts l) ++ c :: r) = (⟨k, 0, l⟩, true, r) := by
        intro c hc
        unfold rl
        cases hl : l with
        | nil => rw [if_pos (show pre [c] (jt (txts []) ++ c :: r) = true from pre_app [c] r)]; rfl
        | cons y l2 =>
          obtain ⟨a, q, e1, e2, e3⟩ := txt_head y (hgl y (by rw [hl]; exact List.mem_cons_self)).1
          have e4 : pre [c] (jt (txts (y :: l2)) ++ c :: r) = false := by
            have e5 : jt (txts (y :: l2)) ++ c :: r = a :: (q ++ ((txts l2).map (fun y => 44 :: 32 :: y)).flatten ++ c :: r) := by simp [txts, jt, e1]
            rw [e5]
            exact pre_ne (by rcases hc with rfl | rfl <;> (intro h; first | exact e2 h.symm | exact e3 h.symm))
          rw [if_neg (by rw [e4]; exact Bool.false_ne_true), ← hl, key k c hc l (by omega) hgl (by rw [hl]; simp) [] n (by omega)]
          rfl
      rw [rv_succ, txt_list k h0]
      rcases h0 with rfl | rfl
      · rw [show ((if (2 : Int) = 3 then (123 : UInt8) else 91) :: (jt (txts l) ++ [if (2 : Int) = 3 then (125 : UInt8) else 93])) ++ r = 91 :: (jt (txts l) ++ 93 :: r) by simp]
        rw [if_neg (by rw [show pre tT (91 :: (jt (txts l) ++ 93 :: r)) = false from pre_ne (by decide)]; exact Bool.false_ne_true), if_neg (by rw [show pre tF (91 :: (jt (txts l) ++ 93 :: r)) = false from pre_ne (by decide)]; exact Bool.false_ne_true), if_pos (show pre [91] (91 :: (jt (txts l) ++ 93 :: r)) = true from pre_app [91] _)]
        exact lst 93 (.inl rfl)
      · rw [show ((if (3 : Int) = 3 then (123 : UInt8) else 91) :: (jt (txts l) ++ [if (3 : Int) = 3 then (125 : UInt8) else 93])) ++ r = 123 :: (jt (txts l) ++ 125 :: r) by simp]
        rw [if_neg (by rw [show pre tT (123 :: (jt (txts l) ++ 125 :: r)) = false from pre_ne (by decide)]; exact Bool.false_ne_true), if_neg (by rw [show pre tF (123 :: (jt (txts l) ++ 125 :: r)) = false from pre_ne (by decide)]; exact Bool.false_ne_true), if_neg (by rw [show pre [91] (123 :: (jt (txts l) ++ 125 :: r)) = false from pre_ne (by decide)]; exact Bool.false_ne_true), if_pos (show pre [123] (123 :: (jt (txts l) ++ 125 :: r)) = true from pre_app [123] _)]
        exact lst 125 (.inr rfl)
/-- unlike right values have unlike texts. -/
theorem txt_inj {x y : S67} (hx : Good x) (hy : Good y) (h : txt x = txt y) : x = y := by
  have h1 := read_full _ x (Nat.le_refl _) hx [] trivial (2 * sz x + 2 * sz y) (by omega)
  have h2 := read_full _ y (Nat.le_refl _) hy [] trivial (2 * sz x + 2 * sz y) (by omega)
  rw [h, h2] at h1
  exact (congrArg (·.1) h1).symm
theorem drop_len {α : Type} (l : List α) (n : Nat) : (l.drop n).length ≤ l.length := by rw [List.length_drop]; omega
/-- what is behind is no longer. -/
theorem read_len : ∀ n : Nat, (∀ l, (rv n l).2.2.length ≤ l.length) ∧ (∀ (k : Int) (c : UInt8) (acc : List S67) (l : List UInt8), (rp n k c acc l).2.2.length ≤ l.length) := by
  intro n
  induction n with
  | zero => exact ⟨fun l => Nat.le_refl _, fun k c acc l => Nat.le_refl _⟩
  | succ n ih =>
    obtain ⟨ih1, ih2⟩ := ih
    have hl : ∀ k c l, (rl n k c l).2.2.length ≤ l.length := by
      intro k c l
      unfold rl
      split
      · exact drop_len l 1
      · exact ih2 k c [] l
    refine ⟨fun l => ?_, fun k c acc l => ?_⟩
    · rw [rv_succ]
      split
      · exact drop_len l 4
      · split
        · exact drop_len l 5
        · split
          · exact Nat.le_trans (hl _ _ _) (drop_len l 1)
          · split
            · exact Nat.le_trans (hl _ _ _) (drop_len l 1)
            · show (l.dropWhile isC).length ≤ _
              have := congrArg List.length (List.takeWhile_append_dropWhile (p := isC) (l := l))
              rw [List.length_append] at this; omega
    · rw [rp]
      have h1 := ih1 l
      split
      · split
        · exact Nat.le_trans (drop_len _ 1) h1
        · split
          · exact Nat.le_trans (ih2 _ _ _ _) (Nat.le_trans (drop_len _ 2) h1)
          · exact h1
      · exact h1
end Go.Proofs.YtfofpammnfcmiaaDoor.Vl
namespace Go.Proofs.YtfofpammnfcmiaaDoor.Vl
open Go.RowKit Go.Proofs.YtfofpammnfcmiaaDoorW.PrintWords Go.Proofs.YtfofpammnfcmiaaDoorW.PrintLast Go.Proofs.YtfofpammnfcmiaaDoorW.PrintMore Go.Proofs.YtfofpammnfcmiaaDoor.Kinds Go.Proofs.YtfofpammnfcmiaaDoor.Obj
set_option linter.unusedVariables false
set_option linter.unusedSimpArgs false
set_option maxRecDepth 100000
open Go.Proofs.YtfofpammnfcmiaaDoor.E
/-- the value of a text, and whether there is one. -/
def readS (l : List UInt8) : S67 × Int := if (rv (2 * l.length + 1) l).2.1 = true ∧ (rv (2 * l.length + 1) l).2.2 = [] then ((rv (2 * l.length + 1) l).1, 0) else (⟨0, 0, []⟩, 1)
theorem readS_two (l : List UInt8) : ((readS l).2 = 0 ∧ Good (readS l).1 ∧ txt (readS l).1 = l) ∨ readS l = (⟨0, 0, []⟩, 1) := by
  unfold readS
  by_cases h : (rv (2 * l.length + 1) l).2.1 = true ∧ (rv (2 * l.length + 1) l).2.2 = []
  · rw [if_pos h]
    obtain ⟨h1, h2⟩ := (read_sound (2 * l.length + 1)).1 l h.1
    rw [h.2, List.append_nil] at h2
    exact .inl ⟨rfl, h1, h2⟩
  · rw [if_neg h]; exact .inr rfl
/-- a right value's text is no shorter than its size. -/
theorem sz_txt : ∀ (n : Nat) (x : S67), sz x ≤ n → right x = true → sz x ≤ (txt x).length := by
  intro n
  induction n with
  | zero => intro x h; have := sz_pos x; omega
  | succ n ih =>
    intro x hx hr
    have hlist : ∀ l : List S67, szL l ≤ n → rightL l = true → szL l ≤ (jt (txts l)).length := by
      intro l
      induction l with
      | nil => intro _ _; exact Nat.zero_le _
      | cons y l ihl =>
        intro h1 h2
        simp only [szL] at h1
        simp only [rightL, Bool.and_eq_true] at h2
        have g1 := ih y (by omega) h2.1
        have g2 := ihl (by omega) h2.2
        have e : (jt (txts l)).length ≤ (jt (txts (y :: l))).length - (txt y).length ∧ (txt y).length ≤ (jt (txts (y :: l))).length := by
          cases l with
          | nil => simp [txts, jt]
          | cons z l => simp [txts, jt]; omega
        simp only [szL]
        omega
    have he := sz_eq x
    rcases right_kinds x hr with h0 | ⟨h0, h1⟩ | ⟨h0, h1⟩
    · obtain ⟨k, v, l⟩ := x
      simp only at h0
      subst h0
      rw [right, if_pos rfl, List.isEmpty_iff] at hr
      subst hr
      rw [he, txt_int]
      have := itoa_ne v
      cases hi : Lib.itoa v with
      | nil => exact absurd hi this
      | cons a r => simp [szL]
    · obtain ⟨k, v, l⟩ := x
      simp only at h0 h1
      subst h0
      rw [right, if_neg (by decide), if_pos rfl, Bool.and_eq_true, List.isEmpty_iff] at hr
      have hl := hr.1
      subst hl
      rw [he]
      rcases h1 with rfl | rfl <;> decide
    · obtain ⟨k, v, l⟩ := x
      simp only at h0 h1 he
      rw [txt_list k h0, he]
      have := hlist l (by omega) h1
      simp only [List.length_cons, List.length_append, List.length_nil]
      omega
theorem readS_txt (x : S67) (h : Good x) : readS (txt x) = (x, 0) := by
  have h1 := sz_txt _ x (Nat.le_refl _) h.1
  have h2 := read_full _ x (Nat.le_refl _) h [] trivial (2 * (txt x).length + 1) (by omega)
  rw [List.append_nil] at h2
  unfold readS
  rw [h2, if_pos ⟨rfl, rfl⟩]
end Go.Proofs.YtfofpammnfcmiaaDoor.Vl
namespace Go.Proofs.YtfofpammnfcmiaaDoor.Vl
open Go.RowKit Go.Proofs.YtfofpammnfcmiaaDoorW.PrintWords Go.Proofs.YtfofpammnfcmiaaDoorW.PrintLast Go.Proofs.YtfofpammnfcmiaaDoorW.PrintMore Go.Proofs.YtfofpammnfcmiaaDoor.Kinds Go.Proofs.YtfofpammnfcmiaaDoor.Obj
set_option linter.unusedVariables false
set_option linter.unusedSimpArgs false
set_option maxRecDepth 100000
open Go.Proofs.YtfofpammnfcmiaaDoor.E
open PV (IsS107)
/-- a reader in block g, at what is left of its text. -/
def Rdr (W0 w : World) (g : Nat) (s : ByteArray) (l : List UInt8) : Prop := ∃ p : Nat, IsS107 W0 w g s (p : Int) ∧ p + l.length = s.size ∧ s.data.toList.drop p = l
theorem Rdr.far {W0 w : World} {g : Nat} {s : ByteArray} {l : List UInt8} (h : Rdr W0 w g s l) {a : Addr} (hne : g ≠ a.block) (u : Value) : Rdr W0 (w.setCell a u) g s l := by
  obtain ⟨p, h1, h2⟩ := h
  exact ⟨p, h1.far hne u, h2⟩
theorem Rdr.below {W0 w w' : World} {g : Nat} {s : ByteArray} {l : List UInt8} (h : Rdr W0 w g s l) (hb : Below w.heap.size w w') : Rdr W0 w' g s l := by
  obtain ⟨p, h1, h2⟩ := h
  exact ⟨p, h1.below hb, h2⟩
theorem Rdr.alloc {W0 w : World} {g : Nat} {s : ByteArray} {l : List UInt8} (h : Rdr W0 w g s l) (o : Obj) : Rdr W0 (w.alloc o) g s l := h.below (below_alloc (Below.refl _ _) o)
theorem Rdr.grown {W0 w w' : World} {g : Nat} {s : ByteArray} {l : List UInt8} {row : Option Nat} (h : Rdr W0 w g s l) (hw : w.grownBy w' row) (hne : some g ≠ row) : Rdr W0 w' g s l := by
  obtain ⟨p, h1, h2⟩ := h
  exact ⟨p, h1.grown hw hne, h2⟩
theorem Rdr.lt {W0 w : World} {g : Nat} {s : ByteArray} {l : List UInt8} (h : Rdr W0 w g s l) : g < w.heap.size := by
  obtain ⟨p, h1, h2⟩ := h
  exact h1.lt
theorem Rdr.ge {W0 w : World} {g : Nat} {s : ByteArray} {l : List UInt8} (h : Rdr W0 w g s l) : W0.heap.size ≤ g := by
  obtain ⟨p, h1, h2⟩ := h
  exact h1.ge
theorem ext_data (s : ByteArray) (p q : Nat) (h : q ≤ s.size) : (s.extract p q).data.toList = (s.data.toList.drop p).take (q - p) := by
  rw [ByteArray.data_extract, Array.toList_extract, List.extract_eq_take_drop]
theorem ext_size (s : ByteArray) (p q : Nat) (h : q ≤ s.size) : (s.extract p q).size = q - p := by
  rw [ByteArray.size_extract]; omega
theorem pre_take (p l : List UInt8) : pre p l = (decide (p.length ≤ l.length) && (l.take p.length == p)) := by
  cases h : pre p l with
  | true =>
    obtain ⟨r, rfl⟩ := (pre_iff _ _).1 h
    simp
  | false =>
    cases h2 : (decide (p.length ≤ l.length) && (l.take p.length == p)) with
    | false => rfl
    | true =>
      rw [Bool.and_eq_true, beq_iff_eq] at h2
      have h3 : pre p l = true := (pre_iff _ _).2 ⟨l.drop p.length, by have h4 := List.take_append_drop p.length l; rw [h2.2] at h4; exact h4.symm⟩
      rw [h] at h3; cases h3
theorem prefix_is (s : ByteArray) (p : Nat) (l word : List UInt8) (h1 : p + l.length = s.size) (h2 : s.data.toList.drop p = l) : PV.strings_HasPrefix.f (s.extract (p : Int).toNat s.size) (ba word) = some (pre word l) := by
  rw [Int.toNat_natCast]
  have e1 : (s.extract p s.size).size = l.length := by rw [ext_size _ _ _ (Nat.le_refl _)]; omega
  have e2 : (s.extract p s.size).data.toList = l := by
    rw [ext_data _ _ _ (Nat.le_refl _), h2, List.take_of_length_le (by omega)]
  unfold PV.strings_HasPrefix.f PV.stringslite_HasPrefix.f
  rw [e1, ba_size, pre_take]
  by_cases h : word.length ≤ l.length
  · rw [if_pos (by omega), if_pos (by omega), if_pos (by omega), Option.bind_some, decide_eq_true h, Bool.true_and, ByteArray.toList_eq, ByteArray.toList_eq, ext_data _ _ _ (by rw [e1, Int.toNat_natCast]; exact h), e2, Int.toNat_natCast]
    rfl
  · rw [if_neg (by omega), Option.bind_some, decide_eq_false h, Bool.false_and]
theorem pre_len {p l : List UInt8} (h : pre p l = true) : p.length ≤ l.length ∧ p.length + (l.drop p.length).length = l.length := by
  obtain ⟨r, rfl⟩ := (pre_iff _ _).1 h
  simp
/-- what is left behind a word. -/
def past (word l : List UInt8) : List UInt8 := if pre word l = true then l.drop word.length else l
theorem takes_calls (W0 : World) (g : Nat) (s : ByteArray) (l word : List UInt8) (w : World) (hR : Rdr W0 w g s l) (hB : Below W0.heap.size W0 w) (hs : s.size ≤ 1048576) :
    Calls Tryd.prog 100 #[.pointer (some ⟨g, 0, none⟩), .string (ba word)] w fun e w' => e = .returned (.bool (pre word l)) ∧ Rdr W0 w' g s (past word l) ∧ Below W0.heap.size W0 w' ∧ KeepBut w w' g none := by
  obtain ⟨p, h1, h2, h3⟩ := hR
  have hf : PV.val_reader_takes.f s (p : Int) (ba word) = some (pre word l, s, if pre word l = true then ((p + word.length : Nat) : Int) else (p : Int)) := by
    unfold PV.val_reader_takes.f
    rw [if_pos (by omega), if_pos (by omega), prefix_is s p l word h2 h3, Option.bind_some]
    cases hp : pre word l with
    | true =>
      have := (pre_len hp).1
      rw [if_pos rfl, if_pos rfl, ba_size, show wrap64 ((p : Int) + (word.length : Int)) = ((p + word.length : Nat) : Int) by unfold wrap64; omega]
    | false => rw [if_neg Bool.false_ne_true, if_neg Bool.false_ne_true]
  refine (PV.val_reader_takes.calls g s p (ba word) _ _ _ W0 w h1 hB hf).mono ?_
  rintro e w' ⟨rfl, g1, g2, g3⟩
  refine ⟨rfl, ?_, g2, g3⟩
  unfold past
  cases hp : pre word l with
  | true =>
    have := pre_len hp
    rw [hp] at g1
    rw [if_pos rfl] at g1 ⊢
    exact ⟨p + word.length, g1, by omega, by rw [← h3, List.drop_drop]⟩
  | false =>
    rw [hp] at g1
    rw [if_neg Bool.false_ne_true] at g1 ⊢
    exact ⟨p, g1, h2, h3⟩
/-- a struct of three in a block of its own. -/
def Bx (w : World) (b : Nat) (k n : Int) (u : Value) : Prop := w.heap[b]? = some (.cells #[.int .i64 k, .int .i64 n, u] 67 (0, 0))
theorem Bx.cells {w : World} {b : Nat} {k n : Int} {u : Value} (h : Bx w b k n u) : w.cell? ⟨b, 0, none⟩ = some (.int .i64 k) ∧ w.cell? ⟨b, 1, none⟩ = some (.int .i64 n) ∧ w.cell? ⟨b, 2, none⟩ = some u ∧ w.frozen? ⟨b, 0, none⟩ = false ∧ w.frozen? ⟨b, 1, none⟩ = false ∧ w.frozen? ⟨b, 2, none⟩ = false := ⟨(blk_cell h 0).trans rfl, (blk_cell h 1).trans rfl, (blk_cell h 2).trans rfl, blk_frozen h 0, blk_frozen h 1, blk_frozen h 2⟩
theorem Bx.lt {w : World} {b : Nat} {k n : Int} {u : Value} (h : Bx w b k n u) : b < w.heap.size := blk_lt h
theorem Bx.far {w : World} {b : Nat} {k n : Int} {u : Value} (h : Bx w b k n u) {a : Addr} (hne : b ≠ a.block) (v : Value) : Bx (w.setCell a v) b k n u := blk_far h hne v
theorem Bx.below {w w' : World} {b : Nat} {k n : Int} {u : Value} (h : Bx w b k n u) (hb : Below w.heap.size w w') : Bx w' b k n u := blk_below h hb
theorem Bx.alloc {w : World} {b : Nat} {k n : Int} {u : Value} (h : Bx w b k n u) (o : Obj) : Bx (w.alloc o) b k n u := blk_alloc h o
theorem Bx.keep {w w' : World} {b g : Nat} {k n : Int} {u : Value} (h : Bx w b k n u) (hk : KeepBut w w' g none) (hne : b ≠ g) : Bx w' b k n u := hk.blk h hne (by simp)
theorem Bx.grown {w w' : World} {b : Nat} {k n : Int} {u : Value} {row : Option Nat} (h : Bx w b k n u) (hg : w.grownBy w' row) (hne : some b ≠ row) : Bx w' b k n u := blk_grown h hg hne
theorem Bx.set2 {w : World} {b : Nat} {k n : Int} {u : Value} (h : Bx w b k n u) (v : Value) : Bx (w.setCell ⟨b, 2, none⟩ v) b k n v := by
  have h1 := blk_set h 2 v
  unfold Bx
  simpa using h1
theorem Bx.set3 {w : World} {b : Nat} {k n : Int} {u : Value} (h : Bx w b k n u) (k' n' : Int) (u' : Value) : Bx (((w.setCell ⟨b, 0, none⟩ (.int .i64 k')).setCell ⟨b, 1, none⟩ (.int .i64 n')).setCell ⟨b, 2, none⟩ u') b k' n' u' := by
  have h1 : Bx (w.setCell ⟨b, 0, none⟩ (.int .i64 k')) b k' n u := by
    have := blk_set h 0 (.int .i64 k')
    unfold Bx
    simpa using this
  have h2 : Bx ((w.setCell ⟨b, 0, none⟩ (.int .i64 k')).setCell ⟨b, 1, none⟩ (.int .i64 n')) b k' n' u := by
    have := blk_set h1 1 (.int .i64 n')
    unfold Bx
    simpa using this
  exact h2.set2 u'
/-- what reading leaves. -/
def ReadP (W0 w : World) (g : Nat) (s : ByteArray) (r : S67 × Bool × List UInt8) (e : Ending) (w' : World) : Prop :=
  ∃ u, e = .returned (.tuple #[.agg #[.int .i64 r.1.f0, .int .i64 r.1.f1, u], .bool r.2.1]) ∧ Kd.R k67 67 w' w.heap.size (fun _ => True) u r.1.f2 ∧ Rdr W0 w' g s r.2.2 ∧ Below W0.heap.size W0 w' ∧ KeepBut w w' g none
/-- storing a result cell behind the call's start. -/
theorem ends3 {W0 w w3 : World} {g b : Nat} {s : ByteArray} {l : List UInt8} (hR : Rdr W0 w3 g s l) (hB : Below W0.heap.size W0 w3) (hK : KeepBut w w3 g none) (hg : g < w.heap.size) (hb : w.heap.size ≤ b) (x y u : Value) :
    Rdr W0 (((w3.setCell ⟨b, 0, none⟩ x).setCell ⟨b, 1, none⟩ y).setCell ⟨b, 2, none⟩ u) g s l ∧ Below W0.heap.size W0 (((w3.setCell ⟨b, 0, none⟩ x).setCell ⟨b, 1, none⟩ y).setCell ⟨b, 2, none⟩ u) ∧ KeepBut w (((w3.setCell ⟨b, 0, none⟩ x).setCell ⟨b, 1, none⟩ y).setCell ⟨b, 2, none⟩ u) g none := by
  have hne : g ≠ b := by omega
  have hge : W0.heap.size ≤ b := Nat.le_trans hR.ge (by omega)
  exact ⟨((hR.far (a := ⟨b, 0, none⟩) hne x).far (a := ⟨b, 1, none⟩) hne y).far (a := ⟨b, 2, none⟩) hne u,
    below_set (below_set (below_set hB hge) hge) hge, keep_far (keep_far (keep_far hK hb x) hb y) hb u⟩
end Go.Proofs.YtfofpammnfcmiaaDoor.Vl
