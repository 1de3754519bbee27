/- Marline, layer 10: tokens, plain: how a source is cut, how tokens are spelled, and that what is spelled is cut into the same tokens. No condition. -/
import Derived.Test.YtfofpammnfcmiaaDoorSp
import Derived.Lib.Join
namespace Go.Proofs.YtfofpammnfcmiaaDoor.Lx

def letterB (c : UInt8) : Bool := decide (c.toNat = 95 ∨ (97 ≤ c.toNat ∧ c.toNat ≤ 122) ∨ (65 ≤ c.toNat ∧ c.toNat ≤ 90))
def digitB (c : UInt8) : Bool := decide (48 ≤ c.toNat ∧ c.toNat ≤ 57)
def blankB (c : UInt8) : Bool := decide (c.toNat = 32 ∨ c.toNat = 9 ∨ c.toNat = 10 ∨ c.toNat = 13)
def nameB (c : UInt8) : Bool := letterB c || digitB c
/-- how many bytes are skipped; in a remark (true), or not. -/
def skipM : Bool → List UInt8 → Nat
  | _, [] => 0
  | true, c :: r => if c.toNat = 10 then skipM false r + 1 else skipM true r + 1
  | false, c :: r => if blankB c = true then skipM false r + 1 else if c.toNat = 35 then skipM true r + 1 else 0
/-- what words, marks and numbers are. -/
structure Words where
  isW : List UInt8 → Bool
  mkW : List UInt8 → List UInt8
  rd : List UInt8 → Int × Int
structure Words.Ok (W : Words) : Prop where
  pre : ∀ l, ∃ r, l = W.mkW l ++ r
  back : ∀ l r, W.mkW l ≠ [] → W.mkW (W.mkW l ++ 32 :: r) = W.mkW l
  self : ∀ l, W.mkW l ≠ [] → W.mkW (W.mkW l) = W.mkW l
structure Tok where
  kind : Int
  at_ : Nat
  n : Int
  text : List UInt8
def tok1 (W : Words) (l : List UInt8) (p : Nat) : Tok × Int :=
  match l with
  | [] => (⟨0, p, 0, []⟩, 0)
  | c :: r =>
    if letterB c = true then (⟨if W.isW ((c :: r).takeWhile nameB) = true then 3 else 1, p, 0, (c :: r).takeWhile nameB⟩, if 32 < ((c :: r).takeWhile nameB).length then 3 else 0)
    else if digitB c = true then (⟨2, p, (W.rd ((c :: r).takeWhile digitB)).1, (c :: r).takeWhile digitB⟩, (W.rd ((c :: r).takeWhile digitB)).2)
    else (⟨4, p, 0, W.mkW (c :: r)⟩, if W.mkW (c :: r) = [] then 1 else 0)
/-- the tokens of a source; or the place of an error, and it. -/
def allF (W : Words) : Nat → List UInt8 → Nat → Except (Nat × Int) (List Tok)
  | 0, _, _ => .ok []
  | f + 1, l, p =>
    if l.drop (skipM false l) = [] then .ok [⟨0, p + skipM false l, 0, []⟩]
    else if (tok1 W (l.drop (skipM false l)) (p + skipM false l)).2 = 0 then
      (allF W f ((l.drop (skipM false l)).drop (tok1 W (l.drop (skipM false l)) (p + skipM false l)).1.text.length) (p + skipM false l + (tok1 W (l.drop (skipM false l)) (p + skipM false l)).1.text.length)).map ((tok1 W (l.drop (skipM false l)) (p + skipM false l)).1 :: ·)
    else .error (p + skipM false l, (tok1 W (l.drop (skipM false l)) (p + skipM false l)).2)
theorem skip_le : ∀ (l : List UInt8) (b : Bool), skipM b l ≤ l.length
  | [], b => by cases b <;> simp [skipM]
  | c :: r, true => by unfold skipM; split <;> (have := skip_le r false; have := skip_le r true; simp; omega)
  | c :: r, false => by
    unfold skipM
    split
    · have := skip_le r false; simp; omega
    · split
      · have := skip_le r true; simp; omega
      · simp
/-- behind what is skipped nothing is skipped. -/
theorem skip_stop : ∀ (l : List UInt8) (b : Bool), skipM false (l.drop (skipM b l)) = 0
  | [], b => by cases b <;> rfl
  | c :: r, true => by
    by_cases h : c.toNat = 10
    · rw [show skipM true (c :: r) = skipM false r + 1 by rw [skipM]; rw [if_pos h], List.drop_succ_cons]; exact skip_stop r false
    · rw [show skipM true (c :: r) = skipM true r + 1 by rw [skipM]; rw [if_neg h], List.drop_succ_cons]; exact skip_stop r true
  | c :: r, false => by
    by_cases h1 : blankB c = true
    · rw [show skipM false (c :: r) = skipM false r + 1 by rw [skipM]; rw [if_pos h1], List.drop_succ_cons]; exact skip_stop r false
    · by_cases h2 : c.toNat = 35
      · rw [show skipM false (c :: r) = skipM true r + 1 by rw [skipM]; rw [if_neg h1, if_pos h2], List.drop_succ_cons]; exact skip_stop r true
      · have h3 : skipM false (c :: r) = 0 := by rw [skipM]; rw [if_neg h1, if_neg h2]
        rw [h3, List.drop_zero, h3]
/-- what is skipped is blanks. -/
theorem skip_all : ∀ (l : List UInt8) (b : Bool), skipM b (l.take (skipM b l)) = skipM b l
  | [], b => by cases b <;> rfl
  | c :: r, true => by
    by_cases h : c.toNat = 10
    · have e : ∀ r, skipM true (c :: r) = skipM false r + 1 := fun r => by rw [skipM]; rw [if_pos h]
      rw [e, List.take_succ_cons, e, skip_all r false]
    · have e : ∀ r, skipM true (c :: r) = skipM true r + 1 := fun r => by rw [skipM]; rw [if_neg h]
      rw [e, List.take_succ_cons, e, skip_all r true]
  | c :: r, false => by
    by_cases h1 : blankB c = true
    · have e : ∀ r, skipM false (c :: r) = skipM false r + 1 := fun r => by rw [skipM]; rw [if_pos h1]
      rw [e, List.take_succ_cons, e, skip_all r false]
    · by_cases h2 : c.toNat = 35
      · have e : ∀ r, skipM false (c :: r) = skipM true r + 1 := fun r => by rw [skipM]; rw [if_neg h1, if_pos h2]
        rw [e, List.take_succ_cons, e, skip_all r true]
      · have h3 : skipM false (c :: r) = 0 := by rw [skipM]; rw [if_neg h1, if_neg h2]
        rw [h3]; rfl
/-- the first byte of what is not skipped. -/
theorem skip_head {c : UInt8} {r : List UInt8} (h : skipM false (c :: r) = 0) : blankB c = false ∧ c.toNat ≠ 35 := by
  rw [skipM] at h
  by_cases h1 : blankB c = true
  · rw [if_pos h1] at h; omega
  · rw [if_neg h1] at h
    by_cases h2 : c.toNat = 35
    · rw [if_pos h2] at h; omega
    · exact ⟨by simpa using h1, h2⟩
theorem take_while_pre (p : UInt8 → Bool) (l : List UInt8) : l = l.takeWhile p ++ l.drop (l.takeWhile p).length := by
  have h1 := List.takeWhile_append_dropWhile (p := p) (l := l)
  have h2 : l.drop (l.takeWhile p).length = l.dropWhile p := by
    conv => lhs; rw [← h1]
    rw [List.drop_left' (by rw [h1])]
  rw [h2, h1]
/-- a token's text stands there, and is not empty. -/
theorem tok_pre {W : Words} (hW : W.Ok) {l : List UInt8} {p : Nat} (hl : l ≠ []) (h : (tok1 W l p).2 = 0) : l = (tok1 W l p).1.text ++ l.drop (tok1 W l p).1.text.length ∧ (tok1 W l p).1.text ≠ [] ∧ (tok1 W l p).1.at_ = p := by
  cases l with
  | nil => exact absurd rfl hl
  | cons c r =>
    unfold tok1 at h ⊢
    simp only at h ⊢
    by_cases h1 : letterB c = true
    · rw [if_pos h1] at h ⊢
      refine ⟨take_while_pre _ _, ?_, rfl⟩
      simp [nameB, h1]
    · rw [if_neg h1] at h ⊢
      by_cases h2 : digitB c = true
      · rw [if_pos h2] at h ⊢
        refine ⟨take_while_pre _ _, ?_, rfl⟩
        simp [h2]
      · rw [if_neg h2] at h ⊢
        by_cases h3 : W.mkW (c :: r) = []
        · simp [h3] at h
        · refine ⟨?_, h3, rfl⟩
          obtain ⟨q, hq⟩ := hW.pre (c :: r)
          have : (c :: r).drop (W.mkW (c :: r)).length = q := by conv => lhs; rw [hq]; rw [List.drop_left' (by rw [← hq])]
          simp only
          rw [this]; exact hq
def strip (t : Tok) : Int × Int × List UInt8 := (t.kind, t.n, t.text)
theorem tok_kind {W : Words} {l : List UInt8} {p : Nat} (hl : l ≠ []) : (tok1 W l p).1.kind ≠ 0 := by
  cases l with
  | nil => exact absurd rfl hl
  | cons c r =>
    unfold tok1
    simp only
    split
    · simp only; split <;> decide
    · split <;> simp
theorem while_all (p : UInt8 → Bool) : ∀ l : List UInt8, ∀ x ∈ l.takeWhile p, p x = true
  | [], x, h => by cases h
  | c :: r, x, h => by
    rw [List.takeWhile_cons] at h
    split at h
    · rename_i hc
      rcases List.mem_cons.1 h with h | h
      · subst h; exact hc
      · exact while_all p r x h
    · cases h
theorem while_back (p : UInt8 → Bool) (l r : List UInt8) (h32 : p 32 = false) (hr : r = [] ∨ ∃ q, r = 32 :: q) : (l.takeWhile p ++ r).takeWhile p = l.takeWhile p := by
  have h1 := while_all p l
  rw [List.takeWhile_append_of_pos h1]
  rcases hr with rfl | ⟨q, rfl⟩
  · simp
  · simp [h32]
/-- a token that stands alone, or before a blank, is cut again. -/
theorem tok_back {W : Words} (hW : W.Ok) {l : List UInt8} {p : Nat} (hl : l ≠ []) (h : (tok1 W l p).2 = 0) (r : List UInt8) (hr : r = [] ∨ ∃ q, r = 32 :: q) (q : Nat) :
    (tok1 W ((tok1 W l p).1.text ++ r) q).2 = 0 ∧ strip (tok1 W ((tok1 W l p).1.text ++ r) q).1 = strip (tok1 W l p).1 := by
  cases l with
  | nil => exact absurd rfl hl
  | cons c r0 =>
    unfold tok1 at h ⊢
    simp only at h ⊢
    by_cases h1 : letterB c = true
    · rw [if_pos h1] at h ⊢
      have hb := while_back nameB (c :: r0) r (by decide) hr
      have hn : nameB c = true := by simp [nameB, h1]
      rw [List.takeWhile_cons_of_pos hn] at hb h ⊢
      simp only [List.cons_append] at hb ⊢
      rw [if_pos h1, hb]
      exact ⟨h, rfl⟩
    · rw [if_neg h1] at h ⊢
      by_cases h2 : digitB c = true
      · rw [if_pos h2] at h ⊢
        have hb := while_back digitB (c :: r0) r (by decide) hr
        rw [List.takeWhile_cons_of_pos h2] at hb h ⊢
        simp only [List.cons_append] at hb ⊢
        rw [if_neg h1, if_pos h2, hb]
        exact ⟨h, rfl⟩
      · rw [if_neg h2] at h ⊢
        by_cases h3 : W.mkW (c :: r0) = []
        · simp [h3] at h
        · obtain ⟨z, hz⟩ := hW.pre (c :: r0)
          simp only
          have hm : W.mkW (W.mkW (c :: r0) ++ r) = W.mkW (c :: r0) := by
            rcases hr with rfl | ⟨y, rfl⟩
            · rw [List.append_nil]; exact hW.self _ h3
            · exact hW.back _ y h3
          obtain ⟨m, hm2⟩ : ∃ m, W.mkW (c :: r0) = m := ⟨_, rfl⟩
          rw [hm2] at hm hz h3 ⊢
          cases m with
          | nil => exact absurd rfl h3
          | cons d m' =>
            have hd : d = c := by injection hz with hz; exact hz.symm
            subst hd
            simp only [List.cons_append] at hm ⊢
            rw [if_neg h1, if_neg h2, hm]
            exact ⟨rfl, rfl⟩
theorem tok_head {W : Words} (hW : W.Ok) {l : List UInt8} {p : Nat} (hl : l ≠ []) (h : (tok1 W l p).2 = 0) (h0 : skipM false l = 0) (r : List UInt8) : skipM false ((tok1 W l p).1.text ++ r) = 0 ∧ (tok1 W l p).1.text ++ r ≠ [] := by
  obtain ⟨h1, h2, _⟩ := tok_pre hW hl h
  cases l with
  | nil => exact absurd rfl hl
  | cons c r0 =>
    obtain ⟨g1, g2⟩ := skip_head h0
    cases ht : (tok1 W (c :: r0) p).1.text with
    | nil => exact absurd ht h2
    | cons d m =>
      rw [ht] at h1
      have hd : d = c := by injection h1 with h1; exact h1.symm
      subst hd
      refine ⟨?_, by simp⟩
      rw [List.cons_append, skipM, if_neg (by simp [g1]), if_neg g2]
/-- one step of cutting. -/
theorem all_step {W : Words} {f : Nat} {l : List UInt8} {p : Nat} (h0 : skipM false l = 0) (hl : l ≠ []) (h : (tok1 W l p).2 = 0) :
    allF W (f + 1) l p = (allF W f (l.drop (tok1 W l p).1.text.length) (p + (tok1 W l p).1.text.length)).map ((tok1 W l p).1 :: ·) := by
  rw [allF, h0]
  simp only [List.drop_zero, Nat.add_zero]
  rw [if_neg hl, if_pos h]
theorem all_blank (W : Words) (f : Nat) (x : List UInt8) (q : Nat) : allF W f (32 :: x) q = allF W f x (q + 1) := by
  cases f with
  | zero => rfl
  | succ f =>
    have e : skipM false (32 :: x) = skipM false x + 1 := by rw [skipM]; rw [if_pos (by decide)]
    rw [allF, allF, e]
    simp only [List.drop_succ_cons]
    rw [show q + (skipM false x + 1) = q + 1 + skipM false x by omega]
theorem all_nil (W : Words) (f q : Nat) : allF W (f + 1) [] q = .ok [⟨0, q, 0, []⟩] := by
  rw [allF]; simp [skipM]
def texts (ts : List Tok) : List (List UInt8) := (ts.filter (fun t => decide (t.kind ≠ 0))).map (·.text)
def spell (ts : List Tok) : List UInt8 := Lib.join (texts ts) [32]
theorem spell_cons (t : Tok) (ts : List Tok) (h : t.kind ≠ 0) : spell (t :: ts) = t.text ++ (if texts ts = [] then [] else 32 :: spell ts) := by
  have e : texts (t :: ts) = t.text :: texts ts := by unfold texts; rw [List.filter_cons_of_pos (by simpa using h)]; rfl
  unfold spell
  rw [e]
  cases hx : texts ts with
  | nil => simp [Lib.join_one]
  | cons a r => simp [Lib.join]
theorem map_ok {ε α β : Type} {x : Except ε α} {f : α → β} {y : β} (h : x.map f = .ok y) : ∃ z, x = .ok z ∧ f z = y := by
  cases x with
  | error e => cases h
  | ok z => injection h with h; exact ⟨z, rfl, h⟩
/-- what is spelled is cut into the same tokens. -/
theorem back {W : Words} (hW : W.Ok) : ∀ (f : Nat) (l : List UInt8) (p : Nat) (ts : List Tok), l.length < f → allF W f l p = .ok ts → ∀ (f2 q : Nat), (spell ts).length < f2 → ∃ ts2, allF W f2 (spell ts) q = .ok ts2 ∧ ts2.map strip = ts.map strip
  | 0, l, p, ts, hf, _ => by omega
  | f + 1, l, p, ts, hf, h => by
    intro f2 q hf2
    obtain ⟨f2, rfl⟩ : ∃ z, f2 = z + 1 := ⟨f2 - 1, by omega⟩
    rw [allF] at h
    by_cases h0 : l.drop (skipM false l) = []
    · rw [if_pos h0] at h
      injection h with h
      subst h
      refine ⟨_, all_nil W f2 q, rfl⟩
    · rw [if_neg h0] at h
      by_cases h1 : (tok1 W (l.drop (skipM false l)) (p + skipM false l)).2 = 0
      · rw [if_pos h1] at h
        have hs := skip_stop l false
        obtain ⟨l1, hl1⟩ : ∃ l1, l.drop (skipM false l) = l1 := ⟨_, rfl⟩
        obtain ⟨p1, hp1⟩ : ∃ p1, p + skipM false l = p1 := ⟨_, rfl⟩
        rw [hl1] at h h0 h1 hs
        rw [hp1] at h h1
        obtain ⟨ts1, g1, g2⟩ := map_ok h
        subst g2
        obtain ⟨k1, k2, _⟩ := tok_pre hW h0 h1
        have hk := tok_kind (W := W) (p := p1) h0
        have hlen : l1.length ≤ l.length := by rw [← hl1]; simp
        have htl : 0 < (tok1 W l1 p1).1.text.length := List.length_pos_iff.2 k2
        have hl2 : (l1.drop (tok1 W l1 p1).1.text.length).length < f := by
          have : (tok1 W l1 p1).1.text.length ≤ l1.length := by
            have := congrArg List.length k1
            rw [List.length_append] at this; omega
          rw [List.length_drop]; omega
        have ih := back hW f _ _ ts1 hl2 g1
        rw [spell_cons _ _ hk] at hf2 ⊢
        obtain ⟨t, ht⟩ : ∃ t, (tok1 W l1 p1).1 = t := ⟨_, rfl⟩
        by_cases hx : texts ts1 = []
        · rw [if_pos hx] at hf2 ⊢
          have he : spell ts1 = [] := by unfold spell; rw [hx]; rfl
          obtain ⟨ts2, j1, j2⟩ := ih 1 (q + (tok1 W l1 p1).1.text.length) (by rw [he]; decide)
          rw [he, all_nil] at j1
          injection j1 with j1
          obtain ⟨b1, b2⟩ := tok_back hW h0 h1 [] (.inl rfl) q
          obtain ⟨c1, c2⟩ := tok_head hW h0 h1 hs []
          rw [all_step c1 c2 b1]
          have e1 : (tok1 W ((tok1 W l1 p1).1.text ++ []) q).1.text = (tok1 W l1 p1).1.text := congrArg (·.2.2) b2
          rw [e1, List.append_nil, List.drop_length]
          rw [List.append_nil] at b2 hf2
          obtain ⟨f2, rfl⟩ : ∃ z, f2 = z + 1 := ⟨f2 - 1, by omega⟩
          rw [all_nil]
          refine ⟨_, rfl, ?_⟩
          show strip _ :: strip _ :: [] = strip _ :: ts1.map strip
          rw [b2, ← j2, ← j1]; rfl
        · rw [if_neg hx] at hf2 ⊢
          obtain ⟨b1, b2⟩ := tok_back hW h0 h1 (32 :: spell ts1) (.inr ⟨_, rfl⟩) q
          obtain ⟨c1, c2⟩ := tok_head hW h0 h1 hs (32 :: spell ts1)
          rw [all_step c1 c2 b1]
          have e1 : (tok1 W ((tok1 W l1 p1).1.text ++ 32 :: spell ts1) q).1.text = (tok1 W l1 p1).1.text := congrArg (·.2.2) b2
          rw [e1, List.drop_left' rfl, all_blank]
          obtain ⟨ts2, j1, j2⟩ := ih f2 (q + (tok1 W l1 p1).1.text.length + 1) (by simp at hf2; omega)
          rw [j1]
          refine ⟨_, rfl, ?_⟩
          rw [List.map_cons, List.map_cons, b2, j2]
      · rw [if_neg h1] at h; cases h
theorem take_of_pre {a l : List UInt8} (h : l = a ++ l.drop a.length) : l.take a.length = a := by
  have h2 : (a ++ l.drop a.length).take a.length = a := List.take_left' rfl
  rw [← h] at h2; exact h2
/-- where the tokens stand. -/
def Chain (W : Words) : List UInt8 → Nat → List Tok → Prop
  | _, _, [] => True
  | l, p, t :: ts => t.at_ = p + skipM false l ∧ skipM false l + t.text.length ≤ l.length ∧ (l.drop (skipM false l)).take t.text.length = t.text ∧ Chain W (l.drop (skipM false l + t.text.length)) (p + skipM false l + t.text.length) ts
theorem chain {W : Words} (hW : W.Ok) : ∀ (f : Nat) (l : List UInt8) (p : Nat) (ts : List Tok), allF W f l p = .ok ts → Chain W l p ts
  | 0, l, p, ts, h => by injection h with h; subst h; trivial
  | f + 1, l, p, ts, h => by
    have hle := skip_le l false
    rw [allF] at h
    by_cases h0 : l.drop (skipM false l) = []
    · rw [if_pos h0] at h
      injection h with h
      subst h
      exact ⟨rfl, by simpa using hle, by simp, trivial⟩
    · rw [if_neg h0] at h
      by_cases h1 : (tok1 W (l.drop (skipM false l)) (p + skipM false l)).2 = 0
      · rw [if_pos h1] at h
        obtain ⟨ts1, g1, g2⟩ := map_ok h
        subst g2
        obtain ⟨k1, k2, k3⟩ := tok_pre hW h0 h1
        have ih := chain hW f _ _ ts1 g1
        have hlen : (tok1 W (l.drop (skipM false l)) (p + skipM false l)).1.text.length ≤ l.length - skipM false l := by
          have := congrArg List.length k1
          rw [List.length_append, List.length_drop] at this; omega
        refine ⟨k3, by omega, ?_, ?_⟩
        · exact take_of_pre k1
        · rw [List.drop_drop] at ih; exact ih
      · rw [if_neg h1] at h; cases h
/-- between tokens there are blanks. -/
theorem between (W : Words) (l : List UInt8) (f : Nat) : allF W (f + 1) (l.take (skipM false l)) 0 = .ok [⟨0, skipM false l, 0, []⟩] := by
  have h := skip_all l false
  have hle := skip_le l false
  rw [allF, h, if_pos (by rw [List.drop_eq_nil_iff, List.length_take]; omega), Nat.zero_add]
end Go.Proofs.YtfofpammnfcmiaaDoor.Lx
