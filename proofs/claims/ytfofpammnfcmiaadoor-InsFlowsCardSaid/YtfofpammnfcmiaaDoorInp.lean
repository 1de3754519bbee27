/- Marline, layer 26: instructions, plain: names, texts, what is parsed. -/
import Derived.Test.YtfofpammnfcmiaaDoorSp
import Derived.Test.YtfofpammnfcmiaaDoorNb
namespace Go.Proofs.YtfofpammnfcmiaaDoor.Ip
open Go.Lib Go.Proofs.YtfofpammnfcmiaaDoor.E Go.Proofs.YtfofpammnfcmiaaDoor.Sp

def names : List (List UInt8) := [[], [112, 117, 115, 104], [102, 108, 97, 103], [108, 111, 97, 100], [115, 116, 111, 114, 101], [112, 111, 112], [100, 111], [110, 101, 103], [110, 111, 116], [116, 101, 115, 116], [115, 97, 109, 101], [106, 117, 109, 112], [117, 110, 108, 101, 115, 115], [97, 114, 114, 97, 121], [114, 101, 99, 111, 114, 100], [102, 105, 108, 108], [108, 101, 110], [97, 116], [102, 105, 101, 108, 100], [112, 97, 116, 104], [114, 101, 97, 100], [114, 101, 97, 100, 97, 116], [119, 114, 105, 116, 101], [119, 114, 105, 116, 101, 97, 116], [99, 97, 108, 108], [114, 101, 116, 117, 114, 110], [103, 105, 118, 101], [102, 111, 114, 107], [106, 111, 105, 110], [112, 114, 105, 110, 116], [105, 110, 112, 117, 116], [105, 110, 112, 117, 116, 115], [116, 105, 99, 107], [102, 97, 105, 108]]
def argl : List Nat := [0, 1, 1, 1, 1, 0, 1, 0, 0, 1, 1, 1, 1, 1, 1, 0, 0, 0, 1, 1, 1, 1, 1, 2, 1, 0, 0, 1, 0, 0, 0, 0, 0, 0]
def nm (n : Nat) : List UInt8 := names.getD n []
def ag (n : Nat) : Nat := argl.getD n 0
def nameI (op : Int) : List UInt8 := if op < 0 ∨ 34 ≤ op then [] else nm op.toNat
def argsI (op : Int) : Nat := if op < 0 ∨ 34 ≤ op then 0 else ag op.toNat
def rightS (op a b : Int) : Bool :=
  if nameI op = [] ∨ (argsI op < 1 ∧ a ≠ 0) ∨ (argsI op < 2 ∧ b ≠ 0) ∨ b < 0 then false
  else if op = 1 then true
  else if op = 2 ∨ op = 10 then decide (a = 0 ∨ a = 1)
  else if op = 6 then decide (1 ≤ a ∧ a ≤ 5)
  else if op = 9 then decide (8 ≤ a ∧ a ≤ 11)
  else decide (0 ≤ a)
def partsS (op a b : Int) : List (List UInt8) := nameI op :: ([a, b].take (argsI op)).map itoa
def textS (op a b : Int) : List UInt8 := join (partsS op a b) [32]
def numsS : List (List UInt8) → Option (List Int)
  | [] => some []
  | x :: r => if (signedS x).2 = 0 then (numsS r).map ((signedS x).1 :: ·) else none
def scan (parts : List (List UInt8)) : List Nat → Option (Int × Int × Int)
  | [] => none
  | n :: r => if n = 0 ∨ nm n ≠ parts.headD [] ∨ parts.length ≠ ag n + 1 then scan parts r
    else match numsS parts.tail with
      | none => none
      | some xs => if rightS n (xs.getD 0 0) (xs.getD 1 0) then some ((n : Int), xs.getD 0 0, xs.getD 1 0) else scan parts r
def parseS (l : List UInt8) : Option (Int × Int × Int) := scan (pieces 32 l) (List.range 34)

theorem names_no : ∀ n : Fin 34, (32 : UInt8) ∉ nm n.val := by decide +kernel
theorem names_apart : ∀ n m : Fin 34, nm n.val = nm m.val → n = m := by decide +kernel
theorem names_none : ∀ n : Fin 34, nm n.val = [] → n.val = 0 := by decide +kernel
theorem args_two : ∀ n : Fin 34, ag n.val ≤ 2 := by decide +kernel
theorem right_name {op a b : Int} (h : rightS op a b = true) : ∃ n : Nat, op = (n : Int) ∧ 0 < n ∧ n < 34 := by
  unfold rightS at h
  split at h
  · cases h
  · rename_i h1
    have h2 : nameI op ≠ [] := fun e => h1 (.inl e)
    unfold nameI at h2
    split at h2
    · exact absurd rfl h2
    · rename_i h3
      refine ⟨op.toNat, by omega, ?_, by omega⟩
      have : op.toNat ≠ 0 := fun e => h2 (by rw [e]; rfl)
      omega
theorem name_at {n : Nat} (h : n < 34) : nameI (n : Int) = nm n := by
  unfold nameI; rw [if_neg (by omega)]; rfl
theorem args_at {n : Nat} (h : n < 34) : argsI (n : Int) = ag n := by
  unfold argsI; rw [if_neg (by omega)]; rfl
theorem nums_itoa : ∀ xs : List Int, (∀ x ∈ xs, In x) → numsS (xs.map itoa) = some xs
  | [], _ => rfl
  | x :: r, h => by
    rw [List.map_cons, numsS, signed_itoa x (h x List.mem_cons_self), if_pos rfl, nums_itoa r (fun y hy => h y (List.mem_cons_of_mem _ hy))]; rfl
theorem itoa_nums : ∀ (l : List (List UInt8)) (xs : List Int), numsS l = some xs → l = xs.map itoa ∧ ∀ x ∈ xs, In x
  | [], xs, h => by injection h with h; subst h; exact ⟨rfl, fun _ h => by cases h⟩
  | x :: r, xs, h => by
    unfold numsS at h
    split at h
    · rename_i hx
      cases hr : numsS r with
      | none => rw [hr] at h; cases h
      | some ys =>
        rw [hr] at h; injection h with h; subst h
        obtain ⟨h1, h2⟩ := itoa_nums r ys hr
        rcases signed_ok (l := x) (c := (signedS x).1) (h := (signedS x).2) rfl with ⟨_, e1, i1⟩ | ⟨e1, _⟩
        · refine ⟨by rw [List.map_cons, e1, ← h1], ?_⟩
          intro y hy
          rcases List.mem_cons.1 hy with hy | hy
          · subst hy; exact i1
          · exact h2 y hy
        · omega
    · cases h
theorem dec_range (u : Nat) : ∀ c ∈ decDigits u, 48 ≤ c.toNat ∧ c.toNat ≤ 57 := by
  induction u using Nat.strongRecOn with
  | _ u ih =>
    intro c hc
    by_cases h : u < 10
    · rw [decDigits, dif_pos h] at hc
      rw [List.mem_singleton.1 hc, UInt8.toNat_ofNat', Nat.mod_eq_of_lt (by omega)]; omega
    · rw [decDigits, dif_neg h] at hc
      rcases List.mem_append.1 hc with hc | hc
      · exact ih _ (by omega) c hc
      · rw [List.mem_singleton.1 hc, UInt8.toNat_ofNat', Nat.mod_eq_of_lt (by omega)]; omega
theorem itoa_range (n : Int) : ∀ c ∈ itoa n, c.toNat = 45 ∨ (48 ≤ c.toNat ∧ c.toNat ≤ 57) := by
  intro c hc
  unfold itoa at hc
  split at hc
  · rcases List.mem_cons.1 hc with hc | hc
    · subst hc; exact .inl rfl
    · exact .inr (dec_range _ c hc)
  · exact .inr (dec_range _ c hc)
theorem itoa_no (n : Int) (c : UInt8) (h : c.toNat ≠ 45) (h2 : c.toNat < 48 ∨ 57 < c.toNat) : c ∉ itoa n := fun hc => by
  rcases itoa_range n c hc with h3 | h3 <;> omega
/-- the numbers that stand there: as many as the op has. -/
theorem nums_of {op a b : Int} (h : rightS op a b = true) : (([a, b].take (argsI op)).getD 0 0 = a) ∧ (([a, b].take (argsI op)).getD 1 0 = b) := by
  unfold rightS at h
  split at h
  · cases h
  · rename_i h1
    rcases Nat.lt_or_ge (argsI op) 1 with h2 | h2
    · have ha : a = 0 := Classical.byContradiction fun e => h1 (.inr (.inl ⟨h2, e⟩))
      have hb : b = 0 := Classical.byContradiction fun e => h1 (.inr (.inr (.inl ⟨by omega, e⟩)))
      rw [show argsI op = 0 by omega, ha, hb]; exact ⟨rfl, rfl⟩
    · rcases Nat.lt_or_ge (argsI op) 2 with h3 | h3
      · have hb : b = 0 := Classical.byContradiction fun e => h1 (.inr (.inr (.inl ⟨by omega, e⟩)))
        rw [show argsI op = 1 by omega, hb]; exact ⟨rfl, rfl⟩
      · rw [List.take_of_length_le (by simpa using h3)]; exact ⟨rfl, rfl⟩
theorem scan_hit {op a b : Int} (h : rightS op a b = true) (ha : In a) (hb : In b) : ∀ l : List Nat, (∀ n ∈ l, n < 34) → op.toNat ∈ l → scan (partsS op a b) l = some (op, a, b)
  | [], _, h2 => by cases h2
  | n :: r, hl, h2 => by
    obtain ⟨m, rfl, m0, m1⟩ := right_name h
    have hn := hl n List.mem_cons_self
    unfold scan
    by_cases hm : n = m
    · subst hm
      have e1 : nm n = (partsS n a b).headD [] := (name_at hn).symm
      have hlen : (partsS n a b).length = ag n + 1 := by
        unfold partsS; rw [args_at hn]
        have := args_two ⟨n, hn⟩
        simp only [List.length_cons, List.length_map, List.length_take, List.length_nil] at this ⊢
        omega
      rw [if_neg (by rintro (h3 | h3 | h3); · omega
                     · exact h3 e1
                     · exact h3 hlen)]
      have e2 : numsS (partsS n a b).tail = some ([a, b].take (argsI n)) := by
        refine nums_itoa _ ?_
        intro x hx
        have := List.mem_of_mem_take hx
        simp at this
        rcases this with h4 | h4 <;> (subst h4; assumption)
      rw [e2]
      simp only
      rw [(nums_of h).1, (nums_of h).2, if_pos h]
    · have hne : nm n ≠ (partsS m a b).headD [] := fun e => hm (by
        have e2 : (partsS m a b).headD [] = nm m := name_at m1
        have := names_apart ⟨n, hn⟩ ⟨m, m1⟩ (e.trans e2)
        exact congrArg Fin.val this)
      rw [if_pos (.inr (.inl hne))]
      refine scan_hit h ha hb r (fun k hk => hl k (List.mem_cons_of_mem _ hk)) ?_
      rcases List.mem_cons.1 h2 with h3 | h3
      · exact absurd h3.symm hm
      · exact h3
/-- what is told is parsed. -/
theorem parse_text {op a b : Int} (h : rightS op a b = true) (ha : In a) (hb : In b) : parseS (textS op a b) = some (op, a, b) := by
  obtain ⟨m, rfl, m0, m1⟩ := right_name h
  unfold parseS textS
  rw [pieces_join 32 _ (by unfold partsS; simp) (by
    intro x hx
    unfold partsS at hx
    rcases List.mem_cons.1 hx with hx | hx
    · subst hx; rw [name_at m1]; exact names_no ⟨m, m1⟩
    · obtain ⟨y, _, rfl⟩ := List.mem_map.1 hx
      exact itoa_no y 32 (by decide) (by decide))]
  exact scan_hit h ha hb _ (fun n hn => List.mem_range.1 hn) (List.mem_range.2 (by omega))
theorem getD_two (xs : List Int) (k : Nat) (h : xs.length = k) (h2 : k ≤ 2) : [xs.getD 0 0, xs.getD 1 0].take k = xs := by
  match xs, h with
  | [], h => subst h; rfl
  | [x], h => subst h; rfl
  | [x, y], h => subst h; rfl
  | x :: y :: z :: r, h => simp at h; omega
theorem scan_is (parts : List (List UInt8)) (hp : parts ≠ []) (op a b : Int) : ∀ l : List Nat, (∀ n ∈ l, n < 34) → scan parts l = some (op, a, b) → rightS op a b = true ∧ partsS op a b = parts ∧ In a ∧ In b
  | [], _, h => by cases h
  | n :: r, hl, h => by
    unfold scan at h
    split at h
    · exact scan_is parts hp op a b r (fun k hk => hl k (List.mem_cons_of_mem _ hk)) h
    · rename_i h1
      split at h
      · cases h
      · rename_i xs hx
        split at h
        · rename_i hr
          injection h with h; injection h with e1 h; injection h with e2 e3
          subst e1; subst e2; subst e3
          have hn := hl n List.mem_cons_self
          obtain ⟨g1, g2⟩ := itoa_nums _ _ hx
          cases parts with
          | nil => exact absurd rfl hp
          | cons p ps =>
            have hnm : nm n = p := Classical.byContradiction fun e => h1 (.inr (.inl e))
            have hlen : (p :: ps).length = ag n + 1 := Classical.byContradiction fun e => h1 (.inr (.inr e))
            simp only [List.tail_cons] at g1
            have hxl : xs.length = ag n := by rw [g1] at hlen; simpa using hlen
            refine ⟨hr, ?_, ?_, ?_⟩
            · unfold partsS
              rw [name_at hn, args_at hn, getD_two xs _ hxl (args_two ⟨n, hn⟩), hnm, g1]
            · match xs, g2 with
              | [], _ => exact ⟨by decide, by decide⟩
              | x :: _, g2 => exact g2 x List.mem_cons_self
            · match xs, g2 with
              | [], _ => exact ⟨by decide, by decide⟩
              | [_], _ => show In (0 : Int); exact ⟨by decide, by decide⟩
              | _ :: y :: _, g2 => exact g2 y (by simp)
        · exact scan_is parts hp op a b r (fun k hk => hl k (List.mem_cons_of_mem _ hk)) h
/-- what is parsed is right, and has that text. -/
theorem text_parse (l : List UInt8) (op a b : Int) (h : parseS l = some (op, a, b)) : rightS op a b = true ∧ textS op a b = l ∧ In a ∧ In b := by
  obtain ⟨h1, h2, h3⟩ := scan_is _ (pieces_ne 32 l) op a b _ (fun n hn => List.mem_range.1 hn) h
  refine ⟨h1, ?_, h3⟩
  unfold textS; rw [h2, join_pieces]
end Go.Proofs.YtfofpammnfcmiaaDoor.Ip
