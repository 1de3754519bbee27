/- Marline, values: whether two values are the same, by the reference. Conditions: as each says. -/
import Derived.Test.YtggdpeeiioibgaaProg
import Derived.Test.YtggdpeeiioibgaaObj
import Derived.Test.YtggdpeeiioibgaaK
import Derived.Deep.DeepMust
import Derived.Deep.RegionHeld3
import Derived.Deep.RegionLaw
import Derived.BigRegion
import Derived.StillTailTactics
namespace Go.Proofs.Ytggdpeeiioibgaa.E
open Go.RowKit Go.Proofs.YtggdpeeiioibgaaW.PrintWords Go.Proofs.YtggdpeeiioibgaaW.PrintLast Go.Proofs.YtggdpeeiioibgaaW.PrintMore Go.Proofs.Ytggdpeeiioibgaa.Kinds Go.Proofs.Ytggdpeeiioibgaa.Obj
set_option linter.unusedVariables false
set_option linter.unusedSimpArgs false

mutual
/-- how many values there are in a value. -/
def sz : S24 → Nat
  | ⟨_, _, l⟩ => szL l + 1
def szL : List S24 → Nat
  | [] => 0
  | x :: l => sz x + szL l
end
mutual
/-- are two values the same. -/
def same : S24 → S24 → Bool
  | ⟨a, b, l⟩, ⟨c, d, m⟩ => decide (a = c) && (decide (b = d) && sameL l m)
def sameL : List S24 → List S24 → Bool
  | [], [] => true
  | [], _ :: _ => false
  | _ :: _, [] => false
  | x :: l, y :: m => same x y && sameL l m
end
mutual
theorem same_iff : ∀ x y, same x y = true ↔ x = y
  | ⟨a, b, l⟩, ⟨c, d, m⟩ => by simp [same, sameL_iff l m]
theorem sameL_iff : ∀ l m, sameL l m = true ↔ l = m
  | [], [] => by simp [sameL]
  | [], _ :: _ => by simp [sameL]
  | _ :: _, [] => by simp [sameL]
  | x :: l, y :: m => by simp [sameL, same_iff x y, sameL_iff l m]
end
theorem sz_pos : ∀ x, 0 < sz x := fun x => by cases x; simp [sz]
theorem sz_eq (x : S24) : sz x = szL x.f2 + 1 := by cases x; simp [sz]
theorem szL_mem : ∀ (l : List S24) x, x ∈ l → sz x ≤ szL l
  | [], x, h => by simp at h
  | y :: l, x, h => by
    rcases List.mem_cons.1 h with rfl | h
    · simp [szL]
    · have := szL_mem l x h; simp [szL]; omega
theorem rd_mem (l : List S24) (n : Nat) (h : n < l.length) : rd_T24 l n ∈ l := by
  unfold rd_T24
  rw [Int.toNat_natCast, List.getD_eq_getElem?_getD, List.getElem?_eq_getElem h]
  exact List.getElem_mem _
/-- the first n of two lists are the same. -/
theorem sameL_step (l m : List S24) (n : Nat) (h : n < l.length) (k : n < m.length) : sameL (l.drop n) (m.drop n) = (same (rd_T24 l n) (rd_T24 m n) && sameL (l.drop (n + 1)) (m.drop (n + 1))) := by
  rw [List.drop_eq_getElem_cons h, List.drop_eq_getElem_cons k]
  unfold rd_T24
  simp only [sameL, Int.toNat_natCast, List.getD_eq_getElem?_getD, List.getElem?_eq_getElem h, List.getElem?_eq_getElem k, Option.getD_some]
theorem sameL_len (l m : List S24) (h : ¬ l.length = m.length) : sameL l m = false := by
  rw [Bool.eq_false_iff]
  intro e
  exact h (by rw [(sameL_iff l m).1 e])

abbrev v24 (a b : Int) (A : Option Addr) (n c : Nat) : Value := .agg #[.int .i64 a, .int .i64 b, .slice A n c]

set_option maxHeartbeats 2000000 in
set_option maxRecDepth 100000 in
theorem same_of (a b : Int) (A : Option Addr) (c : Nat) (l : List S24) (a' b' : Int) (A' : Option Addr) (c' : Nat) (l' : List S24) (w : World)
    (hall : ∀ W, Below w.heap.size w W → Calls Try.prog 36 #[.slice A l.length c, .slice A' l'.length c'] W fun e w' => e = .returned (.bool (sameL l l')) ∧ Below W.heap.size W w') :
    Calls Try.prog 22 #[v24 a b A l.length c, v24 a' b' A' l'.length c'] w fun e w' => e = .returned (.bool (same ⟨a, b, l⟩ ⟨a', b', l'⟩)) ∧ Below w.heap.size w w' := by
  have hu24 := Try.underlying24
  have HA := Lib.hid hall
  clear hall
  have hB := Lib.hid (below_alloc (below_alloc (Below.refl w.heap.size w) (.cells #[.int .i64 a, .int .i64 b, .slice A l.length c] 24)) (.cells #[.int .i64 a', .int .i64 b', .slice A' l'.length c'] 24))
  by_cases ha : a = a'
  · by_cases hb : b = b'
    · have e : same ⟨a, b, l⟩ ⟨a', b', l'⟩ = sameL l l' := by simp [same, ha, hb]
      rw [e]
      subst ha hb
      clear e
      go_enter Try.func22, Try.ntmps22
      go_wp2_with ((go_at_call 36); refine (HA.out _ hB.out).mono ?_; rintro e w' ⟨rfl, hb⟩; have HB2 := Lib.hid hb; clear hb)
      go_ret
      exact ⟨rfl, hB.out.trans (Below.mono HB2.out (by simp; omega))⟩
    · have e : same ⟨a, b, l⟩ ⟨a', b', l'⟩ = false := by simp [same, hb]
      rw [e]
      have h1 : (b == b') = false := beq_eq_false_iff_ne.2 hb
      clear e
      subst ha
      go_enter Try.func22, Try.ntmps22
      go_wp2_with fail
      go_ret
      exact ⟨rfl, hB.out⟩
  · have e : same ⟨a, b, l⟩ ⟨a', b', l'⟩ = false := by simp [same, ha]
    rw [e]
    have h1 : (a == a') = false := beq_eq_false_iff_ne.2 ha
    clear e
    go_enter Try.func22, Try.ntmps22
    go_wp2_with fail
    go_ret
    exact ⟨rfl, hB.out⟩
end Go.Proofs.Ytggdpeeiioibgaa.E
