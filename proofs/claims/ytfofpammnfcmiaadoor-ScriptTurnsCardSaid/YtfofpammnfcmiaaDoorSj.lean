/- Marline, layer 41: Gc turned at entries: plain; a clone; a flag turned in a row. Conditions: as each says. -/
import Derived.Test.YtfofpammnfcmiaaDoorSh
namespace Go.Proofs.YtfofpammnfcmiaaDoor.E
open Go.RowKit Go.Proofs.YtfofpammnfcmiaaDoorW.PrintWords Go.Proofs.YtfofpammnfcmiaaDoorW.PrintLast Go.Proofs.YtfofpammnfcmiaaDoorW.PrintMore Go.Proofs.YtfofpammnfcmiaaDoor.Kinds Go.Proofs.YtfofpammnfcmiaaDoor.Obj Go.Proofs.YtfofpammnfcmiaaDoor.Sp
set_option linter.unusedVariables false
set_option linter.unusedSimpArgs false

def flip (x : S32) : S32 := ⟨x.f0, x.f1, !x.f2⟩
theorem flip_two (x : S32) : flip (flip x) = x := by cases x; simp [flip]
/-- a schedule with Gc turned at one entry, if there is such a one. -/
def turn (l : List S32) (n : Int) : List S32 := if 0 ≤ n then l.modify n.toNat flip else l
def turns (l : List S32) (at_ : List Int) : List S32 := at_.foldl turn l
theorem turn_len (l : List S32) (n : Int) : (turn l n).length = l.length := by unfold turn; split <;> simp
theorem turns_len (at_ : List Int) : ∀ l : List S32, (turns l at_).length = l.length := by
  induction at_ with
  | nil => intro l; rfl
  | cons a r ih => intro l; show (turns (turn l a) r).length = _; rw [ih, turn_len]
theorem modify_get (l : List S32) (n i : Nat) : (l.modify n flip)[i]? = (l[i]?).map (fun x => if n = i then flip x else x) := by
  rw [List.getElem?_modify]
  cases l[i]? <;> simp
theorem turn_get (l : List S32) (n : Int) (i : Nat) : (turn l n)[i]? = (l[i]?).map (fun x => if n = (i : Int) then flip x else x) := by
  unfold turn
  by_cases h : 0 ≤ n
  · rw [if_pos h, modify_get]
    congr 1; funext x
    by_cases h2 : n = (i : Int)
    · rw [if_pos h2, if_pos (by omega)]
    · rw [if_neg h2, if_neg (by omega)]
  · rw [if_neg h]
    cases l[i]? with
    | none => rfl
    | some x => simp; intro h3; omega
theorem turn_two (l : List S32) (n : Int) : turn (turn l n) n = l := by
  apply List.ext_getElem?
  intro i
  rw [turn_get, turn_get]
  cases l[i]? with
  | none => rfl
  | some x => simp only [Option.map_some]; split <;> simp [flip_two]
theorem turn_comm (l : List S32) (a b : Int) : turn (turn l a) b = turn (turn l b) a := by
  apply List.ext_getElem?
  intro i
  rw [turn_get, turn_get, turn_get, turn_get]
  cases l[i]? with
  | none => rfl
  | some x => simp only [Option.map_some]; split <;> split <;> rfl
theorem turns_turn (r : List Int) : ∀ (l : List S32) (a : Int), turns (turn l a) r = turn (turns l r) a := by
  induction r with
  | nil => intro l a; rfl
  | cons b r ih =>
    intro l a
    show turns (turn (turn l a) b) r = turn (turns (turn l b) r) a
    rw [turn_comm, ih]
/-- turned twice it is as it was. -/
theorem turns_two (at_ : List Int) : ∀ l : List S32, turns (turns l at_) at_ = l := by
  induction at_ with
  | nil => intro l; rfl
  | cons a r ih =>
    intro l
    show turns (turn (turns (turn l a) r) a) r = l
    rw [turns_turn, ih, turn_two]
theorem turns_snoc (l : List S32) (at_ : List Int) (n : Int) : turns l (at_ ++ [n]) = turn (turns l at_) n := by
  unfold turns; rw [List.foldl_append]; rfl
theorem turn_in (l : List S32) (m : Nat) (h : m < l.length) : turn l (m : Int) = l.set m (flip (rd_T32 l m)) := by
  apply List.ext_getElem?
  intro i
  rw [turn_get, List.getElem?_set]
  by_cases h2 : m = i
  · subst h2
    rw [if_pos rfl, if_pos h, List.getElem?_eq_getElem h]
    unfold rd_T32
    simp [List.getD, List.getElem?_eq_getElem h]
  · rw [if_neg h2]
    cases l[i]? with
    | none => rfl
    | some x => simp; intro h3; omega
theorem turn_out (l : List S32) (n : Int) (h : ¬ (0 ≤ n ∧ n < l.length)) : turn l n = l := by
  apply List.ext_getElem?
  intro i
  rw [turn_get]
  cases hx : l[i]? with
  | none => rfl
  | some x =>
    have := (List.getElem?_eq_some_iff.1 hx).1
    simp; intro h3; omega
/-- a flag turned in a row of one's own. -/
theorem put_gc {w : World} {base : Nat} {ok : Nat → Prop} {v : Value} {L : List S32} (h : Kd.R k32 32 w base ok v L) (m : Nat) (hm : m < L.length) :
    ∃ g cap, v = .slice (some ⟨g, 0, none⟩) L.length cap ∧ base ≤ g ∧ w.cell? ⟨g, m * 3 + 2, none⟩ = some (.bool (rd_T32 L m).f2) ∧ w.frozen? ⟨g, m * 3 + 2, none⟩ = false ∧
      Kd.R k32 32 (w.setCell ⟨g, m * 3 + 2, none⟩ (.bool (!(rd_T32 L m).f2))) base ok v (L.set m (flip (rd_T32 L m))) := by
  have h2 := h
  obtain ⟨_, inner, hown, _⟩ := h2
  rcases hown.2 with ⟨_, hn⟩ | ⟨g, cap, cur, hv, hb, hg, _⟩
  · omega
  · subst hv
    obtain ⟨ad, he, k0, k1, k2⟩ := at_T32 (Kd.R_reads' h).2.2 (m : Int) (by omega) (by omega)
    injection he with he
    subst he
    rw [Int.toNat_natCast] at k0 k1 k2
    rw [Addr.add_lit, Nat.zero_add] at k0
    simp only [Addr.add_lit, Nat.zero_add] at k1 k2
    refine ⟨g, cap, rfl, hb, k2, blk_frozen hg _, ?_⟩
    have hs : k32.sz = 3 := rfl
    have hR := (Kd.R_seg (d := k32) (c := [.int .i64 (rd_T32 L m).f0, .int .i64 (rd_T32 L m).f1, .bool (rd_T32 L m).f2]) (seg := [.bool (!(rd_T32 L m).f2)]) (j := 2) (x' := flip (rd_T32 L m)) (okp := fun _ => False) h (m : Int) (by omega) (by omega) rfl (by
      intro i u hi
      rw [hs, Int.toNat_natCast]
      match i, hi with
      | 0, hi => injection hi with hi; subst hi; exact k0
      | 1, hi => injection hi with hi; subst hi; exact k1
      | 2, hi => injection hi with hi; subst hi; exact k2
      | i + 3, hi => cases hi) (by show 2 + 1 ≤ 3; omega) (k32_mkM _ _ _ (flip (rd_T32 L m))) (fun _ hk => hk.elim)).1
    rw [hs, Int.toNat_natCast] at hR
    exact hR
end Go.Proofs.YtfofpammnfcmiaaDoor.E
