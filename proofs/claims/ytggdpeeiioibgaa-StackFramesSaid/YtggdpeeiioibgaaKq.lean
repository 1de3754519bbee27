/- Marline, values: kids that are read. Conditions: as each says. -/
import Derived.Test.YtggdpeeiioibgaaX
namespace Go.Proofs.Ytggdpeeiioibgaa.E
open Go.RowKit Go.Proofs.YtggdpeeiioibgaaW.PrintWords Go.Proofs.YtggdpeeiioibgaaW.PrintLast Go.Proofs.YtggdpeeiioibgaaW.PrintMore Go.Proofs.Ytggdpeeiioibgaa.Kinds Go.Proofs.Ytggdpeeiioibgaa.Obj
set_option linter.unusedVariables false

theorem rd_eq (l : List S24) (n : Nat) (h : n < l.length) : rd_T24 l n = l[n] := by
  unfold rd_T24
  rw [Int.toNat_natCast, List.getD_eq_getElem?_getD, List.getElem?_eq_getElem h]
  rfl
theorem szL_drop (l : List S24) (n : Nat) (h : n < l.length) : szL (l.drop n) = sz (rd_T24 l n) + szL (l.drop (n + 1)) := by
  rw [List.drop_eq_getElem_cons h, rd_eq l n h]
  simp [szL]
theorem szL_split (l : List S24) : ∀ n : Nat, szL l = szL (l.take n) + szL (l.drop n) := by
  induction l with
  | nil => intro n; simp [szL]
  | cons x l ih =>
    intro n
    cases n with
    | zero => simp [szL]
    | succ n => simp only [List.take_succ_cons, List.drop_succ_cons, szL]; have := ih n; omega
theorem szL_take (l : List S24) (n : Nat) (h : n < l.length) : szL (l.take (n + 1)) = szL (l.take n) + sz (rd_T24 l n) := by
  have h1 := szL_split l n
  have h2 := szL_split l (n + 1)
  have h3 := szL_drop l n h
  omega
theorem szL_len (l : List S24) : l.length ≤ szL l := by
  induction l with
  | nil => simp [szL]
  | cons x l ih => have := sz_pos x; simp [szL]; omega
theorem szL_set (l : List S24) : ∀ (n : Nat) (x : S24), n < l.length → szL (l.set n x) + sz (rd_T24 l n) = szL l + sz x := by
  induction l with
  | nil => intro n x h; simp at h
  | cons y l ih =>
    intro n x h
    cases n with
    | zero => simp [szL, rd_T24]; omega
    | succ n =>
      have hn : n < l.length := by simpa using h
      have e : rd_T24 (y :: l) ((n + 1 : Nat) : Int) = rd_T24 l (n : Int) := by rw [rd_eq _ _ h, rd_eq _ _ hn]; rfl
      rw [e]
      have := ih n x hn
      simp only [List.set_cons_succ, szL]
      omega

/-- the value x with y where steps lead. -/
def put_ : S24 → S24 → List S38 → S24
  | _, y, [] => y
  | x, y, z :: l => ⟨x.f0, x.f1, x.f2.set z.f1.toNat (put_ (rd_T24 x.f2 z.f1) y l)⟩
theorem leads_bd {x : S24} {z : S38} (h : leads x z = true) : 0 ≤ z.f1 ∧ z.f1 < (x.f2.length : Int) := by
  simp [leads] at h
  exact ⟨h.2.1, h.2.2⟩
theorem leads_same (x x' : S24) (z : S38) (h0 : x'.f0 = x.f0) (hl : x'.f2.length = x.f2.length) : leads x' z = leads x z := by
  obtain ⟨a, b, l⟩ := x
  obtain ⟨a', b', l'⟩ := x'
  simp only at h0 hl
  subst h0
  unfold leads
  dsimp only
  rw [hl]
theorem at_cons (x : S24) (z : S38) (l : List S38) (h : (at_ x (z :: l)).2 = 0) : leads x z = true ∧ at_ x (z :: l) = at_ (rd_T24 x.f2 z.f1) l := by
  by_cases hl : leads x z = true
  · exact ⟨hl, by rw [at_, if_pos hl]⟩
  · rw [at_, if_neg hl] at h
    exact absurd h (by decide)
theorem rd_set_same (l : List S24) (i : Int) (x : S24) (h0 : 0 ≤ i) (h : i < l.length) : rd_T24 (l.set i.toNat x) i = x := by
  obtain ⟨n, rfl⟩ := Int.eq_ofNat_of_zero_le h0
  rw [rd_eq _ _ (by simp; omega)]
  simp
theorem rd_set_other (l : List S24) (i j : Int) (x : S24) (h0 : 0 ≤ i) (h1 : 0 ≤ j) (h : j < l.length) (hn : i ≠ j) : rd_T24 (l.set i.toNat x) j = rd_T24 l j := by
  obtain ⟨n, rfl⟩ := Int.eq_ofNat_of_zero_le h0
  obtain ⟨m, rfl⟩ := Int.eq_ofNat_of_zero_le h1
  rw [rd_eq _ _ (by simp; omega), rd_eq _ _ (by omega)]
  simp only [Int.toNat_natCast]
  rw [List.getElem_set_ne (by omega)]
/-- the size of it. -/
theorem put_sz : ∀ (l : List S38) (x y : S24), (at_ x l).2 = 0 → sz (put_ x y l) + sz (at_ x l).1 = sz x + sz y
  | [], x, y, _ => by simp [put_, at_]; omega
  | z :: l, x, y, h => by
    obtain ⟨h1, h2⟩ := at_cons x z l h
    obtain ⟨b0, b1⟩ := leads_bd h1
    rw [h2] at h ⊢
    have ih := put_sz l (rd_T24 x.f2 z.f1) y h
    have hs := szL_set x.f2 z.f1.toNat (put_ (rd_T24 x.f2 z.f1) y l) (by omega)
    rw [show ((z.f1.toNat : Nat) : Int) = z.f1 by omega] at hs
    have e1 : sz (put_ x y (z :: l)) = szL (x.f2.set z.f1.toNat (put_ (rd_T24 x.f2 z.f1) y l)) + 1 := by simp [put_, sz]
    have e2 := sz_eq x
    omega
/-- what was put is there. -/
theorem put_at : ∀ (l : List S38) (x y : S24), (at_ x l).2 = 0 → at_ (put_ x y l) l = (y, 0)
  | [], x, y, _ => by simp [put_, at_]
  | z :: l, x, y, h => by
    obtain ⟨h1, h2⟩ := at_cons x z l h
    obtain ⟨b0, b1⟩ := leads_bd h1
    rw [h2] at h
    have ih := put_at l (rd_T24 x.f2 z.f1) y h
    have hl : leads (put_ x y (z :: l)) z = true := by
      rw [← h1]
      exact leads_same _ _ _ rfl (by simp [put_])
    rw [at_, if_pos hl]
    simp only [put_]
    rw [rd_set_same _ _ _ b0 b1]
    exact ih
/-- do two ways part. -/
def parts : List S38 → List S38 → Bool
  | [], _ => false
  | _ :: _, [] => false
  | x :: a, y :: b => decide (x.f1 ≠ y.f1) || parts a b
/-- what is put at one place leaves what lies at another one. -/
theorem put_beside : ∀ (a b : List S38) (x y : S24), parts a b = true → (at_ x a).2 = 0 → (at_ x b).2 = 0 → at_ (put_ x y a) b = at_ x b
  | [], b, x, y, h, _, _ => by simp [parts] at h
  | _ :: _, [], x, y, h, _, _ => by simp [parts] at h
  | p :: a, q :: b, x, y, h, ha, hb => by
    obtain ⟨p1, p2⟩ := at_cons x p a ha
    obtain ⟨q1, q2⟩ := at_cons x q b hb
    obtain ⟨b0, b1⟩ := leads_bd p1
    obtain ⟨c0, c1⟩ := leads_bd q1
    have hl : leads (put_ x y (p :: a)) q = true := by
      rw [← q1]
      exact leads_same _ _ _ rfl (by simp [put_])
    rw [q2, at_, if_pos hl]
    simp only [put_]
    by_cases e : p.f1 = q.f1
    · rw [← e, rd_set_same _ _ _ b0 b1]
      rw [p2] at ha
      rw [q2, ← e] at hb
      simp [parts, e] at h
      exact put_beside a b _ y h ha hb
    · rw [rd_set_other _ _ _ _ b0 c0 c1 e]
/-- a way whose lists are of no great length. -/
def okP : S24 → List S38 → Prop
  | _, [] => True
  | x, z :: l => 0 ≤ z.f1 ∧ z.f1 < (x.f2.length : Int) ∧ x.f2.length * 40 ≤ 140737488351232 ∧ okP (rd_T24 x.f2 z.f1) l
end Go.Proofs.Ytggdpeeiioibgaa.E
namespace Go.Proofs.Ytggdpeeiioibgaa.E
open Go.RowKit Go.Proofs.YtggdpeeiioibgaaW.PrintWords Go.Proofs.YtggdpeeiioibgaaW.PrintLast Go.Proofs.YtggdpeeiioibgaaW.PrintMore Go.Proofs.Ytggdpeeiioibgaa.Kinds Go.Proofs.Ytggdpeeiioibgaa.Obj
set_option linter.unusedVariables false

/-- kids that are read. -/
def Kd24 (w : World) (A : Option Addr) (c : Nat) (x : S24) : Prop := x.f2.length ≤ c ∧ Kd.C k24 w A x.f2.length x.f2
theorem Kd24.below {w w' : World} {A : Option Addr} {c : Nat} {x : S24} (h : Kd24 w A c x) (hb : Below w.heap.size w w') : Kd24 w' A c x := ⟨h.1, Kd.C_below h.2 hb⟩
theorem Kd24.V {w : World} {A : Option Addr} {c : Nat} {x : S24} (h : Kd24 w A c x) : Kd.V k24 24 w w.heap.size (fun k => k < w.heap.size) (.slice A x.f2.length c) x.f2 := Kd.V_mk h.1 (Kd.C_F k24_heap h.2)
end Go.Proofs.Ytggdpeeiioibgaa.E
