/- Marline, values: what the reference's 'with', and both Set, come to. No condition. -/
import Derived.Test.YtggdpeeiioibgaaV1b
import Derived.Test.YtggdpeeiioibgaaPAx2
namespace Go.Proofs.Ytggdpeeiioibgaa.E
open Go.RowKit Go.Proofs.YtggdpeeiioibgaaW.PrintWords Go.Proofs.YtggdpeeiioibgaaW.PrintLast Go.Proofs.YtggdpeeiioibgaaW.PrintMore Go.Proofs.Ytggdpeeiioibgaa.Kinds Go.Proofs.Ytggdpeeiioibgaa.Obj
set_option linter.unusedVariables false

theorem wrap_sub (a b : Int) : wrap64 (wrap64 a - wrap64 b) = wrap64 (a - b) := by unfold wrap64; omega
theorem take_one (P : List S24) (i : Nat) (h : i < P.length) : P.take (i + 1) = P.take i ++ [P[i]] := List.take_succ_eq_append_getElem h
theorem at_ok : ∀ (m : List S38) (x : S24), Ok x → Ok (at_ x m).1
  | [], x, h => by simpa [at_] using h
  | z :: m, x, h => by
    by_cases hl : leads x z = true
    · rw [at_, if_pos hl]
      obtain ⟨b0, b1⟩ := leads_bd hl
      refine at_ok m _ (h.kid ?_)
      have := rd_mem x.f2 z.f1.toNat (by omega)
      rw [show ((z.f1.toNat : Nat) : Int) = z.f1 by omega] at this
      exact this
    · rw [at_, if_neg hl]
      exact .mk _ (by simp [z24]) (by simp [z24])
theorem put_ok : ∀ (m : List S38) (x y : S24), Ok x → Ok y → (at_ x m).2 = 0 → Ok (put_ x y m)
  | [], x, y, _, h, _ => by simpa [put_] using h
  | z :: m, x, y, hx, hy, h => by
    obtain ⟨h1, h2⟩ := at_cons x z m h
    obtain ⟨b0, b1⟩ := leads_bd h1
    rw [h2] at h
    refine .mk _ (by simpa [put_] using hx.len) (fun w hw => ?_)
    simp only [put_] at hw
    rcases List.mem_or_eq_of_mem_set hw with hw | rfl
    · exact hx.kid hw
    · refine put_ok m _ y (hx.kid ?_) hy h
      have := rd_mem x.f2 z.f1.toNat (by omega)
      rw [show ((z.f1.toNat : Nat) : Int) = z.f1 by omega] at this
      exact this
/-- a value with another one where steps lead, or a trap. -/
def set_ (x y : S24) (m : List S38) : S24 × Int :=
  if (at_ x m).2 = 0 then (if szw (put_ x y m) > 4096 then (z24, 4) else (put_ x y m, 0)) else (z24, (at_ x m).2)
theorem sum_w (x y o p : S24) (h : sz p + sz o = sz x + sz y) : wrap64 (wrap64 (szw x - szw o) + szw y) = szw p := by
  have e : ∀ a b c d : Int, d + b = a + c → wrap64 (wrap64 (wrap64 a - wrap64 b) + wrap64 c) = wrap64 d := by
    intro a b c d h
    obtain rfl : d = a - b + c := by omega
    rw [wrap_sub, wrap_add]
  exact e (sz x) (sz o) (sz y) (sz p) (by omega)
theorem At.f_is (x : S24) (m : List S38) (o : S24) (t : Int) (h : at_ x m = (o, t)) : At.f x.f0 x.f1 x.f2 m = some (o.f0, o.f1, o.f2, t) := by
  unfold At.f
  rw [s24_eta, h]
theorem RefAt.f_is (x : S24) (m : List S38) (o : S24) (t : Int) (h : at_ x m = (o, t)) : RefAt.f x.f0 x.f1 x.f2 m = some (o.f0, o.f1, o.f2, t) := by
  unfold RefAt.f
  rw [s24_eta, h]
theorem set_no (x y o : S24) (m : List S38) (t : Int) (h : at_ x m = (o, t)) (ht : ¬ t = 0) : set_ x y m = (z24, t) := by
  unfold set_
  rw [h]
  exact if_neg ht
theorem set_big (x y o : S24) (m : List S38) (h : at_ x m = (o, 0)) (p : S24) (hp : put_ x y m = p) (h4 : szw p > 4096) : set_ x y m = (z24, 4) := by
  unfold set_
  rw [h, hp]
  exact (if_pos rfl).trans (if_pos h4)
theorem set_yes (x y o : S24) (m : List S38) (h : at_ x m = (o, 0)) (p : S24) (hp : put_ x y m = p) (h4 : ¬ szw p > 4096) : set_ x y m = (p, 0) := by
  unfold set_
  rw [h, hp]
  exact (if_pos rfl).trans (if_neg h4)
theorem set_ev (m : List S38) (x y : S24) (hx : Ok x) (hy : Ok y) : ∃ k, PA.path_Set.f k x.f0 x.f1 x.f2 y.f0 y.f1 y.f2 m = some ((set_ x y m).1.f0, (set_ x y m).1.f1, (set_ x y m).1.f2, (set_ x y m).2) := by
  obtain ⟨r, hr⟩ : ∃ r, at_ x m = r := ⟨_, rfl⟩
  obtain ⟨o, t⟩ := r
  have ho : Ok o := by have := at_ok m x hx; rw [hr] at this; exact this
  obtain ⟨p, hp⟩ : ∃ p, put_ x y m = p := ⟨_, rfl⟩
  refine ⟨2 * sz x + 2 * sz o + 2 * sz y + m.length + 1, ?_⟩
  obtain ⟨K, hK⟩ : ∃ K, 2 * sz x + 2 * sz o + 2 * sz y + m.length + 1 = K := ⟨_, rfl⟩
  have k1 := vsize_ev x hx K (by omega)
  have k2 := vsize_ev o ho K (by omega)
  have k3 := vsize_ev y hy K (by omega)
  rw [hK]
  unfold PA.path_Set.f
  rw [At.f_is x m o t hr, Option.bind_some]
  by_cases h : t = 0
  · subst h
    have h0 : (at_ x m).2 = 0 := by rw [hr]
    have k4 := put_ev m x y hx h0 K (by omega)
    have k5 := put_sz m x y h0
    rw [hp, hr] at k5
    rw [hp] at k4
    have k6 := sum_w x y o p k5
    rw [if_pos rfl, k1, Option.bind_some, k2, Option.bind_some, k3, Option.bind_some, k6]
    by_cases h4 : szw p > 4096
    · rw [if_pos h4, set_big x y o m hr p hp h4]
      rfl
    · rw [if_neg h4, set_yes x y o m hr p hp h4, k4, Option.bind_some]
  · rw [if_neg h, set_no x y o m t hr h]
    rfl
end Go.Proofs.Ytggdpeeiioibgaa.E
