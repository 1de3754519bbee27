/- Marline, layer 07: the law of Fill and Make, in plain Lean. Conditions: as each says. -/
import Derived.Test.YtggdpeeiioibgaaPBx1
import Derived.Test.YtggdpeeiioibgaaBs
namespace Go.Proofs.Ytggdpeeiioibgaa.E
open Go.RowKit Go.Proofs.YtggdpeeiioibgaaW.PrintWords Go.Proofs.YtggdpeeiioibgaaW.PrintLast Go.Proofs.YtggdpeeiioibgaaW.PrintMore Go.Proofs.Ytggdpeeiioibgaa.Kinds Go.Proofs.Ytggdpeeiioibgaa.Obj
set_option linter.unusedVariables false
set_option linter.unusedSimpArgs false

theorem szL_rep (x : S24) : ∀ n, szL (List.replicate n x) = n * sz x
  | 0 => by simp [szL]
  | n + 1 => by rw [List.replicate_succ]; simp only [szL, szL_rep x n]; rw [Nat.add_mul]; omega
/-- an array of one value. -/
def arr (n : Nat) (x : S24) : S24 := ⟨2, 0, List.replicate n x⟩
theorem sz_arr (n : Nat) (x : S24) : sz (arr n x) = n * sz x + 1 := by rw [sz_eq]; show szL (List.replicate n x) + 1 = _; rw [szL_rep]
def fill_ (n : Int) (x : S24) : S24 × Int := if n < 0 ∨ 256 < n then (z24, 3) else fits (arr n.toNat x)
theorem fill_bad (n : Int) (x : S24) (h : n < 0 ∨ 256 < n) : fill_ n x = (z24, 3) := if_pos h
theorem fill_good (n : Nat) (x : S24) (h : n ≤ 256) : fill_ (n : Int) x = fits (arr n x) := by
  have hn : ¬ ((n : Int) < 0 ∨ 256 < (n : Int)) := by omega
  have e : fill_ (n : Int) x = fits (arr (n : Int).toNat x) := if_neg hn
  rw [e, Int.toNat_natCast]
theorem szw_small (x : S24) (h : sz x ≤ 9000000000000000000) : szw x = (sz x : Int) := by unfold szw wrap64; omega
/-- the program's look: is it too great. -/
theorem great (n s : Nat) (hn : 0 < n) : (4095 / n < s) ↔ 4096 < n * s + 1 := by
  rw [Nat.div_lt_iff_lt_mul hn, Nat.mul_comm]; omega
theorem arr_ok (n : Nat) (x : S24) (h : n ≤ 256) (hx : Ok x) : Ok (arr n x) := by
  refine .mk _ ?_ ?_
  · show (List.replicate n x).length * 40 ≤ _; rw [List.length_replicate]; omega
  · intro y hy; exact (List.eq_of_mem_replicate hy) ▸ hx
theorem arr_ev (l : List S24) (h : l.length ≤ 256) : PM.val_Arr.f l = some (2, 0, l) := by
  unfold PM.val_Arr.f E.Clone.f
  rw [if_pos (by omega), Option.bind_some]
/-- a result, in parts. -/
def tup (r : S24 × Int) : Int × Int × List S24 × Int := (r.1.f0, r.1.f1, r.1.f2, r.2)
theorem fits_szw (n : Nat) (x : S24) (hn : n ≤ 256) (hz : sz x ≤ 1048576) : szw (arr n x) = ((n * sz x + 1 : Nat) : Int) := by
  have h : n * sz x ≤ 256 * 1048576 := Nat.mul_le_mul hn hz
  rw [szw_small _ (by rw [sz_arr]; omega), sz_arr]
theorem wrap_div (n : Nat) : wrap64 ((4095 : Int) / (n : Int)) = ((4095 / n : Nat) : Int) := by
  have h : ((4095 : Int) / (n : Int)) = ((4095 / n : Nat) : Int) := (Int.natCast_ediv 4095 n).symm
  have h2 : 4095 / n ≤ 4095 := Nat.div_le_self _ _
  rw [h]
  generalize 4095 / n = q at *
  unfold wrap64; omega
theorem fill_j1 (n : Nat) (x : S24) (hn : n ≤ 256) (k : Nat) : PM.path_Fill.j1 (k + 1) (n : Int) false x.f0 x.f1 x.f2 = some (2, 0, List.replicate n x, 0) := by
  simp only [PM.path_Fill.j1]
  rw [if_neg (by decide)]
  unfold E.Repeat.f
  rw [if_pos ⟨rfl, by omega, by omega⟩, Option.bind_some]
  have e : List.replicate (n : Int).toNat ([(⟨x.f0, x.f1, x.f2⟩ : S24)].getD 0 z24) = List.replicate n x := by
    rw [s24_eta]; simp
  rw [e, arr_ev _ (by simp; omega)]
  rfl
theorem fill_ev (n : Int) (x : S24) (hx : Ok x) (hz : sz x ≤ 1048576) : ∀ k, 2 * sz x + 3 ≤ k → PM.path_Fill.f k n x.f0 x.f1 x.f2 = some (tup (fill_ n x)) := by
  intro k hk
  obtain ⟨k, rfl⟩ : ∃ m, k = m + 2 := ⟨k - 2, by omega⟩
  by_cases hb : n < 0 ∨ 256 < n
  · rw [fill_bad n x hb]
    have hj : PM.path_Fill.j0 (k + 2) n true x.f0 x.f1 x.f2 = some (0, 0, [], 3) := by
      simp only [PM.path_Fill.j0]; rw [if_pos trivial]
    unfold PM.path_Fill.f
    by_cases h0 : n < 0
    · rw [if_pos h0, hj]; rfl
    · rw [if_neg h0, decide_eq_true (by omega), hj]; rfl
  · obtain ⟨m, rfl⟩ : ∃ m : Nat, n = m := ⟨n.toNat, by omega⟩
    have hm : m ≤ 256 := by omega
    have hs := fits_szw m x hm hz
    rw [fill_good m x hm]
    unfold PM.path_Fill.f
    rw [if_neg (by omega), decide_eq_false (by omega)]
    simp only [PM.path_Fill.j0]
    rw [if_neg (by decide)]
    by_cases h0 : 0 < m
    · have hg := great m (sz x) h0
      rw [if_pos (by omega), vsize_ev x hx (k + 1) (by omega), Option.bind_some, if_neg (by omega), wrap_div, szw_small x (by omega)]
      by_cases hc : 4096 < m * sz x + 1
      · rw [decide_eq_true (by have := hg.2 hc; omega), fits_big (arr m x) (by rw [hs]; omega)]
        simp only [PM.path_Fill.j1]
        rw [if_pos trivial]; rfl
      · rw [decide_eq_false (by intro h; exact hc (hg.1 (by omega))), fits_ok (arr m x) (by rw [hs]; omega), fill_j1 m x hm]
        rfl
    · have e0 : m = 0 := by omega
      have hw : ¬ szw (arr m x) > 4096 := by rw [hs, e0, Nat.zero_mul]; decide
      have hp : ¬ (m : Int) > 0 := by omega
      clear hs hb hk h0 hz
      rw [if_neg hp, fits_ok (arr m x) hw, fill_j1 m x hm]
      rfl
theorem rfill_l (n : Nat) (x : S24) (hn : n ≤ 256) (hx : Ok x) (hz : sz x ≤ 1048576) : ∀ d i k, i + d = n → 2 * sz (arr n x) + d + 1 ≤ k →
    PM.marlineref07_Fill.l0 k (n : Int) (i : Int) x.f0 x.f1 x.f2 2 0 (List.replicate i x) = some (tup (fits (arr n x))) := by
  intro d
  induction d with
  | zero =>
    intro i k hi hk
    obtain rfl : i = n := by omega
    obtain ⟨k, rfl⟩ : ∃ m, k = m + 1 := ⟨k - 1, by omega⟩
    simp only [PM.marlineref07_Fill.l0]
    rw [if_neg (by omega)]
    have h1 := fits_ev (arr i x) (arr_ok i x hn hx) k (by omega)
    clear hi hk
    generalize fits (arr i x) = r at *
    have e : PA.marlineref07_Fits.f k 2 0 (List.replicate i x) = some (tup r) := h1
    have e3 : ∀ q : Int × Int × List S24 × Int, ((some q).bind fun bt129 => some (bt129.1, bt129.2.1, bt129.2.2.1, bt129.2.2.2)) = some q := fun q => rfl
    rw [e]
    exact e3 _
  | succ d ih =>
    intro i k hi hk
    obtain ⟨k, rfl⟩ : ∃ m, k = m + 1 := ⟨k - 1, by omega⟩
    simp only [PM.marlineref07_Fill.l0]
    rw [if_pos (by omega), if_pos (by rw [List.length_replicate]; omega), wrap_nat i (by omega), s24_eta, ← List.replicate_succ']
    exact ih (i + 1) k (by omega) (by omega)
theorem rfill_ev (n : Int) (x : S24) (hx : Ok x) (hz : sz x ≤ 1048576) : ∀ k, 1000 * sz x + 1000 ≤ k → PM.marlineref07_Fill.f k n x.f0 x.f1 x.f2 = some (tup (fill_ n x)) := by
  intro k hk
  obtain ⟨k, rfl⟩ : ∃ m, k = m + 1 := ⟨k - 1, by omega⟩
  by_cases hb : n < 0 ∨ 256 < n
  · rw [fill_bad n x hb]
    have hj : PM.marlineref07_Fill.j0 (k + 1) n true x.f0 x.f1 x.f2 = some (0, 0, [], 3) := by
      simp only [PM.marlineref07_Fill.j0]; rw [if_pos trivial]
    unfold PM.marlineref07_Fill.f
    by_cases h0 : n < 0
    · rw [if_pos h0, hj]; rfl
    · rw [if_neg h0, decide_eq_true (by omega), hj]; rfl
  · obtain ⟨m, rfl⟩ : ∃ m : Nat, n = m := ⟨n.toNat, by omega⟩
    have hm : m ≤ 256 := by omega
    rw [fill_good m x hm]
    unfold PM.marlineref07_Fill.f
    rw [if_neg (by omega), decide_eq_false (by omega)]
    simp only [PM.marlineref07_Fill.j0]
    rw [if_neg (by decide)]
    refine rfill_l m x hm hx hz m 0 k (by omega) ?_
    have h := sz_arr m x
    have h2 : m * sz x ≤ 256 * sz x := Nat.mul_le_mul_right _ hm
    omega
theorem same_tup (x : S24) : E.Same.f x.f0 x.f1 x.f2 x.f0 x.f1 x.f2 = some true := by
  unfold E.Same.f
  rw [same_refl]
theorem make_0 (k : Int) (l : List S24) (h : (make_ k l).2 = 0) : (make_ k l).1 = ⟨k, 0, l⟩ := by
  by_cases hy : k = 3 ∨ (k = 2 ∧ l.length ≤ 256)
  · rw [make_yes k l hy] at h ⊢
    by_cases hc : szw ⟨k, 0, l⟩ > 4096
    · rw [fits_big _ hc] at h; exact absurd h (show ¬ (4 : Int) = 0 by decide)
    · rw [fits_ok _ hc]
  · rw [make_no k l hy] at h; exact absurd h (show ¬ (3 : Int) = 0 by decide)
theorem makes_l1 (l : List S24) (h : ∀ c : Int, Ok ⟨c, 0, l⟩) : ∀ (d : Nat) (c : Int), -1 ≤ c → c + d = 5 → ∃ K, ∀ k, K ≤ k → PB.lawPM.l1 k l c = some true := by
  intro d
  induction d with
  | zero =>
    intro c h0 hc
    refine ⟨1, fun k hk => ?_⟩
    obtain ⟨k, rfl⟩ : ∃ m, k = m + 1 := ⟨k - 1, by omega⟩
    simp only [PB.lawPM.l1]
    rw [if_neg (by omega)]
  | succ d ih =>
    intro c h0 hc
    obtain ⟨K, hK⟩ := ih (c + 1) (by omega) (by omega)
    obtain ⟨K2, hK2⟩ := refMake_ev c l (h c)
    refine ⟨max K K2 + 1, fun k hk => ?_⟩
    obtain ⟨k, rfl⟩ : ∃ m, k = m + 1 := ⟨k - 1, by omega⟩
    have hr : PM.marlineref07_Make.f k c l = some (tup (make_ c l)) := at_rounds (PM.marlineref07_Make.mono c l) (by omega) hK2
    have hm : E.Make.f c l = some (tup (make_ c l)) := by unfold E.Make.f; rw [if_pos (h c)]; rfl
    have hw : wrap64 (c + 1) = c + 1 := by unfold wrap64; omega
    have hn := hK k (by omega)
    have h00 := make_0 c l
    simp only [PB.lawPM.l1]
    rw [if_pos (by omega), hm, Option.bind_some, hr, Option.bind_some, if_pos rfl]
    generalize make_ c l = r at *
    have hs : E.Same.f (tup r).1 (tup r).2.1 (tup r).2.2.1 (tup r).1 (tup r).2.1 (tup r).2.2.1 = some true := same_tup r.1
    rw [hs, Option.bind_some, if_pos rfl, hw, hn]
    by_cases ht : (tup r).2.2.2 = 0
    · rw [if_pos ht]
      by_cases hc2 : c = 2
      · have hlen : PM.path_Len.f (tup r).1 (tup r).2.1 (tup r).2.2.1 = some (l.length : Int) := by
          have h3 := h00 ht
          show PM.path_Len.f r.1.f0 r.1.f1 r.1.f2 = _
          rw [h3]
          unfold PM.path_Len.f
          simp only
          rw [if_pos hc2]
        rw [if_pos hc2, hlen, Option.bind_some, if_pos rfl]
      · rw [if_neg hc2]
    · rw [if_neg ht]
theorem makes_rest (n : Int) (x : S24) (l : List S24) (hx : Ok x) (hz : sz x ≤ 1048576) (h : ∀ c : Int, Ok ⟨c, 0, l⟩) : ∃ K, ∀ k, K ≤ k → ∀ (b : Int), ((PM.path_Fill.f k n x.f0 x.f1 x.f2).bind fun bt107 => ((PM.marlineref07_Fill.f k n x.f0 x.f1 x.f2).bind fun bt114 => (if bt107.2.2.2 = bt114.2.2.2 then ((E.Same.f bt107.1 bt107.2.1 bt107.2.2.1 bt114.1 bt114.2.1 bt114.2.2.1).bind fun t121 => (PB.lawPM.j2 k l (!t121))) else (PB.lawPM.j2 k l true)))) = some true := by
  obtain ⟨K, hK⟩ := makes_l1 l h 6 (-1) (by omega) (by omega)
  refine ⟨K + 1000 * sz x + 1000, fun k hk b => ?_⟩
  obtain ⟨k, rfl⟩ : ∃ m, k = m + 1 := ⟨k - 1, by omega⟩
  rw [fill_ev n x hx hz _ (by omega), Option.bind_some, rfill_ev n x hx hz _ (by omega), Option.bind_some, if_pos rfl]
  simp only [tup]
  rw [same_tup, Option.bind_some]
  simp only [PB.lawPM.j2]
  rw [if_neg (by decide), hK k (by omega)]
theorem makes_l0 (n : Int) (x : S24) (l : List S24) (hx : Ok x) (hz : sz x ≤ 1048576) (h : ∀ c : Int, Ok ⟨c, 0, l⟩) : ∃ K, ∀ (d i : Nat) (s : Int) (k : Nat), i + d = l.length → K + d ≤ k → PB.lawPM.l0 k n l s (i : Int) x.f0 x.f1 x.f2 = some true := by
  obtain ⟨K, hK⟩ := makes_rest n x l hx hz h
  refine ⟨K + 2 * szL l + 1, fun d => ?_⟩
  induction d with
  | zero =>
    intro i s k hi hk
    obtain ⟨k, rfl⟩ : ∃ m, k = m + 1 := ⟨k - 1, by omega⟩
    simp only [PB.lawPM.l0]
    rw [if_neg (by omega)]
    split
    · rfl
    · exact hK k (by omega) 0
  | succ d ih =>
    intro i s k hi hk
    obtain ⟨k, rfl⟩ : ∃ m, k = m + 1 := ⟨k - 1, by omega⟩
    have hlt : i < l.length := by omega
    have hm := rd_mem l i hlt
    have ho : Ok (rd_T24 l i) := (h 0).kid hm
    have hs := szL_mem l _ hm
    have hl := (h 0).len
    have hl2 : l.length * 40 ≤ 140737488351232 := hl
    simp only [PB.lawPM.l0]
    rw [if_pos (by omega), if_pos (by omega), rsize_ev _ ho k (by omega), Option.bind_some, wrap_nat i (by omega)]
    exact ih (i + 1) _ k (by omega) (by omega)
theorem makes_pure (n : Int) (x : S24) (l : List S24) (hx : Ok x) (hz : sz x ≤ 1048576) (h : ∀ c : Int, Ok ⟨c, 0, l⟩) : ∃ k, PB.lawPM.f k n x.f0 x.f1 x.f2 l = some true := by
  obtain ⟨K, hK⟩ := makes_l0 n x l hx hz h
  refine ⟨K + l.length + 2 * sz x + 2, ?_⟩
  obtain ⟨k, hk⟩ : ∃ k, K + l.length + 2 * sz x + 2 = k + 1 := ⟨_, rfl⟩
  rw [hk]
  have hj : PB.lawPM.j0 (k + 1) n l true x.f0 x.f1 x.f2 = some true := by
    simp only [PB.lawPM.j0]; rw [if_pos trivial]; rfl
  have hj2 : PB.lawPM.j0 (k + 1) n l false x.f0 x.f1 x.f2 = some true := by
    simp only [PB.lawPM.j0]; rw [if_neg (by decide)]
    exact hK l.length 0 0 k (by omega) (by omega)
  unfold PB.lawPM.f E.Works.f
  rw [Option.bind_some, if_pos rfl, rsize_ev x hx _ (by omega), Option.bind_some]
  split
  · exact hj
  · cases decide ((l.length : Int) > 400)
    · exact hj2
    · exact hj
end Go.Proofs.Ytggdpeeiioibgaa.E
