/- Marline, layer 12: so many brackets, or signs, one behind the other, and a token behind them: too deep just above the bound: of the printed functions, for all numbers. No condition. -/
import Derived.Test.YtnbgdmeehckbcaaPNestLevelsx2
namespace Go.Proofs.Ytnbgdmeehckbcaa.Pure
open Go.RowKit Go.Proofs.Ytnbgdmeehckbcaa.PNestLevels Go.Proofs.YtnbgdmeehckbcaaW.PrintWords Go.Proofs.YtnbgdmeehckbcaaW.PrintLast Go.Proofs.YtnbgdmeehckbcaaW.PrintMore
set_option linter.unusedSimpArgs false

theorem bnd {α β : Type} {o : Option α} {a : α} {f : α → Option β} {r : Option β} (h : o = some a) (k : f a = r) : o.bind f = r := by rw [h]; exact k

abbrev tok (at_ : Int) (m : ByteArray) : S35 := ⟨4, at_, 0, m⟩
abbrev lst (at_ : Int) : S35 := ⟨1, at_, 0, ⟨#[40]⟩⟩

/-- what a mark adds: b is 1 for a bracket, 0 for a sign. -/
def Adds (m : ByteArray) (b : Int) : Prop := (b = 0 ∨ b = 1) ∧ ∀ (k i : Nat) (at_ : Int), 4 ≤ k → i ≤ 1000 →
  nest_depth_behind.f k (b * i) ((1 - b) * i) 4 at_ 0 m = some (b * ((i + 1 : Nat) : Int), (1 - b) * ((i + 1 : Nat) : Int))

theorem t40 : (⟨#[40]⟩ : ByteArray).toList = [40] := by decide +kernel
theorem t91 : (⟨#[91]⟩ : ByteArray).toList = [91] := by decide +kernel
theorem t123 : (⟨#[123]⟩ : ByteArray).toList = [123] := by decide +kernel
theorem t45 : (⟨#[45]⟩ : ByteArray).toList = [45] := by decide +kernel
theorem t33 : (⟨#[33]⟩ : ByteArray).toList = [33] := by decide +kernel
theorem t0 : (⟨#[]⟩ : ByteArray).toList = [] := by decide +kernel

theorem w1 (i : Nat) (h : i ≤ 1000) : wrap64 ((i : Int) + 1) = ((i + 1 : Nat) : Int) := by unfold wrap64; omega

theorem adds40 : Adds ⟨#[40]⟩ 1 := by
  refine ⟨.inr rfl, fun k i at_ hk hi => ?_⟩
  obtain ⟨k, rfl⟩ : ∃ j, k = j + 4 := ⟨k - 4, by omega⟩
  have := w1 i hi
  simp [nest_depth_behind.f, nest_depth_behind.j0, nest_depth_behind.j1, nest_depth_behind.j2, t40, this]
theorem adds91 : Adds ⟨#[91]⟩ 1 := by
  refine ⟨.inr rfl, fun k i at_ hk hi => ?_⟩
  obtain ⟨k, rfl⟩ : ∃ j, k = j + 4 := ⟨k - 4, by omega⟩
  have := w1 i hi
  simp [nest_depth_behind.f, nest_depth_behind.j0, nest_depth_behind.j1, nest_depth_behind.j2, t91, this]
theorem adds123 : Adds ⟨#[123]⟩ 1 := by
  refine ⟨.inr rfl, fun k i at_ hk hi => ?_⟩
  obtain ⟨k, rfl⟩ : ∃ j, k = j + 4 := ⟨k - 4, by omega⟩
  have := w1 i hi
  simp [nest_depth_behind.f, nest_depth_behind.j0, nest_depth_behind.j1, nest_depth_behind.j2, t123, this]
theorem adds45 : Adds ⟨#[45]⟩ 0 := by
  refine ⟨.inl rfl, fun k i at_ hk hi => ?_⟩
  obtain ⟨k, rfl⟩ : ∃ j, k = j + 4 := ⟨k - 4, by omega⟩
  have := w1 i hi
  simp [nest_depth_behind.f, nest_depth_behind.j0, nest_depth_behind.j1, nest_depth_behind.j2, t45, this]
theorem adds33 : Adds ⟨#[33]⟩ 0 := by
  refine ⟨.inl rfl, fun k i at_ hk hi => ?_⟩
  obtain ⟨k, rfl⟩ : ∃ j, k = j + 4 := ⟨k - 4, by omega⟩
  have := w1 i hi
  simp [nest_depth_behind.f, nest_depth_behind.j0, nest_depth_behind.j1, nest_depth_behind.j2, t33, this]

theorem last_behind (k : Nat) (o r at_ : Int) (hk : 4 ≤ k) : nest_depth_behind.f k o r 1 at_ 0 ⟨#[40]⟩ = some (o, 0) := by
  obtain ⟨k, rfl⟩ : ∃ j, k = j + 4 := ⟨k - 4, by omega⟩
  simp [nest_depth_behind.f, nest_depth_behind.j0, nest_depth_behind.j1, nest_depth_behind.j2, t0]

def toks (n : Nat) (at_ : Int) (m : ByteArray) : List S35 := List.replicate n (tok at_ m) ++ [lst at_]
theorem toks_len (n : Nat) (at_ : Int) (m : ByteArray) : (toks n at_ m).length = n + 1 := by simp [toks]
theorem toks_in (n i : Nat) (at_ : Int) (m : ByteArray) (h : i < n) : rd_T35 (toks n at_ m) (i : Int) = tok at_ m := by
  simp [rd_T35, toks, List.getElem?_append, h]
theorem toks_end (n : Nat) (at_ : Int) (m : ByteArray) : rd_T35 (toks n at_ m) (n : Int) = lst at_ := by
  simp [rd_T35, toks]

theorem check_loop (m : ByteArray) (b at_ : Int) (ha : Adds m b) (n : Nat) (hn : n ≤ 255) (j : Nat) : ∀ i k, i + j = n → i ≤ 60 → j + 10 < k →
    nest_Check.l0 k (toks n at_ m) ((n : Int) + 1) (i : Int) (b * i) ((1 - b) * i) = some (if 60 < n then (at_, 4) else (0, 0)) := by
  induction j with
  | zero =>
    intro i k hi h60 hk
    obtain ⟨k, rfl⟩ : ∃ q, k = q + 1 + 1 := ⟨k - 2, by omega⟩
    obtain rfl : i = n := by omega
    rw [nest_Check.l0, if_pos (by omega), if_pos (by omega), if_pos (by rw [toks_len]; omega), toks_end]
    refine bnd (last_behind _ _ _ _ (by omega)) ?_
    have hb : b * (i : Int) ≤ 60 := by rcases ha.1 with rfl | rfl <;> omega
    show (if b * (i : Int) > 60 then _ else if (0 : Int) > 60 then _ else _) = _
    rw [if_neg (by omega), if_neg (by omega), w1 i (by omega), nest_Check.l0, if_neg (by omega), if_neg (by omega)]
  | succ j ih =>
    intro i k hi h60 hk
    obtain ⟨k, rfl⟩ : ∃ q, k = q + 1 := ⟨k - 1, by omega⟩
    rw [nest_Check.l0, if_pos (by omega), if_pos (by omega), if_pos (by rw [toks_len]; omega), toks_in n i at_ m (by omega)]
    refine bnd (ha.2 k i at_ (by omega) (by omega)) ?_
    show (if b * ((i + 1 : Nat) : Int) > 60 then _ else if (1 - b) * ((i + 1 : Nat) : Int) > 60 then _ else _) = _
    by_cases c : i + 1 > 60
    · rw [if_pos (show 60 < n by omega)]
      rcases ha.1 with rfl | rfl
      · rw [if_neg (by omega), if_pos (by omega)]
      · rw [if_pos (by omega)]
    · rw [if_neg (by rcases ha.1 with rfl | rfl <;> omega), if_neg (by rcases ha.1 with rfl | rfl <;> omega), w1 i (by omega)]
      exact ih (i + 1) k (by omega) (by omega) (by omega)

def marks : List ByteArray := [⟨#[40]⟩, ⟨#[91]⟩, ⟨#[123]⟩, ⟨#[45]⟩, ⟨#[33]⟩]
theorem mark_adds (w : Int) (h0 : 0 ≤ w) (h1 : w < 5) : ∃ b, Adds (rdOf ByteArray.empty marks w) b := by
  have : w = 0 ∨ w = 1 ∨ w = 2 ∨ w = 3 ∨ w = 4 := by omega
  rcases this with rfl | rfl | rfl | rfl | rfl
  · exact ⟨1, adds40⟩
  · exact ⟨1, adds91⟩
  · exact ⟨1, adds123⟩
  · exact ⟨0, adds45⟩
  · exact ⟨0, adds33⟩

theorem level_loop (n : Nat) (hn : n ≤ 255) (v at_ : Int) (hv : 0 ≤ v) (hv1 : v ≤ 255) (j : Nat) : ∀ i k, i + j = n → j + n + 20 < k →
    marlinelaw12_NestLevels.l0 k (n : Int) v at_ marks (List.replicate i (tok at_ (rdOf ByteArray.empty marks (Int.tmod (wrap64 v) 5)))) (i : Int) = some true := by
  have hw : wrap64 v = v := by unfold wrap64; omega
  have hm0 : 0 ≤ Int.tmod v 5 := by rw [Int.tmod_eq_emod_of_nonneg hv]; omega
  have hm1 : Int.tmod v 5 < 5 := by rw [Int.tmod_eq_emod_of_nonneg hv]; omega
  have hnw : wrap64 (n : Int) = (n : Int) := by unfold wrap64; omega
  rw [hw]
  induction j with
  | zero =>
    intro i k hi hk
    obtain ⟨k, rfl⟩ : ∃ q, k = q + 1 := ⟨k - 1, by omega⟩
    obtain rfl : i = n := by omega
    rw [marlinelaw12_NestLevels.l0, hnw, if_neg (by omega), if_pos (by rw [List.length_replicate]; omega)]
    obtain ⟨b, hb⟩ := mark_adds _ hm0 hm1
    have hc := check_loop _ b at_ hb i hn i 0 k (by omega) (by omega) (by omega)
    have hf : nest_Check.f k (List.replicate i (tok at_ (rdOf ByteArray.empty marks (Int.tmod v 5))) ++ [lst at_]) = some (if 60 < i then (at_, 4) else (0, 0)) := by
      unfold nest_Check.f
      have := toks_len i at_ (rdOf ByteArray.empty marks (Int.tmod v 5))
      unfold toks at this hc
      rw [this]
      have z1 : b * ((0 : Nat) : Int) = 0 := by simp
      have z2 : (1 - b) * ((0 : Nat) : Int) = 0 := by simp
      rw [z1, z2] at hc
      exact hc
    refine bnd hf ?_
    by_cases c : 60 < i
    · rw [if_pos (by omega), if_pos c]; simp
    · rw [if_neg (by omega), if_neg c]; simp
  | succ j ih =>
    intro i k hi hk
    obtain ⟨k, rfl⟩ : ∃ q, k = q + 1 := ⟨k - 1, by omega⟩
    rw [marlinelaw12_NestLevels.l0, hnw, hw, if_pos (by omega), if_pos hm0, if_pos (show Int.tmod v 5 < (marks.length : Int) by rw [show marks.length = 5 from rfl]; omega), if_pos (by rw [List.length_replicate]; omega), w1 i (by omega), ← List.replicate_succ']
    exact ih (i + 1) k (by omega) (by omega)

theorem works_nest : marlinelaw12_works.f 20 = some true := by decide +kernel

theorem NestLevels : marlinelaw12_NestLevels.Pure := by
  intro a0 a1 a2 h0 h1 h2
  have b0 : 0 ≤ a0 ∧ a0 ≤ 255 := by simpa [Lit.wf, IntKind.min, IntKind.max, IntKind.signed, IntKind.bits] using h0
  have b1 : 0 ≤ a1 ∧ a1 ≤ 255 := by simpa [Lit.wf, IntKind.min, IntKind.max, IntKind.signed, IntKind.bits] using h1
  obtain ⟨n, rfl⟩ := Int.eq_ofNat_of_zero_le b0.1
  refine ⟨600, ?_⟩
  unfold marlinelaw12_NestLevels.f
  refine bnd (at_rounds (fun k => marlinelaw12_works.mono k) (show 20 ≤ 600 by decide) works_nest) ?_
  rw [if_pos rfl]
  exact level_loop n (by omega) a1 a2 b1.1 b1.2 n 0 600 (by omega) (by omega)

end Go.Proofs.Ytnbgdmeehckbcaa.Pure
