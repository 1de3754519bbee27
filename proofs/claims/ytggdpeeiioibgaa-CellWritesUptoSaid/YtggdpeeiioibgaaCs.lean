/- Marline, layer 08: the law of what is read, as its row wants it. Conditions: as it says. -/
import Derived.Test.YtggdpeeiioibgaaCq
import Derived.Test.YtggdpeeiioibgaaPW7
import Derived.Test.YtggdpeeiioibgaaC2
import Derived.Test.YtggdpeeiioibgaaOpen
namespace Go.Proofs.Ytggdpeeiioibgaa.E
open Go.RowKit Go.Proofs.YtggdpeeiioibgaaW.PrintWords Go.Proofs.YtggdpeeiioibgaaW.PrintLast Go.Proofs.YtggdpeeiioibgaaW.PrintMore Go.Proofs.Ytggdpeeiioibgaa.Kinds Go.Proofs.Ytggdpeeiioibgaa.Obj
set_option linter.unusedVariables false
set_option linter.unusedSimpArgs false

theorem works8 (k : Nat) (hk : 30 ≤ k) : PE.marlinelaw08_works.f k = some true := by
  have ht := at_rounds (PT.marlineref06_Text.mono 2 0 wv.f2) hk text_v
  have e1 : (strOfNums [0, 5]).toList = (strOfNums (([0, 5] : List Int))).toList := rfl
  have e2 : (⟨#[91, 54, 52, 44, 32, 116, 114, 117, 101, 93]⟩ : ByteArray).toList = ([91, 54, 52, 44, 32, 116, 114, 117, 101, 93] : List UInt8) := by decide +kernel
  unfold PE.marlinelaw08_works.f
  rw [cread_w, Option.bind_some, cbytes_w, Option.bind_some, if_pos e1, if_pos rfl]
  simp only
  rw [ht, Option.bind_some, if_pos e2, clong_w, Option.bind_some]
  rfl
theorem read_cases (b : List Int) : (∃ x, dv (b.length + 1) b = some (x, []) ∧ read b = (x, 0)) ∨ ((∀ x, dv (b.length + 1) b ≠ some (x, [])) ∧ read b = (z24, 1)) := by
  unfold read
  cases h : dv (b.length + 1) b with
  | none => exact .inr ⟨fun x hx => (by cases hx), rfl⟩
  | some z =>
    obtain ⟨x, r⟩ := z
    cases r with
    | nil => exact .inl ⟨x, rfl, rfl⟩
    | cons c r => exact .inr ⟨fun y hy => (by simp at hy), rfl⟩
/-- no beginning of a value's bytes is a value's. -/
theorem read_begin (b : List Int) (hb : Bytes b) (hl : b.length ≤ 1000000000000) (x : S24) (h : dv (b.length + 1) b = some (x, [])) (i : Nat) (hi : i < b.length) : read (b.take i) = (z24, 1) := by
  rcases read_cases (b.take i) with ⟨y, h1, _⟩ | ⟨_, h2⟩
  · exfalso
    have hb2 : Bytes (b.take i) := fun c hc => hb c (List.mem_of_mem_take hc)
    have hlen : (b.take i).length ≤ b.length := by rw [List.length_take]; omega
    have hs := dv_sound _ _ _ _ hb2 h1
    have h3 := dv_ext ((b.take i).length + 1) (b.length + 1) (b.take i) (b.drop i) y [] hb2 (by omega) h1 (by have := hs.2.2.2; simp at this; omega)
    rw [List.take_append_drop, h] at h3
    simp only [Option.some.injEq, Prod.mk.injEq, List.nil_append] at h3
    have h4 := congrArg List.length h3.2
    rw [List.length_drop] at h4
    simp at h4
    omega
  · exact h2
theorem cread_ev (b : List Int) (hb : Bytes b) (hl : b.length ≤ 1000000000000) (x : S24) (e : Int) (h : read b = (x, e)) : E.CRead.f b = some (x.f0, x.f1, x.f2, e) := by
  unfold E.CRead.f
  rw [if_pos ⟨hb, hl⟩, h]
theorem reads_l0 (b : List Int) (hb : Bytes b) (hl : b.length ≤ 200) (x : S24) (h : dv (b.length + 1) b = some (x, [])) : ∀ d i k, i + d = b.length → d + 4 * sz x + 20 ≤ k →
    PE.marlinelaw08_CellReads.l0 k b (i : Int) x.f0 x.f1 x.f2 = some true := by
  have hs := dv_sound _ _ _ _ hb h
  obtain ⟨s1, s2, s3, s4⟩ := hs
  rw [List.append_nil] at s1
  have hby : bytes x = b := by unfold bytes; rw [if_pos s2]; exact s1.symm
  intro d
  induction d with
  | zero =>
    intro i k hi hk
    obtain ⟨k, rfl⟩ : ∃ m, k = m + 1 := ⟨k - 1, by omega⟩
    simp only [PE.marlinelaw08_CellReads.l0]
    rw [if_neg (by omega), rbytes_ev x (by simp at s4; omega) s3 k (by omega), Option.bind_some, hby]
    simp
  | succ d ih =>
    intro i k hi hk
    obtain ⟨k, rfl⟩ : ∃ m, k = m + 1 := ⟨k - 1, by omega⟩
    have hr := read_begin b hb (by omega) x h i (by omega)
    have hb2 : Bytes (b.take i) := fun c hc => hb c (List.mem_of_mem_take hc)
    have hc := cread_ev (b.take i) hb2 (by rw [List.length_take]; omega) z24 1 hr
    have hw : wrap64 ((i : Int) + 1) = ((i + 1 : Nat) : Int) := wrap_nat2 i (by omega)
    simp only [PE.marlinelaw08_CellReads.l0]
    rw [if_pos (by omega), if_pos (by omega), if_pos (by omega), Int.toNat_natCast, hc, Option.bind_some, if_pos rfl, hw]
    exact ih (i + 1) k (by omega) (by omega)
theorem cellReads_pure (b : List Int) (hb : Bytes b) (hl : b.length ≤ 140737488351232) : ∃ k, PE.marlinelaw08_CellReads.f k b = some true := by
  by_cases h200 : 200 < b.length
  · refine ⟨31, ?_⟩
    unfold PE.marlinelaw08_CellReads.f
    rw [works8 31 (by decide), Option.bind_some, if_pos rfl, decide_eq_true (show (b.length : Int) > 200 by omega)]
    simp only [PE.marlinelaw08_CellReads.j0]
    rw [if_pos trivial, works8 30 (by decide)]
    rfl
  · rcases read_cases b with ⟨x, h1, h2⟩ | ⟨_, h2⟩
    · refine ⟨b.length + 4 * sz x + 60, ?_⟩
      unfold PE.marlinelaw08_CellReads.f
      rw [works8 _ (by omega), Option.bind_some, if_pos rfl, decide_eq_false (show ¬ (b.length : Int) > 200 by omega)]
      obtain ⟨k, hk⟩ : ∃ k, b.length + 4 * sz x + 60 = k + 1 := ⟨b.length + 4 * sz x + 59, rfl⟩
      rw [hk]
      simp only [PE.marlinelaw08_CellReads.j0]
      rw [if_neg (by decide), cread_ev b hb (by omega) x 0 h2, Option.bind_some, if_pos rfl]
      have := reads_l0 b hb (by omega) x h1 b.length 0 k (by omega) (by omega)
      exact this
    · refine ⟨31, ?_⟩
      unfold PE.marlinelaw08_CellReads.f
      rw [works8 31 (by decide), Option.bind_some, if_pos rfl, decide_eq_false (show ¬ (b.length : Int) > 200 by omega)]
      simp only [PE.marlinelaw08_CellReads.j0]
      rw [if_neg (by decide), cread_ev b hb (by omega) z24 1 h2, Option.bind_some, if_neg (by decide), if_pos rfl]
      have hs : E.Same.f z24.f0 z24.f1 z24.f2 0 0 [] = some true := by
        unfold E.Same.f
        simp [z24, same, sameL]
      rw [hs]; rfl
end Go.Proofs.Ytggdpeeiioibgaa.E
namespace Go.Proofs.Ytggdpeeiioibgaa.Opn
open Go.RowKit Go.Proofs.YtggdpeeiioibgaaW.PrintWords Go.Proofs.YtggdpeeiioibgaaW.PrintLast Go.Proofs.Ytggdpeeiioibgaa.Open Go.Proofs.Ytggdpeeiioibgaa.Kinds
theorem opens44 (fuel : Nat) : OpensAt fuel Try.prog 44 (Kd.slice 5 (Kd.int .u8)) (fun xs => (xs.length * 1 ≤ 140737488351232 ∧ ∀ y ∈ xs, (0 ≤ y ∧ y ≤ 255))) (fun _ => 0) :=
  opens_weak (at_slice Try.underlying44 (by kernel_rfl) (by kernel_rfl) (fun q_ _ => (at_inu8 Try.underlying5))) (fun _ h => h)
end Go.Proofs.Ytggdpeeiioibgaa.Opn
namespace Go.Proofs.Ytggdpeeiioibgaa.E
open Go.RowKit Go.Proofs.YtggdpeeiioibgaaW.PrintWords Go.Proofs.YtggdpeeiioibgaaW.PrintLast Go.Proofs.YtggdpeeiioibgaaW.PrintMore Go.Proofs.Ytggdpeeiioibgaa.Kinds Go.Proofs.Ytggdpeeiioibgaa.Obj
theorem reads_walk (b : List Int) (A : Option Addr) (c : Nat) (w : World) (hC : Kd.C (Kd.int .u8) w A b.length b) (hl : b.length ≤ c) (hw : b.length * 1 ≤ 140737488351232 ∧ ∀ y ∈ b, (0 ≤ y ∧ y ≤ 255)) :
    Calls Try.prog 7 #[.slice A b.length c] w fun e w' => e = .returned (.bool true) ∧ Below w.heap.size w w' := by
  obtain ⟨k, hk⟩ := cellReads_pure b (fun y hy => ⟨(hw.2 y hy).1, by have := (hw.2 y hy).2; omega⟩) (by omega)
  exact PE.marlinelaw08_CellReads.calls k A c b true w hC hl hk
end Go.Proofs.Ytggdpeeiioibgaa.E
