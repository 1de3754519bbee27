/- Marline, layer 08: what the works of its laws come to, in plain Lean. No condition. -/
import Derived.Test.YtggdpeeiioibgaaUp
import Derived.Test.YtggdpeeiioibgaaBy
namespace Go.Proofs.Ytggdpeeiioibgaa.E
open Go.RowKit Go.Proofs.YtggdpeeiioibgaaW.PrintWords Go.Proofs.YtggdpeeiioibgaaW.PrintLast Go.Proofs.YtggdpeeiioibgaaW.PrintMore Go.Proofs.Ytggdpeeiioibgaa.Kinds Go.Proofs.Ytggdpeeiioibgaa.Obj
set_option linter.unusedVariables false

open Classical in
noncomputable def CBytes.f (a b : Int) (l : List S24) : Option (List Int) := if Num ⟨a, b, l⟩ ∧ 11 * sz ⟨a, b, l⟩ ≤ 70368744177664 then some (bytes ⟨a, b, l⟩) else none
theorem CBytes.calls (a0_0 a0_1 : Int) (A0_2 : Option Addr) (c0_2 : Nat) (l0_2 : List S24) (r : List Int) (w : World) (hr0_2 : Kd.C k24 w A0_2 l0_2.length l0_2) (hc0_2 : l0_2.length ≤ c0_2) (h : CBytes.f a0_0 a0_1 l0_2 = some r) :
    Calls Try.prog 29 #[.agg #[.int .i64 a0_0, .int .i64 a0_1, .slice A0_2 l0_2.length c0_2]] w fun e w' => ∃ v0_ : Value, e = .returned (v0_) ∧ Kd.R (Kd.int .u8) 5 w' w.heap.size (fun _ => True) v0_ r ∧ Below w.heap.size w w' := by
  unfold CBytes.f at h
  split at h
  · rename_i hb
    obtain rfl := Option.some.inj h
    refine (bytes24 ⟨a0_0, a0_1, l0_2⟩ A0_2 c0_2 w hb.1 hb.2 ⟨hc0_2, hr0_2⟩).mono ?_
    rintro e w' ⟨v, rfl, h1, h2⟩
    exact ⟨v, rfl, h1, h2⟩
  · cases h
open Classical in
noncomputable def CLong.f (a b : Int) (l : List S24) : Option Int := if Num ⟨a, b, l⟩ ∧ 11 * sz ⟨a, b, l⟩ ≤ 70368744177664 then some ((bytes ⟨a, b, l⟩).length : Int) else none
theorem CLong.calls (a0_0 a0_1 : Int) (A0_2 : Option Addr) (c0_2 : Nat) (l0_2 : List S24) (r : Int) (w : World) (hr0_2 : Kd.C k24 w A0_2 l0_2.length l0_2) (hc0_2 : l0_2.length ≤ c0_2) (h : CLong.f a0_0 a0_1 l0_2 = some r) :
    Calls Try.prog 31 #[.agg #[.int .i64 a0_0, .int .i64 a0_1, .slice A0_2 l0_2.length c0_2]] w fun e w' => e = .returned (.int .i64 r) ∧ Below w.heap.size w w' := by
  unfold CLong.f at h
  split at h
  · rename_i hb
    obtain rfl := Option.some.inj h
    exact long24 ⟨a0_0, a0_1, l0_2⟩ A0_2 c0_2 w hb.1 hb.2 ⟨hc0_2, hr0_2⟩
  · cases h
open Classical in
noncomputable def CPack.f (l : List S24) : Option (List Int) := if (∀ y ∈ l, Num y) ∧ 11 * szL l ≤ 70368744177664 then some (pack l) else none
theorem CPack.calls (A0 : Option Addr) (c0 : Nat) (l0 : List S24) (r : List Int) (w : World) (hr0 : Kd.C k24 w A0 l0.length l0) (hc0 : l0.length ≤ c0) (h : CPack.f l0 = some r) :
    Calls Try.prog 34 #[.slice A0 l0.length c0] w fun e w' => ∃ v0_ : Value, e = .returned (v0_) ∧ Kd.R (Kd.int .u8) 5 w' w.heap.size (fun _ => True) v0_ r ∧ Below w.heap.size w w' := by
  unfold CPack.f at h
  split at h
  · rename_i hb
    obtain rfl := Option.some.inj h
    refine (pack24 A0 c0 l0 w hb.1 hb.2 hc0 hr0).mono ?_
    rintro e w' ⟨v, rfl, h1, h2⟩
    exact ⟨v, rfl, h1, h2⟩
  · cases h
open Classical in
noncomputable def CRead.f (b : List Int) : Option (Int × Int × List S24 × Int) := if Bytes b ∧ b.length ≤ 1000000000000 then some ((read b).1.f0, (read b).1.f1, (read b).1.f2, (read b).2) else none
theorem CRead.calls (A0 : Option Addr) (c0 : Nat) (l0 : List Int) (r1 r2 : Int) (r3 : List S24) (r4 : Int) (w : World) (hr0 : Kd.C (Kd.int .u8) w A0 l0.length l0) (hc0 : l0.length ≤ c0) (h : CRead.f l0 = some (r1, r2, r3, r4)) :
    Calls Try.prog 32 #[.slice A0 l0.length c0] w fun e w' => ∃ v2_ : Value, e = .returned (.tuple #[.agg #[.int .i64 r1, .int .i64 r2, v2_], .int .i64 r4]) ∧ Kd.N k24 24 w' w.heap.size (fun k_ => (w.heap.size ≤ k_)) v2_ r3 ∧ Below w.heap.size w w' := by
  unfold CRead.f at h
  split at h
  · rename_i hb
    simp only [Option.some.injEq, Prod.mk.injEq] at h
    obtain ⟨rfl, rfl, rfl, rfl⟩ := h
    exact read_is l0 hb.1 hb.2 A0 c0 w hc0 hr0
  · cases h
open Classical in
noncomputable def CUnpack.f (b : List Int) : Option (List S24 × Int) := if Bytes b ∧ b.length ≤ 1000000000000 then some ((unpack b).1, (unpack b).2) else none
theorem CUnpack.calls (A0 : Option Addr) (c0 : Nat) (l0 : List Int) (r1 : List S24) (r2 : Int) (w : World) (hr0 : Kd.C (Kd.int .u8) w A0 l0.length l0) (hc0 : l0.length ≤ c0) (h : CUnpack.f l0 = some (r1, r2)) :
    Calls Try.prog 35 #[.slice A0 l0.length c0] w fun e w' => ∃ v0_ : Value, e = .returned (.tuple #[v0_, .int .i64 r2]) ∧ Kd.N k24 24 w' w.heap.size (fun k_ => (w.heap.size ≤ k_)) v0_ r1 ∧ Below w.heap.size w w' := by
  unfold CUnpack.f at h
  split at h
  · rename_i hb
    simp only [Option.some.injEq, Prod.mk.injEq] at h
    obtain ⟨rfl, rfl⟩ := h
    exact unpack_is l0 hb.1 hb.2 A0 c0 w hc0 hr0
  · cases h
end Go.Proofs.Ytggdpeeiioibgaa.E
namespace Go.Proofs.Ytggdpeeiioibgaa.E
open Go.RowKit Go.Proofs.YtggdpeeiioibgaaW.PrintWords Go.Proofs.YtggdpeeiioibgaaW.PrintLast Go.Proofs.YtggdpeeiioibgaaW.PrintMore Go.Proofs.Ytggdpeeiioibgaa.Kinds Go.Proofs.Ytggdpeeiioibgaa.Obj
set_option linter.unusedVariables false

abbrev wv : S24 := ⟨2, 0, [⟨0, 64, []⟩, ⟨1, 1, []⟩]⟩
theorem read_w : read [2, 4, 0, 128, 1, 1, 1] = (wv, 0) := by kernel_rfl
theorem bytes_w : bytes ⟨0, -3, []⟩ = [0, 5] := by kernel_rfl
theorem bytes_v : bytes wv = [2, 4, 0, 128, 1, 1, 1] := by kernel_rfl
theorem text_v : PT.marlineref06_Text.f 30 2 0 wv.f2 = some ⟨#[91, 54, 52, 44, 32, 116, 114, 117, 101, 93]⟩ := by kernel_rfl
theorem num_leaf (k n : Int) (h : i64 k) (h2 : i64 n) : Num ⟨k, n, []⟩ := .mk _ h h2 (fun y hy => by simp at hy)
theorem num_v : Num wv := .mk _ ⟨by decide, by decide⟩ ⟨by decide, by decide⟩ (fun y hy => by
  simp at hy
  rcases hy with rfl | rfl <;> exact num_leaf _ _ ⟨by decide, by decide⟩ ⟨by decide, by decide⟩)
theorem bytes_wb : Bytes [2, 4, 0, 128, 1, 1, 1] := by intro c hc; simp at hc; omega
theorem cread_w : E.CRead.f [2, 4, 0, 128, 1, 1, 1] = some (2, 0, wv.f2, 0) := by
  unfold E.CRead.f
  rw [if_pos ⟨bytes_wb, by decide⟩, read_w]
theorem cbytes_w : E.CBytes.f 0 (-3) [] = some [0, 5] := by
  unfold E.CBytes.f
  rw [if_pos ⟨num_leaf _ _ ⟨by decide, by decide⟩ ⟨by decide, by decide⟩, by simp [sz, szL]⟩, bytes_w]
theorem clong_w : E.CLong.f 2 0 wv.f2 = some 7 := by
  unfold E.CLong.f
  rw [if_pos ⟨num_v, by simp [sz, szL]⟩]
  have h := bytes_v
  have e : (bytes wv).length = 7 := by rw [h]; rfl
  exact congrArg some (by rw [e]; rfl)
theorem wfact1 {t : List Int} (h : E.CBytes.f 0 (-3) [] = some t) {y : List Int} (hy : y = [0, 5]) : (strOfNums t).toList = (strOfNums y).toList := by
  rw [cbytes_w] at h
  obtain rfl := Option.some.inj h
  rw [hy]
theorem wfact2 {y : List Int} (hy : y = [2, 4, 0, 128, 1, 1, 1]) {t1 t2 t4 : Int} {t3 : List S24} (h : E.CRead.f y = some (t1, t2, t3, t4)) : t1 = 2 ∧ t2 = 0 ∧ t3 = wv.f2 ∧ t4 = 0 := by
  rw [hy, cread_w] at h
  simp only [Option.some.injEq, Prod.mk.injEq] at h
  exact ⟨h.1.symm, h.2.1.symm, h.2.2.1.symm, h.2.2.2.symm⟩
theorem text_k {k : Nat} {s : ByteArray} (h : PT.marlineref06_Text.f k 2 0 wv.f2 = some s) : s.toList = [91, 54, 52, 44, 32, 116, 114, 117, 101, 93] := by
  have h1 := at_rounds (PT.marlineref06_Text.mono 2 0 wv.f2) (Nat.le_max_left k 30) h
  have h2 := at_rounds (PT.marlineref06_Text.mono 2 0 wv.f2) (Nat.le_max_right k 30) text_v
  rw [h2] at h1
  obtain rfl := Option.some.inj h1
  decide +kernel
end Go.Proofs.Ytggdpeeiioibgaa.E
