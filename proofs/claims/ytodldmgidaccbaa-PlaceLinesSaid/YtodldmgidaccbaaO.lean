/- Marline, layer 02: Off, Line, and the methods at nil. Conditions: as each says. -/
import Derived.Test.YtodldmgidaccbaaN
namespace Go.Proofs.Ytodldmgidaccbaa.M
open Go.RowKit Go.Proofs.YtodldmgidaccbaaW.PrintWords Go.Proofs.YtodldmgidaccbaaW.PrintLast Go.Proofs.YtodldmgidaccbaaW.PrintMore Go.Proofs.Ytodldmgidaccbaa.Kinds Go.Proofs.Ytodldmgidaccbaa.Obj
set_option linter.unusedVariables false
set_option linter.unusedSimpArgs false

theorem has_yes (g : Nat) (n : Int) (s : ByteArray) (B : List Int) (w : World) (h : Ln w g s B) (hn : 1 ≤ n ∧ n ≤ B.length) :
    Calls Try.prog 15 #[.pointer (some ⟨g, 0, none⟩), .int .i64 n] w fun e w' => e = .returned (.bool true) ∧ w' = w := by
  refine (has_is g n s B w h).mono ?_
  rintro e w' ⟨rfl, rfl⟩
  rw [decide_eq_true hn]
  exact ⟨rfl, rfl⟩
theorem end_val (g : Nat) (n d : Int) (s : ByteArray) (B : List Int) (w : World) (h : Ln w g s B) (n0 : 0 ≤ n) (hB : ∀ x ∈ B, 0 ≤ x ∧ x ≤ 1000) (hd : endN s B n = d) :
    Calls Try.prog 16 #[.pointer (some ⟨g, 0, none⟩), .int .i64 n] w fun e w' => e = .returned (.int .i64 d) ∧ w' = w := by
  subst hd
  exact end_is g n s B w h n0 hB
theorem nil_at (off : Int) (w : World) : Calls Try.prog 7 #[.pointer none, .int .i64 off] w fun e w' => e = .returned (.tuple #[.int .i64 0, .int .i64 0]) ∧ Below w.heap.size w w' := by
  go_enter Try.func7, Try.ntmps7
  go_wp2_with fail
  go_ret2
  exact ⟨rfl, below_alloc (below_alloc (Below.refl _ _) _) _⟩
theorem nil_off (n c : Int) (w : World) : Calls Try.prog 9 #[.pointer none, .int .i64 n, .int .i64 c] w fun e w' => e = .returned (.tuple #[.int .i64 0, .bool false]) ∧ ∃ k, w' = w.drewN k := by
  go_enter Try.func9, Try.ntmps9
  go_wp2_with fail
  go_quiet ((go_at_call 15; exact Calls.quiet_of_same (nil_has _ _)))
  go_wp2_with fail
  go_ret2
  exact ⟨rfl, _, rfl⟩
theorem nil_line (n : Int) (w : World) : Calls Try.prog 10 #[.pointer none, .int .i64 n] w fun e w' => e = .returned (.tuple #[.string ⟨#[]⟩, .bool false]) ∧ w' = w := by
  go_enter Try.func10, Try.ntmps10
  go_wp2_with fail
  refine (nil_has _ _).mono ?_
  rintro e w' ⟨rfl, rfl⟩
  go_wp2_with fail
  go_ret2
  exact ⟨rfl, rfl⟩
set_option maxHeartbeats 4000000 in
set_option maxRecDepth 100000 in
theorem off_yes (g : Nat) (n c : Int) (s : ByteArray) (B : List Int) (w : World) (h : Ln w g s B) (hl : B.length ≤ 1000) (hs : s.size ≤ 1000) (hB : ∀ x ∈ B, 0 ≤ x ∧ x ≤ 1000) (n1 : 1 ≤ n) (n2 : n ≤ B.length) (c1 : 1 ≤ c) (c2 : c ≤ endN s B n - rd B (n - 1) + 1) :
    Calls Try.prog 9 #[.pointer (some ⟨g, 0, none⟩), .int .i64 n, .int .i64 c] w fun e w' => e = .returned (.tuple #[.int .i64 (rd B (n - 1) + c - 1), .bool true]) ∧ ∃ k, w' = w.drewN k := by
  have hu39 := Try.underlying39
  have H := Lib.hid h
  have HBB := Lib.hid hB
  obtain ⟨v, hb, h0⟩ := h
  obtain ⟨A0, c0, rfl⟩ := Kd.R_slice h0
  obtain ⟨k0, k1⟩ := cells2 hb
  have j0 : 0 ≤ n - 1 := by omega
  have j1 : n - 1 < (B.length : Int) := by omega
  obtain ⟨ad, ea, hx⟩ := Kd.at_int (Kd.R_reads' h0).2.2 (n - 1) j0 j1
  cases ea
  have hm : 0 ≤ rd B (n - 1) ∧ rd B (n - 1) ≤ 1000 := hB _ (by
    unfold rd
    rw [List.getD_eq_getElem?_getD, List.getElem?_eq_getElem (show (n - 1).toNat < B.length by omega)]
    exact List.getElem_mem _)
  have he : -1 ≤ endN s B n ∧ endN s B n ≤ 1000 := by
    unfold endN
    split
    · rename_i hlt
      have := hB (rd B n) (by
        unfold rd
        rw [List.getD_eq_getElem?_getD, List.getElem?_eq_getElem (show n.toNat < B.length by omega)]
        exact List.getElem_mem _)
      omega
    · omega
  obtain ⟨u, hu⟩ : ∃ u, rd B (n - 1) = u := ⟨_, rfl⟩
  rw [hu] at hx hm c2
  obtain ⟨d, hd⟩ : ∃ d, endN s B n = d := ⟨_, rfl⟩
  rw [hd] at he c2
  have HU := Lib.hid hu; have HD := Lib.hid hd
  rw [show (n - 1).toNat = n.toNat - 1 by omega] at hx
  have px := eq_true j0
  have qx := eq_true j1
  have e1 : IntKind.i64.wrap (n - 1) = n - 1 := IntWalk.i64_in _ (by omega)
  have e2 : IntKind.i64.wrap (d - u) = d - u := IntWalk.i64_in _ (by omega)
  have e3 : IntKind.i64.wrap (d - u + 1) = d - u + 1 := IntWalk.i64_in _ (by omega)
  have e4 : IntKind.i64.wrap (u + c) = u + c := IntWalk.i64_in _ (by omega)
  have e5 : IntKind.i64.wrap (u + c - 1) = u + c - 1 := IntWalk.i64_in _ (by omega)
  have g1 : decide (c < 1) = false := decide_eq_false (by omega)
  have g2 : decide (d - u + 1 < c) = false := decide_eq_false (by omega)
  rw [hu]
  clear hb h0 hB hu hd
  go_enter Try.func9, Try.ntmps9
  go_wp2_with fail
  go_quiet ((first | (go_at_call 15; exact Calls.quiet_of_same (has_yes g n s B _ (by exact H.out) ⟨n1, n2⟩)) | (go_at_call 16; exact Calls.quiet_of_same (end_val g n d s B _ (by exact H.out) (by omega) HBB.out HD.out))))
  go_wp2_with fail
  go_ret2
  exact ⟨rfl, _, rfl⟩
end Go.Proofs.Ytodldmgidaccbaa.M
