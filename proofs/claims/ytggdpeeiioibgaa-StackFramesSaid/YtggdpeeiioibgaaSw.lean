/- Marline, layer 36: what the program's stack is tried with. Conditions: as each says. -/
import Derived.Test.YtggdpeeiioibgaaSp
namespace Go.Proofs.Ytggdpeeiioibgaa.E
open Go.RowKit Go.Proofs.YtggdpeeiioibgaaW.PrintWords Go.Proofs.YtggdpeeiioibgaaW.PrintLast Go.Proofs.YtggdpeeiioibgaaW.PrintMore Go.Proofs.Ytggdpeeiioibgaa.Kinds Go.Proofs.Ytggdpeeiioibgaa.Obj
set_option linter.unusedVariables false
set_option linter.unusedSimpArgs false

theorem Stk.bound {N0 : Nat} {W : World} {P : Nat → Prop} {s : Nat} {l : List S65} (h : Stk N0 W P s l) : Stk N0 W (fun k => P k ∧ k < W.heap.size) s l := by
  obtain ⟨hp, hg, vF, fs, hb, hR, hF⟩ := h
  refine ⟨⟨hp, blk_lt hb⟩, hg, vF, fs, hb, Kd.R_mono (Kd.R_bound hR) (fun k hk => ⟨hk.1, ?_⟩), hF.mono (fun k hk hlt => ⟨⟨hk.1, hlt⟩, hk.2⟩)⟩
  first | exact hk.2.2.1 | exact hk.2.2 | exact hk.2
theorem Ch.lo {F : Nat → Prop} {a b : World} {n : Nat} (h : Ch F a b) : Ch (fun k => F k) a b := h
/-- the stack of the trial, at each turn. -/
def y5 : S24 := ⟨0, 5, []⟩
set_option maxHeartbeats 4000000 in
set_option maxRecDepth 100000 in
theorem works37 (w : World) : Calls Try.prog 37 #[] w fun e w' => e = .returned (.bool true) ∧ Below w.heap.size w w' := by
  have hu24 := Try.underlying24
  obtain ⟨s, hs⟩ : ∃ s, w.heap.size = s := ⟨_, rfl⟩
  have NW := Lib.hid (new_is w w.heap.size (Nat.le_refl _))
  rw [hs] at NW ⊢
  go_enter Try.func37, Try.ntmps37
  go_wp2_with fail
  refine NW.out.mono ?_
  rintro e w1 ⟨rfl, h1, b1⟩
  have S1 := Lib.hid h1; have B1 := Lib.hid b1
  clear h1 b1 NW
  go_wp2_with fail
  refine (start_yes (N0 := s) w1 S1.out 0 1 (by decide) none 0 [] (Kd.N_nil _ _ _ _ _) (by decide) (by decide)).mono ?_
  rintro e w2 ⟨rfl, h1, c2⟩
  have S2 := Lib.hid h1; have C2 := Lib.hid (Ch.to_below (w := w) (by rw [hs]; exact B1.out) c2 (fun i hi => by omega))
  clear h1 c2 S1
  go_wp2_with fail
  refine (push_yes (N0 := s) w2 S2.out y5 none 0 (by decide) (Kd.F_nil _ _ _) (by decide)).mono ?_
  rintro e w3 ⟨rfl, h1, c3⟩
  have hsz1 : s ≤ w1.heap.size := by have := B1.out.size; omega
  have S3 := Lib.hid h1; have C3 := Lib.hid (Ch.to_below (w := w) C2.out c3 (fun i hi => by omega))
  have hsz2 : s ≤ w2.heap.size := by have := C2.out.size; omega
  clear h1 c3 S2
  go_wp2_with fail
  refine (enter_yes (N0 := s) w3 S3.out 2 7 2 1 (by decide) (by decide) (by decide) (by decide) (by decide)).mono ?_
  rintro e w4 ⟨rfl, h1, c4⟩
  have hsz3 : s ≤ w3.heap.size := by have := C3.out.size; omega
  have S4 := Lib.hid (show Stk s w4 _ s [⟨2, 7, [y5, z24], []⟩, ⟨0, 0, [z24], []⟩] from Stk.bound h1); have C4 := Lib.hid (Ch.to_below (w := w) C3.out c4 (fun i hi => by omega))
  clear h1 c4 S3
  go_wp2_with fail
  have LD0 : Calls Try.prog 49 #[.pointer (some ⟨s, 0, none⟩), .int .i64 0] w4 (LoadP s w4 y5) := load_yes (N0 := s) w4 S4.out 0 (by decide)
  refine LD0.mono ?_
  rintro e w5 ⟨B0, d0, he, hd0, _, hb⟩
  have he : e = .returned (.tuple #[v24 0 5 B0 0 d0, .bool true]) := he
  subst he
  obtain ⟨g5, hg⟩ : ∃ g, w5.heap.size = g := ⟨_, rfl⟩
  have H5 : ∃ w6 : World, w5.alloc (.cells #[.int .i64 0, .int .i64 5, .slice B0 0 d0] 24) = w6 ∧ Var w6 g5 y5 B0 d0 ∧ Below w4.heap.size w4 w6 := by
    exact ⟨_, rfl, by rw [← hg]; exact blk_new _ _, below_alloc hb _⟩
  have hg5 : w4.heap.size ≤ g5 := by have := hb.size; omega
  have HG := Lib.hid hg
  clear hb hg LD0 hd0
  go_upto_region 6 with (fail)
  rw [HG.out]
  obtain ⟨w6, hw6, v6, b6⟩ := H5
  rw [hw6]
  have V6 := Lib.hid v6; have C6 := Lib.hid (C4.out.trans (b6.mono C4.out.size)); have S6 := Lib.hid (S4.out.below b6)
  have sz6 : w4.heap.size ≤ w6.heap.size := b6.size
  clear hw6 v6 b6 HG
  go_wp2_with fail
  have LD1 : Calls Try.prog 49 #[.pointer (some ⟨s, 0, none⟩), .int .i64 1] w6 (LoadP s w6 z24) := load_yes (N0 := s) w6 S6.out 1 (by decide)
  refine LD1.mono ?_
  rintro e w7 ⟨B1, d1, he, hd1, _, hb⟩
  have he : e = .returned (.tuple #[v24 0 0 B1 0 d1, .bool true]) := he
  subst he
  obtain ⟨g7, hg⟩ : ∃ g, w7.heap.size = g := ⟨_, rfl⟩
  have H7 : ∃ w8 : World, w7.alloc (.cells #[.int .i64 0, .int .i64 0, .slice B1 0 d1] 24) = w8 ∧ Var w8 g7 z24 B1 d1 ∧ Below w6.heap.size w6 w8 := by
    exact ⟨_, rfl, by rw [← hg]; exact blk_new _ _, below_alloc hb _⟩
  have hg7 : w4.heap.size ≤ g7 := by have := hb.size; omega
  have HG := Lib.hid hg
  clear hb hg LD1 hd1
  go_upto_region 7 with (fail)
  rw [HG.out]
  obtain ⟨w8, hw8, v8, b8⟩ := H7
  rw [hw8]
  have V8 := Lib.hid v8; have C8 := Lib.hid (C6.out.trans (b8.mono C6.out.size)); have S8 := Lib.hid (S6.out.below b8); have U8 := Lib.hid (Var.below V6.out b8)
  clear hw8 v8 b8 HG V6
  go_wp2_with fail
  refine (fun_is (N0 := s) w8 S8.out).mono ?_
  rintro e w9 ⟨rfl, hb⟩
  have V9 := Lib.hid (Var.below V8.out hb); have C9 := Lib.hid (C8.out.trans (hb.mono C8.out.size)); have S9 := Lib.hid (S8.out.below hb); have U9 := Lib.hid (Var.below U8.out hb)
  clear hb V8 U8 S8
  go_wp2_with fail
  refine (leave_is (N0 := s) w9 S9.out).mono ?_
  rintro e wa ⟨rfl, h1, ca⟩
  have VA := Lib.hid (show Var wa g7 z24 B1 d1 from ca.blk V9.out (fun h => by have := h.2; omega)); have UA := Lib.hid (show Var wa g5 y5 B0 d0 from ca.blk U9.out (fun h => by have := h.2; omega))
  have SA := Lib.hid h1; have CA := Lib.hid (Ch.to_below (w := w) C9.out ca (fun i hi => by have := hi.1; omega))
  clear h1 ca V9 U9 S9
  obtain ⟨_, m1, _, _, _, _⟩ := VA.out.cells
  obtain ⟨_, n1, _, _, _, _⟩ := UA.out.cells
  simp only [z24] at m1
  simp only [y5] at n1
  have HH := Lib.hid (fun W (hb : Below wa.heap.size wa W) => height_is (N0 := s) W (SA.out.below hb))
  have DD := Lib.hid (fun W (hb : Below wa.heap.size wa W) => depth_is (N0 := s) W (SA.out.below hb))
  go_wp2_with fail
  refine (HH.out wa (Below.refl _ _)).mono ?_
  rintro e wb ⟨rfl, hb⟩
  have BB := Lib.hid hb
  clear hb
  go_wp2_with fail
  refine (DD.out wb BB.out).mono ?_
  rintro e wc ⟨rfl, hb⟩
  have BC := Lib.hid (BB.out.trans (hb.mono BB.out.size))
  clear hb
  go_wp2_with fail
  go_ret
  exact ⟨rfl, by have h := CA.out.trans (BC.out.mono CA.out.size); rw [hs] at h; exact h⟩
end Go.Proofs.Ytggdpeeiioibgaa.E
