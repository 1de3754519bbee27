/- Marline, layer 19: what the laws try first; the law of no scope. Conditions: as each says. -/
import Derived.Test.YtlpfgeeibbfibaaSi
namespace Go.Proofs.Ytlpfgeeibbfibaa.E
open Go.RowKit Go.Proofs.YtlpfgeeibbfibaaW.PrintWords Go.Proofs.YtlpfgeeibbfibaaW.PrintLast Go.Proofs.YtlpfgeeibbfibaaW.PrintMore Go.Proofs.Ytlpfgeeibbfibaa.Kinds Go.Proofs.Ytlpfgeeibbfibaa.Obj
set_option linter.unusedVariables false
set_option linter.unusedSimpArgs false
set_option maxRecDepth 100000
theorem Sco.low {N0 : Nat} {W : World} {g : Nat} {vN vB : Value} {l : List S53} {bs : List Int} {m : Int} (h : Sco N0 W g vN vB l bs m) {k : Nat} (hk : Foot W g k) : N0 ≤ k := by
  rcases h.foot.1 hk with rfl | h1 | h1
  · exact h.ge
  · exact Kd.N_base h.N k h1
  · exact Kd.R_base h.B k h1
theorem Sco.upd {w w1 w2 : World} {g : Nat} {vN vB : Value} {l : List S53} {bs : List Int} {m : Int} (h : Sco w.heap.size w1 g vN vB l bs m) (hb : Below w.heap.size w w1) (u : Upd g w1 w2) : Below w.heap.size w w2 := Ch.to_below hb u.1 (fun k hk => h.low hk)
theorem F_no (w : World) (ok : Nat → Prop) : Kd.F k30 w ok none 0 [] := fun W' _ => ⟨rfl, by decide, fun h => absurd h (by decide)⟩
abbrev sA : ByteArray := ⟨#[97]⟩
abbrev sB : ByteArray := ⟨#[98]⟩
abbrev sC : ByteArray := ⟨#[99]⟩
def x1 : S30 := ⟨1, 0, 0, ⟨#[]⟩, []⟩
theorem ne_ab : ¬ sA.toList = sB.toList := by rw [ByteArray.toList_eq, ByteArray.toList_eq]; decide
theorem ne_ac : ¬ sA.toList = sC.toList := by rw [ByteArray.toList_eq, ByteArray.toList_eq]; decide
theorem idx_b : idx sB [⟨sA, z30⟩] 0 = none := by unfold idx; rw [if_neg ne_ab]; rfl
theorem idx_c : idx sC [⟨sA, z30⟩] 0 = none := by unfold idx; rw [if_neg ne_ac]; rfl
theorem idx_c2 : idx sC [⟨sA, z30⟩, ⟨sC, x1⟩] 0 = some 1 := by unfold idx; rw [if_neg ne_ac]; unfold idx; rw [if_pos rfl]
set_option maxHeartbeats 8000000 in
theorem works_calls (w : World) : Calls Try.prog 5 #[] w fun e w' => e = .returned (.bool true) ∧ Below w.heap.size w w' := by
  have hu30 := Try.underlying30
  go_enter Try.func5, Try.ntmps5
  go_wp2_with fail
  refine (new_calls w.heap.size w (Nat.le_refl _)).mono ?_
  rintro e w1 ⟨g, vN, vB, rfl, hg, _, s1, b1⟩
  have S1 := Lib.hid s1; have B1 := Lib.hid b1
  clear s1 b1 hg
  go_wp2_with fail
  refine (put_yes sA z30 none 0 w1 S1.out (by decide) rfl (Nat.le_refl _) (F_no _ _)).mono ?_
  rintro e w2 ⟨rfl, vN2, s2, u2⟩
  have S2 := Lib.hid (show Sco w.heap.size w2 g vN2 vB [⟨sA, z30⟩] [0] 1 from s2)
  have B2 := Lib.hid (S1.out.upd B1.out u2)
  clear s2 u2 S1 B1
  go_wp2_with fail
  refine (open_is w2 S2.out (by decide)).mono ?_
  rintro e w3 ⟨rfl, vB3, s3, u3⟩
  have S3 := Lib.hid (show Sco w.heap.size w3 g vN2 vB3 [⟨sA, z30⟩] [0, 1] 1 from s3)
  have B3 := Lib.hid (S2.out.upd B2.out u3)
  clear s3 u3 S2 B2
  go_wp2_with fail
  refine (put_yes sB z30 none 0 w3 S3.out (by decide) idx_b (Nat.le_refl _) (F_no _ _)).mono ?_
  rintro e w4 ⟨rfl, vN4, s4, u4⟩
  have S4 := Lib.hid (show Sco w.heap.size w4 g vN4 vB3 [⟨sA, z30⟩, ⟨sB, z30⟩] ([0] ++ [((1 : Nat) : Int)]) 2 from s4)
  have B4 := Lib.hid (S3.out.upd B3.out u4)
  clear s4 u4 S3 B3
  go_wp2_with fail
  refine (close_yes 1 w4 S4.out (by decide) (by decide) (by decide)).mono ?_
  rintro e w5 ⟨rfl, vN5, vB5, s5, u5⟩
  have S5 := Lib.hid (show Sco w.heap.size w5 g vN5 vB5 [⟨sA, z30⟩] [0] 2 from s5)
  have B5 := Lib.hid (S4.out.upd B4.out u5)
  clear s5 u5 S4 B4
  go_wp2_with fail
  refine (put_yes sC x1 none 0 w5 S5.out (by decide) idx_c (Nat.le_refl _) (F_no _ _)).mono ?_
  rintro e w6 ⟨rfl, vN6, s6, u6⟩
  have S6 := Lib.hid (show Sco w.heap.size w6 g vN6 vB5 [⟨sA, z30⟩, ⟨sC, x1⟩] [0] 2 from s6)
  have B6 := Lib.hid (S5.out.upd B5.out u6)
  clear s6 u6 S5 B5
  go_wp2_with fail
  have GC := Lib.hid (get_is sC w6 S6.out (by decide))
  rw [idx_c2] at GC
  refine GC.out.mono ?_
  rintro e w7 ⟨⟨A, c, rfl, _, _⟩, b7⟩
  have S7 := Lib.hid (S6.out.below b7)
  have B7 := Lib.hid (B6.out.trans (b7.mono B6.out.size))
  have ex : (rd_T53 ([⟨sA, z30⟩, ⟨sC, x1⟩] : List S53) ((1 : Nat) : Int)).f1 = x1 := rfl
  rw [ex]
  clear b7 GC S6 B6 ex
  go_upto_region 8 with (fail)
  obtain ⟨g5, hg5⟩ : ∃ g5, w7.heap.size = g5 := ⟨_, rfl⟩
  obtain ⟨w8, hw8, d8, s8, b8⟩ : ∃ w8 : World, w7.alloc (.cells #[.int .i64 x1.f0, .int .i64 x1.f1, .int .i64 x1.f2, .string x1.f3, .slice A x1.f4.length c] 30) = w8 ∧ Nd w8 g5 #[.int .i64 1, .int .i64 0, .int .i64 0, .string ⟨#[]⟩, .slice A 0 c] ∧ Sco w.heap.size w8 g vN6 vB5 [⟨sA, z30⟩, ⟨sC, x1⟩] [0] 2 ∧ Below w.heap.size w w8 :=
    ⟨_, rfl, by rw [← hg5]; exact blk_new w7 _, S7.out.below (below_alloc (Below.refl _ _) _), below_alloc B7.out _⟩
  rw [hg5, hw8]
  have D8 := Lib.hid d8; have S8 := Lib.hid s8; have B8 := Lib.hid b8
  clear hg5 hw8 d8 s8 b8 S7 B7
  go_wp2_with fail
  refine (most_is w8 S8.out).mono ?_
  rintro e w9 ⟨rfl, b9⟩
  have D9 := Lib.hid (D8.out.below b9); have S9 := Lib.hid (S8.out.below b9); have B9 := Lib.hid (B8.out.trans (b9.mono B8.out.size))
  clear b9 D8 S8 B8
  go_wp2_with fail
  refine (len_is w9 S9.out).mono ?_
  rintro e w10 ⟨rfl, b9⟩
  have D10 := Lib.hid (D9.out.below b9); have S10 := Lib.hid (S9.out.below b9); have B10 := Lib.hid (B9.out.trans (b9.mono B9.out.size))
  clear b9 D9 S9 B9
  have l2 : (([⟨sA, z30⟩, ⟨sC, x1⟩] : List S53).length : Int) = 2 := rfl
  rw [l2]
  clear l2
  go_wp2_with fail
  refine (deep_is w10 S10.out).mono ?_
  rintro e w11 ⟨rfl, b9⟩
  have D11 := Lib.hid (D10.out.below b9); have S11 := Lib.hid (S10.out.below b9); have B11 := Lib.hid (B10.out.trans (b9.mono B10.out.size))
  clear b9 D10 S10 B10
  have l2 : (([0] : List Int).length : Int) = 1 := rfl
  rw [l2]
  clear l2
  obtain ⟨m0, _, _, _, _, _, _, _, _, _⟩ := D11.out.cells
  go_wp2_with fail
  refine (close_no w11 S11.out (by decide)).mono ?_
  rintro e w12 ⟨rfl, b9⟩
  have B12 := Lib.hid (B11.out.trans (b9.mono B11.out.size))
  clear b9 D11 S11 B11
  go_wp2_with fail
  go_ret
  exact ⟨rfl, B12.out⟩
set_option maxHeartbeats 8000000 in
theorem nil_walk (nm : ByteArray) (w : World) : Calls Try.prog 4 #[.string nm] w fun e w' => e = .returned (.bool true) ∧ Below w.heap.size w w' := by
  have hu30 := Try.underlying30
  go_enter Try.func4, Try.ntmps4
  go_wp2_with fail
  refine (open_nil w).mono ?_
  rintro e w1 ⟨rfl, b1⟩
  have B1 := Lib.hid b1
  clear b1
  go_wp2_with fail
  refine (put_nil nm _ _ _ _ _ w1).mono ?_
  rintro e w2 ⟨rfl, b2⟩
  have B2 := Lib.hid (B1.out.trans (b2.mono B1.out.size))
  clear b2 B1
  go_wp2_with fail
  refine (get_nil nm w2).mono ?_
  rintro e w3 ⟨rfl, b3⟩
  have B3 := Lib.hid (B2.out.trans (b3.mono B2.out.size))
  clear b3 B2
  go_upto_region 5 with (fail)
  obtain ⟨g5, hg5⟩ : ∃ g5, w3.heap.size = g5 := ⟨_, rfl⟩
  obtain ⟨w4, hw4, d4, b4⟩ : ∃ w4 : World, w3.alloc (.cells #[.int .i64 0, .int .i64 0, .int .i64 0, .string ⟨#[]⟩, .slice none 0 0] 30) = w4 ∧ Nd w4 g5 #[.int .i64 0, .int .i64 0, .int .i64 0, .string ⟨#[]⟩, .slice none 0 0] ∧ Below w.heap.size w w4 :=
    ⟨_, rfl, by rw [← hg5]; exact blk_new w3 _, below_alloc B3.out _⟩
  rw [hg5, hw4]
  have D4 := Lib.hid d4; have B4 := Lib.hid b4
  clear hg5 hw4 d4 b4 B3
  go_wp2_with fail
  refine (works_calls w4).mono ?_
  rintro e w5 ⟨rfl, b9⟩
  have D5 := Lib.hid (D4.out.below b9); have B5 := Lib.hid (B4.out.trans (b9.mono B4.out.size))
  clear b9 D4 B4
  go_wp2_with fail
  refine (close_nil w5).mono ?_
  rintro e w6 ⟨rfl, b9⟩
  have D6 := Lib.hid (D5.out.below b9); have B6 := Lib.hid (B5.out.trans (b9.mono B5.out.size))
  clear b9 D5 B5
  go_wp2_with fail
  refine (len_nil w6).mono ?_
  rintro e w7 ⟨rfl, b9⟩
  have D7 := Lib.hid (D6.out.below b9); have B7 := Lib.hid (B6.out.trans (b9.mono B6.out.size))
  clear b9 D6 B6
  go_wp2_with fail
  refine (deep_nil w7).mono ?_
  rintro e w8 ⟨rfl, b9⟩
  have D8 := Lib.hid (D7.out.below b9); have B8 := Lib.hid (B7.out.trans (b9.mono B7.out.size))
  clear b9 D7 B7
  go_wp2_with fail
  refine (most_nil w8).mono ?_
  rintro e w9 ⟨rfl, b9⟩
  have D9 := Lib.hid (D8.out.below b9); have B9 := Lib.hid (B8.out.trans (b9.mono B8.out.size))
  clear b9 D8 B8
  obtain ⟨m0, _, _, _, _, _, _, _, _, _⟩ := D9.out.cells
  go_wp2_with fail
  go_ret
  exact ⟨rfl, B9.out⟩
theorem nil_row (s : ByteArray) (W : World) (h1 : s.size ≤ 140737488351232) : Calls Try.prog 4 #[.string s] W fun e w' => e = .returned (.bool true) ∧ Below W.heap.size W w' := nil_walk s W
end Go.Proofs.Ytlpfgeeibbfibaa.E
