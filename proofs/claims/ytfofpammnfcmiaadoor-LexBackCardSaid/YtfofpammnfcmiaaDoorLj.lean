/- Marline, layer 10: blanks skipped by the program. Conditions: as each says. -/
import Derived.Test.YtfofpammnfcmiaaDoorLi
import Derived.StillTailTactics
namespace Go.Proofs.YtfofpammnfcmiaaDoor.Lx
open Go.RowKit Go.Proofs.YtfofpammnfcmiaaDoorW.PrintWords Go.Proofs.YtfofpammnfcmiaaDoorW.PrintLast Go.Proofs.YtfofpammnfcmiaaDoorW.PrintMore Go.Proofs.YtfofpammnfcmiaaDoor.Obj Go.Proofs.YtfofpammnfcmiaaDoor.Kinds Go.Proofs.YtfofpammnfcmiaaDoor.E
set_option linter.unusedVariables false
set_option linter.unusedSimpArgs false
set_option maxRecDepth 100000
theorem rem_run : ∀ (r : List UInt8), skipM true r = (r.takeWhile notNl).length + skipM false (r.drop (r.takeWhile notNl).length)
  | [] => rfl
  | c :: r => by
    by_cases h : c.toNat = 10
    · have h1 : notNl c = false := by unfold notNl; exact decide_eq_false (by simpa using h)
      have h2 : blankB c = true := by unfold blankB; exact decide_eq_true (by omega)
      rw [List.takeWhile_cons_of_neg (by rw [h1]; exact Bool.false_ne_true), List.length_nil, List.drop_zero, skipM, if_pos h, skipM, if_pos h2]; omega
    · have h1 : notNl c = true := by unfold notNl; exact decide_eq_true h
      rw [List.takeWhile_cons_of_pos h1, List.length_cons, List.drop_succ_cons, skipM, if_neg h, rem_run r]; omega
/-- a step over a remark. -/
theorem rem_step {c : UInt8} {r : List UInt8} (h : c.toNat = 35) : skipM false (c :: r) = ((c :: r).takeWhile notNl).length + skipM false ((c :: r).drop ((c :: r).takeWhile notNl).length) := by
  have h1 : notNl c = true := by unfold notNl; exact decide_eq_true (by omega)
  have h2 : ¬ blankB c = true := by unfold blankB; intro h3; have := of_decide_eq_true h3; omega
  rw [List.takeWhile_cons_of_pos h1, List.length_cons, List.drop_succ_cons, skipM, if_neg h2, if_pos h, rem_run r]; omega
theorem ch_put {g j : Nat} {w W : World} (h : Ch (fun i => i = g) w W) (u : Value) (_ : True) : Ch (fun i => i = g) w (W.setCell ⟨g, j, none⟩ u) := h.setCell (p := ⟨g, j, none⟩) (.inl rfl) u
def posOf (w : World) (g : Nat) : Nat := match w.cell? ⟨g, 1, none⟩ with | some (.int _ n) => n.toNat | _ => 0
theorem Lv.pos {w : World} {g : Nat} {s : ByteArray} {p : Nat} (h : Lv w g s p) : posOf w g = p := by unfold posOf; rw [h.cells.2.1]; simp
set_option maxHeartbeats 4000000 in
theorem skip_calls (s : ByteArray) (p g : Nat) (w : World) (hv : Lv w g s p) (hp : p ≤ s.size) (hs : s.size ≤ 1000000) :
    Calls Tryd.prog 65 #[.pointer (some ⟨g, 0, none⟩)] w fun e w' => e = .returned (.tuple #[]) ∧ Lv w' g s (p + skipM false (s.data.toList.drop p)) ∧ Ch (fun i => i = g) w w' := by
  have hu88 := Tryd.underlying88
  have HV := Lib.hid hv; have HS := Lib.hid hs; have HP := Lib.hid hp
  clear hv hp hs
  go_enter Tryd.func65, Tryd.ntmps65
  go_wp2_with fail
  go_loopw [] (fun w' => ∃ (q : Nat), q ≤ s.size ∧ Hid (q + skipM false (s.data.toList.drop q) = p + skipM false (s.data.toList.drop p)) ∧ Hid (Lv w' g s q) ∧ Hid (Ch (fun i => i = g) w w')) (fun w' => s.size - posOf w' g)
  case atStart => exact ⟨p, HP.out, Lib.hid rfl, HV, Lib.hid (Ch.refl _ _)⟩
  case round =>
    obtain ⟨q, hq, HE, HL, HC⟩ := hrel
    have HQ := Lib.hid hq
    obtain ⟨m0, m1, t0, t1⟩ := HL.out.cells
    have hlen : s.data.toList.length = s.size := rfl
    by_cases he : q < s.size
    · have p1 : decide ((q : Int) < (s.size : Int)) = true := decide_eq_true (by omega)
      have ix := fun W => index_at s q he W
      have hd : s.data.toList.drop q = s.data.toList.getD q 0 :: s.data.toList.drop (q + 1) := drop_get _ q (by omega)
      obtain ⟨c, hc⟩ : ∃ c, s.data.toList.getD q 0 = c := ⟨_, rfl⟩
      rw [hc] at ix hd
      have HD := Lib.hid hd; have HEE := Lib.hid he
      have HW := Lib.hid (show wrap64 ((q : Int) + 1) = ((q + 1 : Nat) : Int) by have := HS.out; unfold wrap64; omega)
      obtain ⟨n, hn⟩ : ∃ n : Int, (c.toNat : Int) = n := ⟨_, rfl⟩
      have HN := Lib.hid hn
      rw [hn] at ix
      have hz : ((n == 32) = true ∨ ((n == 32) = false ∧ (n == 9) = true) ∨ ((n == 32) = false ∧ (n == 9) = false ∧ (n == 10) = true) ∨ ((n == 32) = false ∧ (n == 9) = false ∧ (n == 10) = false ∧ (n == 13) = true)) ∨ ((n == 32) = false ∧ (n == 9) = false ∧ (n == 10) = false ∧ (n == 13) = false ∧ (n == 35) = true) ∨ ((n == 32) = false ∧ (n == 9) = false ∧ (n == 10) = false ∧ (n == 13) = false ∧ (n == 35) = false) := by
        cases (n == 32) <;> cases (n == 9) <;> cases (n == 10) <;> cases (n == 13) <;> cases (n == 35) <;> simp
      clear hc hd he hn hq
      rcases hz with hb | ⟨z1, z2, z3, z4, z5⟩ | ⟨z1, z2, z3, z4, z5⟩
      · have HB := Lib.hid (show blankB c = true by
          have h := HN.out
          unfold blankB; refine decide_eq_true ?_
          rcases hb with h1 | ⟨_, h1⟩ | ⟨_, _, h1⟩ | ⟨_, _, _, h1⟩ <;> (have := eq_of_beq h1; omega))
        have HX := Lib.hid (show (q + 1) + skipM false (s.data.toList.drop (q + 1)) = p + skipM false (s.data.toList.drop p) by
          rw [← HE.out, HD.out, skipM, if_pos HB.out]; omega)
        rcases hb with z1 | ⟨z1, z2⟩ | ⟨z1, z2, z3⟩ | ⟨z1, z2, z3, z4⟩
        all_goals
          go_upto_region 0 with (fail)
          go_region
          all_goals
            go_upto_region 1 with (fail)
            go_region
            all_goals
              go_wp2_with fail
              go_roundw
              case rel => exact ⟨q + 1, by have := HEE.out; omega, HX, Lib.hid (by rw [HW.out]; exact Lv.set (w := wr) HL.out (q + 1)), Lib.hid (Ch.drew (Ch.drew (ch_put HC.out _ trivial)))⟩
              case measure =>
                rw [HW.out]
                have h1 := Lv.pos (show Lv ((wr.setCell ⟨g, 1, none⟩ (.int .i64 ((q + 1 : Nat) : Int))).drew.drew) g s (q + 1) from Lv.set (w := wr) HL.out (q + 1))
                rw [h1, HL.out.pos]; have := HEE.out; omega
      · have h35 : c.toNat = 35 := by have := eq_of_beq z5; have := HN.out; omega
        obtain ⟨k, hk⟩ : ∃ k, ((s.data.toList.drop q).takeWhile notNl).length = k := ⟨_, rfl⟩
        have hle := while_le notNl (s.data.toList.drop q)
        rw [List.length_drop, hk] at hle
        have HK := Lib.hid (show q + k ≤ s.size by have := HEE.out; omega)
        have HK1 := Lib.hid (show 0 < k by
          rw [← hk, HD.out, List.takeWhile_cons_of_pos (by unfold notNl; exact decide_eq_true (by omega))]; simp)
        have HX := Lib.hid (show (q + k) + skipM false (s.data.toList.drop (q + k)) = p + skipM false (s.data.toList.drop p) by
          have h := rem_step (r := s.data.toList.drop (q + 1)) h35
          rw [← HD.out, hk, List.drop_drop] at h
          rw [← HE.out, h]; omega)
        have HWK := Lib.hid (show wrap64 ((q : Int) + (k : Int)) = ((q + k : Nat) : Int) by have := HK.out; have := HS.out; unfold wrap64; omega)
        have hwk : IntKind.i64.wrap ((q : Int) + (k : Int)) = (q : Int) + (k : Int) := by rw [wrap_is, HWK.out]; push_cast; rfl
        have RN := Lib.hid (fun W hv => run89 s q g W hv HQ.out HS.out)
        rw [hk] at RN
        clear h35 hk hle
        go_upto_region 0 with (fail)
        go_region
        all_goals
          go_upto_region 1 with (fail)
          go_region
          all_goals
            go_upto_region 8 with (fail)
            go_region_with ((go_at_call 88; refine (RN.out _ (by exact HL.out)).mono ?_; rintro e w2 ⟨rfl, ⟨nd, rfl⟩⟩))
            all_goals
              go_wp2_with fail
              have hqk : (q : Int) + (k : Int) = ((q + k : Nat) : Int) := by push_cast; rfl
              rw [hqk]
              have hL2 : Lv ((wr.drewN (1 + (1 + (1 + nd)))).setCell ⟨g, 1, none⟩ (.int .i64 ((q + k : Nat) : Int))) g s (q + k) := Lv.set (w := wr.drewN (1 + (1 + (1 + nd)))) (show Lv (wr.drewN (1 + (1 + (1 + nd)))) g s q from HL.out) (q + k)
              refine ⟨⟨q + k, HK.out, HX, Lib.hid hL2, Lib.hid (ch_put (Ch.drewN HC.out _) _ trivial)⟩, ?_⟩
              rw [hL2.pos, HL.out.pos]; have := HK.out; have := HK1.out; omega
      · have HX := Lib.hid (show q = p + skipM false (s.data.toList.drop p) by
          rw [← HE.out, HD.out, skipM, if_neg ?_, if_neg ?_]
          · omega
          · intro h; rw [beq_eq_false_iff_ne] at z5; have := HN.out; omega
          · intro h
            unfold blankB at h
            have := of_decide_eq_true h
            rw [beq_eq_false_iff_ne] at z1 z2 z3 z4
            have := HN.out; omega)
        go_upto_region 0 with (fail)
        go_region
        all_goals
          go_upto_region 1 with (fail)
          go_region
          all_goals
            go_wp2_with fail
            refine bodyPost_ret (results_none rfl _ _ _) rfl ?_
            rw [← HX.out]
            exact ⟨rfl, HL.out, HC.out.drewN 2⟩
    · have p1 : decide ((q : Int) < (s.size : Int)) = false := decide_eq_false (by omega)
      have HX := Lib.hid (show q = p + skipM false (s.data.toList.drop p) by
        rw [← HE.out, List.drop_of_length_le (by omega)]; rfl)
      have p1n : decide (q < s.size) = false := decide_eq_false he
      clear he hq
      go_upto_region 0 with (fail)
      go_region
      all_goals
        go_wp2_with fail
        go_end0
        rw [← HX.out]
        exact ⟨rfl, HL.out, HC.out.drew⟩
end Go.Proofs.YtfofpammnfcmiaaDoor.Lx
