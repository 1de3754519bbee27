/- Marline, values: the law ValMakes. Conditions: sizes, the tables and the errors of the library. -/
import Derived.Test.YtfofpammnfcmiaaDoorVy
namespace Go.Proofs.YtfofpammnfcmiaaDoor.Vl
open Go.RowKit Go.Proofs.YtfofpammnfcmiaaDoorW.PrintWords Go.Proofs.YtfofpammnfcmiaaDoorW.PrintLast Go.Proofs.YtfofpammnfcmiaaDoorW.PrintMore Go.Proofs.YtfofpammnfcmiaaDoor.Kinds Go.Proofs.YtfofpammnfcmiaaDoor.Obj
set_option linter.unusedVariables false
set_option linter.unusedSimpArgs false
set_option maxRecDepth 100000
open Go.Proofs.YtfofpammnfcmiaaDoor.E
open PV (IsS107 info67)
theorem rightL_take (l : List S67) (n : Nat) (h : n < l.length) : rightL (l.take (n + 1)) = (rightL (l.take n) && right (rd_T67 l (n : Int))) := by
  rw [List.take_succ_eq_append_getElem h, rd67_at l n h]
  have : ∀ a : List S67, rightL (a ++ [l[n]]) = (rightL a && right l[n]) := by
    intro a
    induction a with
    | nil => simp [rightL]
    | cons y a ih => simp only [List.cons_append, rightL, ih, Bool.and_assoc]
  exact this _
theorem right_of2 (l : List S67) : right ⟨2, 0, l⟩ = rightL l := by rw [right, if_neg (by decide), if_neg (by decide), if_pos (.inl rfl)]; simp
theorem right_of3 (l : List S67) : right ⟨3, 0, l⟩ = rightL l := by rw [right, if_neg (by decide), if_neg (by decide), if_pos (.inr rfl)]; simp
theorem sameL_refl (l : List S67) : sameL l l = true := (sameL_iff l l).2 rfl
def bN (b : Bool) : Int := if b = true then 1 else 0
theorem bool_is (b : Bool) : PV.val_Bool.f b = some (1, bN b, []) := by cases b <;> rfl
theorem bn1 (b : Bool) : (bN b == 1) = b := by cases b <;> rfl
theorem bn0 (b : Bool) : (bN b == 0) = !b := by cases b <;> rfl
theorem bb (b : Bool) : (b == b) = true := by cases b <;> rfl
set_option maxHeartbeats 16000000 in
theorem makes_all (n : Int) (b : Bool) (l : List S67) (A : Option Addr) (c : Nat) (w : World) (hl : ∀ x ∈ l, Rs x) (hll : l.length ≤ 140737488355328) (h1 : l.length ≤ c) (h2 : Kd.C k67 w A l.length l) (hP : Pow w) (hE : Errs w) :
    Calls Tryd.prog 13 #[.int .i64 n, .bool b, .slice A l.length c] w fun e w' => e = .returned (.bool true) ∧ Below w.heap.size w w' := by
  have hu67 := Tryd.underlying67
  have hu65 := Tryd.underlying65
  have WO := Lib.hid (fun (W : World) (h : Below w.heap.size w W) => works_is W (hP.below h) (hE.below h))
  have MA := Lib.hid (fun (hb : l.length ≤ 1048576) (W : World) (h : Below w.heap.size w W) => arr_calls A c l W h1 (c_later h2 h) hb)
  have MR := Lib.hid (fun (hb : l.length ≤ 1048576) (W : World) (h : Below w.heap.size w W) => rec_calls A c l W h1 (c_later h2 h) hb)
  have S3 := Lib.hid (fun (W : World) (B : Option Addr) (d : Nat) (h : Below w.heap.size w W) (hd : l.length ≤ d) (k : Kd.C k67 W B l.length l) => SameAll.calls B d l A c l true W k hd (c_later h2 h) h1 (by show some (sameL l l) = _; rw [sameL_refl]))
  have R3 := Lib.hid (fun (W : World) (B : Option Addr) (d : Nat) (h : Below w.heap.size w W) (hd : l.length ≤ d) (k : Kd.C k67 W B l.length l) => right_calls ⟨2, 0, l⟩ B d W hd k)
  have R4 := Lib.hid (fun (W : World) (B : Option Addr) (d : Nat) (h : Below w.heap.size w W) (hd : l.length ≤ d) (k : Kd.C k67 W B l.length l) => right_calls ⟨3, 0, l⟩ B d W hd k)
  rw [right_of2] at R3
  rw [right_of3] at R4
  have SM := Lib.hid (fun (k : Nat) (hk : k < l.length) (W : World) (B : Option Addr) (d : Nat) (h1 : (rd_T67 l (k : Int)).f2.length ≤ d) (h2 : Kd.C k67 W B (rd_T67 l (k : Int)).f2.length (rd_T67 l (k : Int)).f2) => wsmall_calls (rd_T67 l (k : Int)) B d W (hl _ (rd_mem l k hk)) h1 h2)
  have RR := Lib.hid (fun (k : Nat) (hk : k < l.length) (W : World) (B : Option Addr) (d : Nat) (h1 : (rd_T67 l (k : Int)).f2.length ≤ d) (h2 : Kd.C k67 W B (rd_T67 l (k : Int)).f2.length (rd_T67 l (k : Int)).f2) => wright_calls (rd_T67 l (k : Int)) B d W (hl _ (rd_mem l k hk)) h1 h2)
  have HR := Lib.hid h2; have HLL := Lib.hid hll
  have m1 := CL h2
  clear hl h1 h2 hP hE hll
  go_enter Tryd.func13, Tryd.ntmps13
  go_wp2_with fail
  refine (WO.out _ (Below.refl _ _)).mono ?_
  rintro e w1 ⟨rfl, hb⟩
  have B1 := Lib.hid hb
  clear hb
  by_cases he : 40 < l.length
  · have p1 : decide ((40 : Int) < (l.length : Int)) = true := decide_eq_true (by omega)
    go_wp2_with fail
    refine (WO.out _ B1.out).mono ?_
    rintro e w2 ⟨rfl, hb⟩
    have B2 := Lib.hid (B1.out.trans (hb.mono B1.out.size))
    clear hb
    go_wp2_with fail
    go_ret
    exact ⟨rfl, B2.out⟩
  · have p1 : decide ((40 : Int) < (l.length : Int)) = false := decide_eq_false (by omega)
    have L40 := Lib.hid (show l.length ≤ 1048576 by omega)
    go_wp2_with fail
    go_loopw [7, 8] (fun r i wr => ∃ k : Nat, i = .int .i64 k ∧ r = .bool (rightL (l.take k)) ∧ k ≤ l.length ∧ Hid (Below w.heap.size w wr)) (fun r i _ => l.length - (intOf i).toNat)
    case atStart => exact ⟨0, rfl, by rw [List.take_zero]; rfl, Nat.zero_le _, B1⟩
    case round =>
      obtain ⟨k, rfl, rfl, hk, HB⟩ := hrel
      clear B1
      by_cases hx : (k : Int) < (l.length : Int)
      · have hx1 := decide_eq_true hx
        have hlt : k < l.length := by omega
        have HLT := Lib.hid hlt
        have HST := Lib.hid (rightL_take l k hlt)
        obtain ⟨ad, B, d, ea, x0, x1, x2, xl, xr⟩ := at_T67 HR.out (k : Int) (by omega) hx
        cases ea
        have SC := Lib.hid (fun (W : World) (h : Below w.heap.size w W) => SM.out k hlt W B d xl (Kd.C_below xr h))
        have RC := Lib.hid (fun (W : World) (h : Below w.heap.size w W) => RR.out k hlt W B d xl (Kd.C_below xr h))
        obtain ⟨x, ex⟩ : ∃ x, rd_T67 l (k : Int) = x := ⟨_, rfl⟩
        rw [ex] at x0 x1 x2 SC RC HST
        have Y0 := Lib.hid x0; have Y1 := Lib.hid x1; have Y2 := Lib.hid x2
        replace x0 := at_later HB.out x0; replace x1 := at_later HB.out x1; replace x2 := at_later HB.out x2
        rw [Int.toNat_natCast] at x0 x1 x2
        have qn : (0 : Int) ≤ (k : Int) := by omega
        have e1 : wrap64 ((k : Int) + 1) = (k : Int) + 1 := by have := HLL.out; unfold wrap64; omega
        clear xl xr ex hlt
        by_cases hz : wrap64 (sz x : Int) > 300
        · rw [if_pos hz] at SC
          go_wp2_with fail
          refine (SC.out _ HB.out).mono ?_
          rintro e w3 ⟨rfl, hb⟩
          have HB3 := Lib.hid (HB.out.trans (hb.mono HB.out.size))
          clear hb
          go_wp2_with fail
          go_ret
          exact ⟨rfl, HB3.out⟩
        · rw [if_neg hz] at SC
          go_wp2_with fail
          refine (SC.out _ HB.out).mono ?_
          rintro e w3 ⟨rfl, hb⟩
          have HB3 := Lib.hid (HB.out.trans (hb.mono HB.out.size))
          clear hb x0 x1 x2
          have x0 := at_later HB3.out Y0.out; have x1 := at_later HB3.out Y1.out; have x2 := at_later HB3.out Y2.out
          rw [Int.toNat_natCast] at x0 x1 x2
          cases hr : rightL (l.take k) with
          | false =>
            have HRR := Lib.hid hr
            clear hr
            go_wp2_with fail
            go_roundw
            case rel => exact ⟨k + 1, by push_cast; rfl, by rw [HST.out, HRR.out]; rfl, HLT.out, HB3⟩
            case measure => have := HLT.out; simp [intOf]; omega
          | true =>
            have HRR := Lib.hid hr
            clear hr
            go_wp2_with fail
            refine (RC.out _ HB3.out).mono ?_
            rintro e w4 ⟨rfl, hb⟩
            have HB4 := Lib.hid (HB3.out.trans (hb.mono HB3.out.size))
            clear hb
            go_wp2_with fail
            go_roundw
            case rel => exact ⟨k + 1, by push_cast; rfl, by rw [HST.out, HRR.out]; rfl, HLT.out, HB4⟩
            case measure => have := HLT.out; simp [intOf]; omega
      · have hx1 := decide_eq_false hx
        have hke : k = l.length := by omega
        rw [show l.take k = l by rw [hke]; exact List.take_length]
        clear hke
        go_wp2_with fail
        refine (MA.out L40.out _ HB.out).mono ?_
        rintro e w3 ⟨A3, c3, rfl, l3, h3, b3⟩
        have L3 := Lib.hid l3; have H3 := Lib.hid h3; have B3 := Lib.hid (HB.out.trans (b3.mono HB.out.size))
        clear l3 h3 b3
        go_wp2_with fail
        refine (MR.out L40.out _ B3.out).mono ?_
        rintro e w4 ⟨A4, c4, rfl, l4, h4, b4⟩
        have L4 := Lib.hid l4; have H4 := Lib.hid h4; have B4 := Lib.hid (B3.out.trans (b4.mono B3.out.size)); have J3 := Lib.hid (c_later H3.out b4)
        clear l4 h4 b4 H3
        go_upto_region 11 with (fail)
        obtain ⟨g9, hg9⟩ : ∃ g, w4.heap.size = g := ⟨_, rfl⟩
        obtain ⟨g10, hg10⟩ : ∃ g, g9 + 1 = g := ⟨_, rfl⟩
        obtain ⟨w5, hw5, x9, x10, k3, k4, b5⟩ : ∃ w5 : World, (w4.alloc (.cells #[.int .i64 2, .int .i64 0, .slice A3 l.length c3] 67)).alloc (.cells #[.int .i64 3, .int .i64 0, .slice A4 l.length c4] 67) = w5 ∧ Bx w5 g9 2 0 (.slice A3 l.length c3) ∧ Bx w5 g10 3 0 (.slice A4 l.length c4) ∧ Kd.C k67 w5 A3 l.length l ∧ Kd.C k67 w5 A4 l.length l ∧ Below w.heap.size w w5 :=
          ⟨_, rfl, by rw [← hg9]; exact blk_alloc (blk_new w4 _) _, by
              rw [← hg10, ← hg9]
              have := blk_new (w4.alloc (.cells #[.int .i64 2, .int .i64 0, .slice A3 l.length c3] 67)) (.cells #[.int .i64 3, .int .i64 0, .slice A4 l.length c4] 67)
              rw [show (w4.alloc (.cells #[.int .i64 2, .int .i64 0, .slice A3 l.length c3] 67)).heap.size = w4.heap.size + 1 by simp] at this
              exact this, c_later (c_later J3.out (below_alloc (Below.refl _ _) _)) (below_alloc (Below.refl _ _) _), c_later (c_later H4.out (below_alloc (Below.refl _ _) _)) (below_alloc (Below.refl _ _) _), below_alloc (below_alloc B4.out _) _⟩
        have HG9 := Lib.hid hg9; have HG10 := Lib.hid hg10
        clear hg9 hg10
        rw [HG9.out, HG10.out, hw5]
        have X9 := Lib.hid x9; have X10 := Lib.hid x10; have K3 := Lib.hid k3; have K4 := Lib.hid k4; have B5 := Lib.hid b5
        clear hw5 x9 x10 k3 k4 b5 B3 B4 J3 H4 HB
        go_wp2_with fail
        refine (PV.val_Bool.calls b 1 (bN b) [] w5 (bool_is b)).mono ?_
        rintro e w6 ⟨u, rfl, ru, hb⟩
        obtain ⟨A6, c6, rfl, l6, h6⟩ := r_reads ru
        have L6 := Lib.hid l6; have H6 := Lib.hid h6; have Y9 := Lib.hid (X9.out.below hb); have Y10 := Lib.hid (X10.out.below hb); have J3 := Lib.hid (c_later K3.out hb); have J4 := Lib.hid (c_later K4.out hb); have B6 := Lib.hid (B5.out.trans (hb.mono B5.out.size))
        clear ru l6 h6 hb X9 X10 K3 K4 B5
        go_wp2_with fail
        obtain ⟨g11, hg11⟩ : ∃ g, w6.heap.size = g := ⟨_, rfl⟩
        obtain ⟨w7, hw7, x11, x9, x10, k3, k4, k6, b7⟩ : ∃ w7 : World, w6.alloc (.cells #[.int .i64 1, .int .i64 (bN b), .slice A6 0 c6] 67) = w7 ∧ Bx w7 g11 1 (bN b) (.slice A6 0 c6) ∧ Bx w7 g9 2 0 (.slice A3 l.length c3) ∧ Bx w7 g10 3 0 (.slice A4 l.length c4) ∧ Kd.C k67 w7 A3 l.length l ∧ Kd.C k67 w7 A4 l.length l ∧ Kd.C k67 w7 A6 ([] : List S67).length [] ∧ Below w.heap.size w w7 :=
          ⟨_, rfl, by rw [← hg11]; exact blk_new w6 _, Y9.out.alloc _, Y10.out.alloc _, c_later J3.out (below_alloc (Below.refl _ _) _), c_later J4.out (below_alloc (Below.refl _ _) _), c_later H6.out (below_alloc (Below.refl _ _) _), below_alloc B6.out _⟩
        rw [hg11, hw7]
        have X11 := Lib.hid x11; have X9 := Lib.hid x9; have X10 := Lib.hid x10; have K3 := Lib.hid k3; have K4 := Lib.hid k4; have K6 := Lib.hid k6; have B7 := Lib.hid b7
        clear hg11 hw7 x11 x9 x10 k3 k4 k6 b7 Y9 Y10 J3 J4 H6 B6
        refine (PV.val_Int.calls n 0 n [] w7 rfl).mono ?_
        rintro e w8 ⟨u, rfl, ru, hb⟩
        obtain ⟨A8, c8, rfl, l8, h8⟩ := r_reads ru
        have L8 := Lib.hid l8; have H8 := Lib.hid h8; have B8 := Lib.hid (Below.trans (Below.refl w7.heap.size w7) hb)
        clear ru l8 h8 hb
        have qb := (X11.out.below B8.out).cells; obtain ⟨mb0, mb1, mb2, fb0, fb1, fb2⟩ := qb
        have q1 := (X9.out.below B8.out).cells; obtain ⟨m10, m11, m12, f10, f11, f12⟩ := q1
        have q2 := (X10.out.below B8.out).cells; obtain ⟨m20, m21, m22, f20, f21, f22⟩ := q2
        have q1 := bn1 b
        have q0 := bn0 b
        have qq := bb b
        have qn := bb (!b)
        have qr := bb (rightL l)
        go_wp2_with fail
        refine (rsame_calls ⟨0, n, []⟩ ⟨0, n, []⟩ A8 c8 none 0 w8 L8.out H8.out (Nat.le_refl 0) (Kd.C_nil k67 w8)).mono ?_
        rw [(same_iff (⟨0, n, []⟩ : S67) ⟨0, n, []⟩).2 rfl]
        rintro e b8w1 ⟨rfl, hb⟩
        have B8n1 := Lib.hid (B8.out.trans (hb.mono B8.out.size))
        clear hb
        clear mb0 fb0 mb1 fb1 mb2 fb2 m10 f10 m11 f11 m12 f12 m20 f20 m21 f21 m22 f22
        have qb := (X11.out.below B8n1.out).cells; obtain ⟨mb0, mb1, mb2, fb0, fb1, fb2⟩ := qb
        have q1 := (X9.out.below B8n1.out).cells; obtain ⟨m10, m11, m12, f10, f11, f12⟩ := q1
        have q2 := (X10.out.below B8n1.out).cells; obtain ⟨m20, m21, m22, f20, f21, f22⟩ := q2
        go_wp2_with fail
        refine (S3.out _ A3 c3 (B7.out.trans (B8n1.out.mono B7.out.size)) L3.out (c_later K3.out B8n1.out)).mono ?_
        rintro e b8w2 ⟨rfl, hb⟩
        have B8n2 := Lib.hid (B8n1.out.trans (hb.mono B8n1.out.size))
        clear hb
        clear mb0 fb0 mb1 fb1 mb2 fb2 m10 f10 m11 f11 m12 f12 m20 f20 m21 f21 m22 f22
        have qb := (X11.out.below B8n2.out).cells; obtain ⟨mb0, mb1, mb2, fb0, fb1, fb2⟩ := qb
        have q1 := (X9.out.below B8n2.out).cells; obtain ⟨m10, m11, m12, f10, f11, f12⟩ := q1
        have q2 := (X10.out.below B8n2.out).cells; obtain ⟨m20, m21, m22, f20, f21, f22⟩ := q2
        go_wp2_with fail
        refine (S3.out _ A4 c4 (B7.out.trans (B8n2.out.mono B7.out.size)) L4.out (c_later K4.out B8n2.out)).mono ?_
        rintro e b8w3 ⟨rfl, hb⟩
        have B8n3 := Lib.hid (B8n2.out.trans (hb.mono B8n2.out.size))
        clear hb
        clear mb0 fb0 mb1 fb1 mb2 fb2 m10 f10 m11 f11 m12 f12 m20 f20 m21 f21 m22 f22
        have qb := (X11.out.below B8n3.out).cells; obtain ⟨mb0, mb1, mb2, fb0, fb1, fb2⟩ := qb
        have q1 := (X9.out.below B8n3.out).cells; obtain ⟨m10, m11, m12, f10, f11, f12⟩ := q1
        have q2 := (X10.out.below B8n3.out).cells; obtain ⟨m20, m21, m22, f20, f21, f22⟩ := q2
        go_wp2_with fail
        refine (R3.out _ A3 c3 (B7.out.trans (B8n3.out.mono B7.out.size)) L3.out (c_later K3.out B8n3.out)).mono ?_
        rintro e b8w4 ⟨rfl, hb⟩
        have B8n4 := Lib.hid (B8n3.out.trans (hb.mono B8n3.out.size))
        clear hb
        clear mb0 fb0 mb1 fb1 mb2 fb2 m10 f10 m11 f11 m12 f12 m20 f20 m21 f21 m22 f22
        have qb := (X11.out.below B8n4.out).cells; obtain ⟨mb0, mb1, mb2, fb0, fb1, fb2⟩ := qb
        have q1 := (X9.out.below B8n4.out).cells; obtain ⟨m10, m11, m12, f10, f11, f12⟩ := q1
        have q2 := (X10.out.below B8n4.out).cells; obtain ⟨m20, m21, m22, f20, f21, f22⟩ := q2
        go_wp2_with fail
        refine (R4.out _ A4 c4 (B7.out.trans (B8n4.out.mono B7.out.size)) L4.out (c_later K4.out B8n4.out)).mono ?_
        rintro e b8w5 ⟨rfl, hb⟩
        have B8n5 := Lib.hid (B8n4.out.trans (hb.mono B8n4.out.size))
        clear hb
        clear mb0 fb0 mb1 fb1 mb2 fb2 m10 f10 m11 f11 m12 f12 m20 f20 m21 f21 m22 f22
        have qb := (X11.out.below B8n5.out).cells; obtain ⟨mb0, mb1, mb2, fb0, fb1, fb2⟩ := qb
        have q1 := (X9.out.below B8n5.out).cells; obtain ⟨m10, m11, m12, f10, f11, f12⟩ := q1
        have q2 := (X10.out.below B8n5.out).cells; obtain ⟨m20, m21, m22, f20, f21, f22⟩ := q2
        go_wp2_with fail
        go_ret
        exact ⟨rfl, B7.out.trans (B8n5.out.mono B7.out.size)⟩
theorem rs_wf {x : S67} (h : Opn.wf67 x) : Rs x := by
  induction h with
  | mk x _ _ h2 _ ih => exact .mk x (by omega) (fun y hy => ih y hy)
theorem makes_rowa (n : Int) (b : Bool) (l : List S67) (A : Option Addr) (c : Nat) (W : World) (_ : (Lit.int .i64 n).wf = true) (h2 : Kd.C k67 W A l.length l) (h1 : l.length ≤ c) (wf : l.length * 40 ≤ 140737488351232 ∧ ∀ x ∈ l, Opn.wf67 x) (hP : Pow W) (hE : Errs W) :
    Calls Tryd.prog 13 #[.int .i64 n, .bool b, .slice A l.length c] W fun e w' => e = .returned (.bool true) ∧ Below W.heap.size W w' :=
  makes_all n b l A c W (fun x hx => rs_wf (wf.2 x hx)) (by omega) h1 h2 hP hE
end Go.Proofs.YtfofpammnfcmiaaDoor.Vl
