/- Marline, values: reading one value, if shorter texts are read. Conditions: as each says. -/
import Derived.Test.YtfofpammnfcmiaaDoorV9
import Derived.StillTailTactics
namespace Go.Proofs.YtfofpammnfcmiaaDoor.Vl
open Go.RowKit Go.Proofs.YtfofpammnfcmiaaDoorW.PrintWords Go.Proofs.YtfofpammnfcmiaaDoorW.PrintLast Go.Proofs.YtfofpammnfcmiaaDoorW.PrintMore Go.Proofs.YtfofpammnfcmiaaDoor.Kinds Go.Proofs.YtfofpammnfcmiaaDoor.Obj
set_option linter.unusedVariables false
set_option linter.unusedSimpArgs false
set_option maxRecDepth 100000
open Go.Proofs.YtfofpammnfcmiaaDoor.E
open PV (IsS107 info67)
theorem own_or {w : World} {base : Nat} {ok : Nat → Prop} {v : Value} {xs : List S67} (h : Kd.R k67 67 w base ok v xs) : v.ownBlock = none ∨ ∃ b, v.ownBlock = some b ∧ base ≤ b := Kd.R_base2 h
theorem past_yes {p l : List UInt8} (h : pre p l = true) : past p l = l.drop p.length := if_pos h
theorem past_no {p l : List UInt8} (h : pre p l = false) : past p l = l := if_neg (by rw [h]; exact Bool.false_ne_true)
def VS (W0 : World) (g : Nat) (s : ByteArray) (m : Nat) : Prop := ∀ (l : List UInt8) (w : World), 2 * l.length + 1 ≤ m → Rdr W0 w g s l → Below W0.heap.size W0 w → Calls Tryd.prog 74 #[.pointer (some ⟨g, 0, none⟩)] w (ReadP W0 w g s (rv m l))
/-- the loop's end. -/
theorem rp_stop {n : Nat} {k : Int} {c : UInt8} {acc : List S67} {l : List UInt8} (h : (rv n l).2.1 = false) : rp (n + 1) k c acc l = (⟨k, 0, acc⟩, false, (rv n l).2.2) := by
  rw [rp, if_neg (by rw [h]; exact Bool.false_ne_true)]
theorem rp_shut {n : Nat} {k : Int} {c : UInt8} {acc : List S67} {l l1 : List UInt8} {x : S67} (h : rv n l = (x, true, l1)) (h2 : pre [c] l1 = true) : rp (n + 1) k c acc l = (⟨k, 0, acc ++ [x]⟩, true, l1.drop 1) := by
  rw [rp, h, if_pos rfl, if_pos (show pre [c] (x, true, l1).2.2 = true from h2)]
theorem rp_more {n : Nat} {k : Int} {c : UInt8} {acc : List S67} {l l1 : List UInt8} {x : S67} (h : rv n l = (x, true, l1)) (h2 : pre [c] l1 = false) (h3 : pre [44, 32] l1 = true) : rp (n + 1) k c acc l = rp n k c (acc ++ [x]) (l1.drop 2) := by
  rw [rp, h, if_pos rfl, if_neg (show ¬ pre [c] (x, true, l1).2.2 = true by rw [show pre [c] (x, true, l1).2.2 = false from h2]; exact Bool.false_ne_true), if_pos (show pre [44, 32] (x, true, l1).2.2 = true from h3)]
theorem rp_bad {n : Nat} {k : Int} {c : UInt8} {acc : List S67} {l l1 : List UInt8} {x : S67} (h : rv n l = (x, true, l1)) (h2 : pre [c] l1 = false) (h3 : pre [44, 32] l1 = false) : rp (n + 1) k c acc l = (⟨k, 0, acc ++ [x]⟩, false, l1) := by
  rw [rp, h, if_pos rfl, if_neg (show ¬ pre [c] (x, true, l1).2.2 = true by rw [show pre [c] (x, true, l1).2.2 = false from h2]; exact Bool.false_ne_true), if_neg (show ¬ pre [44, 32] (x, true, l1).2.2 = true by rw [show pre [44, 32] (x, true, l1).2.2 = false from h3]; exact Bool.false_ne_true)]
set_option maxHeartbeats 16000000 in
theorem list_of (W0 : World) (g : Nat) (s : ByteArray) (hs : s.size ≤ 1048576) (n : Nat) (hV : ∀ m, m < n → VS W0 g s m) (k : Int) (c : UInt8) (l : List UInt8) (w : World) (hn : 2 * l.length + 2 ≤ n) (hR : Rdr W0 w g s l) (hB : Below W0.heap.size W0 w) :
    Calls Tryd.prog 101 #[.pointer (some ⟨g, 0, none⟩), .int .i64 k, .string ⟨#[c]⟩] w (ReadP W0 w g s (rl n k c l)) := by
  have hu67 := Tryd.underlying67
  obtain ⟨g6, hg6⟩ : ∃ g6, w.heap.size = g6 := ⟨_, rfl⟩
  have G := Lib.hid (show ∃ w1 : World, (w.alloc (.cells #[.int .i64 0, .int .i64 0, .slice none 0 0] 67)).alloc (.cells #[.int .i64 k, .int .i64 0, .slice none 0 0] 67) = w1 ∧ Bx w1 g6 0 0 (.slice none 0 0) ∧ Bx w1 (g6 + 1) k 0 (.slice none 0 0) ∧ Rdr W0 w1 g s l ∧ Below W0.heap.size W0 w1 ∧ KeepBut w w1 g none from
    ⟨_, rfl, by rw [← hg6]; exact blk_alloc (blk_new w _) _, by rw [← hg6]; have := blk_new (w.alloc (.cells #[.int .i64 0, .int .i64 0, .slice none 0 0] 67)) (.cells #[.int .i64 k, .int .i64 0, .slice none 0 0] 67); rw [show (w.alloc (.cells #[.int .i64 0, .int .i64 0, .slice none 0 0] 67)).heap.size = w.heap.size + 1 by simp] at this; exact this, (hR.alloc _).alloc _, below_alloc (below_alloc hB _) _, keep_alloc (keep_alloc (KeepBut.refl _ _ _) _) _⟩)
  have hglt := hR.lt
  have HGL := Lib.hid hglt
  have HR0 := Lib.hid hR; have HS := Lib.hid hs; have HN := Lib.hid hn; have HV := Lib.hid hV; have HG6 := Lib.hid hg6
  have HLS := Lib.hid (show l.length ≤ s.size by obtain ⟨p, _, h2, _⟩ := hR; omega)
  have WGE := Lib.hid (show W0.heap.size ≤ w.heap.size from hB.size)
  clear hR hs hn hV hB hglt hg6
  go_enter Tryd.func101, Tryd.ntmps101
  go_upto_region 2 with (fail)
  rw [HG6.out]
  obtain ⟨w1, hw1, x1, o1, d1, b1, k1⟩ := G.out
  rw [hw1]
  obtain ⟨b8, hb8⟩ : ∃ b8, g6 + 1 = b8 := ⟨_, rfl⟩
  rw [hb8] at o1 ⊢
  have N1 := Lib.hid (show g ≠ g6 by have := HGL.out; have := HG6.out; omega)
  have N2 := Lib.hid (show g ≠ b8 by have := HGL.out; have := HG6.out; omega)
  have N3 := Lib.hid (show g6 ≠ b8 by omega)
  have N4 := Lib.hid (show w.heap.size ≤ b8 by have := HG6.out; omega)
  have X1 := Lib.hid x1; have O1 := Lib.hid o1; have D1 := Lib.hid d1; have B1 := Lib.hid b1; have K1 := Lib.hid k1
  clear G hw1 x1 o1 d1 b1 k1 hb8
  go_wp2_with fail
  refine (takes_calls W0 g s l [c] w1 D1.out B1.out HS.out).mono ?_
  rintro e w2 ⟨rfl, d2, b2, k2⟩
  have X2 := Lib.hid (X1.out.keep k2 (Ne.symm N1.out)); have O2 := Lib.hid (O1.out.keep k2 (Ne.symm N2.out)); have B2 := Lib.hid b2; have K2 := Lib.hid (K1.out.trans k2 (.inl rfl))
  clear b2 k2 X1 O1 D1 B1 K1
  cases hp : pre [c] l with
  | true =>
    rw [past_yes hp] at d2
    have E1 := Lib.hid (show rl n k c l = (⟨k, 0, []⟩, true, l.drop 1) from if_pos hp)
    have D2 := Lib.hid d2
    obtain ⟨m0, m1, m2, f0, f1, f2⟩ := X2.out.cells
    obtain ⟨o0, o1, o2, p0, p1, p2⟩ := O2.out.cells
    have n3 := N3.out; have n4 := Ne.symm N3.out
    clear d2 hp
    go_wp2_with fail
    refine bodyPost_ret (results_ct rfl _ _ g6 67 #[.int .i64 k, .int .i64 0, .slice none 0 0] (0, 0) _ rfl (X2.out.set3 k 0 (.slice none 0 0)) Tryd.underlying67 rfl (by kernel_rfl)) rfl ?_
    rw [E1.out]
    exact ⟨_, rfl, Kd.R_nil _ _ _ _ _, ends3 D2.out B2.out K2.out HGL.out (Nat.le_of_eq HG6.out) _ _ _⟩
  | false =>
    rw [past_no hp] at d2
    have E1 := Lib.hid (show rl n k c l = rp n k c [] l from if_neg (by rw [hp]; exact Bool.false_ne_true))
    have D2 := Lib.hid d2
    clear d2 hp
    go_wp2_with fail
    go_loopg [10] n (fun kq v10 w' => ∃ (acc : List S67) (l' : List UInt8) (u : Value), Hid (rp kq k c acc l' = rp n k c [] l) ∧ Hid (2 * l'.length + 2 ≤ kq ∧ kq ≤ n ∧ acc.length + l'.length ≤ s.size) ∧ Hid (Kd.R k67 67 w' w.heap.size (fun k => k ≠ g ∧ k ≠ g6 ∧ k ≠ b8) u acc) ∧ Hid (Bx w' g6 0 0 (.slice none 0 0)) ∧ Hid (Bx w' b8 k 0 u) ∧ Hid (Rdr W0 w' g s l') ∧ Hid (Below W0.heap.size W0 w') ∧ Hid (KeepBut w w' g none))
    case atStart => exact ⟨[], l, .slice none 0 0, Lib.hid rfl, Lib.hid ⟨HN.out, Nat.le_refl _, by have := HLS.out; simp only [List.length_nil]; omega⟩, Lib.hid (Kd.R_nil _ _ _ _ _), X2, O2, D2, B2, K2⟩
    case round =>
      clear X2 O2 D2 B2 K2
      obtain ⟨acc, l', u, HRP, HF, HR, HX, HO, HD, HB, HK⟩ := hrel
      obtain ⟨A, cc, rfl⟩ := Kd.R_slice HR.out
      obtain ⟨m, rfl⟩ : ∃ m, gk = m + 1 := ⟨gk - 1, by have := HF.out.1; omega⟩
      obtain ⟨⟨x, ok, l1⟩, hx⟩ : ∃ r, rv m l' = r := ⟨_, rfl⟩
      have VC := Lib.hid (HV.out m (by have := HF.out.2.1; omega) l' wr (by have := HF.out.1; omega) HD.out HB.out)
      rw [hx] at VC
      have HL1 := Lib.hid (show l1.length ≤ l'.length by have := (read_len m).1 l'; rw [hx] at this; exact this)
      have HXE := Lib.hid hx
      have GLR := Lib.hid (HD.out.lt)
      clear hx
      go_wp2_with fail
      refine VC.out.mono ?_
      rintro e w3 ⟨u2, rfl, r3, d3, b3, k3⟩
      obtain ⟨A2, c2, rfl⟩ := Kd.R_slice r3
      have OLT := Kd.R_lt HR.out
      have XR3 := Lib.hid (Kd.R_mono (Kd.R_bound (Kd.R_lower r3 (show w.heap.size ≤ wr.heap.size from HK.out.1))) (ok' := fun k => True) (fun _ _ => trivial))
      have XR := Lib.hid (Kd.R_mono (Kd.R_bound r3) (fun k hk => (⟨⟨by have := GLR.out; have := hk.2.1; omega, by have := HX.out.lt; have := hk.2.1; omega, by have := HO.out.lt; have := hk.2.1; omega⟩, fun e => by have := OLT k e.symm; have := hk.2.1; omega⟩ : (k ≠ g ∧ k ≠ g6 ∧ k ≠ b8) ∧ some k ≠ (Value.slice A acc.length cc).ownBlock)))
      have X3 := Lib.hid (HX.out.keep k3 (Ne.symm N1.out)); have O3 := Lib.hid (HO.out.keep k3 (Ne.symm N2.out)); have D3 := Lib.hid d3; have B3 := Lib.hid b3; have K3 := Lib.hid (HK.out.trans k3 (.inl rfl))
      have R3 := Lib.hid (Kd.R_keep HR.out k3 (fun k hk => hk.1))
      have WLE := Lib.hid HK.out.1
      clear r3 d3 b3 k3 VC HX HO HD HB HK HR OLT XR3
      go_upto_region 5 with (fail)
      obtain ⟨g9, hg9⟩ : ∃ g9, w3.heap.size = g9 := ⟨_, rfl⟩
      have H4 : ∃ w4 : World, w3.alloc (.cells #[.int .i64 x.f0, .int .i64 x.f1, .slice A2 x.f2.length c2] 67) = w4 ∧ Bx w4 g9 x.f0 x.f1 (.slice A2 x.f2.length c2) ∧ Bx w4 g6 0 0 (.slice none 0 0) ∧ Bx w4 b8 k 0 (.slice A acc.length cc) ∧ Rdr W0 w4 g s l1 ∧ Below W0.heap.size W0 w4 ∧ KeepBut w w4 g none ∧ Kd.R k67 67 w4 w.heap.size (fun k => k ≠ g ∧ k ≠ g6 ∧ k ≠ b8 ∧ k ≠ g9) (.slice A acc.length cc) acc ∧ Kd.R k67 67 w4 w.heap.size (fun k => (k ≠ g ∧ k ≠ g6 ∧ k ≠ b8 ∧ k ≠ g9) ∧ some k ≠ (Value.slice A acc.length cc).ownBlock) (.slice A2 x.f2.length c2) x.f2 :=
        ⟨_, rfl, by rw [← hg9]; exact blk_new w3 _, X3.out.alloc _, O3.out.alloc _, D3.out.alloc _, below_alloc B3.out _, keep_alloc K3.out _,
          Kd.R_alloc (Kd.R_mono (Kd.R_bound R3.out) (fun k hk => ⟨hk.1.1, hk.1.2.1, hk.1.2.2, by have := hk.2.2.1; omega⟩)) _,
          Kd.R_alloc (Kd.R_lower (Kd.R_mono (Kd.R_bound XR.out) (fun k hk => ⟨⟨hk.1.1.1, hk.1.1.2.1, hk.1.1.2.2, by have := hk.2.2.1; omega⟩, hk.1.2⟩)) WLE.out) _⟩
      rw [hg9]
      obtain ⟨w4, hw4, v4, x4, o4, d4, b4, k4, r4, xr4⟩ := H4
      rw [hw4]
      have N5 := Lib.hid (show g ≠ g9 by have := D3.out.lt; omega)
      have N6 := Lib.hid (show g6 ≠ g9 by have := X3.out.lt; omega)
      have N7 := Lib.hid (show b8 ≠ g9 by have := O3.out.lt; omega)
      have V4 := Lib.hid v4; have X4 := Lib.hid x4; have O4 := Lib.hid o4; have D4 := Lib.hid d4; have B4 := Lib.hid b4; have K4 := Lib.hid k4; have R4 := Lib.hid r4; have XR4 := Lib.hid xr4
      have FR4 := Lib.hid (show ∀ k, w4.heap.size ≤ k → k ≠ g ∧ k ≠ g6 ∧ k ≠ b8 ∧ k ≠ g9 from fun k hk => by have h1 := d4.lt; have h2 := x4.lt; have h3 := o4.lt; have h4 := v4.lt; exact ⟨by omega, by omega, by omega, by omega⟩)
      have SZ4 := Lib.hid k4.1
      have HL40 := Lib.hid (show (acc.length + 1) * 40 ≤ 140737488355328 by have := HF.out.2.2; have := HS.out; omega)
      clear hw4 hg9 v4 x4 o4 d4 b4 k4 r4 xr4 X3 O3 D3 B3 K3 R3 XR
      cases ok with
      | false =>
        have E2 := Lib.hid (show rp n k c [] l = (⟨k, 0, acc⟩, false, l1) by rw [← HRP.out, rp_stop (by rw [HXE.out]), HXE.out])
        obtain ⟨m0, m1, m2, f0, f1, f2⟩ := X4.out.cells
        obtain ⟨o0, o1, o2, p0, p1, p2⟩ := O4.out.cells
        have n3 := N3.out; have n4 := Ne.symm N3.out
        clear HRP HXE
        go_wp2_with fail
        refine bodyPost_ret (results_ct rfl _ _ g6 67 #[.int .i64 k, .int .i64 0, .slice A acc.length cc] (0, 0) _ rfl (X4.out.set3 k 0 (.slice A acc.length cc)) Tryd.underlying67 rfl (by kernel_rfl)) rfl ?_
        rw [E1.out, E2.out]
        exact ⟨_, rfl, Kd.R_mono (Kd.R_far (p := ⟨g6, 2, none⟩) (Kd.R_far (p := ⟨g6, 1, none⟩) (Kd.R_far (p := ⟨g6, 0, none⟩) R4.out (fun k hk => hk.2.1) _) (fun k hk => hk.2.1) _) (fun k hk => hk.2.1) _) (fun _ _ => trivial), ends3 D4.out B4.out K4.out HGL.out (Nat.le_of_eq HG6.out) _ _ _⟩
      | true =>
        obtain ⟨m0, m1, m2, f0, f1, f2⟩ := V4.out.cells
        obtain ⟨o0, o1, o2, p0, p1, p2⟩ := O4.out.cells
        obtain ⟨y, hy⟩ : ∃ y, acc ++ [x] = y := ⟨_, rfl⟩
        have HY := Lib.hid hy
        clear hy
        go_wp2_with ((with_reducible refine gate_builtin (b := .append) (xs := #[.tmp 26, .tmp 28]) rfl ?_); at_builtin; refine Kd.R_append k67 (w0 := w4) w.heap.size rfl (.tmp 26) (.tmp 28) 65 67 (.agg #[.int .i64 0, .int .i64 0, .slice none 0 0]) 40 rfl Tryd.underlying65 info67 rfl (by decide) (by decide) (.slice A acc.length cc) acc x [.int .i64 x.f0, .int .i64 x.f1, .slice A2 x.f2.length c2] (fun k => k ≠ g ∧ k ≠ g6 ∧ k ≠ b8 ∧ k ≠ g9) (fun k => (k ≠ g ∧ k ≠ g6 ∧ k ≠ b8 ∧ k ≠ g9) ∧ some k ≠ (Value.slice A acc.length cc).ownBlock) rfl rfl (k67_mkM _ _ _ x XR4.out) (fun _ hk => hk) FR4.out R4.out (Below.refl _ _) SZ4.out HL40.out ?_; intro v5 w5 ho hb5 hg5 hat; rw [HY.out] at ho; obtain ⟨A5, c5, rfl⟩ := Kd.R_slice ho; have R5 := Lib.hid ho; have X5 := Lib.hid (X4.out.grown hg5 (Kd.R_away R4.out (fun k hk => hk.2.1))); have O5 := Lib.hid (O4.out.grown hg5 (Kd.R_away R4.out (fun k hk => hk.2.2.1))); have D5 := Lib.hid (D4.out.grown hg5 (Kd.R_away R4.out (fun k hk => hk.1))); have B5 := Lib.hid (B4.out.trans (hb5.mono WGE.out)); have K5 := Lib.hid (K4.out.trans (KeepBut.of_grown hg5 g) (own_or R4.out)); obtain ⟨o0, o1, o2, p0, p1, p2⟩ := O5.out.cells; clear ho hb5 hg5 hat)
        obtain ⟨w6, hw6, x6, o6, d6, b6, k6, r6⟩ : ∃ w6 : World, w5.setCell ⟨b8, 2, none⟩ (.slice A5 y.length c5) = w6 ∧ Bx w6 g6 0 0 (.slice none 0 0) ∧ Bx w6 b8 k 0 (.slice A5 y.length c5) ∧ Rdr W0 w6 g s l1 ∧ Below W0.heap.size W0 w6 ∧ KeepBut w w6 g none ∧ Kd.R k67 67 w6 w.heap.size (fun k => k ≠ g ∧ k ≠ g6 ∧ k ≠ b8 ∧ k ≠ g9) (.slice A5 y.length c5) y :=
          ⟨_, rfl, X5.out.far (a := ⟨b8, 2, none⟩) N3.out _, O5.out.set2 _, D5.out.far (a := ⟨b8, 2, none⟩) N2.out _, below_set B5.out (Nat.le_trans WGE.out N4.out), keep_far K5.out N4.out _, Kd.R_far (p := ⟨b8, 2, none⟩) R5.out (fun k hk => hk.2.2.1) _⟩
        rw [hw6]
        have X6 := Lib.hid x6; have O6 := Lib.hid o6; have D6 := Lib.hid d6; have B6 := Lib.hid b6; have K6 := Lib.hid k6; have R6 := Lib.hid r6
        clear hw6 x6 o6 d6 b6 k6 r6 X5 O5 D5 B5 K5 R5 X4 O4 D4 B4 K4 R4 V4 XR4 o0 o1 o2 p0 p1 p2 m0 m1 m2 f0 f1 f2
        refine (takes_calls W0 g s l1 [c] w6 D6.out B6.out HS.out).mono ?_
        rintro e w7 ⟨rfl, d7, b7, k7⟩
        have X7 := Lib.hid (X6.out.keep k7 (Ne.symm N1.out)); have O7 := Lib.hid (O6.out.keep k7 (Ne.symm N2.out)); have B7 := Lib.hid b7; have K7 := Lib.hid (K6.out.trans k7 (.inl rfl)); have R7 := Lib.hid (Kd.R_keep R6.out k7 (fun k hk => hk.1))
        clear b7 k7 X6 O6 D6 B6 K6 R6
        cases hp : pre [c] l1 with
        | true =>
          rw [past_yes hp] at d7
          have E2 := Lib.hid (show rp n k c [] l = (⟨k, 0, y⟩, true, l1.drop 1) by rw [← HRP.out, rp_shut HXE.out hp, HY.out])
          have D7 := Lib.hid d7
          obtain ⟨m0, m1, m2, f0, f1, f2⟩ := X7.out.cells
          obtain ⟨o0, o1, o2, p0, p1, p2⟩ := O7.out.cells
          have n3 := N3.out; have n4 := Ne.symm N3.out
          clear d7 hp HRP HXE
          go_wp2_with fail
          refine bodyPost_ret (results_ct rfl _ _ g6 67 #[.int .i64 k, .int .i64 0, .slice A5 y.length c5] (0, 0) _ rfl (X7.out.set3 k 0 (.slice A5 y.length c5)) Tryd.underlying67 rfl (by kernel_rfl)) rfl ?_
          rw [E1.out, E2.out]
          exact ⟨_, rfl, Kd.R_mono (Kd.R_far (p := ⟨g6, 2, none⟩) (Kd.R_far (p := ⟨g6, 1, none⟩) (Kd.R_far (p := ⟨g6, 0, none⟩) R7.out (fun k hk => hk.2.1) _) (fun k hk => hk.2.1) _) (fun k hk => hk.2.1) _) (fun _ _ => trivial), ends3 D7.out B7.out K7.out HGL.out (Nat.le_of_eq HG6.out) _ _ _⟩
        | false =>
          rw [past_no hp] at d7
          have D7 := Lib.hid d7
          have HP := Lib.hid hp
          clear d7 hp
          go_wp2_with fail
          refine (takes_calls W0 g s l1 [44, 32] w7 D7.out B7.out HS.out).mono ?_
          rintro e w8 ⟨rfl, d8, b8', k8⟩
          have X8 := Lib.hid (X7.out.keep k8 (Ne.symm N1.out)); have O8 := Lib.hid (O7.out.keep k8 (Ne.symm N2.out)); have B8 := Lib.hid b8'; have K8 := Lib.hid (K7.out.trans k8 (.inl rfl)); have R8 := Lib.hid (Kd.R_keep R7.out k8 (fun k hk => hk.1))
          clear b8' k8 X7 O7 D7 B7 K7 R7
          cases hp : pre [44, 32] l1 with
          | true =>
            rw [past_yes hp] at d8
            have D8 := Lib.hid d8
            have HPL := Lib.hid (pre_len hp)
            have HP2 := Lib.hid hp
            clear d8 hp
            go_wp2_with fail
            go_roundg m
            case measure => omega
            case rel => exact ⟨y, l1.drop 2, .slice A5 y.length c5, Lib.hid (by rw [← HRP.out, rp_more HXE.out HP.out HP2.out, HY.out]), Lib.hid (by have h1 := HPL.out.2; have h2 : ([44, 32] : List UInt8).length = 2 := rfl; rw [h2] at h1; have := HL1.out; have := HF.out; rw [← HY.out, List.length_append]; simp only [List.length_cons, List.length_nil]; omega), Lib.hid (Kd.R_mono R8.out (fun k hk => ⟨hk.1, hk.2.1, hk.2.2.1⟩)), X8, O8, D8, B8, K8⟩
          | false =>
            rw [past_no hp] at d8
            have E2 := Lib.hid (show rp n k c [] l = (⟨k, 0, y⟩, false, l1) by rw [← HRP.out, rp_bad HXE.out HP.out hp, HY.out])
            have D8 := Lib.hid d8
            obtain ⟨m0, m1, m2, f0, f1, f2⟩ := X8.out.cells
            obtain ⟨o0, o1, o2, p0, p1, p2⟩ := O8.out.cells
            have n3 := N3.out; have n4 := Ne.symm N3.out
            clear d8 hp HRP HXE
            go_wp2_with fail
            refine bodyPost_ret (results_ct rfl _ _ g6 67 #[.int .i64 k, .int .i64 0, .slice A5 y.length c5] (0, 0) _ rfl (X8.out.set3 k 0 (.slice A5 y.length c5)) Tryd.underlying67 rfl (by kernel_rfl)) rfl ?_
            rw [E1.out, E2.out]
            exact ⟨_, rfl, Kd.R_mono (Kd.R_far (p := ⟨g6, 2, none⟩) (Kd.R_far (p := ⟨g6, 1, none⟩) (Kd.R_far (p := ⟨g6, 0, none⟩) R8.out (fun k hk => hk.2.1) _) (fun k hk => hk.2.1) _) (fun k hk => hk.2.1) _) (fun _ _ => trivial), ends3 D8.out B8.out K8.out HGL.out (Nat.le_of_eq HG6.out) _ _ _⟩
end Go.Proofs.YtfofpammnfcmiaaDoor.Vl
namespace Go.Proofs.YtfofpammnfcmiaaDoor.Vl
open Go.RowKit Go.Proofs.YtfofpammnfcmiaaDoorW.PrintWords Go.Proofs.YtfofpammnfcmiaaDoorW.PrintLast Go.Proofs.YtfofpammnfcmiaaDoorW.PrintMore Go.Proofs.YtfofpammnfcmiaaDoor.Kinds Go.Proofs.YtfofpammnfcmiaaDoor.Obj
set_option linter.unusedVariables false
set_option linter.unusedSimpArgs false
set_option maxRecDepth 100000
open Go.Proofs.YtfofpammnfcmiaaDoor.E
open PV (IsS107 info67)
theorem bt_get (s : ByteArray) (p : Nat) (h : p < s.size) : bt s (p : Int) = ((s.data.toList.getD p 0).toNat : Int) := by
  unfold bt
  rw [dif_pos (by simpa using h)]
  simp only [Int.toNat_natCast]
  rw [List.getD_eq_getElem?_getD, List.getElem?_eq_getElem (by exact h)]
  rfl
theorem index_at (s : ByteArray) (p : Nat) (hp : p < s.size) (W : World) : (Instr.index 9 (.string s) (.int .i64 (p : Int))).run Tryd.prog W = .ok (.int .u8 ((s.data.toList.getD p 0).toNat : Int)) W := by
  rw [run_index_string _ _ _ _ _ Tryd.underlying9, dif_pos ⟨by omega, by omega⟩]
  have h := bt_get s p hp
  have h2 := bt_at s (p : Int) (by simpa using hp)
  rw [← h, ← h2]
theorem tw_get (f : UInt8 → Bool) : ∀ (l : List UInt8) (j : Nat), j < (l.takeWhile f).length → f (l.getD j 0) = true
  | [], j, h => by simp at h
  | c :: r, j, h => by
    by_cases hc : f c = true
    · rw [List.takeWhile_cons_of_pos hc] at h
      cases j with
      | zero => exact hc
      | succ j => exact tw_get f r j (by simpa using h)
    · rw [List.takeWhile_cons_of_neg hc] at h; simp at h
theorem tw_end (f : UInt8 → Bool) : ∀ (l : List UInt8), (l.takeWhile f).length < l.length → f (l.getD (l.takeWhile f).length 0) = false
  | [], h => by simp at h
  | c :: r, h => by
    by_cases hc : f c = true
    · rw [List.takeWhile_cons_of_pos hc] at h ⊢
      simp only [List.length_cons, List.getD_cons_succ]
      exact tw_end f r (by simpa using h)
    · rw [List.takeWhile_cons_of_neg hc]
      simpa using hc
theorem tw_take (f : UInt8 → Bool) : ∀ (l : List UInt8), l.take (l.takeWhile f).length = l.takeWhile f ∧ l.drop (l.takeWhile f).length = l.dropWhile f ∧ (l.takeWhile f).length + (l.dropWhile f).length = l.length
  | [] => by simp
  | c :: r => by
    by_cases hc : f c = true
    · obtain ⟨h1, h2, h3⟩ := tw_take f r
      rw [List.takeWhile_cons_of_pos hc, List.dropWhile_cons_of_pos hc, List.length_cons, List.take_succ_cons, List.drop_succ_cons, h1, h2, List.length_cons]
      exact ⟨rfl, rfl, by omega⟩
    · rw [List.takeWhile_cons_of_neg hc, List.dropWhile_cons_of_neg hc]; simp
theorem rcells {W0 w : World} {g : Nat} {s : ByteArray} {p : Int} (r2 : IsS107 W0 w g s p) : w.cell? ⟨g, 0, none⟩ = some (.string s) ∧ w.cell? ⟨g, 1, none⟩ = some (.int .i64 p) ∧ w.frozen? ⟨g, 0, none⟩ = false ∧ w.frozen? ⟨g, 1, none⟩ = false := ⟨(blk_cell r2.1 0).trans rfl, (blk_cell r2.1 1).trans rfl, blk_frozen r2.1 0, blk_frozen r2.1 1⟩
theorem drop_getD (l : List UInt8) (p j : Nat) : (l.drop p).getD j 0 = l.getD (p + j) 0 := by
  rw [List.getD_eq_getElem?_getD, List.getD_eq_getElem?_getD, List.getElem?_drop]
/-- a row that was made behind a block. -/
theorem r_off {w w2 w3 : World} {g6 : Nat} {v : Value} {xs : List S67} (h2 : Kd.R k67 67 w3 w2.heap.size (fun _ => True) v xs) (h6 : g6 < w2.heap.size) (hle : w.heap.size ≤ w2.heap.size) : Kd.R k67 67 w3 w.heap.size (fun k => k ≠ g6) v xs :=
  Kd.R_lower (Kd.R_mono (Kd.R_bound h2) (fun k hk => by have := hk.2.1; omega)) hle
def t12T : Bool × List (List Nat × List Nat) := (true, [([], []), ([0], [0]), ([1], [1]), ([2], [2]), ([], []), ([4], [4]), ([5], [5]), ([6], [6]), ([], []), ([3, 7, 8], [3, 7, 8]), ([9], [9]), ([10], [10]), ([11], [11]), ([11], [11]), ([12, 10, 0, 1, 2, 3, 4, 5, 6, 7, 8, 9, 10, 11, 12], [12]), ([13, 14, 0, 1, 2, 3, 4, 5, 6, 7, 8, 9, 10, 11, 12, 13, 14], [13])])
def b12B : List Nat := [0, 1, 3, 7, 0, 16, 48, 112, 0, 511, 1023, 2047, 4095, 4095, 8191, 12287]
theorem t12 : rtab .any (opsOf Tryd.f74 12) = t12T := by kernel_rfl
theorem b12 : waitsOk t12T.2 b12B = true := by kernel_rfl
theorem wjb {a b : Nat} (h : a + b < 1048577) : wrap64 (((a + b : Nat) : Int) + 1) = ((a + (b + 1) : Nat) : Int) := by unfold wrap64; omega
set_option maxHeartbeats 16000000 in
theorem value_of (W0 : World) (g : Nat) (s : ByteArray) (hs : s.size ≤ 1048576) (hpw : Pow W0) (her : Errs W0) (n : Nat) (hV : ∀ m, m < n → VS W0 g s m) : VS W0 g s (n + 1) := by
  intro l w hn hR hB
  have hu67 := Tryd.underlying67
  have hu107 := Tryd.underlying107
  obtain ⟨g6, hg6⟩ : ∃ g6, w.heap.size = g6 := ⟨_, rfl⟩
  have G := Lib.hid (show ∃ w1 : World, w.alloc (.cells #[.int .i64 0, .int .i64 0, .slice none 0 0] 67) = w1 ∧ Bx w1 g6 0 0 (.slice none 0 0) ∧ Rdr W0 w1 g s l ∧ Below W0.heap.size W0 w1 ∧ KeepBut w w1 g none from
    ⟨_, rfl, by rw [← hg6]; exact blk_new w _, hR.alloc _, below_alloc hB _, keep_alloc (KeepBut.refl _ _ _) _⟩)
  have hglt := hR.lt
  have HGL := Lib.hid hglt
  have HS := Lib.hid hs; have HN := Lib.hid hn; have HV := Lib.hid hV; have HG6 := Lib.hid hg6; have HPW := Lib.hid hpw; have HER := Lib.hid her
  have HLS := Lib.hid (show l.length ≤ s.size by obtain ⟨p, _, h2, _⟩ := hR; omega)
  have WGE := Lib.hid (show W0.heap.size ≤ w.heap.size from hB.size)
  clear hR hs hn hV hB hglt hg6 hpw her
  go_enter Tryd.func74, Tryd.ntmps74
  go_upto_region 1 with (fail)
  rw [HG6.out]
  obtain ⟨w1, hw1, x1, d1, b1, k1⟩ := G.out
  rw [hw1]
  have N1 := Lib.hid (show g ≠ g6 by have := HGL.out; have := HG6.out; omega)
  have X1 := Lib.hid x1; have D1 := Lib.hid d1; have B1 := Lib.hid b1; have K1 := Lib.hid k1
  clear G hw1 x1 d1 b1 k1
  go_wp2_with fail
  refine (takes_calls W0 g s l tT w1 D1.out B1.out HS.out).mono ?_
  rintro e w2 ⟨rfl, d2, b2, k2⟩
  have X2 := Lib.hid (X1.out.keep k2 (Ne.symm N1.out)); have B2 := Lib.hid b2; have K2 := Lib.hid (K1.out.trans k2 (.inl rfl))
  clear b2 k2 X1 D1 B1 K1
  cases hp : pre tT l with
  | true =>
    rw [past_yes hp] at d2
    have E1 := Lib.hid (show rv (n + 1) l = (⟨1, 1, []⟩, true, l.drop 4) by rw [rv_succ]; rw [if_pos hp])
    have D2 := Lib.hid d2
    clear d2 hp
    go_wp2_with fail
    refine (PV.val_Bool.calls true 1 1 [] w2 rfl).mono ?_
    rintro e w3 ⟨u, rfl, ru, bel⟩
    obtain ⟨A, cc, rfl⟩ := Kd.R_slice ru
    have X3 := Lib.hid (X2.out.below bel); have D3 := Lib.hid (D2.out.below bel); have B3 := Lib.hid (B2.out.trans (bel.mono B2.out.size)); have K3 := Lib.hid (K2.out.trans (KeepBut.of_below bel g none) (.inl rfl))
    have RU := Lib.hid (r_off ru X2.out.lt K2.out.1)
    obtain ⟨m0, m1, m2, f0, f1, f2⟩ := X3.out.cells
    clear ru bel X2 D2 B2 K2
    go_wp2_with fail
    refine bodyPost_ret (results_ct rfl _ _ g6 67 #[.int .i64 1, .int .i64 1, (.slice A 0 cc)] (0, 0) _ rfl (X3.out.set3 1 1 (.slice A 0 cc)) Tryd.underlying67 rfl (by kernel_rfl)) rfl ?_
    rw [E1.out]
    exact ⟨_, rfl, Kd.R_mono (Kd.R_far (p := ⟨g6, 2, none⟩) (Kd.R_far (p := ⟨g6, 1, none⟩) (Kd.R_far (p := ⟨g6, 0, none⟩) RU.out (fun k hk => hk) _) (fun k hk => hk) _) (fun k hk => hk) _) (fun _ _ => trivial), ends3 D3.out B3.out K3.out HGL.out (Nat.le_of_eq HG6.out) _ _ _⟩
  | false =>
    rw [past_no hp] at d2
    have D1 := Lib.hid d2; have X1 := X2; have B1 := B2; have K1 := K2
    have P1 := Lib.hid hp
    clear d2 hp X2 B2 K2
    revert D1 X1 B1 K1
    generalize w2 = w1
    intro D1 X1 B1 K1
    go_wp2_with fail
    refine (takes_calls W0 g s l tF w1 D1.out B1.out HS.out).mono ?_
    rintro e w2 ⟨rfl, d2, b2, k2⟩
    have X2 := Lib.hid (X1.out.keep k2 (Ne.symm N1.out)); have B2 := Lib.hid b2; have K2 := Lib.hid (K1.out.trans k2 (.inl rfl))
    clear b2 k2 X1 D1 B1 K1
    cases hp : pre tF l with
    | true =>
      rw [past_yes hp] at d2
      have E1 := Lib.hid (show rv (n + 1) l = (⟨1, 0, []⟩, true, l.drop 5) by rw [rv_succ]; rw [if_neg (by rw [P1.out]; exact Bool.false_ne_true), if_pos hp])
      have D2 := Lib.hid d2
      clear d2 hp
      go_wp2_with fail
      refine (PV.val_Bool.calls false 1 0 [] w2 rfl).mono ?_
      rintro e w3 ⟨u, rfl, ru, bel⟩
      obtain ⟨A, cc, rfl⟩ := Kd.R_slice ru
      have X3 := Lib.hid (X2.out.below bel); have D3 := Lib.hid (D2.out.below bel); have B3 := Lib.hid (B2.out.trans (bel.mono B2.out.size)); have K3 := Lib.hid (K2.out.trans (KeepBut.of_below bel g none) (.inl rfl))
      have RU := Lib.hid (r_off ru X2.out.lt K2.out.1)
      obtain ⟨m0, m1, m2, f0, f1, f2⟩ := X3.out.cells
      clear ru bel X2 D2 B2 K2
      go_wp2_with fail
      refine bodyPost_ret (results_ct rfl _ _ g6 67 #[.int .i64 1, .int .i64 0, (.slice A 0 cc)] (0, 0) _ rfl (X3.out.set3 1 0 (.slice A 0 cc)) Tryd.underlying67 rfl (by kernel_rfl)) rfl ?_
      rw [E1.out]
      exact ⟨_, rfl, Kd.R_mono (Kd.R_far (p := ⟨g6, 2, none⟩) (Kd.R_far (p := ⟨g6, 1, none⟩) (Kd.R_far (p := ⟨g6, 0, none⟩) RU.out (fun k hk => hk) _) (fun k hk => hk) _) (fun k hk => hk) _) (fun _ _ => trivial), ends3 D3.out B3.out K3.out HGL.out (Nat.le_of_eq HG6.out) _ _ _⟩
    | false =>
      rw [past_no hp] at d2
      have D1 := Lib.hid d2; have X1 := X2; have B1 := B2; have K1 := K2
      have P2 := Lib.hid hp
      clear d2 hp X2 B2 K2
      revert D1 X1 B1 K1
      generalize w2 = w1
      intro D1 X1 B1 K1
      go_wp2_with fail
      refine (takes_calls W0 g s l [91] w1 D1.out B1.out HS.out).mono ?_
      rintro e w2 ⟨rfl, d2, b2, k2⟩
      have X2 := Lib.hid (X1.out.keep k2 (Ne.symm N1.out)); have B2 := Lib.hid b2; have K2 := Lib.hid (K1.out.trans k2 (.inl rfl))
      clear b2 k2 X1 D1 B1 K1
      cases hp : pre [91] l with
      | true =>
        rw [past_yes hp] at d2
        have HPL : 1 + (l.drop 1).length = l.length := (pre_len hp).2
        have E1 := Lib.hid (show rv (n + 1) l = rl n 2 93 (l.drop 1) by rw [rv_succ]; rw [if_neg (by rw [P1.out]; exact Bool.false_ne_true), if_neg (by rw [P2.out]; exact Bool.false_ne_true), if_pos hp])
        have LC := Lib.hid (list_of W0 g s HS.out n HV.out 2 93 (l.drop 1) w2 (by have := HN.out; omega) d2 B2.out)
        clear d2 hp HPL
        go_wp2_with fail
        refine LC.out.mono ?_
        rintro e w3 ⟨u, rfl, ru, d3, b3, k3⟩
        obtain ⟨⟨x, ok, l1⟩, hx⟩ : ∃ r, rl n 2 93 (l.drop 1) = r := ⟨_, rfl⟩
        rw [hx] at ru d3 E1 ⊢
        obtain ⟨A, cc, rfl⟩ := Kd.R_slice ru
        have X3 := Lib.hid (X2.out.keep k3 (Ne.symm N1.out)); have D3 := Lib.hid d3; have B3 := Lib.hid b3; have K3 := Lib.hid (K2.out.trans k3 (.inl rfl))
        have RU := Lib.hid (r_off ru X2.out.lt K2.out.1)
        obtain ⟨m0, m1, m2, f0, f1, f2⟩ := X3.out.cells
        clear ru d3 b3 k3 X2 B2 K2 LC hx
        go_wp2_with fail
        refine bodyPost_ret (results_ct rfl _ _ g6 67 #[.int .i64 x.f0, .int .i64 x.f1, (.slice A x.f2.length cc)] (0, 0) _ rfl (X3.out.set3 x.f0 x.f1 (.slice A x.f2.length cc)) Tryd.underlying67 rfl (by kernel_rfl)) rfl ?_
        rw [E1.out]
        exact ⟨_, rfl, Kd.R_mono (Kd.R_far (p := ⟨g6, 2, none⟩) (Kd.R_far (p := ⟨g6, 1, none⟩) (Kd.R_far (p := ⟨g6, 0, none⟩) RU.out (fun k hk => hk) _) (fun k hk => hk) _) (fun k hk => hk) _) (fun _ _ => trivial), ends3 D3.out B3.out K3.out HGL.out (Nat.le_of_eq HG6.out) _ _ _⟩
      | false =>
        rw [past_no hp] at d2
        have D1 := Lib.hid d2; have X1 := X2; have B1 := B2; have K1 := K2
        have P3 := Lib.hid hp
        clear d2 hp X2 B2 K2
        revert D1 X1 B1 K1
        generalize w2 = w1
        intro D1 X1 B1 K1
        go_wp2_with fail
        refine (takes_calls W0 g s l [123] w1 D1.out B1.out HS.out).mono ?_
        rintro e w2 ⟨rfl, d2, b2, k2⟩
        have X2 := Lib.hid (X1.out.keep k2 (Ne.symm N1.out)); have B2 := Lib.hid b2; have K2 := Lib.hid (K1.out.trans k2 (.inl rfl))
        clear b2 k2 X1 D1 B1 K1
        cases hp : pre [123] l with
        | true =>
          rw [past_yes hp] at d2
          have HPL : 1 + (l.drop 1).length = l.length := (pre_len hp).2
          have E1 := Lib.hid (show rv (n + 1) l = rl n 3 125 (l.drop 1) by rw [rv_succ]; rw [if_neg (by rw [P1.out]; exact Bool.false_ne_true), if_neg (by rw [P2.out]; exact Bool.false_ne_true), if_neg (by rw [P3.out]; exact Bool.false_ne_true), if_pos hp])
          have LC := Lib.hid (list_of W0 g s HS.out n HV.out 3 125 (l.drop 1) w2 (by have := HN.out; omega) d2 B2.out)
          clear d2 hp HPL
          go_wp2_with fail
          refine LC.out.mono ?_
          rintro e w3 ⟨u, rfl, ru, d3, b3, k3⟩
          obtain ⟨⟨x, ok, l1⟩, hx⟩ : ∃ r, rl n 3 125 (l.drop 1) = r := ⟨_, rfl⟩
          rw [hx] at ru d3 E1 ⊢
          obtain ⟨A, cc, rfl⟩ := Kd.R_slice ru
          have X3 := Lib.hid (X2.out.keep k3 (Ne.symm N1.out)); have D3 := Lib.hid d3; have B3 := Lib.hid b3; have K3 := Lib.hid (K2.out.trans k3 (.inl rfl))
          have RU := Lib.hid (r_off ru X2.out.lt K2.out.1)
          obtain ⟨m0, m1, m2, f0, f1, f2⟩ := X3.out.cells
          clear ru d3 b3 k3 X2 B2 K2 LC hx
          go_wp2_with fail
          refine bodyPost_ret (results_ct rfl _ _ g6 67 #[.int .i64 x.f0, .int .i64 x.f1, (.slice A x.f2.length cc)] (0, 0) _ rfl (X3.out.set3 x.f0 x.f1 (.slice A x.f2.length cc)) Tryd.underlying67 rfl (by kernel_rfl)) rfl ?_
          rw [E1.out]
          exact ⟨_, rfl, Kd.R_mono (Kd.R_far (p := ⟨g6, 2, none⟩) (Kd.R_far (p := ⟨g6, 1, none⟩) (Kd.R_far (p := ⟨g6, 0, none⟩) RU.out (fun k hk => hk) _) (fun k hk => hk) _) (fun k hk => hk) _) (fun _ _ => trivial), ends3 D3.out B3.out K3.out HGL.out (Nat.le_of_eq HG6.out) _ _ _⟩
        | false =>
          rw [past_no hp] at d2
          obtain ⟨m, hm⟩ : ∃ m, (l.takeWhile isC).length = m := ⟨_, rfl⟩
          obtain ⟨p, r2, hpl, hpd⟩ := d2
          obtain ⟨tk1, tk2, tk3⟩ := tw_take isC l
          rw [hm] at tk1 tk2 tk3
          have E1 := Lib.hid (show rv (n + 1) l = rn l by rw [rv_succ, if_neg (by rw [P1.out]; exact Bool.false_ne_true), if_neg (by rw [P2.out]; exact Bool.false_ne_true), if_neg (by rw [P3.out]; exact Bool.false_ne_true), if_neg (by rw [hp]; exact Bool.false_ne_true)])
          have HM := Lib.hid hm; have HPL := Lib.hid hpl; have HPD := Lib.hid hpd; have R2 := Lib.hid r2; have TK1 := Lib.hid tk1; have TK2 := Lib.hid tk2; have TK3 := Lib.hid tk3
          obtain ⟨m0, m1, t0, t1⟩ := rcells r2
          clear hp hm r2 hpl hpd tk1 tk2 tk3 P1 P2 P3
          go_wp2_with fail
          go_loopw [4] (fun i w' => ∃ (k : Nat), i = .int .i64 ((p + k : Nat) : Int) ∧ Hid (k ≤ m) ∧ Hid (IsS107 W0 w' g s (p : Int)) ∧ Hid (Bx w' g6 0 0 (.slice none 0 0)) ∧ Hid (Below W0.heap.size W0 w') ∧ Hid (KeepBut w w' g none)) (fun i _ => m - ((intOf i).toNat - p))
          case atStart => exact ⟨0, rfl, Lib.hid (Nat.zero_le _), R2, X2, B2, K2⟩
          case round =>
            clear R2 X2 B2 K2 m0 m1 t0 t1
            obtain ⟨k, rfl, HK, HR, HX, HB, HK2⟩ := hrel
            obtain ⟨m0, m1, t0, t1⟩ := rcells HR.out
            have HWJ := Lib.hid (wjb (a := p) (b := k) (by have := HPL.out; have := HS.out; have := HK.out; have := TK3.out; omega))
            obtain ⟨j, hj⟩ : ∃ j, p + k = j := ⟨_, rfl⟩
            rw [hj] at HWJ ⊢
            have HJ := Lib.hid hj
            clear hj
            by_cases he : j < s.size
            · have p1 : decide ((j : Int) < (s.size : Int)) = true := decide_eq_true (by omega)
              have ix := fun W => index_at s j he W
              obtain ⟨c, hc⟩ : ∃ c, s.data.toList.getD j 0 = c := ⟨_, rfl⟩
              rw [hc] at ix
              have hcl : l.getD k 0 = c := by rw [← HPD.out, drop_getD, HJ.out]; exact hc
              have IC := Lib.hid (Tryd.strings_IndexByte ⟨#[45, 48, 49, 50, 51, 52, 53, 54, 55, 56, 57]⟩ (c.toNat : Int) wr)
              rw [Int.toNat_natCast, show c.toNat.toUInt8 = c from UInt8.ofNat_toNat] at IC
              obtain ⟨i0, hi0⟩ : ∃ i0, Lib.indexByte digC c = i0 := ⟨_, rfl⟩
              have hic : isC c = decide (0 ≤ i0) := by rw [← hi0]; rfl
              rw [show Lib.indexByte (⟨#[45, 48, 49, 50, 51, 52, 53, 54, 55, 56, 57]⟩ : ByteArray).data.toList c = i0 from hi0] at IC
              have hkl : k < l.length := by have := HPL.out; have := HJ.out; omega
              cases hcc : isC c with
              | true =>
                have q1 : decide (0 ≤ i0) = true := by rw [← hic]; exact hcc
                have HKM := Lib.hid (show k < m by
                  rcases Nat.lt_or_ge k m with h | h
                  · exact h
                  · have := tw_end isC l (by rw [HM.out]; have := HK.out; omega)
                    rw [HM.out, show m = k by have := HK.out; omega, hcl, hcc] at this; cases this)
                clear hcc hic hi0 hkl hcl hc
                go_wp2_with fail
                refine IC.out.mono ?_
                rintro e w3 ⟨rfl, hw3⟩
                rw [hw3]
                clear hw3
                go_wp2_with fail
                go_roundw
                case rel => exact ⟨k + 1, by rw [HWJ.out], Lib.hid HKM.out, HR, HX, HB, HK2⟩
                case measure =>
                  have h1 := HKM.out; have h2 := HJ.out
                  rw [HWJ.out]
                  show m - ((((p + (k + 1) : Nat) : Int)).toNat - p) < m - ((j : Int).toNat - p)
                  rw [Int.toNat_natCast, Int.toNat_natCast]; omega
              | false =>
                have q1 : decide (0 ≤ i0) = false := by rw [← hic]; exact hcc
                have HKM := Lib.hid (show k = m by
                  rcases Nat.lt_or_ge k m with h | h
                  · have := tw_get isC l k (by rw [HM.out]; exact h)
                    rw [hcl, hcc] at this; cases this
                  · have := HK.out; omega)
                have HJS := Lib.hid (show j ≤ s.size by omega)
                clear hcc hic hi0 hkl hcl hc
                go_wp2_with fail
                refine IC.out.mono ?_
                rintro e w3 ⟨rfl, hw3⟩
                rw [hw3]
                clear hw3
                have z0 : (0 : Int) ≤ (p : Int) := by omega
                have z1 : (p : Int) ≤ (j : Int) := by have := HJ.out; omega
                have z2 : (j : Int) ≤ (s.size : Int) := by have := HJS.out; omega
                obtain ⟨⟨a, b⟩, hab⟩ : ∃ r, signedS (l.takeWhile isC) = r := ⟨_, rfl⟩
                have hex : (s.extract p j).data.toList = l.takeWhile isC := by
                  rw [ext_data _ _ _ HJS.out, HPD.out, show j - p = m by have := HJ.out; have := HKM.out; omega, TK1.out]
                have hes : (s.extract p j).size ≤ 140737488355328 := by rw [ext_size _ _ _ HJS.out]; have := HJS.out; have := HS.out; omega
                have SC := Lib.hid (fun (W : World) (hP : Pow W) (hE : Errs W) => signed_calls (s.extract p j) W hes hP hE)
                rw [hex, hab] at SC
                have E2 := Lib.hid (show rn l = (⟨0, a, []⟩, b == 0, l.dropWhile isC) by unfold rn; rw [hab])
                clear hab hex hes
                go_upto_region 12 with (fail)
                refine start_ (n := 16) (S := fun w' => w'.cell? ⟨g, 0, none⟩ = some (.string s) ∧ w'.cell? ⟨g, 1, none⟩ = some (.int .i64 (p : Int))) (ds := []) #[false, false, false, false, false, false, false, false, false, false, false, false, false, false, false, false] (by kernel_rfl) rfl rfl ⟨m0, m1⟩ (fun hHeld => ?_)
                refine with_tabW t12 b12 (fun HT_ HW_ => ?_)
                have HBd := Lib.hid (below_drew (Below.refl wr.heap.size wr))
                have X6 := Lib.hid (HX.out.below HBd.out); have R6 := Lib.hid (IsS107.below HR.out HBd.out); have B6 := Lib.hid (HB.out.trans (HBd.out.mono HB.out.size)); have K6 := Lib.hid (HK2.out.trans (KeepBut.of_below HBd.out g none) (.inl rfl))
                clear HBd
                generalize wr.drew = w6 at *
                clear m0 m1
                refine pure_ (i := 0) (N := some 53) (v := ?_) (a' := ?_) #[true, false, false, false, false, false, false, false, false, false, false, false, false, false, false, false] rfl rfl (any_of HT_.out (by kernel_rfl)) (fun _ _ _ h => h) (Or.inl ⟨by rfl, ?_⟩) ?_ ?_
                rotate_left
                · intro w'
                  go_simp
                  with_reducible rfl
                rotate_left
                · simp only [Act.put, List.setIfInBounds_toArray, List.set_cons_zero, List.set_cons_succ, i64_w, i32_w]
                  rfl
                refine pure_ (i := 1) (N := some 54) (v := ?_) (a' := ?_) #[true, true, false, false, false, false, false, false, false, false, false, false, false, false, false, false] rfl rfl (any_of HT_.out (by kernel_rfl)) (fun _ _ _ h => h) (Or.inl ⟨by rfl, ?_⟩) ?_ ?_
                rotate_left
                · intro w'
                  go_simp
                  with_reducible rfl
                rotate_left
                · simp only [Act.put, List.setIfInBounds_toArray, List.set_cons_zero, List.set_cons_succ, i64_w, i32_w]
                  rfl
                refine pure_ (i := 2) (N := some 55) (v := ?_) (a' := ?_) #[true, true, true, false, false, false, false, false, false, false, false, false, false, false, false, false] rfl rfl (any_of HT_.out (by kernel_rfl)) (fun _ _ _ h => h) (Or.inl ⟨by rfl, ?_⟩) ?_ ?_
                rotate_left
                · intro w'
                  go_simp
                  with_reducible rfl
                rotate_left
                · simp only [Act.put, List.setIfInBounds_toArray, List.set_cons_zero, List.set_cons_succ, i64_w, i32_w]
                  rfl
                refine take_ (i := 3) (N := some 56) (v := ?_) (a' := ?_) #[true, true, true, true, false, false, false, false, false, false, false, false, false, false, false, false] rfl rfl (take_ofW HT_.out HW_.out (by kernel_rfl)) (fun _ _ _ h => h) (Or.inl ⟨by rfl, ?_⟩) hHeld ?_ ?_
                rotate_left
                · rintro w' ⟨s0, s1⟩
                  go_simp
                  with_reducible rfl
                rotate_left
                · simp only [Act.put, List.setIfInBounds_toArray, List.set_cons_zero, List.set_cons_succ, i64_w, i32_w]
                  rfl
                refine pure_ (i := 4) (N := some 57) (v := ?_) (a' := ?_) #[true, true, true, true, true, false, false, false, false, false, false, false, false, false, false, false] rfl rfl (any_of HT_.out (by kernel_rfl)) (fun _ _ _ h => h) (Or.inl ⟨by rfl, ?_⟩) ?_ ?_
                rotate_left
                · intro w'
                  go_simp
                  with_reducible rfl
                rotate_left
                · simp only [Act.put, List.setIfInBounds_toArray, List.set_cons_zero, List.set_cons_succ, i64_w, i32_w]
                  rfl
                refine pure_ (i := 5) (N := some 58) (v := ?_) (a' := ?_) #[true, true, true, true, true, true, false, false, false, false, false, false, false, false, false, false] rfl rfl (any_of HT_.out (by kernel_rfl)) (fun _ _ _ h => h) (Or.inl ⟨by rfl, ?_⟩) ?_ ?_
                rotate_left
                · intro w'
                  go_simp
                  with_reducible rfl
                rotate_left
                · simp only [Act.put, List.setIfInBounds_toArray, List.set_cons_zero, List.set_cons_succ, i64_w, i32_w]
                  rfl
                refine pure_ (i := 6) (N := some 59) (v := ?_) (a' := ?_) #[true, true, true, true, true, true, true, false, false, false, false, false, false, false, false, false] rfl rfl (any_of HT_.out (by kernel_rfl)) (fun _ _ _ h => h) (Or.inl ⟨by rfl, ?_⟩) ?_ ?_
                rotate_left
                · intro w'
                  go_simp
                  with_reducible rfl
                rotate_left
                · simp only [Act.put, List.setIfInBounds_toArray, List.set_cons_zero, List.set_cons_succ, i64_w, i32_w]
                  rfl
                refine take_ (i := 7) (N := some 60) (v := ?_) (a' := ?_) #[true, true, true, true, true, true, true, true, false, false, false, false, false, false, false, false] rfl rfl (take_ofW HT_.out HW_.out (by kernel_rfl)) (fun _ _ _ h => h) (Or.inl ⟨by rfl, ?_⟩) hHeld ?_ ?_
                rotate_left
                · rintro w' ⟨s0, s1⟩
                  go_simp
                  with_reducible rfl
                rotate_left
                · simp only [Act.put, List.setIfInBounds_toArray, List.set_cons_zero, List.set_cons_succ, i64_w, i32_w]
                  rfl
                refine pure_ (i := 8) (N := some 61) (v := ?_) (a' := ?_) #[true, true, true, true, true, true, true, true, true, false, false, false, false, false, false, false] rfl rfl (any_of HT_.out (by kernel_rfl)) (fun _ _ _ h => h) (Or.inl ⟨by rfl, ?_⟩) ?_ ?_
                rotate_left
                · intro w'
                  go_simp
                  with_reducible rfl
                rotate_left
                · simp only [Act.put, List.setIfInBounds_toArray, List.set_cons_zero, List.set_cons_succ, i64_w, i32_w]
                  rfl
                refine pure_ (i := 9) (N := some 62) (v := ?_) (a' := ?_) #[true, true, true, true, true, true, true, true, true, true, false, false, false, false, false, false] rfl rfl (any_of HT_.out (by kernel_rfl)) (fun _ _ _ h => h) (Or.inl ⟨by rfl, ?_⟩) ?_ ?_
                rotate_left
                · intro w'
                  go_simp
                  with_reducible rfl
                rotate_left
                · simp only [Act.put, List.setIfInBounds_toArray, List.set_cons_zero, List.set_cons_succ, i64_w, i32_w]
                  rfl
                refine one_ (i := 10) (N := some 63) #[true, true, true, true, true, true, true, true, true, true, true, false, false, false, false, false] rfl rfl (one_of HT_.out (by kernel_rfl)) (by decide) (fun K hK => ?_)
                refine goes_ Tryd.func71 (by kernel_rfl) rfl #[.string (s.extract p j)] (by rfl) rfl rfl (by (try simp only [List.map_toArray, List.map_cons, List.map_nil]); first | done | rfl) ?_
                refine (SC.out w6 (HPW.out.below B6.out) (HER.out.below B6.out)).mono ?_
                rintro e w7 ⟨rfl, hb⟩
                refine ⟨_, rfl, hK.out _ _ ⟨pw_cell_below hb hHeld.1, pw_cell_below hb hHeld.2⟩ (fun hHeld => ?_)⟩
                have b7 := Lib.hid hb
                clear hb
                clear hK K
                refine norm_ (a' := ?_) ?_ ?_
                rotate_left
                · show Act.put _ (some 63) _ = _
                  simp only [Act.put, List.setIfInBounds_toArray, List.set_cons_zero, List.set_cons_succ, i64_w, i32_w]
                  rfl
                refine pure_ (i := 11) (N := some 52) (v := ?_) (a' := ?_) #[true, true, true, true, true, true, true, true, true, true, true, true, false, false, false, false] rfl rfl (any_of HT_.out (by kernel_rfl)) (fun _ _ _ h => h) (Or.inl ⟨by rfl, ?_⟩) ?_ ?_
                rotate_left
                · intro w'
                  go_simp
                  with_reducible rfl
                rotate_left
                · simp only [Act.put, List.setIfInBounds_toArray, List.set_cons_zero, List.set_cons_succ, i64_w, i32_w]
                  rfl
                refine pure_ (i := 12) (N := some 64) (v := ?_) (a' := ?_) #[true, true, true, true, true, true, true, true, true, true, true, true, true, false, false, false] rfl rfl (any_of HT_.out (by kernel_rfl)) (fun _ _ _ h => h) (Or.inl ⟨by rfl, ?_⟩) ?_ ?_
                rotate_left
                · intro w'
                  go_simp
                  with_reducible rfl
                rotate_left
                · simp only [Act.put, List.setIfInBounds_toArray, List.set_cons_zero, List.set_cons_succ, i64_w, i32_w]
                  rfl
                refine pure_ (i := 13) (N := some 65) (v := ?_) (a' := ?_) #[true, true, true, true, true, true, true, true, true, true, true, true, true, true, false, false] rfl rfl (any_of HT_.out (by kernel_rfl)) (fun _ _ _ h => h) (Or.inl ⟨by rfl, ?_⟩) ?_ ?_
                rotate_left
                · intro w'
                  go_simp
                  with_reducible rfl
                rotate_left
                · simp only [Act.put, List.setIfInBounds_toArray, List.set_cons_zero, List.set_cons_succ, i64_w, i32_w]
                  rfl
                refine pure_ (i := 14) (N := some 5) (v := ?_) (a' := ?_) #[true, true, true, true, true, true, true, true, true, true, true, true, true, true, true, false] rfl rfl (any_of HT_.out (by kernel_rfl)) (fun _ _ _ h => h) (Or.inl ⟨by rfl, ?_⟩) ?_ ?_
                rotate_left
                · intro w'
                  go_simp
                  with_reducible rfl
                rotate_left
                · simp only [Act.put, List.setIfInBounds_toArray, List.set_cons_zero, List.set_cons_succ, i64_w, i32_w]
                  rfl
                refine pure_ (i := 15) (N := some 6) (v := ?_) (a' := ?_) #[true, true, true, true, true, true, true, true, true, true, true, true, true, true, true, true] rfl rfl (any_of HT_.out (by kernel_rfl)) (fun _ _ _ h => h) (Or.inl ⟨by rfl, ?_⟩) ?_ ?_
                rotate_left
                · intro w'
                  go_simp
                  with_reducible rfl
                rotate_left
                · simp only [Act.put, List.setIfInBounds_toArray, List.set_cons_zero, List.set_cons_succ, i64_w, i32_w]
                  rfl
                refine done_ (done_of HT_.out (by kernel_rfl)) ?_
                have X7 := Lib.hid (X6.out.below b7.out); have R7 := Lib.hid (IsS107.below R6.out b7.out); have B7 := Lib.hid (B6.out.trans (b7.out.mono B6.out.size)); have K7 := Lib.hid (K6.out.trans (KeepBut.of_below b7.out g none) (.inl rfl))
                obtain ⟨m0, m1, t0, t1⟩ := rcells R7.out
                clear b7 X6 R6 B6 K6 hHeld HW_ HT_ SC
                go_upto_region 14 with (fail)
                obtain ⟨w8, hw8, x8, r8, b8, k8⟩ : ∃ w8 : World, w7.setCell ⟨g, 1, none⟩ (.int .i64 (j : Int)) = w8 ∧ Bx w8 g6 0 0 (.slice none 0 0) ∧ IsS107 W0 w8 g s (j : Int) ∧ Below W0.heap.size W0 w8 ∧ KeepBut w w8 g none :=
                  ⟨_, rfl, X7.out.far (a := ⟨g, 1, none⟩) (Ne.symm N1.out) _, R7.out.set_1 (j : Int), below_set B7.out R7.out.ge, K7.out.set_ 1 _⟩
                rw [hw8]
                have X8 := Lib.hid x8; have R8 := Lib.hid r8; have B8 := Lib.hid b8; have K8 := Lib.hid k8
                clear hw8 x8 r8 b8 k8 X7 R7 B7 K7 m0 m1 t0 t1
                go_wp2_with fail
                refine (PV.val_Int.calls a 0 a [] w8 rfl).mono ?_
                rintro e w3 ⟨u, rfl, ru, bel⟩
                obtain ⟨A, cc, rfl⟩ := Kd.R_slice ru
                have X3 := Lib.hid (X8.out.below bel); have B3 := Lib.hid (B8.out.trans (bel.mono B8.out.size)); have K3 := Lib.hid (K8.out.trans (KeepBut.of_below bel g none) (.inl rfl))
                have D3 := Lib.hid (show Rdr W0 w3 g s (l.dropWhile isC) from ⟨j, IsS107.below R8.out bel, by have := HPL.out; have := TK3.out; have := HJ.out; have := HKM.out; omega, by rw [← HJ.out, HKM.out, ← List.drop_drop, HPD.out, TK2.out]⟩)
                have RU := Lib.hid (r_off ru X8.out.lt K8.out.1)
                obtain ⟨m0, m1, m2, f0, f1, f2⟩ := X3.out.cells
                clear ru bel X8 R8 B8 K8
                go_wp2_with fail
                refine bodyPost_ret (results_ct rfl _ _ g6 67 #[.int .i64 0, .int .i64 a, (.slice A 0 cc)] (0, 0) _ rfl (X3.out.set3 0 a (.slice A 0 cc)) Tryd.underlying67 rfl (by kernel_rfl)) rfl ?_
                rw [E1.out, E2.out]
                exact ⟨_, rfl, Kd.R_mono (Kd.R_far (p := ⟨g6, 2, none⟩) (Kd.R_far (p := ⟨g6, 1, none⟩) (Kd.R_far (p := ⟨g6, 0, none⟩) RU.out (fun k hk => hk) _) (fun k hk => hk) _) (fun k hk => hk) _) (fun _ _ => trivial), ends3 D3.out B3.out K3.out HGL.out (Nat.le_of_eq HG6.out) _ _ _⟩

            · have p1 : decide ((j : Int) < (s.size : Int)) = false := decide_eq_false (by omega)
              have HKM := Lib.hid (show k = m by have := HPL.out; have := HJ.out; have := HK.out; have := TK3.out; omega)
              have HJS := Lib.hid (show j ≤ s.size by have := HPL.out; have := HJ.out; have := HK.out; have := TK3.out; omega)
              skip
              have z0 : (0 : Int) ≤ (p : Int) := by omega
              have z1 : (p : Int) ≤ (j : Int) := by have := HJ.out; omega
              have z2 : (j : Int) ≤ (s.size : Int) := by have := HJS.out; omega
              obtain ⟨⟨a, b⟩, hab⟩ : ∃ r, signedS (l.takeWhile isC) = r := ⟨_, rfl⟩
              have hex : (s.extract p j).data.toList = l.takeWhile isC := by
                rw [ext_data _ _ _ HJS.out, HPD.out, show j - p = m by have := HJ.out; have := HKM.out; omega, TK1.out]
              have hes : (s.extract p j).size ≤ 140737488355328 := by rw [ext_size _ _ _ HJS.out]; have := HJS.out; have := HS.out; omega
              have SC := Lib.hid (fun (W : World) (hP : Pow W) (hE : Errs W) => signed_calls (s.extract p j) W hes hP hE)
              rw [hex, hab] at SC
              have E2 := Lib.hid (show rn l = (⟨0, a, []⟩, b == 0, l.dropWhile isC) by unfold rn; rw [hab])
              clear hab hex hes
              go_upto_region 12 with (fail)
              refine start_ (n := 16) (S := fun w' => w'.cell? ⟨g, 0, none⟩ = some (.string s) ∧ w'.cell? ⟨g, 1, none⟩ = some (.int .i64 (p : Int))) (ds := []) #[false, false, false, false, false, false, false, false, false, false, false, false, false, false, false, false] (by kernel_rfl) rfl rfl ⟨m0, m1⟩ (fun hHeld => ?_)
              refine with_tabW t12 b12 (fun HT_ HW_ => ?_)
              have HBd := Lib.hid (below_drew (Below.refl wr.heap.size wr))
              have X6 := Lib.hid (HX.out.below HBd.out); have R6 := Lib.hid (IsS107.below HR.out HBd.out); have B6 := Lib.hid (HB.out.trans (HBd.out.mono HB.out.size)); have K6 := Lib.hid (HK2.out.trans (KeepBut.of_below HBd.out g none) (.inl rfl))
              clear HBd
              generalize wr.drew = w6 at *
              clear m0 m1
              refine pure_ (i := 0) (N := some 53) (v := ?_) (a' := ?_) #[true, false, false, false, false, false, false, false, false, false, false, false, false, false, false, false] rfl rfl (any_of HT_.out (by kernel_rfl)) (fun _ _ _ h => h) (Or.inl ⟨by rfl, ?_⟩) ?_ ?_
              rotate_left
              · intro w'
                go_simp
                with_reducible rfl
              rotate_left
              · simp only [Act.put, List.setIfInBounds_toArray, List.set_cons_zero, List.set_cons_succ, i64_w, i32_w]
                rfl
              refine pure_ (i := 1) (N := some 54) (v := ?_) (a' := ?_) #[true, true, false, false, false, false, false, false, false, false, false, false, false, false, false, false] rfl rfl (any_of HT_.out (by kernel_rfl)) (fun _ _ _ h => h) (Or.inl ⟨by rfl, ?_⟩) ?_ ?_
              rotate_left
              · intro w'
                go_simp
                with_reducible rfl
              rotate_left
              · simp only [Act.put, List.setIfInBounds_toArray, List.set_cons_zero, List.set_cons_succ, i64_w, i32_w]
                rfl
              refine pure_ (i := 2) (N := some 55) (v := ?_) (a' := ?_) #[true, true, true, false, false, false, false, false, false, false, false, false, false, false, false, false] rfl rfl (any_of HT_.out (by kernel_rfl)) (fun _ _ _ h => h) (Or.inl ⟨by rfl, ?_⟩) ?_ ?_
              rotate_left
              · intro w'
                go_simp
                with_reducible rfl
              rotate_left
              · simp only [Act.put, List.setIfInBounds_toArray, List.set_cons_zero, List.set_cons_succ, i64_w, i32_w]
                rfl
              refine take_ (i := 3) (N := some 56) (v := ?_) (a' := ?_) #[true, true, true, true, false, false, false, false, false, false, false, false, false, false, false, false] rfl rfl (take_ofW HT_.out HW_.out (by kernel_rfl)) (fun _ _ _ h => h) (Or.inl ⟨by rfl, ?_⟩) hHeld ?_ ?_
              rotate_left
              · rintro w' ⟨s0, s1⟩
                go_simp
                with_reducible rfl
              rotate_left
              · simp only [Act.put, List.setIfInBounds_toArray, List.set_cons_zero, List.set_cons_succ, i64_w, i32_w]
                rfl
              refine pure_ (i := 4) (N := some 57) (v := ?_) (a' := ?_) #[true, true, true, true, true, false, false, false, false, false, false, false, false, false, false, false] rfl rfl (any_of HT_.out (by kernel_rfl)) (fun _ _ _ h => h) (Or.inl ⟨by rfl, ?_⟩) ?_ ?_
              rotate_left
              · intro w'
                go_simp
                with_reducible rfl
              rotate_left
              · simp only [Act.put, List.setIfInBounds_toArray, List.set_cons_zero, List.set_cons_succ, i64_w, i32_w]
                rfl
              refine pure_ (i := 5) (N := some 58) (v := ?_) (a' := ?_) #[true, true, true, true, true, true, false, false, false, false, false, false, false, false, false, false] rfl rfl (any_of HT_.out (by kernel_rfl)) (fun _ _ _ h => h) (Or.inl ⟨by rfl, ?_⟩) ?_ ?_
              rotate_left
              · intro w'
                go_simp
                with_reducible rfl
              rotate_left
              · simp only [Act.put, List.setIfInBounds_toArray, List.set_cons_zero, List.set_cons_succ, i64_w, i32_w]
                rfl
              refine pure_ (i := 6) (N := some 59) (v := ?_) (a' := ?_) #[true, true, true, true, true, true, true, false, false, false, false, false, false, false, false, false] rfl rfl (any_of HT_.out (by kernel_rfl)) (fun _ _ _ h => h) (Or.inl ⟨by rfl, ?_⟩) ?_ ?_
              rotate_left
              · intro w'
                go_simp
                with_reducible rfl
              rotate_left
              · simp only [Act.put, List.setIfInBounds_toArray, List.set_cons_zero, List.set_cons_succ, i64_w, i32_w]
                rfl
              refine take_ (i := 7) (N := some 60) (v := ?_) (a' := ?_) #[true, true, true, true, true, true, true, true, false, false, false, false, false, false, false, false] rfl rfl (take_ofW HT_.out HW_.out (by kernel_rfl)) (fun _ _ _ h => h) (Or.inl ⟨by rfl, ?_⟩) hHeld ?_ ?_
              rotate_left
              · rintro w' ⟨s0, s1⟩
                go_simp
                with_reducible rfl
              rotate_left
              · simp only [Act.put, List.setIfInBounds_toArray, List.set_cons_zero, List.set_cons_succ, i64_w, i32_w]
                rfl
              refine pure_ (i := 8) (N := some 61) (v := ?_) (a' := ?_) #[true, true, true, true, true, true, true, true, true, false, false, false, false, false, false, false] rfl rfl (any_of HT_.out (by kernel_rfl)) (fun _ _ _ h => h) (Or.inl ⟨by rfl, ?_⟩) ?_ ?_
              rotate_left
              · intro w'
                go_simp
                with_reducible rfl
              rotate_left
              · simp only [Act.put, List.setIfInBounds_toArray, List.set_cons_zero, List.set_cons_succ, i64_w, i32_w]
                rfl
              refine pure_ (i := 9) (N := some 62) (v := ?_) (a' := ?_) #[true, true, true, true, true, true, true, true, true, true, false, false, false, false, false, false] rfl rfl (any_of HT_.out (by kernel_rfl)) (fun _ _ _ h => h) (Or.inl ⟨by rfl, ?_⟩) ?_ ?_
              rotate_left
              · intro w'
                go_simp
                with_reducible rfl
              rotate_left
              · simp only [Act.put, List.setIfInBounds_toArray, List.set_cons_zero, List.set_cons_succ, i64_w, i32_w]
                rfl
              refine one_ (i := 10) (N := some 63) #[true, true, true, true, true, true, true, true, true, true, true, false, false, false, false, false] rfl rfl (one_of HT_.out (by kernel_rfl)) (by decide) (fun K hK => ?_)
              refine goes_ Tryd.func71 (by kernel_rfl) rfl #[.string (s.extract p j)] (by rfl) rfl rfl (by (try simp only [List.map_toArray, List.map_cons, List.map_nil]); first | done | rfl) ?_
              refine (SC.out w6 (HPW.out.below B6.out) (HER.out.below B6.out)).mono ?_
              rintro e w7 ⟨rfl, hb⟩
              refine ⟨_, rfl, hK.out _ _ ⟨pw_cell_below hb hHeld.1, pw_cell_below hb hHeld.2⟩ (fun hHeld => ?_)⟩
              have b7 := Lib.hid hb
              clear hb
              clear hK K
              refine norm_ (a' := ?_) ?_ ?_
              rotate_left
              · show Act.put _ (some 63) _ = _
                simp only [Act.put, List.setIfInBounds_toArray, List.set_cons_zero, List.set_cons_succ, i64_w, i32_w]
                rfl
              refine pure_ (i := 11) (N := some 52) (v := ?_) (a' := ?_) #[true, true, true, true, true, true, true, true, true, true, true, true, false, false, false, false] rfl rfl (any_of HT_.out (by kernel_rfl)) (fun _ _ _ h => h) (Or.inl ⟨by rfl, ?_⟩) ?_ ?_
              rotate_left
              · intro w'
                go_simp
                with_reducible rfl
              rotate_left
              · simp only [Act.put, List.setIfInBounds_toArray, List.set_cons_zero, List.set_cons_succ, i64_w, i32_w]
                rfl
              refine pure_ (i := 12) (N := some 64) (v := ?_) (a' := ?_) #[true, true, true, true, true, true, true, true, true, true, true, true, true, false, false, false] rfl rfl (any_of HT_.out (by kernel_rfl)) (fun _ _ _ h => h) (Or.inl ⟨by rfl, ?_⟩) ?_ ?_
              rotate_left
              · intro w'
                go_simp
                with_reducible rfl
              rotate_left
              · simp only [Act.put, List.setIfInBounds_toArray, List.set_cons_zero, List.set_cons_succ, i64_w, i32_w]
                rfl
              refine pure_ (i := 13) (N := some 65) (v := ?_) (a' := ?_) #[true, true, true, true, true, true, true, true, true, true, true, true, true, true, false, false] rfl rfl (any_of HT_.out (by kernel_rfl)) (fun _ _ _ h => h) (Or.inl ⟨by rfl, ?_⟩) ?_ ?_
              rotate_left
              · intro w'
                go_simp
                with_reducible rfl
              rotate_left
              · simp only [Act.put, List.setIfInBounds_toArray, List.set_cons_zero, List.set_cons_succ, i64_w, i32_w]
                rfl
              refine pure_ (i := 14) (N := some 5) (v := ?_) (a' := ?_) #[true, true, true, true, true, true, true, true, true, true, true, true, true, true, true, false] rfl rfl (any_of HT_.out (by kernel_rfl)) (fun _ _ _ h => h) (Or.inl ⟨by rfl, ?_⟩) ?_ ?_
              rotate_left
              · intro w'
                go_simp
                with_reducible rfl
              rotate_left
              · simp only [Act.put, List.setIfInBounds_toArray, List.set_cons_zero, List.set_cons_succ, i64_w, i32_w]
                rfl
              refine pure_ (i := 15) (N := some 6) (v := ?_) (a' := ?_) #[true, true, true, true, true, true, true, true, true, true, true, true, true, true, true, true] rfl rfl (any_of HT_.out (by kernel_rfl)) (fun _ _ _ h => h) (Or.inl ⟨by rfl, ?_⟩) ?_ ?_
              rotate_left
              · intro w'
                go_simp
                with_reducible rfl
              rotate_left
              · simp only [Act.put, List.setIfInBounds_toArray, List.set_cons_zero, List.set_cons_succ, i64_w, i32_w]
                rfl
              refine done_ (done_of HT_.out (by kernel_rfl)) ?_
              have X7 := Lib.hid (X6.out.below b7.out); have R7 := Lib.hid (IsS107.below R6.out b7.out); have B7 := Lib.hid (B6.out.trans (b7.out.mono B6.out.size)); have K7 := Lib.hid (K6.out.trans (KeepBut.of_below b7.out g none) (.inl rfl))
              obtain ⟨m0, m1, t0, t1⟩ := rcells R7.out
              clear b7 X6 R6 B6 K6 hHeld HW_ HT_ SC
              go_upto_region 14 with (fail)
              obtain ⟨w8, hw8, x8, r8, b8, k8⟩ : ∃ w8 : World, w7.setCell ⟨g, 1, none⟩ (.int .i64 (j : Int)) = w8 ∧ Bx w8 g6 0 0 (.slice none 0 0) ∧ IsS107 W0 w8 g s (j : Int) ∧ Below W0.heap.size W0 w8 ∧ KeepBut w w8 g none :=
                ⟨_, rfl, X7.out.far (a := ⟨g, 1, none⟩) (Ne.symm N1.out) _, R7.out.set_1 (j : Int), below_set B7.out R7.out.ge, K7.out.set_ 1 _⟩
              rw [hw8]
              have X8 := Lib.hid x8; have R8 := Lib.hid r8; have B8 := Lib.hid b8; have K8 := Lib.hid k8
              clear hw8 x8 r8 b8 k8 X7 R7 B7 K7 m0 m1 t0 t1
              go_wp2_with fail
              refine (PV.val_Int.calls a 0 a [] w8 rfl).mono ?_
              rintro e w3 ⟨u, rfl, ru, bel⟩
              obtain ⟨A, cc, rfl⟩ := Kd.R_slice ru
              have X3 := Lib.hid (X8.out.below bel); have B3 := Lib.hid (B8.out.trans (bel.mono B8.out.size)); have K3 := Lib.hid (K8.out.trans (KeepBut.of_below bel g none) (.inl rfl))
              have D3 := Lib.hid (show Rdr W0 w3 g s (l.dropWhile isC) from ⟨j, IsS107.below R8.out bel, by have := HPL.out; have := TK3.out; have := HJ.out; have := HKM.out; omega, by rw [← HJ.out, HKM.out, ← List.drop_drop, HPD.out, TK2.out]⟩)
              have RU := Lib.hid (r_off ru X8.out.lt K8.out.1)
              obtain ⟨m0, m1, m2, f0, f1, f2⟩ := X3.out.cells
              clear ru bel X8 R8 B8 K8
              go_wp2_with fail
              refine bodyPost_ret (results_ct rfl _ _ g6 67 #[.int .i64 0, .int .i64 a, (.slice A 0 cc)] (0, 0) _ rfl (X3.out.set3 0 a (.slice A 0 cc)) Tryd.underlying67 rfl (by kernel_rfl)) rfl ?_
              rw [E1.out, E2.out]
              exact ⟨_, rfl, Kd.R_mono (Kd.R_far (p := ⟨g6, 2, none⟩) (Kd.R_far (p := ⟨g6, 1, none⟩) (Kd.R_far (p := ⟨g6, 0, none⟩) RU.out (fun k hk => hk) _) (fun k hk => hk) _) (fun k hk => hk) _) (fun _ _ => trivial), ends3 D3.out B3.out K3.out HGL.out (Nat.le_of_eq HG6.out) _ _ _⟩

end Go.Proofs.YtfofpammnfcmiaaDoor.Vl
