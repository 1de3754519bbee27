/- Marline, values: whether two are the same, by the program. Conditions: as each says. -/
import Derived.Test.YtfofpammnfcmiaaDoorV2
namespace Go.Proofs.YtfofpammnfcmiaaDoor.Vl
open Go.RowKit Go.Proofs.YtfofpammnfcmiaaDoorW.PrintWords Go.Proofs.YtfofpammnfcmiaaDoorW.PrintLast Go.Proofs.YtfofpammnfcmiaaDoorW.PrintMore Go.Proofs.YtfofpammnfcmiaaDoor.Kinds Go.Proofs.YtfofpammnfcmiaaDoor.Obj
set_option linter.unusedVariables false
set_option linter.unusedSimpArgs false
set_option maxRecDepth 100000
abbrev fsame : Value := .func (.func 58) #[] #[]
set_option maxHeartbeats 4000000 in
theorem equal_of (A : Option Addr) (c : Nat) (l : List S67) (A' : Option Addr) (c' : Nat) (l' : List S67) (w : World) (hr : Kd.C k67 w A l.length l) (hr' : Kd.C k67 w A' l'.length l')
    (ih : ∀ (x y : S67) (B : Option Addr) (d : Nat) (B' : Option Addr) (d' : Nat) (W : World), x ∈ l → x.f2.length ≤ d → Kd.C k67 W B x.f2.length x.f2 → y.f2.length ≤ d' → Kd.C k67 W B' y.f2.length y.f2 →
      Calls Tryd.prog 58 #[v67 x.f0 x.f1 B x.f2.length d, v67 y.f0 y.f1 B' y.f2.length d'] W fun e w' => e = .returned (.bool (same x y)) ∧ Below W.heap.size W w') :
    Calls Tryd.prog 80 #[.slice A l.length c, .slice A' l'.length c', fsame] w fun e w' => e = .returned (.bool (sameL l l')) ∧ Below w.heap.size w w' := by
  have hu67 := Tryd.underlying67
  have HR := Lib.hid hr; have HR' := Lib.hid hr'; have IH := Lib.hid ih
  have m1 := CL hr; have m2 := CL hr'
  clear hr hr' ih
  by_cases hlen : l.length = l'.length
  · have h0 : (l.length == l'.length) = true := by simp [hlen]
    have h0' : (l.length != l'.length) = false := by simp [hlen]
    obtain ⟨L, hL⟩ : ∃ L, l.length = L := ⟨_, rfl⟩
    have hL' : l'.length = L := by omega
    rw [hL'] at HR' m2 h0 h0' ⊢
    rw [hL] at HR m1 h0 h0' ⊢
    have EL := Lib.hid hL; have EL' := Lib.hid hL'
    clear hL hL' hlen
    go_enter Tryd.func80, Tryd.ntmps80
    go_wp2_with fail
    go_loopw [17] (fun i wr => ∃ n : Nat, i = .int .i64 n ∧ n ≤ L ∧ Hid (sameL l l' = sameL (l.drop n) (l'.drop n)) ∧ Hid (Below w.heap.size w wr)) (fun i _ => L - (intOf i).toNat)
    case atStart => exact ⟨0, rfl, by omega, Lib.hid rfl, Lib.hid (Below.refl _ _)⟩
    case round =>
      obtain ⟨n, rfl, hn, HS, HB⟩ := hrel
      by_cases hx : (n : Int) < (L : Int)
      · have hx1 := decide_eq_true hx
        have hlt : n < L := by omega
        have hm := rd_mem l n (by rw [EL.out]; exact hlt)
        have hst := sameL_step l l' n (by rw [EL.out]; exact hlt) (by rw [EL'.out]; exact hlt)
        obtain ⟨ad, B, d, ea, x0, x1, x2, xl, xr⟩ := at_T67 HR.out (n : Int) (by omega) hx
        obtain ⟨ad', B', d', ea', y0, y1, y2, yl, yr⟩ := at_T67 HR'.out (n : Int) (by omega) hx
        cases ea; cases ea'
        obtain ⟨x, ex⟩ : ∃ x, rd_T67 l n = x := ⟨_, rfl⟩
        obtain ⟨y, ey⟩ : ∃ y, rd_T67 l' n = y := ⟨_, rfl⟩
        rw [ex] at x0 x1 x2 xl xr hm hst
        rw [ey] at y0 y1 y2 yl yr hst
        replace x0 := at_later HB.out x0; replace x1 := at_later HB.out x1; replace x2 := at_later HB.out x2
        have hb1 := blk67 x B d wr
        replace y0 := at_later hb1 (at_later HB.out y0); replace y1 := at_later hb1 (at_later HB.out y1); replace y2 := at_later hb1 (at_later HB.out y2)
        rw [Int.toNat_natCast] at x0 x1 x2 y0 y1 y2
        have CALL := Lib.hid (fun W (hW : Below wr.heap.size wr W) => IH.out x y B d B' d' W hm xl (Kd.C_below (Kd.C_below xr HB.out) hW) yl (Kd.C_below (Kd.C_below yr HB.out) hW))
        have pn := eq_true hx
        have qn := eq_true (show (0 : Int) ≤ (n : Int) by omega)
        have e1 : wrap64 ((n : Int) + 1) = (n : Int) + 1 := by unfold wrap64; omega
        have HST := Lib.hid hst
        have HLT := Lib.hid hlt
        have HW1 : Hid (∃ w1 : World, wr.alloc (.cells #[.int .i64 x.f0, .int .i64 x.f1, .slice B x.f2.length d] 67) = w1 ∧ w1.heap[wr.heap.size]? = some (.cells #[.int .i64 x.f0, .int .i64 x.f1, .slice B x.f2.length d] 67 (0, 0)) ∧ Below wr.heap.size wr w1) := Lib.hid ⟨_, rfl, blk_new wr _, hb1⟩
        clear xl xr yl yr ex ey hst hm hlt hb1
        go_upto_region 6 with (fail)
        obtain ⟨w1, hw1, k1, b1⟩ := HW1.out
        rw [hw1] at y0 y1 y2 ⊢
        obtain ⟨g8, hg8⟩ : ∃ g8, wr.heap.size = g8 := ⟨_, rfl⟩
        rw [hg8] at k1 ⊢
        have B1 := Lib.hid b1
        have K1 := Lib.hid k1
        have HW2 : Hid (∃ w2 : World, w1.alloc (.cells #[.int .i64 y.f0, .int .i64 y.f1, .slice B' y.f2.length d'] 67) = w2 ∧ w2.heap[w1.heap.size]? = some (.cells #[.int .i64 y.f0, .int .i64 y.f1, .slice B' y.f2.length d'] 67 (0, 0)) ∧ w2.heap[g8]? = some (.cells #[.int .i64 x.f0, .int .i64 x.f1, .slice B x.f2.length d] 67 (0, 0)) ∧ Below wr.heap.size wr w2) := Lib.hid ⟨_, rfl, blk_new w1 _, blk_alloc k1 _, below_alloc b1 _⟩
        clear hw1 k1 b1 HW1
        go_upto_region 7 with (fail)
        obtain ⟨w2, hw2, k2, k3, b2⟩ := HW2.out
        rw [hw2]
        obtain ⟨g9, hg9⟩ : ∃ g9, w1.heap.size = g9 := ⟨_, rfl⟩
        rw [hg9] at k2 ⊢
        have B2 := Lib.hid b2
        have u0 := blk_cell k3 0; have u1 := blk_cell k3 1; have u2 := blk_cell k3 2
        have v0 := blk_cell k2 0; have v1 := blk_cell k2 1; have v2 := blk_cell k2 2
        have u0 : w2.cell? ⟨g8, 0, none⟩ = some (.int .i64 x.f0) := u0
        have u1 : w2.cell? ⟨g8, 1, none⟩ = some (.int .i64 x.f1) := u1
        have u2 : w2.cell? ⟨g8, 2, none⟩ = some (.slice B x.f2.length d) := u2
        have v0 : w2.cell? ⟨g9, 0, none⟩ = some (.int .i64 y.f0) := v0
        have v1 : w2.cell? ⟨g9, 1, none⟩ = some (.int .i64 y.f1) := v1
        have v2 : w2.cell? ⟨g9, 2, none⟩ = some (.slice B' y.f2.length d') := v2
        clear hw2 k2 k3 b2 HW2 x0 x1 x2 y0 y1 y2
        go_wp2_with fail
        refine (CALL.out _ B2.out).mono ?_
        rintro e w3 ⟨rfl, hb⟩
        have HB3 := Lib.hid ((HB.out.trans (B2.out.mono HB.out.size)).trans (hb.mono (Nat.le_trans HB.out.size B2.out.size)))
        clear hb u0 u1 u2 v0 v1 v2
        cases hs : same x y with
        | true =>
          have HSXY := Lib.hid hs
          clear hs
          go_wp2_with fail
          go_roundw
          case rel => exact ⟨n + 1, by push_cast; rfl, HLT.out, Lib.hid (by rw [HS.out, HST.out, HSXY.out]; rfl), HB3⟩
          case measure => have := HLT.out; simp [intOf]; omega
        | false =>
          have HSXY := Lib.hid hs
          clear hs
          go_wp2_with fail
          go_ret
          exact ⟨ret_bool (by rw [HS.out, HST.out, HSXY.out]; rfl), HB3.out⟩
      · have hx1 := decide_eq_false hx
        have hne : n = L := by omega
        have HNE := Lib.hid hne
        clear hne
        go_wp2_with fail
        go_ret
        exact ⟨ret_bool (by rw [HS.out, List.drop_of_length_le (by rw [EL.out, HNE.out]; exact Nat.le_refl _), List.drop_of_length_le (by rw [EL'.out, HNE.out]; exact Nat.le_refl _)]; rfl), HB.out⟩
  · have e : sameL l l' = false := sameL_len l l' hlen
    rw [e]
    have h0 : (l.length == l'.length) = false := beq_eq_false_iff_ne.2 hlen
    have h0' : (l.length != l'.length) = true := by simp [hlen]
    clear e
    go_enter Tryd.func80, Tryd.ntmps80
    go_wp2_with fail
    go_ret
    exact ⟨rfl, Below.refl _ _⟩
set_option maxHeartbeats 4000000 in
theorem vsame_of (a b : Int) (A : Option Addr) (c : Nat) (l : List S67) (a' b' : Int) (A' : Option Addr) (c' : Nat) (l' : List S67) (w : World)
    (hall : ∀ W, Below w.heap.size w W → Calls Tryd.prog 80 #[.slice A l.length c, .slice A' l'.length c', fsame] W fun e w' => e = .returned (.bool (sameL l l')) ∧ Below W.heap.size W w') :
    Calls Tryd.prog 58 #[v67 a b A l.length c, v67 a' b' A' l'.length c'] w fun e w' => e = .returned (.bool (same ⟨a, b, l⟩ ⟨a', b', l'⟩)) ∧ Below w.heap.size w w' := by
  have hu67 := Tryd.underlying67
  have HA := Lib.hid hall
  clear hall
  have hB := Lib.hid (below_alloc (below_alloc (Below.refl w.heap.size w) (.cells #[.int .i64 a, .int .i64 b, .slice A l.length c] 67)) (.cells #[.int .i64 a', .int .i64 b', .slice A' l'.length c'] 67))
  by_cases ha : a = a'
  · by_cases hb : b = b'
    · have e : same ⟨a, b, l⟩ ⟨a', b', l'⟩ = sameL l l' := by simp [same, ha, hb]
      rw [e]
      subst ha hb
      clear e
      go_enter Tryd.func58, Tryd.ntmps58
      go_wp2_with fail
      refine (HA.out _ hB.out).mono ?_
      rintro e w' ⟨rfl, hb⟩
      have HB2 := Lib.hid hb
      clear hb
      go_wp2_with fail
      go_ret
      exact ⟨rfl, hB.out.trans (Below.mono HB2.out (by simp; omega))⟩
    · have e : same ⟨a, b, l⟩ ⟨a', b', l'⟩ = false := by simp [same, hb]
      rw [e]
      have h1 : (b == b') = false := beq_eq_false_iff_ne.2 hb
      clear e
      subst ha
      go_enter Tryd.func58, Tryd.ntmps58
      go_wp2_with fail
      go_ret
      exact ⟨rfl, hB.out⟩
  · have e : same ⟨a, b, l⟩ ⟨a', b', l'⟩ = false := by simp [same, ha]
    rw [e]
    have h1 : (a == a') = false := beq_eq_false_iff_ne.2 ha
    clear e
    go_enter Tryd.func58, Tryd.ntmps58
    go_wp2_with fail
    go_ret
    exact ⟨rfl, hB.out⟩
theorem vsame_n : ∀ (n : Nat) (x y : S67) (A : Option Addr) (c : Nat) (A' : Option Addr) (c' : Nat) (w : World), sz x < n → x.f2.length ≤ c → Kd.C k67 w A x.f2.length x.f2 → y.f2.length ≤ c' → Kd.C k67 w A' y.f2.length y.f2 →
    Calls Tryd.prog 58 #[v67 x.f0 x.f1 A x.f2.length c, v67 y.f0 y.f1 A' y.f2.length c'] w fun e w' => e = .returned (.bool (same x y)) ∧ Below w.heap.size w w' := by
  intro n
  induction n with
  | zero => intro x y A c A' c' w h; omega
  | succ n ih =>
    intro x y A c A' c' w h h1 h2 h3 h4
    obtain ⟨xa, xb, xl⟩ := x
    obtain ⟨ya, yb, yl⟩ := y
    refine vsame_of xa xb A c xl ya yb A' c' yl w (fun W hW => equal_of A c xl A' c' yl W (Kd.C_below h2 hW) (Kd.C_below h4 hW) (fun u v B d B' d' W2 hu g1 g2 g3 g4 => ?_))
    have hz := szL_mem xl u hu
    have hz' : sz ⟨xa, xb, xl⟩ = szL xl + 1 := by simp [sz]
    exact ih u v B d B' d' W2 (by omega) g1 g2 g3 g4
/-- two values are the same, by the program. -/
theorem vsame_calls (x y : S67) (A : Option Addr) (c : Nat) (A' : Option Addr) (c' : Nat) (w : World) (h1 : x.f2.length ≤ c) (h2 : Kd.C k67 w A x.f2.length x.f2) (h3 : y.f2.length ≤ c') (h4 : Kd.C k67 w A' y.f2.length y.f2) :
    Calls Tryd.prog 58 #[v67 x.f0 x.f1 A x.f2.length c, v67 y.f0 y.f1 A' y.f2.length c'] w fun e w' => e = .returned (.bool (same x y)) ∧ Below w.heap.size w w' := vsame_n _ x y A c A' c' w (Nat.lt_succ_self _) h1 h2 h3 h4
end Go.Proofs.YtfofpammnfcmiaaDoor.Vl
