/- Marline, values: whether two lists of values are the same, by the reference. Conditions: as each says. -/
import Derived.Test.YtfofpammnfcmiaaDoorProg
import Derived.Test.YtfofpammnfcmiaaDoorObj
import Derived.Test.YtfofpammnfcmiaaDoorK
import Derived.Deep.DeepMust
import Derived.Deep.RegionHeld3
import Derived.Deep.RegionLaw
import Derived.BigRegion
import Derived.StillTailTactics
namespace Go.Proofs.YtfofpammnfcmiaaDoor.Vl
open Go.RowKit Go.Proofs.YtfofpammnfcmiaaDoorW.PrintWords Go.Proofs.YtfofpammnfcmiaaDoorW.PrintLast Go.Proofs.YtfofpammnfcmiaaDoorW.PrintMore Go.Proofs.YtfofpammnfcmiaaDoor.Kinds Go.Proofs.YtfofpammnfcmiaaDoor.Obj
set_option linter.unusedVariables false
set_option linter.unusedSimpArgs false

mutual
/-- how many values there are in a value. -/
def sz : S67 → Nat
  | ⟨_, _, l⟩ => szL l + 1
def szL : List S67 → Nat
  | [] => 0
  | x :: l => sz x + szL l
end
mutual
/-- are two values the same. -/
def same : S67 → S67 → Bool
  | ⟨a, b, l⟩, ⟨c, d, m⟩ => decide (a = c) && (decide (b = d) && sameL l m)
def sameL : List S67 → List S67 → Bool
  | [], [] => true
  | [], _ :: _ => false
  | _ :: _, [] => false
  | x :: l, y :: m => same x y && sameL l m
end
mutual
theorem same_iff : ∀ x y, same x y = true ↔ x = y
  | ⟨a, b, l⟩, ⟨c, d, m⟩ => by simp [same, sameL_iff l m]
theorem sameL_iff : ∀ l m, sameL l m = true ↔ l = m
  | [], [] => by simp [sameL]
  | [], _ :: _ => by simp [sameL]
  | _ :: _, [] => by simp [sameL]
  | x :: l, y :: m => by simp [sameL, same_iff x y, sameL_iff l m]
end
theorem sz_pos : ∀ x, 0 < sz x := fun x => by cases x; simp [sz]
theorem sz_eq (x : S67) : sz x = szL x.f2 + 1 := by cases x; simp [sz]
theorem szL_mem : ∀ (l : List S67) x, x ∈ l → sz x ≤ szL l
  | [], x, h => by simp at h
  | y :: l, x, h => by
    rcases List.mem_cons.1 h with rfl | h
    · simp [szL]
    · have := szL_mem l x h; simp [szL]; omega
theorem rd_mem (l : List S67) (n : Nat) (h : n < l.length) : rd_T67 l n ∈ l := by
  unfold rd_T67
  rw [Int.toNat_natCast, List.getD_eq_getElem?_getD, List.getElem?_eq_getElem h]
  exact List.getElem_mem _
/-- the first n of two lists are the same. -/
theorem sameL_step (l m : List S67) (n : Nat) (h : n < l.length) (k : n < m.length) : sameL (l.drop n) (m.drop n) = (same (rd_T67 l n) (rd_T67 m n) && sameL (l.drop (n + 1)) (m.drop (n + 1))) := by
  rw [List.drop_eq_getElem_cons h, List.drop_eq_getElem_cons k]
  unfold rd_T67
  simp only [sameL, Int.toNat_natCast, List.getD_eq_getElem?_getD, List.getElem?_eq_getElem h, List.getElem?_eq_getElem k, Option.getD_some]
theorem sameL_len (l m : List S67) (h : ¬ l.length = m.length) : sameL l m = false := by
  rw [Bool.eq_false_iff]
  intro e
  exact h (by rw [(sameL_iff l m).1 e])

abbrev v67 (a b : Int) (A : Option Addr) (n c : Nat) : Value := .agg #[.int .i64 a, .int .i64 b, .slice A n c]

set_option maxHeartbeats 2000000 in
set_option maxRecDepth 100000 in
theorem same_of (a b : Int) (A : Option Addr) (c : Nat) (l : List S67) (a' b' : Int) (A' : Option Addr) (c' : Nat) (l' : List S67) (w : World)
    (hall : ∀ W, Below w.heap.size w W → Calls Tryd.prog 51 #[.slice A l.length c, .slice A' l'.length c'] W fun e w' => e = .returned (.bool (sameL l l')) ∧ Below W.heap.size W w') :
    Calls Tryd.prog 45 #[v67 a b A l.length c, v67 a' b' A' l'.length c'] w fun e w' => e = .returned (.bool (same ⟨a, b, l⟩ ⟨a', b', l'⟩)) ∧ Below w.heap.size w w' := by
  have hu67 := Tryd.underlying67
  have HA := Lib.hid hall
  clear hall
  have hB := Lib.hid (below_alloc (below_alloc (Below.refl w.heap.size w) (.cells #[.int .i64 a, .int .i64 b, .slice A l.length c] 67)) (.cells #[.int .i64 a', .int .i64 b', .slice A' l'.length c'] 67))
  by_cases ha : a = a'
  · by_cases hb : b = b'
    · have e : same ⟨a, b, l⟩ ⟨a', b', l'⟩ = sameL l l' := by simp [same, ha, hb]
      rw [e]
      subst ha hb
      clear e
      go_enter Tryd.func45, Tryd.ntmps45
      go_wp2_with ((go_at_call 51); refine (HA.out _ hB.out).mono ?_; rintro e w' ⟨rfl, hb⟩; have HB2 := Lib.hid hb; clear hb)
      go_ret
      exact ⟨rfl, hB.out.trans (Below.mono HB2.out (by simp; omega))⟩
    · have e : same ⟨a, b, l⟩ ⟨a', b', l'⟩ = false := by simp [same, hb]
      rw [e]
      have h1 : (b == b') = false := beq_eq_false_iff_ne.2 hb
      clear e
      subst ha
      go_enter Tryd.func45, Tryd.ntmps45
      go_wp2_with fail
      go_ret
      exact ⟨rfl, hB.out⟩
  · have e : same ⟨a, b, l⟩ ⟨a', b', l'⟩ = false := by simp [same, ha]
    rw [e]
    have h1 : (a == a') = false := beq_eq_false_iff_ne.2 ha
    clear e
    go_enter Tryd.func45, Tryd.ntmps45
    go_wp2_with fail
    go_ret
    exact ⟨rfl, hB.out⟩
end Go.Proofs.YtfofpammnfcmiaaDoor.Vl
namespace Go.Proofs.YtfofpammnfcmiaaDoor.Vl
open Go.RowKit Go.Proofs.YtfofpammnfcmiaaDoorW.PrintWords Go.Proofs.YtfofpammnfcmiaaDoorW.PrintLast Go.Proofs.YtfofpammnfcmiaaDoorW.PrintMore Go.Proofs.YtfofpammnfcmiaaDoor.Kinds Go.Proofs.YtfofpammnfcmiaaDoor.Obj
set_option linter.unusedVariables false
set_option linter.unusedSimpArgs false

theorem CL {w : World} {A : Option Addr} {n : Nat} {l : List S67} (h : Kd.C k67 w A n l) : n ≤ 9223372036854775807 := h.2.1
/-- what lay in w lies in w'. -/
theorem at_later {w w' : World} (hb : Below w.heap.size w w') {a : Addr} {v : Value} (h : w.cell? a = some v) : w'.cell? a = some v := pw_cell_below hb h
set_option maxHeartbeats 4000000 in
set_option maxRecDepth 100000 in
theorem sameAll_of (A : Option Addr) (c : Nat) (l : List S67) (A' : Option Addr) (c' : Nat) (l' : List S67) (w : World) (hl : l.length ≤ c) (hr : Kd.C k67 w A l.length l) (hl' : l'.length ≤ c') (hr' : Kd.C k67 w A' l'.length l')
    (ih : ∀ (x y : S67) (B : Option Addr) (d : Nat) (B' : Option Addr) (d' : Nat) (W : World), x ∈ l → x.f2.length ≤ d → Kd.C k67 W B x.f2.length x.f2 → y.f2.length ≤ d' → Kd.C k67 W B' y.f2.length y.f2 →
      Calls Tryd.prog 45 #[v67 x.f0 x.f1 B x.f2.length d, v67 y.f0 y.f1 B' y.f2.length d'] W fun e w' => e = .returned (.bool (same x y)) ∧ Below W.heap.size W w') :
    Calls Tryd.prog 51 #[.slice A l.length c, .slice A' l'.length c'] w fun e w' => e = .returned (.bool (sameL l l')) ∧ Below w.heap.size w w' := by
  have hu67 := Tryd.underlying67
  have HR := Lib.hid hr; have HR' := Lib.hid hr'; have IH := Lib.hid ih
  have m1 := CL hr; have m2 := CL hr'
  clear hr hr' ih
  by_cases hlen : l.length = l'.length
  · have h0 : (l.length == l'.length) = true := by simp [hlen]
    have h0' : (l.length != l'.length) = false := by simp [hlen]
    obtain ⟨L, hL⟩ : ∃ L, l.length = L := ⟨_, rfl⟩
    have hL' : l'.length = L := by omega
    rw [hL'] at HR' hl' m2 h0 h0' ⊢
    rw [hL] at HR hl m1 h0 h0' ⊢
    have EL := Lib.hid hL; have EL' := Lib.hid hL'
    clear hL hL' hlen
    go_enter Tryd.func51, Tryd.ntmps51
    go_wp2_with fail
    go_loopw [5] (fun i wr => ∃ n : Nat, i = .int .i64 n ∧ n ≤ L ∧ Hid (sameL l l' = sameL (l.drop n) (l'.drop n)) ∧ Hid (Below w.heap.size w wr)) (fun i _ => L - (intOf i).toNat)
    case atStart => exact ⟨0, rfl, by omega, Lib.hid rfl, Lib.hid (Below.refl _ _)⟩
    case round =>
      obtain ⟨n, rfl, hn, HS, HB⟩ := hrel
      by_cases hx : (n : Int) < (L : Int)
      · have hx1 := decide_eq_true hx
        have hlt : n < L := by omega
        have hm := rd_mem l n (by rw [EL.out]; exact hlt)
        have hst := sameL_step l l' n (by rw [EL.out]; exact hlt) (by rw [EL'.out]; exact hlt)
        obtain ⟨ad, B, d, ea, x0, x1, x2, xl, xr⟩ := at_T67 HR.out (n : Int) (by omega) hx
        obtain ⟨ad', B', d', ea', y0, y1, y2, yl, yr⟩ := at_T67 HR'.out (n : Int) (by omega) hx
        cases ea; cases ea'
        obtain ⟨x, ex⟩ : ∃ x, rd_T67 l n = x := ⟨_, rfl⟩
        obtain ⟨y, ey⟩ : ∃ y, rd_T67 l' n = y := ⟨_, rfl⟩
        rw [ex] at x0 x1 x2 xl xr hm hst
        rw [ey] at y0 y1 y2 yl yr hst
        replace x0 := at_later HB.out x0; replace x1 := at_later HB.out x1; replace x2 := at_later HB.out x2
        replace y0 := at_later HB.out y0; replace y1 := at_later HB.out y1; replace y2 := at_later HB.out y2
        rw [Int.toNat_natCast] at x0 x1 x2 y0 y1 y2
        have CALL := Lib.hid (fun W (hW : Below wr.heap.size wr W) => IH.out x y B d B' d' W hm xl (Kd.C_below (Kd.C_below xr HB.out) hW) yl (Kd.C_below (Kd.C_below yr HB.out) hW))
        have pn := eq_true hx
        have qn := eq_true (show (0 : Int) ≤ (n : Int) by omega)
        have e1 : IntKind.i64.wrap ((n : Int) + 1) = (n : Int) + 1 := IntWalk.i64_in _ (by omega)
        have HST := Lib.hid hst
        clear xl xr yl yr ex ey hst hm
        go_wp2_with fail
        go_still_tail 8, (by kernel_rfl)
        change wpList _ _ _ _ _ wr.drew
        have HB2 := Lib.hid (show Below wr.heap.size wr wr.drew from below_drew (Below.refl _ _))
        generalize wr.drew = w2 at *
        go_wp2_with fail
        refine (CALL.out _ HB2.out).mono ?_
        rintro e w3 ⟨rfl, hb⟩
        have HB3 := Lib.hid ((HB.out.trans (HB2.out.mono HB.out.size)).trans (hb.mono (Nat.le_trans HB.out.size HB2.out.size)))
        clear hb
        by_cases hs : same x y = true
        · have HSXY := Lib.hid hs
          rw [hs]
          clear hs
          go_wp2_with fail
          go_roundw
          case rel => exact ⟨n + 1, by push_cast; rfl, by omega, Lib.hid (by rw [HS.out, HST.out, HSXY.out]; rfl), HB3⟩
          case measure => simp [intOf]; omega
        · have hs' : same x y = false := by simpa using hs
          have HSXY := Lib.hid hs'
          rw [hs']
          clear hs hs'
          go_wp2_with fail
          go_ret
          exact ⟨ret_bool (by rw [HS.out, HST.out, HSXY.out]; rfl), HB3.out⟩
      · have hx1 := decide_eq_false hx
        have hne : n = L := by omega
        have HNE := Lib.hid hne
        clear hne
        go_wp2_with fail
        go_ret
        exact ⟨ret_bool (by rw [HS.out, List.drop_of_length_le (by rw [EL.out, HNE.out]; exact Nat.le_refl _), List.drop_of_length_le (by rw [EL'.out, HNE.out]; exact Nat.le_refl _)]; rfl), HB.out⟩
  · have e : sameL l l' = false := sameL_len l l' hlen
    rw [e]
    have h0 : (l.length == l'.length) = false := beq_eq_false_iff_ne.2 hlen
    have h0' : (l.length != l'.length) = true := by simp [hlen]
    clear e
    go_enter Tryd.func51, Tryd.ntmps51
    go_wp2_with fail
    go_ret
    exact ⟨rfl, Below.refl _ _⟩

theorem sameAll_n : ∀ (n : Nat) (A : Option Addr) (c : Nat) (l : List S67) (A' : Option Addr) (c' : Nat) (l' : List S67) (w : World), szL l < n → l.length ≤ c → Kd.C k67 w A l.length l → l'.length ≤ c' → Kd.C k67 w A' l'.length l' →
    Calls Tryd.prog 51 #[.slice A l.length c, .slice A' l'.length c'] w fun e w' => e = .returned (.bool (sameL l l')) ∧ Below w.heap.size w w' := by
  intro n
  induction n with
  | zero => intro A c l A' c' l' w h; omega
  | succ n ih =>
    intro A c l A' c' l' w h h1 h2 h3 h4
    refine sameAll_of A c l A' c' l' w h1 h2 h3 h4 (fun x y B d B' d' W hx g1 g2 g3 g4 => ?_)
    have hz := szL_mem l x hx
    have hz' := sz_eq x
    obtain ⟨xa, xb, xl⟩ := x
    obtain ⟨ya, yb, yl⟩ := y
    have hz2 : sz ⟨xa, xb, xl⟩ = szL xl + 1 := by simp [sz]
    exact same_of xa xb B d xl ya yb B' d' yl W (fun W' hW => ih B d xl B' d' yl W' (by omega) g1 (Kd.C_below g2 hW) g3 (Kd.C_below g4 hW))
/-- SameAll, as a printed function is told. -/
def SameAll.f (l m : List S67) : Option Bool := some (sameL l m)
theorem SameAll.calls (A0 : Option Addr) (c0 : Nat) (l0 : List S67) (A1 : Option Addr) (c1 : Nat) (l1 : List S67) (r : Bool) (w : World) (hr0 : Kd.C k67 w A0 l0.length l0) (hc0 : l0.length ≤ c0) (hr1 : Kd.C k67 w A1 l1.length l1) (hc1 : l1.length ≤ c1) (h : SameAll.f l0 l1 = some r) :
    Calls Tryd.prog 51 #[.slice A0 l0.length c0, .slice A1 l1.length c1] w fun e w' => e = .returned (.bool r) ∧ Below w.heap.size w w' := by
  obtain rfl := Option.some.inj h
  exact sameAll_n _ A0 c0 l0 A1 c1 l1 w (Nat.lt_succ_self _) hc0 hr0 hc1 hr1
/-- Same, as a printed function is told. -/
def Same.f (a b : Int) (l : List S67) (c d : Int) (m : List S67) : Option Bool := some (same ⟨a, b, l⟩ ⟨c, d, m⟩)
theorem Same.calls (a0_0 a0_1 : Int) (A0_2 : Option Addr) (c0_2 : Nat) (l0_2 : List S67) (a1_0 a1_1 : Int) (A1_2 : Option Addr) (c1_2 : Nat) (l1_2 : List S67) (r : Bool) (w : World) (hr0_2 : Kd.C k67 w A0_2 l0_2.length l0_2) (hc0_2 : l0_2.length ≤ c0_2) (hr1_2 : Kd.C k67 w A1_2 l1_2.length l1_2) (hc1_2 : l1_2.length ≤ c1_2) (h : Same.f a0_0 a0_1 l0_2 a1_0 a1_1 l1_2 = some r) :
    Calls Tryd.prog 45 #[.agg #[.int .i64 a0_0, .int .i64 a0_1, .slice A0_2 l0_2.length c0_2], .agg #[.int .i64 a1_0, .int .i64 a1_1, .slice A1_2 l1_2.length c1_2]] w fun e w' => e = .returned (.bool r) ∧ Below w.heap.size w w' := by
  obtain rfl := Option.some.inj h
  exact same_of a0_0 a0_1 A0_2 c0_2 l0_2 a1_0 a1_1 A1_2 c1_2 l1_2 w (fun W hW => sameAll_n _ A0_2 c0_2 l0_2 A1_2 c1_2 l1_2 W (Nat.lt_succ_self _) hc0_2 (Kd.C_below hr0_2 hW) hc1_2 (Kd.C_below hr1_2 hW))
end Go.Proofs.YtfofpammnfcmiaaDoor.Vl
