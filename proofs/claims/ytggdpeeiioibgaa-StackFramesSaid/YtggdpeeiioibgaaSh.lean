/- Marline, layer 36: what a frame does is nothing to the one below it. Conditions: as each says. -/
import Derived.Test.YtggdpeeiioibgaaSo
import Derived.Test.YtggdpeeiioibgaaSg
namespace Go.Proofs.Ytggdpeeiioibgaa.E
open Go.RowKit Go.Proofs.YtggdpeeiioibgaaW.PrintWords Go.Proofs.YtggdpeeiioibgaaW.PrintLast Go.Proofs.YtggdpeeiioibgaaW.PrintMore Go.Proofs.Ytggdpeeiioibgaa.Kinds Go.Proofs.Ytggdpeeiioibgaa.Obj Go.Proofs.Ytggdpeeiioibgaa.Opn
set_option linter.unusedVariables false
set_option linter.unusedSimpArgs false
attribute [local go_sem] max2_int min2_int max_two min_two max_three min_three max_four min_four

def z61 : S61 := ⟨0, 0, 0, 0, z24⟩
def rd61 (xs : List S61) (i : Nat) : S61 := xs.getD i z61
theorem rd61_mem (l : List S61) (n : Nat) (h : n < l.length) : rd61 l n ∈ l := by
  unfold rd61; rw [List.getD_eq_getElem?_getD, List.getElem?_eq_getElem h]; exact List.getElem_mem h
theorem at61 {w : World} {A : Option Addr} {n : Nat} {xs : List S61} (h : Kd.C k61 w A n xs) (i : Nat) (h1 : i < n) : ∃ ad B d, A = some ad ∧ w.cell? (ad.add (i * 7)) = some (.int .i64 (rd61 xs i).f0) ∧ w.cell? ⟨(ad.add (i * 7)).block, (ad.add (i * 7)).off + 1, none⟩ = some (.int .i64 (rd61 xs i).f1) ∧ w.cell? ⟨(ad.add (i * 7)).block, (ad.add (i * 7)).off + 2, none⟩ = some (.int .i64 (rd61 xs i).f2) ∧ w.cell? ⟨(ad.add (i * 7)).block, (ad.add (i * 7)).off + 3, none⟩ = some (.int .i64 (rd61 xs i).f3)
    ∧ w.cell? ⟨(ad.add (i * 7)).block, (ad.add (i * 7)).off + 4, none⟩ = some (.int .i64 (rd61 xs i).f4.f0) ∧ w.cell? ⟨(ad.add (i * 7)).block, (ad.add (i * 7)).off + 5, none⟩ = some (.int .i64 (rd61 xs i).f4.f1) ∧ w.cell? ⟨(ad.add (i * 7)).block, (ad.add (i * 7)).off + 6, none⟩ = some (.slice B (rd61 xs i).f4.f2.length d) ∧ Kd24 w B d (rd61 xs i).f4 := by
  obtain ⟨ad, c, e, _, hK, hc0⟩ := Kd.C_get h z61 (i : Int) (by omega) (by omega)
  have hc : ∀ j u, c[j]? = some u → w.cell? (ad.add (i * 7 + j)) = some u := hc0
  have hK : k61.K w (rd61 xs i) c := hK
  obtain ⟨B, d, hcs, g⟩ := open61 (cs := c.toArray) hK
  have hcs : c = [.int .i64 (rd61 xs i).f0, .int .i64 (rd61 xs i).f1, .int .i64 (rd61 xs i).f2, .int .i64 (rd61 xs i).f3, .int .i64 (rd61 xs i).f4.f0, .int .i64 (rd61 xs i).f4.f1, .slice B (rd61 xs i).f4.f2.length d] := by
    have := congrArg Array.toList hcs; simpa using this
  subst hcs
  exact ⟨ad, B, d, e, hc 0 _ rfl, by rw [← add_field _ _ 1 (by omega)]; exact hc 1 _ rfl, by rw [← add_field _ _ 2 (by omega)]; exact hc 2 _ rfl, by rw [← add_field _ _ 3 (by omega)]; exact hc 3 _ rfl, by rw [← add_field _ _ 4 (by omega)]; exact hc 4 _ rfl, by rw [← add_field _ _ 5 (by omega)]; exact hc 5 _ rfl, by rw [← add_field _ _ 6 (by omega)]; exact hc 6 _ rfl, g⟩
/-- the value that lies below. -/
def y77 : S24 := ⟨0, 77, []⟩
/-- a stack in the blocks from N0 on. -/
abbrev StkN (N0 : Nat) (w : World) (s : Nat) (l : List S65) : Prop := Stk N0 w (fun k => N0 ≤ k) s l
theorem StkN.of {N0 : Nat} {w : World} {P : Nat → Prop} {s : Nat} {l : List S65} (h : Stk N0 w P s l) (hP : ∀ k, P k → N0 ≤ k) : StkN N0 w s l := h.mono hP
/-- what came in, of the kids' kind. -/
theorem FN {W w : World} {A : Option Addr} {c : Nat} {x : S24} (h : Kd24 W A c x) (hb : Below W.heap.size W w) : Kd.F k24 w (fun k => k < W.heap.size) A x.f2.length x.f2 := Kd.F_below (Kd.C_F k24_heap h.2) hb
set_option maxHeartbeats 8000000 in
set_option maxRecDepth 100000 in
theorem frames_walk (l : List S24) (A : Option Addr) (cA : Nat) (o : List S61) (B : Option Addr) (cB : Nat) (q : Nat) (W : World) (hA : l.length ≤ cA) (hC : Kd.C k24 W A l.length l) (hok : ∀ y ∈ l, Ok y) (hB : o.length ≤ cB) (hD : Kd.C k61 W B o.length o) (hokB : ∀ y ∈ o, Ok y.f4) (hq : q ≤ 255) :
    Calls Try.prog 10 #[.slice A l.length cA, .slice B o.length cB, .int .u8 q] W fun e w' => e = .returned (.bool true) ∧ Below W.heap.size W w' := by
  have hu24 := Try.underlying24
  have hu61 := Try.underlying61
  have HC := Lib.hid hC; have HD := Lib.hid hD; have OK := Lib.hid hok; have OB := Lib.hid hokB; have LA := Lib.hid hA
  have m1 : l.length ≤ 9223372036854775807 := hC.2.1
  have m2 : o.length ≤ 9223372036854775807 := hD.2.1
  clear hC hD hok hokB
  go_enter Try.func10, Try.ntmps10
  go_wp2_with fail
  refine (works37 W).mono ?_
  rintro e w1 ⟨rfl, hb⟩
  have B1 := Lib.hid hb
  clear hb
  by_cases hl : 60 < o.length ∨ 30 < l.length
  · by_cases h60 : 60 < o.length
    · have p1 : decide ((60 : Int) < (o.length : Int)) = true := decide_eq_true (by omega)
      clear hl h60
      go_wp2_with fail
      refine (works37 w1).mono ?_
      rintro e w2 ⟨rfl, hb⟩
      have B2 := Lib.hid (B1.out.trans (hb.mono B1.out.size))
      clear hb
      go_wp2_with fail
      go_ret
      exact ⟨rfl, B2.out⟩
    · have p1 : decide ((60 : Int) < (o.length : Int)) = false := decide_eq_false (by omega)
      have p2 : decide ((30 : Int) < (l.length : Int)) = true := decide_eq_true (by omega)
      clear hl h60
      go_wp2_with fail
      refine (works37 w1).mono ?_
      rintro e w2 ⟨rfl, hb⟩
      have B2 := Lib.hid (B1.out.trans (hb.mono B1.out.size))
      clear hb
      go_wp2_with fail
      go_ret
      exact ⟨rfl, B2.out⟩
  · have l60 : o.length ≤ 60 := by omega
    have l30 : l.length ≤ 30 := by omega
    have p1 : decide ((60 : Int) < (o.length : Int)) = false := decide_eq_false (by omega)
    have p2 : decide ((30 : Int) < (l.length : Int)) = false := decide_eq_false (by omega)
    clear hl
    obtain ⟨N0, hN0⟩ : ∃ n, W.heap.size = n := ⟨_, rfl⟩
    obtain ⟨s, hs⟩ : ∃ n, w1.heap.size = n := ⟨_, rfl⟩
    have hNs : N0 ≤ s := by have := B1.out.size; omega
    have NW := Lib.hid (new_is w1 N0 (by omega))
    rw [hs] at NW
    have HN0 := Lib.hid hN0
    have HS := Lib.hid hs
    clear hs
    go_wp2_with fail
    refine NW.out.mono ?_
    rintro e w2 ⟨rfl, h1, b2⟩
    have S2 := Lib.hid (StkN.of h1 (fun k hk => by omega)); have B2 := Lib.hid (B1.out.trans ((HS.out ▸ b2 : Below w1.heap.size w1 w2).mono B1.out.size))
    clear h1 b2 NW HS B1 hN0
    go_wp2_with fail
    refine (start_yes w2 S2.out 0 1 (by decide) none 0 [] (Kd.N_nil _ _ _ _ _) (by decide) (by decide)).mono ?_
    rintro e w3 ⟨rfl, h1, c3⟩
    have S3 := Lib.hid (StkN.of h1 (fun k hk => hk.elim id (fun e => by have := B2.out.size; have := HN0.out; omega))); have B3 := Lib.hid (Ch.to_below B2.out c3 (fun i hi => by have := HN0.out; omega))
    clear h1 c3 S2 B2
    go_wp2_with fail
    refine (store_yes w3 S3.out 0 (by decide) y77 none 0 (by decide) (Kd.F_nil _ _ _)).mono ?_
    rintro e w4 ⟨rfl, h1, c4⟩
    have S4 := Lib.hid (show StkN N0 w4 s [⟨0, 0, [y77], []⟩] from h1); have B4 := Lib.hid (Ch.to_below B3.out c4 (fun i hi => by have := HN0.out; omega))
    clear h1 c4 S3 B3
    go_wp2_with fail
    go_loopw [8] (fun i wr => ∃ k : Nat, i = .int .i64 k ∧ k ≤ l.length ∧ Hid (StkN N0 wr s [⟨0, 0, [y77], l.take k⟩]) ∧ Hid (Below W.heap.size W wr)) (fun i _ => l.length - (intOf i).toNat)
    case atStart => exact ⟨0, rfl, by omega, S4, B4⟩
    case round =>
      obtain ⟨k, rfl, hk, SR, BR⟩ := hrel
      by_cases hx : (k : Int) < (l.length : Int)
      · have hlt : k < l.length := by omega
        obtain ⟨ad, Bk, dk, ea, x0, x1, x2, xl, xr⟩ := at_T24 HC.out (k : Int) (by omega) hx
        cases ea
        have hok := OK.out _ (rd_mem l k hlt)
        have htk : l.take (k + 1) = l.take k ++ [rd_T24 l k] := by rw [List.take_succ_eq_append_getElem hlt, rd_eq l k hlt]
        obtain ⟨x, ex⟩ : ∃ x, rd_T24 l k = x := ⟨_, rfl⟩
        rw [ex] at x0 x1 x2 xl xr hok htk
        replace x0 := at_later BR.out x0; replace x1 := at_later BR.out x1; replace x2 := at_later BR.out x2
        rw [Int.toNat_natCast] at x0 x1 x2
        obtain ⟨z, hz⟩ : ∃ z : Int, (if szw x > 300 then 0 else 1) = z := ⟨_, rfl⟩
        have hz01 : z = 0 ∨ z = 1 := by rw [← hz]; split <;> simp
        have KX := Lib.hid (show Kd24 W Bk dk x from ⟨xl, xr⟩)
        have SM := Lib.hid (fun w (hb : Below W.heap.size W w) => small24 x Bk dk w hok (KX.out.below hb) z hz)
        have HT := Lib.hid htk; have X1 := Lib.hid x1; have X2 := Lib.hid x2; have X0 := Lib.hid x0
        have e1 : IntKind.i64.wrap ((k : Int) + 1) = (k : Int) + 1 := IntWalk.i64_in _ (by omega)
        clear xl xr ex htk hz hok
        go_wp2_with fail
        refine (SM.out _ BR.out).mono ?_
        rintro e w5 ⟨rfl, hb⟩
        have SR5 := Lib.hid (SR.out.below hb); have BR5 := Lib.hid (BR.out.trans (hb.mono BR.out.size))
        replace x0 := at_later hb x0; replace x1 := at_later hb x1; replace x2 := at_later hb x2
        clear hb
        rcases hz01 with hz | hz
        · subst hz
          go_wp2_with fail
          go_ret
          exact ⟨rfl, BR5.out⟩
        · subst hz
          go_wp2_with fail
          refine (push_yes w5 SR5.out x Bk dk KX.out.1 (by have := FN KX.out BR5.out; rw [HN0.out] at this; exact this) (by simp; omega)).mono ?_
          rintro e w6 ⟨rfl, h1, c6⟩
          have S6 := Lib.hid (StkN.of h1 (fun k hk => hk.elim id (fun e => by have := BR5.out.size; have := HN0.out; omega))); have B6 := Lib.hid (Ch.to_below BR5.out c6 (fun i hi => by have := HN0.out; omega))
          clear h1 c6
          go_wp2_with fail
          go_roundw
          case rel => exact ⟨k + 1, by push_cast; rfl, by omega, Lib.hid (by rw [HT.out]; exact S6.out), B6⟩
          case measure => simp [intOf]; omega
      · have hxe : k = l.length := by omega
        have S5 := Lib.hid (show StkN N0 wr s [⟨0, 0, [y77], l⟩] from by have := SR.out; rw [hxe, List.take_length] at this; exact this)
        clear SR
        obtain ⟨n, hn⟩ : ∃ n : Nat, q % (l.length + 1) = n := ⟨_, rfl⟩
        have hnl : n ≤ l.length := by rw [← hn]; have := Nat.mod_lt q (show 0 < l.length + 1 by omega); omega
        have en : (q : Int) % ((l.length : Int) + 1) = (n : Int) := by rw [← hn]; push_cast; rfl
        have HXE := Lib.hid hxe
        clear hxe hn
        have ENT := Lib.hid (enter_yes wr S5.out 1 9 (n + 2) n (by omega) hnl (by omega) (by show l.length ≤ _; omega) (by decide))
        go_wp2_with fail
        refine ENT.out.mono ?_
        rintro e w6 ⟨rfl, h1, c6⟩
        have S6 := Lib.hid (show StkN N0 w6 s [⟨1, 9, slots (n + 2) (l.drop (l.length - n)), []⟩, ⟨0, 0, [y77], l.take (l.length - n)⟩] from StkN.of h1 (fun k hk => hk.elim id (fun e => by have := BR.out.size; have := HN0.out; omega))); have B6 := Lib.hid (Ch.to_below BR.out c6 (fun i hi => by have := HN0.out; omega))
        clear h1 c6 ENT S5 BR
        go_wp2_with fail
        obtain ⟨r, hr⟩ : ∃ r, l.take (l.length - n) = r := ⟨_, rfl⟩
        have HR := Lib.hid hr
        rw [hr] at S6
        clear hr
        go_loopw [10] (fun i wr => ∃ k : Nat, i = .int .i64 k ∧ k ≤ o.length ∧ (∃ x : S65, x.f1 = 9 ∧ x.f3.length ≤ k ∧ Hid (StkN N0 wr s [x, ⟨0, 0, [y77], r⟩])) ∧ Hid (Below W.heap.size W wr)) (fun i _ => o.length - (intOf i).toNat)
        case atStart => exact ⟨0, rfl, by omega, ⟨_, rfl, by simp, S6⟩, B6⟩
        case round =>
          obtain ⟨j, rfl, hj, ⟨x, hx9, hxl, SR⟩, BR⟩ := hrel
          have HX9 := Lib.hid hx9
          clear hx9 S6 B6
          obtain ⟨wo, rfl⟩ : ∃ wo : World, wo = wr := ⟨_, rfl⟩
          by_cases hy : (j : Int) < (o.length : Int)
          · have hlt : j < o.length := by omega
            obtain ⟨ad, Bk, dk, ea, x0, x1, x2, x3, x4, x5, x6, xr⟩ := at61 HD.out j (by omega)
            cases ea
            have hok := OB.out _ (rd61_mem o j hlt)
            obtain ⟨y, ey⟩ : ∃ y, rd61 o j = y := ⟨_, rfl⟩
            rw [ey] at x0 x1 x2 x3 x4 x5 x6 xr hok
            replace x0 := at_later BR.out x0; replace x1 := at_later BR.out x1; replace x2 := at_later BR.out x2; replace x3 := at_later BR.out x3
            replace x4 := at_later BR.out x4; replace x5 := at_later BR.out x5; replace x6 := at_later BR.out x6
            have KX := Lib.hid xr
            obtain ⟨z, hz⟩ : ∃ z : Int, (if szw y.f4 > 300 then 0 else 1) = z := ⟨_, rfl⟩
            have hz01 : z = 0 ∨ z = 1 := by rw [← hz]; split <;> simp
            have SM := Lib.hid (fun w (hb : Below W.heap.size W w) => small24 y.f4 Bk dk w hok (KX.out.below hb) z hz)
            clear xr ey hz hok
            obtain ⟨g, hg⟩ : ∃ g, wo.heap.size = g := ⟨_, rfl⟩
            have GA := Lib.hid hg
            clear hg
            go_upto_region 19 with (fail)
            have G5 : ∃ w5 : World, wo.alloc (.cells #[.int .i64 y.f0, .int .i64 y.f1, .int .i64 y.f2, .int .i64 y.f3, .int .i64 y.f4.f0, .int .i64 y.f4.f1, .slice Bk y.f4.f2.length dk] 61) = w5 ∧ Op w5 g y.f0 y.f1 y.f2 y.f3 y.f4 Bk dk ∧ Below wo.heap.size wo w5 := ⟨_, rfl, ⟨by rw [← GA.out]; exact blk_new _ _⟩, below_alloc (Below.refl _ _) _⟩
            rw [GA.out]
            obtain ⟨w5, hw5, v5, b5⟩ := G5
            rw [hw5]
            have V5 := Lib.hid v5; have B5 := Lib.hid b5
            have gw := Lib.hid (show wo.heap.size ≤ g by have := GA.out; omega)
            clear hw5 v5 b5 x0 x1 x2 x3 x4 x5 x6 GA
            obtain ⟨m, hm⟩ : ∃ m, (if (20 : Int) < y.f3 then (20 : Int) else y.f3) = m := ⟨_, rfl⟩
            obtain ⟨c, hc⟩ : ∃ n, (if (-5 : Int) < m then m else (-5 : Int)) = n := ⟨_, rfl⟩
            obtain ⟨k0, k1, k2, k3, k4, k5, k6⟩ := V5.out.cells
            have f3 := V5.out.froz
            go_upto_region 20 with (fail)
            obtain ⟨w6, hw6, v6, b6⟩ : ∃ w6 : World, w5.setCell ⟨g, 3, none⟩ (.int .i64 c) = w6 ∧ Op w6 g y.f0 y.f1 y.f2 c y.f4 Bk dk ∧ Below wo.heap.size wo w6 := ⟨_, rfl, V5.out.set3 c, below_set B5.out gw.out⟩
            rw [hw6]
            have V6 := Lib.hid v6; have B6 := Lib.hid b6
            clear hw6 v6 b6 V5 B5 k0 k1 k2 k3 k4 k5 k6 f3 hm hc
            obtain ⟨k0, k1, k2, k3, k4, k5, k6⟩ := V6.out.cells
            have BR6 := Lib.hid (BR.out.trans (B6.out.mono BR.out.size)); have SR6 := Lib.hid (SR.out.below B6.out)
            have e1 : IntKind.i64.wrap ((j : Int) + 1) = (j : Int) + 1 := IntWalk.i64_in _ (by omega)
            by_cases hK : 2 < y.f0
            · have pK : decide ((2 : Int) < y.f0) = true := decide_eq_true hK
              have HK := Lib.hid hK
              clear hK
              go_wp2_with fail
              refine (SM.out _ BR6.out).mono ?_
              rintro e w7 ⟨rfl, hb⟩
              have V7 := Lib.hid (V6.out.below hb); have BR7 := Lib.hid (BR6.out.trans (hb.mono BR6.out.size)); have SR7 := Lib.hid (SR6.out.below hb)
              clear hb V6 BR6 SR6 B6 BR SR k0 k1 k2 k3 k4 k5 k6
              obtain ⟨k0, k1, k2, k3, k4, k5, k6⟩ := V7.out.cells
              rcases hz01 with hz | hz
              · subst hz
                go_wp2_with fail
                go_roundw
                case rel => exact ⟨j + 1, by push_cast; rfl, by omega, ⟨x, HX9.out, by omega, SR7⟩, BR7⟩
                case measure => simp [intOf]; omega
              · subst hz
                go_wp2_with fail
                refine (stepF w7 SR7.out y.f0 HK.out y.f1 y.f2 c y.f4 Bk dk KX.out.1 (by have := FN KX.out BR7.out; rw [HN0.out] at this; exact this) (by omega)).mono ?_
                rintro e w8 ⟨v, rr, x', rfl, g1, g2, h1, c8⟩
                have S8 := Lib.hid (StkN.of h1 (fun k hk => hk.elim id (fun e => by have := BR7.out.size; have := HN0.out; omega))); have B8 := Lib.hid (Ch.to_below BR7.out c8 (fun i hi => by have := HN0.out; omega))
                have HX := Lib.hid g1
                clear h1 c8 g1
                go_wp2_with fail
                go_roundw
                case rel => exact ⟨j + 1, by push_cast; rfl, by omega, ⟨x', HX.out.trans HX9.out, by omega, S8⟩, B8⟩
                case measure => simp [intOf]; omega
            · have pK : decide ((2 : Int) < y.f0) = false := decide_eq_false hK
              clear hK
              go_wp2_with fail
              go_roundw
              case rel => exact ⟨j + 1, by push_cast; rfl, by omega, ⟨x, HX9.out, by omega, SR6⟩, BR6⟩
              case measure => simp [intOf]; omega
          · go_wp2_with fail
            refine (leave_is wo SR.out).mono ?_
            rintro e w7 ⟨rfl, h1, c7⟩
            rw [HX9.out]
            have S7 := Lib.hid (show StkN N0 w7 s [⟨0, 0, [y77], r⟩] from h1); have B7 := Lib.hid (Ch.to_below BR.out c7 (fun i hi => by have := HN0.out; omega))
            clear h1 c7 SR BR
            have hrl : r.length = l.length - n := by rw [← HR.out, List.length_take]; omega
            have HRL := Lib.hid hrl
            clear hrl
            go_wp2_with fail
            refine (height_is w7 S7.out).mono ?_
            rintro e w8 ⟨rfl, hb⟩
            have S8 := Lib.hid (S7.out.below hb); have B8 := Lib.hid (B7.out.trans (hb.mono B7.out.size))
            clear hb S7 B7
            have hr30 : r.length ≤ 30 := by rw [HRL.out]; omega
            have HR30 := Lib.hid hr30
            go_wp2_with fail
            refine (take_is w8 S8.out r.length (Nat.le_refl _) (by show r.length * 40 ≤ _; omega)).mono ?_
            rintro e w9 ⟨v, rfl, g1, _, h1, c9⟩
            have g1 : Kd.N k24 24 w9 N0 (fun k => k < N0 ∨ v.ownBlock = some k) v r := by simpa using g1
            have S9 := Lib.hid (show StkN N0 w9 s [⟨0, 0, [y77], []⟩] from by simpa using h1); have B9 := Lib.hid (Ch.to_below B8.out c9 (fun i hi => by have := HN0.out; omega))
            have V9 := Lib.hid g1
            clear h1 c9 g1 S8 B8
            go_wp2_with fail
            have LD : Calls Try.prog 49 #[.pointer (some ⟨s, 0, none⟩), .int .i64 0] w9 (LoadP N0 w9 y77) := load_yes w9 S9.out 0 (by decide)
            refine LD.mono ?_
            rintro e w10 ⟨B0, d0, he, _, _, hb⟩
            have he : e = .returned (.tuple #[v24 0 77 B0 0 d0, .bool true]) := he
            subst he
            have S10 := Lib.hid (S9.out.below hb); have B10 := Lib.hid (B9.out.trans (hb.mono B9.out.size)); have V10 := Lib.hid (Kd.N_below V9.out hb)
            clear hb LD S9 B9 V9
            obtain ⟨g, hg⟩ : ∃ g, w10.heap.size = g := ⟨_, rfl⟩
            have G11 : ∃ w11 : World, w10.alloc (.cells #[.int .i64 0, .int .i64 77, .slice B0 0 d0] 24) = w11 ∧ Var w11 g y77 B0 d0 ∧ Below w10.heap.size w10 w11 := ⟨_, rfl, by rw [← hg]; exact blk_new _ _, below_alloc (Below.refl _ _) _⟩
            have HG := Lib.hid hg
            clear hg
            go_upto_region 25 with (fail)
            rw [HG.out]
            obtain ⟨w11, hw11, v11, b11⟩ := G11
            rw [hw11]
            have U11 := Lib.hid v11; have S11 := Lib.hid (S10.out.below b11); have V11 := Lib.hid (Kd.N_below V10.out b11); have B11 := Lib.hid (B10.out.trans (b11.mono B10.out.size))
            clear hw11 v11 b11 S10 V10 B10 HG
            obtain ⟨_, m1, _, _, _, _⟩ := U11.out.cells
            simp only [y77] at m1
            have hsl : ∀ W : World, (Instr.slice 22 (.slice A l.length cA) none (some (.int .i64 ((l.length : Int) - (n : Int)))) none).run Try.prog W = .ok (.slice A r.length cA) W := by
              intro W
              obtain ⟨i0, hi, _⟩ := info_parts info24
              have h1 := cut_to (P := Try.prog) 22 24 .i64 Try.underlying22 hi A l.length cA ((l.length : Int) - (n : Int)) (by omega) (by omega) LA.out W
              have h2 : ((l.length : Int) - (n : Int)).toNat = r.length := by have := HRL.out; omega
              rw [h2] at h1
              exact h1
            go_wp2_with fail
            refine (depth_is w11 S11.out).mono ?_
            rintro e w12 ⟨rfl, hb⟩
            have V12 := Lib.hid (Kd.N_below V11.out hb); have B12 := Lib.hid (B11.out.trans (hb.mono B11.out.size))
            clear hb V11 S11
            obtain ⟨Av, cv, rfl⟩ := Kd.N_slice V12.out
            obtain ⟨_, g1, g2⟩ := Kd.N_reads' V12.out
            have CT := Lib.hid (show Kd.C k24 w12 A r.length r from by
              have h := Kd.C_take (m := l.length - n) (Kd.C_below HC.out B12.out) (by omega)
              rw [HR.out] at h
              exact h)
            have CL1 := Lib.hid g1; have CV := Lib.hid g2
            have hrc : r.length ≤ cA := by have := HRL.out; have := LA.out; omega
            have HRC := Lib.hid hrc
            clear g1 g2 hrc hr30 V12 m1
            go_wp2_with fail
            refine (sameAll_n _ Av cv r A cA r w12 (Nat.lt_succ_self _) CL1.out CV.out HRC.out CT.out).mono ?_
            rintro e w13 ⟨rfl, hb⟩
            rw [(sameL_iff r r).2 rfl]
            have B13 := Lib.hid (B12.out.trans (hb.mono B12.out.size))
            clear hb
            go_wp2_with fail
            go_ret
            exact ⟨rfl, B13.out⟩
end Go.Proofs.Ytggdpeeiioibgaa.E
namespace Go.Proofs.Ytggdpeeiioibgaa.Opn
open Go.RowKit Go.Proofs.YtggdpeeiioibgaaW.PrintWords Go.Proofs.YtggdpeeiioibgaaW.PrintLast Go.Proofs.Ytggdpeeiioibgaa.Open Go.Proofs.Ytggdpeeiioibgaa.Kinds Go.Proofs.Ytggdpeeiioibgaa.E
set_option linter.unusedVariables false
theorem opens22c (fuel : Nat) : OpensAt fuel Try.prog 22 (Kd.slice 24 k24) (fun xs => (xs.length * 40 ≤ 140737488351232 ∧ ∀ y ∈ xs, wf24 y)) (fun _ => 0) :=
  opens_weak (at_slice Try.underlying22 (by kernel_rfl) (by kernel_rfl) (fun q_ _ => (opens24 q_))) (fun _ h => h)
theorem opens56 (fuel : Nat) : OpensAt fuel Try.prog 56 (Kd.slice 61 k61) (fun xs => (xs.length * 72 ≤ 140737488351232 ∧ ∀ y ∈ xs, wf61 y)) (fun _ => 0) :=
  opens_weak (at_slice Try.underlying56 (by kernel_rfl) (by kernel_rfl) (fun q_ _ => (opens61 q_))) (fun _ h => h)
theorem frames_row (l : List S24) (A : Option Addr) (c : Nat) (o : List S61) (B : Option Addr) (d : Nat) (q : Int) (W : World) (hC : Kd.C k24 W A l.length l) (hA : l.length ≤ c) (hw : l.length * 40 ≤ 140737488351232 ∧ ∀ y ∈ l, wf24 y)
    (hD : Kd.C k61 W B o.length o) (hB : o.length ≤ d) (hv : o.length * 72 ≤ 140737488351232 ∧ ∀ y ∈ o, wf61 y) (hq : (Lit.int .u8 q).wf = true) :
    Calls Try.prog 10 #[.slice A l.length c, .slice B o.length d, .int .u8 q] W fun e w' => e = .returned (.bool true) ∧ Below W.heap.size W w' := by
  have h2 : 0 ≤ q ∧ q ≤ 255 := by
    have h : IntKind.u8.min ≤ q ∧ q ≤ IntKind.u8.max := by simpa [Lit.wf] using hq
    have e1 : IntKind.u8.min = 0 := by decide
    have e2 : IntKind.u8.max = 255 := by decide
    rw [e1, e2] at h; exact h
  obtain ⟨n, rfl⟩ : ∃ n : Nat, q = n := ⟨q.toNat, by omega⟩
  exact frames_walk l A c o B d n W hA hC (fun y hy => ok_of (hw.2 y hy)) hB hD (fun y hy => ok_of (hv.2 y hy).2.2.2.2) (by omega)
end Go.Proofs.Ytggdpeeiioibgaa.Opn
