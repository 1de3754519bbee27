/- Marline, layer 08: a value's bytes, and those of values, by the program. Conditions: as each says. -/
import Derived.Test.YtggdpeeiioibgaaWr
namespace Go.Proofs.Ytggdpeeiioibgaa.E
open Go.RowKit Go.Proofs.YtggdpeeiioibgaaW.PrintWords Go.Proofs.YtggdpeeiioibgaaW.PrintLast Go.Proofs.YtggdpeeiioibgaaW.PrintMore Go.Proofs.Ytggdpeeiioibgaa.Kinds Go.Proofs.Ytggdpeeiioibgaa.Obj
set_option linter.unusedVariables false
set_option linter.unusedSimpArgs false

theorem right24 (x : S24) (A : Option Addr) (c : Nat) (w : World) (h : Kd24 w A c x) :
    Calls Try.prog 68 #[v24 x.f0 x.f1 A x.f2.length c] w fun e w' => e = .returned (.bool (right x)) ∧ Below w.heap.size w w' := right_n _ x A c w (Nat.le_refl _) h
/-- a right value's bytes; of others none. -/
def bytes (x : S24) : List Int := if right x then enc x else []
/-- a new row of bytes. -/
def NewB (r : List Int) (w : World) (e : Ending) (w' : World) : Prop := ∃ v, e = .returned v ∧ Rb w' w.heap.size (fun _ => True) v r ∧ Below w.heap.size w w'
set_option maxHeartbeats 4000000 in
set_option maxRecDepth 100000 in
theorem bytes24 (x : S24) (A : Option Addr) (c : Nat) (w : World) (hn : Num x) (hz : 11 * sz x ≤ 70368744177664) (h : Kd24 w A c x) :
    Calls Try.prog 29 #[v24 x.f0 x.f1 A x.f2.length c] w (NewB (bytes x) w) := by
  have hu24 := Try.underlying24
  have HK := Lib.hid h; have HN := Lib.hid hn; have HZ := Lib.hid hz
  have hB := Lib.hid (below_alloc (Below.refl w.heap.size w) (.cells #[.int .i64 x.f0, .int .i64 x.f1, .slice A x.f2.length c] 24))
  have HV := Lib.hid (blk_new w (.cells #[.int .i64 x.f0, .int .i64 x.f1, .slice A x.f2.length c] 24))
  obtain ⟨g, hg⟩ : ∃ g, w.heap.size = g := ⟨_, rfl⟩
  have G : Hid (∃ w1 : World, w.alloc (.cells #[.int .i64 x.f0, .int .i64 x.f1, .slice A x.f2.length c] 24) = w1 ∧ Var w1 g x A c ∧ Below w.heap.size w w1) :=
    Lib.hid ⟨_, rfl, by rw [← hg]; exact blk_new _ _, below_alloc (Below.refl _ _) _⟩
  have EG := Lib.hid hg
  clear h hn hz hB HV hg
  go_enter Try.func29, Try.ntmps29
  go_upto_region 1 with (fail)
  rw [EG.out]
  obtain ⟨w1, hw1, v1, b1⟩ := G.out
  rw [hw1]
  have V1 := Lib.hid v1; have B1 := Lib.hid b1
  obtain ⟨k0, k1, k2, _⟩ := v1.cells
  clear G v1 b1 hw1
  go_wp2_with fail
  refine (right24 x A c w1 (HK.out.below B1.out)).mono ?_
  rintro e w2 ⟨rfl, b2⟩
  have V2 := Lib.hid (V1.out.below b2); have B2 := Lib.hid (B1.out.trans (b2.mono B1.out.size))
  clear b2 k0 k1 k2 V1 B1
  obtain ⟨k0, k1, k2, _⟩ := V2.out.cells
  obtain ⟨r, hr⟩ : ∃ r, right x = r := ⟨_, rfl⟩
  rw [hr]
  cases r with
  | false =>
    have E := Lib.hid (show bytes x = [] by unfold bytes; rw [hr]; rfl)
    clear hr
    go_wp2_with fail
    go_ret
    exact ⟨_, rfl, by rw [E.out]; exact Kd.R_nil _ _ _ _ _, B2.out⟩
  | true =>
    have E := Lib.hid (show bytes x = enc x by unfold bytes; rw [hr]; rfl)
    clear hr
    go_wp2_with fail
    refine (write_is x (.slice none 0 0) [] A c w w2 HN.out B2.out (Kd.R_nil _ _ _ _ _) HK.out (by have := HZ.out; simpa using this)).mono ?_
    rintro e w3 ⟨v, rfl, h1, h2, h3⟩
    rw [List.nil_append] at h1
    have H1 := Lib.hid h1; have H2 := Lib.hid h2
    clear h1 h2 h3
    go_wp2_with fail
    go_ret
    exact ⟨v, rfl, by rw [E.out]; exact Kd.R_mono H1.out (fun _ _ => trivial), H2.out⟩
set_option maxHeartbeats 4000000 in
set_option maxRecDepth 100000 in
theorem long24 (x : S24) (A : Option Addr) (c : Nat) (w : World) (hn : Num x) (hz : 11 * sz x ≤ 70368744177664) (h : Kd24 w A c x) :
    Calls Try.prog 31 #[v24 x.f0 x.f1 A x.f2.length c] w fun e w' => e = .returned (.int .i64 ((bytes x).length : Int)) ∧ Below w.heap.size w w' := by
  have hu24 := Try.underlying24
  have hB := Lib.hid (below_alloc (Below.refl w.heap.size w) (.cells #[.int .i64 x.f0, .int .i64 x.f1, .slice A x.f2.length c] 24))
  have C := Lib.hid (fun W (hW : Below w.heap.size w W) => bytes24 x A c W hn hz (h.below hW))
  clear h hn hz
  go_enter Try.func31, Try.ntmps31
  go_wp2_with fail
  refine (C.out _ hB.out).mono ?_
  rintro e w3 ⟨v, rfl, h1, h2⟩
  obtain ⟨B, d, rfl⟩ := Kd.R_slice h1
  have H2 := Lib.hid (hB.out.trans (h2.mono hB.out.size))
  clear h1 h2
  go_wp2_with fail
  go_ret
  exact ⟨rfl, H2.out⟩
/-- the bytes of the right ones. -/
def pack (l : List S24) : List Int := encL (l.filter right)
theorem pack_step (l : List S24) (n : Nat) (h : n < l.length) : pack (l.take (n + 1)) = if right (rd_T24 l n) then pack (l.take n) ++ enc (rd_T24 l n) else pack (l.take n) := by
  unfold pack
  rw [List.take_succ_eq_append_getElem h, List.filter_append, encL_append, rd_eq l n h]
  by_cases hr : right l[n] = true
  · rw [if_pos hr]; simp [hr, encL]
  · rw [if_neg hr]; simp [hr, encL]
theorem szL_filter (p : S24 → Bool) : ∀ l : List S24, szL (l.filter p) ≤ szL l
  | [] => Nat.le_refl _
  | x :: l => by
    have := szL_filter p l
    rw [List.filter_cons]
    split <;> simp only [szL] <;> omega
theorem pack_len (l : List S24) : (pack l).length ≤ 11 * szL l := by
  have h1 := encL_len (l.filter right)
  have h2 := szL_filter right l
  unfold pack
  omega
/-- what is known of a row that is written, and of nothing else. -/
theorem Wrote.on {u : Value} {w0 w W' : World} {r : List Int} {e : Ending} (k : Wrote u w0 w r e W') : ∃ v, e = .returned v ∧ Rb W' w0.heap.size (fun _ => True) v r ∧ Below w0.heap.size w0 W' := by
  obtain ⟨v, he, h1, h2, h3⟩ := k
  exact ⟨v, he, Kd.R_mono h1 (fun _ _ => trivial), h2⟩
set_option maxHeartbeats 8000000 in
set_option maxRecDepth 100000 in
theorem pack24 (A : Option Addr) (c : Nat) (l : List S24) (w : World) (hn : ∀ y ∈ l, Num y) (hz : 11 * szL l ≤ 70368744177664) (hl : l.length ≤ c) (hr : Kd.C k24 w A l.length l) :
    Calls Try.prog 34 #[.slice A l.length c] w (NewB (pack l) w) := by
  have hu24 := Try.underlying24
  have HR := Lib.hid hr; have HN := Lib.hid hn; have HZ := Lib.hid hz
  have m1 := CL hr
  clear hr hn hz
  obtain ⟨L, hL⟩ : ∃ L, l.length = L := ⟨_, rfl⟩
  rw [hL] at HR hl m1 ⊢
  have EL := Lib.hid hL
  clear hL
  go_enter Try.func34, Try.ntmps34
  go_wp2_with fail
  go_loopw [3, 8] (fun v i wr => ∃ n : Nat, i = .int .i64 n ∧ n ≤ L ∧ Hid (Rb wr w.heap.size (fun _ => True) v (pack (l.take n))) ∧ Hid (Below w.heap.size w wr)) (fun _ i _ => L - (intOf i).toNat)
  case atStart => exact ⟨0, rfl, by omega, Lib.hid (by rw [List.take_zero]; exact Kd.R_nil _ _ _ _ _), Lib.hid (Below.refl _ _)⟩
  case round =>
    obtain ⟨n, rfl, hn, HV, HB⟩ := hrel
    by_cases hx : (n : Int) < (L : Int)
    · have hx1 := decide_eq_true hx
      have hlt : n < L := by omega
      have hm := rd_mem l n (by rw [EL.out]; exact hlt)
      have hst := pack_step l n (by rw [EL.out]; exact hlt)
      obtain ⟨ad, B, d, ea, x0, x1, x2, xl, xr⟩ := at_T24 HR.out (n : Int) (by omega) hx
      cases ea
      obtain ⟨x, ex⟩ : ∃ x, rd_T24 l n = x := ⟨_, rfl⟩
      rw [ex] at x0 x1 x2 xl xr hm hst
      replace x0 := at_later HB.out x0; replace x1 := at_later HB.out x1; replace x2 := at_later HB.out x2
      rw [Int.toNat_natCast] at x0 x1 x2
      have hbig : (pack (l.take n)).length + 11 * sz x ≤ 70368744177664 := by
        have h1 := pack_len (l.take n)
        have h2 := szL_take l n (by rw [EL.out]; exact hlt)
        have h3 := szL_split l (n + 1)
        rw [ex] at h2
        have := HZ.out; omega
      have HX := Lib.hid (show Kd24 w B d x from ⟨xl, xr⟩)
      have HNX := Lib.hid (HN.out x hm); have HBIG := Lib.hid hbig
      have pn := eq_true hx
      have qn := eq_true (show (0 : Int) ≤ (n : Int) by omega)
      have e1 : IntKind.i64.wrap ((n : Int) + 1) = (n : Int) + 1 := IntWalk.i64_in _ (by omega)
      have HST := Lib.hid hst
      clear xl xr ex hst hm hbig
      go_upto_region 5 with (fail)
      obtain ⟨g4, hg4⟩ : ∃ g, wr.heap.size = g := ⟨_, rfl⟩
      have H5 : ∃ w5 : World, wr.alloc (.cells #[.int .i64 x.f0, .int .i64 x.f1, .slice B x.f2.length d] 24) = w5 ∧ Var w5 g4 x B d ∧ Rb w5 w.heap.size (fun _ => True) u3 (pack (l.take n)) ∧ Below w.heap.size w w5 :=
        ⟨_, rfl, by rw [← hg4]; exact blk_new wr _, Kd.R_alloc HV.out _, below_alloc HB.out _⟩
      rw [hg4]
      obtain ⟨w5, hw5, v5, r5, b5⟩ := H5
      rw [hw5]
      have R5 := Lib.hid r5; have B5 := Lib.hid b5; have V5 := Lib.hid v5
      obtain ⟨k0, k1, k2, _⟩ := v5.cells
      clear hg4 hw5 v5 r5 b5 x0 x1 x2 HV HB
      go_wp2_with fail
      refine (right24 x B d w5 (HX.out.below B5.out)).mono ?_
      rintro e w6 ⟨rfl, b6⟩
      have R6 := Lib.hid (Kd.R_below R5.out b6); have V6 := Lib.hid (V5.out.below b6); have B6 := Lib.hid (B5.out.trans (b6.mono B5.out.size))
      clear b6 k0 k1 k2 R5 B5 V5
      obtain ⟨k0, k1, k2, _⟩ := V6.out.cells
      obtain ⟨r, hr⟩ : ∃ r, right x = r := ⟨_, rfl⟩
      rw [hr]
      cases r with
      | false =>
        have E := Lib.hid (show pack (l.take (n + 1)) = pack (l.take n) by rw [HST.out, hr]; rfl)
        clear hr
        go_wp2_with fail
        go_roundw
        case rel => exact ⟨n + 1, by push_cast; rfl, by omega, by rw [E.out]; exact R6, B6⟩
        case measure => simp [intOf]; omega
      | true =>
        have E := Lib.hid (show pack (l.take (n + 1)) = pack (l.take n) ++ enc x by rw [HST.out, hr]; rfl)
        clear hr
        go_wp2_with fail
        refine (write_is x u3 (pack (l.take n)) B d w w6 HNX.out B6.out R6.out HX.out HBIG.out).mono ?_
        rintro e w7 hW
        obtain ⟨v7, rfl, h1, h2⟩ := hW.on
        have R7 := Lib.hid h1; have B7 := Lib.hid h2
        clear hW h1 h2
        go_wp2_with fail
        go_roundw
        case rel => exact ⟨n + 1, by push_cast; rfl, by omega, by rw [E.out]; exact R7, B7⟩
        case measure => simp [intOf]; omega
    · have hx1 := decide_eq_false hx
      have hne : n = L := by omega
      have HNE := Lib.hid hne
      clear hne
      go_wp2_with fail
      go_ret
      have h5 := HV.out
      rw [List.take_of_length_le (by rw [EL.out, HNE.out]; exact Nat.le_refl _)] at h5
      exact ⟨_, rfl, h5, HB.out⟩
end Go.Proofs.Ytggdpeeiioibgaa.E
