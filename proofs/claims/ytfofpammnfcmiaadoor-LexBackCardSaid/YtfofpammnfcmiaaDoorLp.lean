/- Marline, layer 10: what the laws try first; the law of cutting. Conditions: as each says. -/
import Derived.Test.YtfofpammnfcmiaaDoorLn
import Derived.Test.YtfofpammnfcmiaaDoorLo
namespace Go.Proofs.YtfofpammnfcmiaaDoor.Lx
open Go.RowKit Go.Proofs.YtfofpammnfcmiaaDoorW.PrintWords Go.Proofs.YtfofpammnfcmiaaDoorW.PrintLast Go.Proofs.YtfofpammnfcmiaaDoorW.PrintMore Go.Proofs.YtfofpammnfcmiaaDoor.Obj Go.Proofs.YtfofpammnfcmiaaDoor.Kinds Go.Proofs.YtfofpammnfcmiaaDoor.E
set_option linter.unusedVariables false
set_option linter.unusedSimpArgs false
set_option maxRecDepth 100000
theorem allC (s : ByteArray) (w : World) (ht : Tabs w) (hs : s.size ≤ 1000000) :
    Calls Tryd.prog 24 #[.string s] w fun e w' => ∃ v, e = .returned (.tuple #[v, .int .i64 (atOf (allS s.data.toList)), .int .i64 (errOf (allS s.data.toList))]) ∧ Kd.R k44 44 w' w.heap.size (fun _ => True) v ((toksOf (allS s.data.toList)).map enc) ∧ Below w.heap.size w w' := by
  have hlen : s.data.toList.length = s.size := rfl
  by_cases h : 16384 < s.size
  · have e1 : allS s.data.toList = .error (16384, 3) := by unfold allS; rw [if_pos (by rw [hlen]; exact h)]
    rw [e1]
    refine (all_long s w h).mono ?_
    rintro e w' ⟨rfl, hb⟩
    exact ⟨_, rfl, Kd.R_nil _ _ _ _ _, hb⟩
  · have e1 : allS s.data.toList = allF W0 (s.size + 1) s.data.toList 0 := by unfold allS; rw [if_neg (by rw [hlen]; exact h), hlen]
    rw [e1]
    exact all_calls10 s w (by omega) ht
theorem outR_is (x : Except (Nat × Int) (List Tok)) : outR [] x = ((toksOf x).map enc, atOf x, errOf x) := by
  cases x with
  | error e => rfl
  | ok ts => rfl
theorem refC (s : ByteArray) (hs : s.size ≤ 1000000) (w : World) :
    Calls Tryd.prog 25 #[.string s] w fun e w' => ∃ v, e = .returned (.tuple #[v, .int .i64 (atOf (allS s.data.toList)), .int .i64 (errOf (allS s.data.toList))]) ∧ Kd.R k44 44 w' w.heap.size (fun _ => True) v ((toksOf (allS s.data.toList)).map enc) ∧ Below w.heap.size w w' := by
  have h := refAll_calls s hs w
  rw [outR_is] at h
  exact h
theorem err_at : ∀ (f : Nat) (l : List UInt8) (p : Nat) (e : Nat × Int), allF W0 f l p = .error e → e.1 ≤ p + l.length
  | 0, l, p, e, h => by cases h
  | f + 1, l, p, e, h => by
    have hle := skip_le l false
    rw [allF] at h
    by_cases h0 : l.drop (skipM false l) = []
    · rw [if_pos h0] at h; cases h
    · rw [if_neg h0] at h
      by_cases h1 : (tok1 W0 (l.drop (skipM false l)) (p + skipM false l)).2 = 0
      · rw [if_pos h1] at h
        obtain ⟨k1, _, _⟩ := tok_pre w0_ok h0 h1
        have k2 := congrArg List.length k1
        rw [List.length_append, List.length_drop] at k2
        cases h2 : allF W0 f ((l.drop (skipM false l)).drop (tok1 W0 (l.drop (skipM false l)) (p + skipM false l)).1.text.length) (p + skipM false l + (tok1 W0 (l.drop (skipM false l)) (p + skipM false l)).1.text.length) with
        | error e2 =>
          rw [h2] at h
          injection h with h
          subst h
          have ih := err_at f _ _ _ h2
          rw [List.length_drop, List.length_drop] at ih
          omega
        | ok ts => rw [h2] at h; cases h
      · rw [if_neg h1] at h
        injection h with h
        subst h
        show p + skipM false l ≤ _
        omega
theorem at_le (l : List UInt8) (hl : l.length ≤ 16384) : 0 ≤ atOf (allS l) ∧ atOf (allS l) ≤ (l.length : Int) := by
  unfold allS
  rw [if_neg (by omega)]
  cases h : allF W0 (l.length + 1) l 0 with
  | ok ts => exact ⟨Int.le_refl _, by show (0 : Int) ≤ _; omega⟩
  | error e =>
    have h1 := err_at _ _ _ _ h
    refine ⟨by show (0 : Int) ≤ (e.1 : Int); omega, ?_⟩
    show (e.1 : Int) ≤ _
    omega
theorem toks_le : ∀ (f : Nat) (l : List UInt8) (p : Nat) (ts : List Tok), allF W0 f l p = .ok ts → ts.length ≤ f
  | 0, l, p, ts, h => by injection h with h; subst h; exact Nat.le_refl _
  | f + 1, l, p, ts, h => by
    rw [allF] at h
    by_cases h0 : l.drop (skipM false l) = []
    · rw [if_pos h0] at h; injection h with h; subst h; simp
    · rw [if_neg h0] at h
      by_cases h1 : (tok1 W0 (l.drop (skipM false l)) (p + skipM false l)).2 = 0
      · rw [if_pos h1] at h
        obtain ⟨ts1, g1, g2⟩ := map_ok h
        subst g2
        have := toks_le f _ _ _ g1
        simp only [List.length_cons]; omega
      · rw [if_neg h1] at h; cases h
theorem len_le (l : List UInt8) (hl : l.length ≤ 16384) : (toksOf (allS l)).length ≤ 16385 := by
  unfold allS
  rw [if_neg (by omega)]
  cases h : allF W0 (l.length + 1) l 0 with
  | ok ts => have := toks_le _ _ _ _ h; show ts.length ≤ _; omega
  | error e => show 0 ≤ _; omega
abbrev lit : ByteArray := ⟨#[120, 49, 32, 61, 32, 48, 55, 59, 32, 35, 32, 101, 110, 100]⟩
def litT : List Tok := [⟨1, 0, 0, [120, 49]⟩, ⟨4, 3, 0, [61]⟩, ⟨2, 5, 7, [48, 55]⟩, ⟨4, 7, 0, [59]⟩, ⟨0, 14, 0, []⟩]
theorem lit_all : allS lit.data.toList = .ok litT := by rfl
abbrev lit2 : ByteArray := ⟨#[120, 49, 32, 61, 32, 48, 55, 32, 59]⟩
theorem lit_spell : spB (litT.map enc) = lit2 := by rfl
theorem lit_len : (litT.map enc).length = 5 := rfl
set_option maxHeartbeats 8000000 in
theorem works_calls (w : World) (ht : Tabs w) : Calls Tryd.prog 23 #[] w fun e w' => e = .returned (.bool true) ∧ Below w.heap.size w w' := by
  have C1 := Lib.hid (allC lit w ht (by decide))
  rw [lit_all] at C1
  clear ht
  go_enter Tryd.func23, Tryd.ntmps23
  go_wp2_with fail
  refine C1.out.mono ?_
  rintro e w1 ⟨v, rfl, r1, b1⟩
  obtain ⟨L, hL⟩ : ∃ L, litT.map enc = L := ⟨_, rfl⟩
  have e1 : (toksOf (Except.ok litT)).map enc = L := hL
  rw [e1] at r1
  obtain ⟨A, c, rfl⟩ := Kd.R_slice r1
  obtain ⟨_, hc, hC⟩ := Kd.R_reads' r1
  have hl5 : L.length = 5 := by rw [← hL]; rfl
  obtain ⟨ad, he, k0, k1, k2, k3⟩ := at_T44 hC 2 (by omega) (by omega)
  obtain ⟨ad2, he2, j0, j1, j2, j3⟩ := at_T44 hC 4 (by omega) (by omega)
  have s2 : rd_T44 L 2 = ⟨2, 5, 7, ⟨#[48, 55]⟩⟩ := by rw [← hL]; rfl
  have s4 : rd_T44 L 4 = ⟨0, 14, 0, ⟨#[]⟩⟩ := by rw [← hL]; rfl
  rw [s2] at k0 k1 k2 k3
  rw [s4] at j0 j1 j2 j3
  have hz2 : (2 : Int).toNat = 2 := rfl
  have hz4 : (4 : Int).toNat = 4 := rfl
  rw [hz2] at k0 k1 k2 k3
  rw [hz4] at j0 j1 j2 j3
  subst he
  injection he2 with he2
  subst he2
  have SC := Lib.hid (spell_calls _ c L w1 hC hc (by omega) (by rw [← hL, lit_spell]; decide))
  rw [← hL, lit_spell, hL] at SC
  have B1 := Lib.hid b1
  simp only [hl5] at SC ⊢
  have e2 : atOf (Except.ok litT) = 0 := rfl
  have e3 : errOf (Except.ok litT) = 0 := rfl
  rw [e2, e3]
  clear r1 hc hC C1 b1 e1 hL s2 s4 hz2 hz4 e2 e3
  have k2 : w1.cell? ⟨ad.block, ad.off + 8 + 2, none⟩ = some (.int .i64 7) := k2
  have k3 : w1.cell? ⟨ad.block, ad.off + 8 + 3, none⟩ = some (.string ⟨#[48, 55]⟩) := k3
  have j1 : w1.cell? ⟨ad.block, ad.off + 16 + 1, none⟩ = some (.int .i64 14) := j1
  clear k0 k1 j0 j2 j3
  go_wp2_with fail
  refine SC.out.mono ?_
  rintro e w2 ⟨rfl, b2⟩
  have B2 := Lib.hid (B1.out.trans (b2.mono B1.out.size))
  clear b2 SC
  go_wp2_with fail
  go_ret
  exact ⟨rfl, B2.out⟩
set_option maxHeartbeats 8000000 in
theorem cuts_walk (s : ByteArray) (w : World) (hs : s.size ≤ 9000000000000000) (h : Tabs w) : Calls Tryd.prog 6 #[.string s] w fun e w' => e = .returned (.bool true) ∧ Below w.heap.size w w' := by
  have W1 := Lib.hid (works_calls w h)
  have HL := Lib.hid h
  by_cases hl : s.size ≤ 500
  · have hl2 : decide ((500 : Int) < (s.size : Int)) = false := decide_eq_false (by omega)
    have C1 := Lib.hid (fun w h => allC s w h (by omega))
    have C2 := Lib.hid (fun w => refC s (by omega) w)
    have hat := at_le s.data.toList (show s.size ≤ _ by omega)
    have hln := len_le s.data.toList (show s.size ≤ _ by omega)
    rw [show s.data.toList.length = s.size from rfl] at hat
    obtain ⟨x, hx⟩ : ∃ x, allS s.data.toList = x := ⟨_, rfl⟩
    rw [hx] at C1 C2 hat hln
    obtain ⟨a, ha⟩ : ∃ a, atOf x = a := ⟨_, rfl⟩
    obtain ⟨er, her⟩ : ∃ er, errOf x = er := ⟨_, rfl⟩
    obtain ⟨L, hL⟩ : ∃ L, (toksOf x).map enc = L := ⟨_, rfl⟩
    have hlL : L.length ≤ 16385 := by rw [← hL, List.length_map]; exact hln
    rw [ha] at hat
    rw [ha, her, hL] at C1 C2
    have HLL := Lib.hid hlL
    have hp : decide (a ≤ (s.size : Int)) = true := decide_eq_true hat.2
    clear h hl hx ha her hL hlL hat hln hs
    go_enter Tryd.func6, Tryd.ntmps6
    go_wp2_with fail
    refine W1.out.mono ?_
    rintro e w1 ⟨rfl, b1⟩
    have B1 := Lib.hid b1
    clear b1 W1
    go_wp2_with fail
    refine (C1.out w1 (HL.out.below B1.out)).mono ?_
    rintro e w2 ⟨v, rfl, r2, b2⟩
    have B2 := Lib.hid (B1.out.trans (b2.mono B1.out.size))
    obtain ⟨A, c, rfl⟩ := Kd.R_slice r2
    obtain ⟨_, hc, hC⟩ := Kd.R_reads' r2
    have HC := Lib.hid hc; have CC := Lib.hid hC
    clear b2 C1 r2 hc hC
    go_wp2_with fail
    refine (C2.out w2).mono ?_
    rintro e w3 ⟨v, rfl, r3, b3⟩
    have B3 := Lib.hid (B2.out.trans (b3.mono B2.out.size))
    obtain ⟨A2, c2, rfl⟩ := Kd.R_slice r3
    obtain ⟨_, hc2, hC2⟩ := Kd.R_reads' r3
    have SC := Lib.hid (PL.marlineref10_Same.calls _ A c L A2 c2 L true w3 (Kd.C_below CC.out b3) HC.out hC2 hc2 (same_self L (by have := HLL.out; omega)))
    clear b3 C2 r3 hc2 hC2 CC HC
    go_wp2_with fail
    refine SC.out.mono ?_
    rintro e w4 ⟨rfl, d4⟩
    have B4 := Lib.hid (B3.out.trans (Below.mono d4.below B3.out.size))
    clear d4 SC
    go_wp2_with fail
    go_ret
    exact ⟨rfl, B4.out⟩
  · have hl2 : decide ((500 : Int) < (s.size : Int)) = true := decide_eq_true (by omega)
    clear h hl
    go_enter Tryd.func6, Tryd.ntmps6
    go_wp2_with fail
    refine W1.out.mono ?_
    rintro e w1 ⟨rfl, b1⟩
    have B1 := Lib.hid b1
    clear b1 W1
    go_wp2_with fail
    refine (works_calls w1 (HL.out.below B1.out)).mono ?_
    rintro e w2 ⟨rfl, b2⟩
    have B2 := Lib.hid (B1.out.trans (b2.mono B1.out.size))
    clear b2
    go_wp2_with fail
    go_ret
    exact ⟨rfl, B2.out⟩
theorem cuts_row (s : ByteArray) (W : World) (h1 : s.size ≤ 140737488351232) (h : Tabs W) : Calls Tryd.prog 6 #[.string s] W fun e w' => e = .returned (.bool true) ∧ Below W.heap.size W w' := cuts_walk s W (by omega) h
end Go.Proofs.YtfofpammnfcmiaaDoor.Lx
