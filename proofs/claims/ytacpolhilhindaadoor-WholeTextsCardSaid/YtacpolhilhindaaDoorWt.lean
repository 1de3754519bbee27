/- Marline, layer 01: texts of numbers: the program's, the reference's. Conditions: as each says. -/
import Derived.Test.YtacpolhilhindaaDoorWe
import Derived.Test.YtacpolhilhindaaDoorSh2
import Derived.Lib.ItoaNum
namespace Go.Proofs.YtacpolhilhindaaDoor.E
open Go.RowKit Go.Proofs.YtacpolhilhindaaDoorW.PrintWords Go.Proofs.YtacpolhilhindaaDoorW.PrintLast Go.Proofs.YtacpolhilhindaaDoorW.PrintMore Go.Proofs.YtacpolhilhindaaDoor.Obj
set_option linter.unusedVariables false
set_option linter.unusedSimpArgs false

/-- the number that a text is of. -/
def signedS (l : List UInt8) : Int × Int := match Lib.parseIntB 64 l with
  | .ok v => if Lib.itoa v = l then (v, 0) else (0, 1)
  | _ => (0, 1)
theorem parse_ok_in {l : List UInt8} {v : Int} (h : Lib.parseIntB 64 l = .ok v) : In v := by
  unfold Lib.parseIntB at h
  split at h
  · cases h
  · simp only at h
    split at h
    · cases h
    · cases h
    · split at h
      · cases h
      · split at h
        · cases h
        · injection h with h
          subst h
          rename_i h1 h2
          split <;> omega
theorem parse_digits (M : Nat) (hM : M < 18446744073709551616) : ∀ (u : Nat), u ≤ M → ∀ r, Lib.parseUintM M 0 (Lib.decDigits u ++ r) = Lib.parseUintM M u r := by
  intro u
  induction u using Nat.strongRecOn with
  | _ u ih =>
    intro hu r
    have hd : ∀ d : Nat, d < 10 → (UInt8.ofNat (48 + d)).toNat = 48 + d := by
      intro d hd
      rw [UInt8.toNat_ofNat']
      exact Nat.mod_eq_of_lt (by omega)
    by_cases h : u < 10
    · rw [Lib.decDigits_one h]
      simp only [List.cons_append, List.nil_append, Lib.parseUintM]
      rw [hd u h, if_pos (by omega), if_neg (by omega), if_neg (by omega)]
      congr 1
      omega
    · rw [Lib.decDigits, dif_neg h, List.append_assoc, ih (u / 10) (by omega) (by omega)]
      simp only [List.cons_append, List.nil_append, Lib.parseUintM]
      rw [hd (u % 10) (by omega), if_pos (by omega), if_neg (by omega), if_neg (by omega)]
      congr 1
      omega
theorem digs_ne (u : Nat) : Lib.decDigits u ≠ [] := by
  intro h
  have h1 := Lib.decDigits_length u
  rw [h] at h1
  have := Lib.nDigits_pos u
  simp at h1
  omega
theorem dec_head (u : Nat) : ∃ c r, Lib.decDigits u = c :: r ∧ c.toNat ≠ 43 ∧ c.toNat ≠ 45 := by
  induction u using Nat.strongRecOn with
  | _ u ih =>
    by_cases h : u < 10
    · refine ⟨_, _, Lib.decDigits_one h, ?_, ?_⟩ <;> (rw [UInt8.toNat_ofNat', Nat.mod_eq_of_lt (by omega)]; omega)
    · obtain ⟨c, r, h1, h2, h3⟩ := ih (u / 10) (by omega)
      exact ⟨c, r ++ [UInt8.ofNat (48 + u % 10)], by rw [Lib.decDigits, dif_neg h, h1]; rfl, h2, h3⟩
theorem parse_itoa (n : Int) (hn : In n) : Lib.parseIntB 64 (Lib.itoa n) = .ok n := by
  unfold Lib.itoa
  by_cases h : n < 0
  · rw [if_pos h]
    unfold Lib.parseIntB
    simp only
    rw [show ((45 : UInt8).toNat) = 45 from rfl, if_pos (by omega)]
    unfold Lib.parseUintB
    have h1 := parse_digits (2 ^ 64 - 1) (by decide) n.natAbs (by omega) []
    rw [List.append_nil] at h1
    rw [if_neg (digs_ne _), h1]
    simp only [Lib.parseUintM]
    rw [if_neg (fun h => h.1 trivial), if_neg (fun h => by have := h.2; omega), if_pos trivial]
    congr 1
    omega
  · rw [if_neg h]
    obtain ⟨c, r, h1, h2, h3⟩ := dec_head n.toNat
    have h4 := parse_digits (2 ^ 64 - 1) (by decide) n.toNat (by omega) []
    rw [List.append_nil] at h4
    rw [h1] at h4 ⊢
    unfold Lib.parseIntB
    simp only
    rw [if_neg (by omega)]
    unfold Lib.parseUintB
    rw [if_neg (by simp), h4]
    simp only [Lib.parseUintM]
    rw [if_neg (fun h => by have := h.2; omega), if_neg (fun h => h3 h.1), if_neg h3]
    congr 1
    omega
theorem signed_itoa (n : Int) (hn : In n) : signedS (Lib.itoa n) = (n, 0) := by
  unfold signedS
  rw [parse_itoa n hn]
  exact if_pos rfl
theorem signed_ok {l : List UInt8} {c : Int} {h : Int} (e : signedS l = (c, h)) : (h = 0 ∧ Lib.itoa c = l ∧ In c) ∨ (h = 1 ∧ c = 0) := by
  unfold signedS at e
  split at e
  · rename_i v hv
    split at e
    · rename_i h1
      injection e with e1 e2
      subst e1
      exact .inl ⟨e2.symm, h1, parse_ok_in hv⟩
    · injection e with e1 e2
      exact .inr ⟨e2.symm, e1.symm⟩
  · injection e with e1 e2
    exact .inr ⟨e2.symm, e1.symm⟩
/-- the library's two errors are there. -/
structure Errs (w : World) : Prop where
  sy : ∃ ev, w.cell? ⟨3, 0, none⟩ = some ev ∧ (ev = .nilIface ∨ ∃ te pe, ev = .iface te pe)
  ra : ∃ ev, w.cell? ⟨4, 0, none⟩ = some ev ∧ (ev = .nilIface ∨ ∃ te pe, ev = .iface te pe)
theorem Errs.below {w w' : World} (h : Errs w) (hb : Below w.heap.size w w') : Errs w' := by
  obtain ⟨⟨a, h1, h2⟩, ⟨b, h3, h4⟩⟩ := h
  exact ⟨⟨a, pw_cell_below hb h1, h2⟩, ⟨b, pw_cell_below hb h3, h4⟩⟩
theorem bytes_below (w : World) (t : ByteArray) : Below w.heap.size w (Lib.bytesWorld w 5 t) := ⟨rfl, rfl, rfl, by rw [Lib.bytesWorld_size]; omega, fun k hk => Lib.bytesWorld_at_old w 5 t k hk⟩
set_option maxHeartbeats 4000000 in
set_option maxRecDepth 100000 in
theorem signed_calls (s : ByteArray) (w : World) (hs : s.size ≤ 140737488355328) (hp : Pow w) (he : Errs w) :
    Calls Tryd.prog 14 #[.string s] w fun e w' => e = .returned (.tuple #[.int .i64 (signedS s.data.toList).1, .int .i64 (signedS s.data.toList).2]) ∧ Below w.heap.size w w' := by
  obtain ⟨l, hl⟩ : ∃ l, s.data.toList = l := ⟨_, rfl⟩
  have HP := Lib.hid hp
  rcases hc : Lib.parseIntB 64 s.data.toList with ⟨v⟩ | _ | _
  · skip
    have C1 := Lib.hid (Tryd.strconv_ParseInt_10_at64_ok s (by omega) v hc w)
    have hv := parse_ok_in hc
    have HV := Lib.hid hv
    rw [hl] at hc ⊢
    have hsg : signedS l = if Lib.itoa v = l then (v, 0) else (0, 1) := by unfold signedS; rw [hc]
    have HL := Lib.hid hl
    by_cases hi : Lib.itoa v = l
    · rw [hsg, if_pos hi]
      have hst : (⟨(Lib.itoa v).toArray⟩ : ByteArray) = s := by
        rw [hi, ← hl]
      have HS := Lib.hid hst
      clear hp he hl hc hv hsg hi hst
      go_enter Tryd.func14, Tryd.ntmps14
      go_wp2_with fail
      refine C1.out.mono ?_
      rintro e w1 ⟨rfl, hb⟩
      have B1 := Lib.hid (show Below w.heap.size w w1 from hb.elim (fun e => by rw [e]; exact Below.refl _ _) (fun ⟨t, e⟩ => by rw [e]; exact bytes_below w t))
      clear hb C1
      go_wp2_with fail
      refine (text_calls v w1 HV.out (HP.out.below B1.out)).mono ?_
      rw [HS.out]
      rintro e w2 ⟨rfl, hb⟩
      have B2 := Lib.hid (B1.out.trans (hb.mono B1.out.size))
      clear hb
      go_wp2_with fail
      go_ret2
      exact ⟨rfl, B2.out⟩
    · rw [hsg, if_neg hi]
      obtain ⟨u, hu⟩ : ∃ u : ByteArray, ⟨(Lib.itoa v).toArray⟩ = u := ⟨_, rfl⟩
      have hne : (u.toList == s.toList) = false := by
        rw [beq_eq_false_iff_ne]
        intro e
        rw [ByteArray.toList_eq, ByteArray.toList_eq, hl, ← hu] at e
        exact hi e
      have hne2 : (!(u.toList == s.toList)) = true := by rw [hne]; rfl
      have HU := Lib.hid hu
      clear hp he hl hc hv hsg hi hu
      go_enter Tryd.func14, Tryd.ntmps14
      go_wp2_with fail
      refine C1.out.mono ?_
      rintro e w1 ⟨rfl, hb⟩
      have B1 := Lib.hid (show Below w.heap.size w w1 from hb.elim (fun e => by rw [e]; exact Below.refl _ _) (fun ⟨t, e⟩ => by rw [e]; exact bytes_below w t))
      clear hb C1
      go_wp2_with fail
      refine (text_calls v w1 HV.out (HP.out.below B1.out)).mono ?_
      rw [HU.out]
      rintro e w2 ⟨rfl, hb⟩
      have B2 := Lib.hid (B1.out.trans (hb.mono B1.out.size))
      clear hb
      go_wp2_with fail
      go_ret2
      exact ⟨rfl, B2.out⟩
  · skip
    obtain ⟨ev, h1, h2⟩ := he.sy
    have C1 := Lib.hid (Tryd.strconv_ParseInt_10_at64_syntax s (by omega) ⟨fun v e => (by rw [hc] at e; cases e), fun e => (by rw [hc] at e; cases e)⟩ ev w h1 h2)
    have hsg : signedS s.data.toList = (0, 1) := by unfold signedS; rw [hc]
    rw [hsg]
    clear hp he hl hc hsg h1 h2
    go_enter Tryd.func14, Tryd.ntmps14
    go_wp2_with fail
    refine C1.out.mono ?_
    rintro e w1 ⟨N, rfl, _, _, hb⟩
    have B1 := Lib.hid hb
    clear hb C1
    go_wp2_with fail
    go_ret2
    exact ⟨rfl, B1.out⟩
  · skip
    obtain ⟨ev, h1, h2⟩ := he.ra
    have C1 := Lib.hid (Tryd.strconv_ParseInt_10_at64_range s (by omega) hc ev w h1 h2)
    have hsg : signedS s.data.toList = (0, 1) := by unfold signedS; rw [hc]
    rw [hsg]
    clear hp he hl hc hsg h1 h2
    go_enter Tryd.func14, Tryd.ntmps14
    go_wp2_with fail
    refine C1.out.mono ?_
    rintro e w1 ⟨N, rfl, _, _, hb⟩
    have B1 := Lib.hid hb
    clear hb C1
    go_wp2_with fail
    go_ret2
    exact ⟨rfl, B1.out⟩
end Go.Proofs.YtacpolhilhindaaDoor.E
