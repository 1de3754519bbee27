/- Marline, layer 01: texts of numbers: the program's, the reference's. Conditions: as each says. -/
import Derived.Test.YtfofpammnfcmiaaDoorNa
import Derived.Test.YtfofpammnfcmiaaDoorObj
import Derived.Test.YtfofpammnfcmiaaDoorSh1
import Derived.Test.YtfofpammnfcmiaaDoorSh2
import Derived.Laws.Bits64
import Derived.Laws.Bits64b
import Derived.Lib.ItoaNum
import Derived.Lib.AppendIntMem
import Derived.Lib.LaidTab
import Derived.Lib.ConvBytes
namespace Go.Proofs.YtfofpammnfcmiaaDoor.E
open Go.RowKit Go.Proofs.YtfofpammnfcmiaaDoorW.PrintWords Go.Proofs.YtfofpammnfcmiaaDoorW.PrintLast Go.Proofs.YtfofpammnfcmiaaDoorW.PrintMore Go.Proofs.YtfofpammnfcmiaaDoor.Obj
set_option linter.unusedVariables false
set_option linter.unusedSimpArgs false

/-- a number of 64 bits. -/
abbrev In (x : Int) : Prop := -9223372036854775808 ≤ x ∧ x ≤ 9223372036854775807
/-- how far from 0. -/
def ab (a : Int) : Int := if a < 0 then -a else a
theorem xor_ones (x : Int) (h0 : 0 ≤ x) (h : x < 18446744073709551616) : bits .xor .u64 18446744073709551615 x = 18446744073709551615 - x := by
  obtain ⟨n, rfl⟩ : ∃ n : Nat, x = n := ⟨x.toNat, by omega⟩
  have hn : n < 18446744073709551616 := by omega
  have h1 := bits_xor_u64_nat 18446744073709551615 n (by decide) hn
  rw [show ((18446744073709551615 : Nat) : Int) = 18446744073709551615 from rfl] at h1
  rw [h1]
  have h2 : 18446744073709551615 ^^^ n = 18446744073709551615 - n := by
    have h3 : (BitVec.allOnes 64 ^^^ BitVec.ofNat 64 n).toNat = (~~~ (BitVec.ofNat 64 n)).toNat := by rw [BitVec.allOnes_xor]
    rw [BitVec.toNat_xor, BitVec.toNat_not, BitVec.toNat_ofNat, Nat.mod_eq_of_lt hn] at h3
    exact h3
  rw [h2]; omega
theorem big_is (a : Int) (ha : In a) : PA.marlineref01_big.f a = some (decide (a < 0), ab a) := by
  unfold PA.marlineref01_big.f ab
  by_cases h : a < 0
  · rw [if_pos h, if_pos h, decide_eq_true h]
    have h1 : IntKind.u64.wrap a = a + 18446744073709551616 := by rw [IntKind.wrap_u64]; omega
    rw [h1, xor_ones _ (by omega) (by omega), IntKind.wrap_u64]
    congr 2
    omega
  · rw [if_neg h, if_neg h, decide_eq_false h, IntKind.wrap_u64]
    congr 2
    omega
theorem ab_bd (a : Int) (ha : In a) : 0 ≤ ab a ∧ ab a ≤ 9223372036854775808 := by unfold ab; split <;> omega
/-- a variable that lies in w lies in w'. -/
theorem var_below {w w' : World} (hb : Below w.heap.size w w') {n : String} {cs : Array Value} (h : w.var? Tryd.prog n = some cs) : w'.var? Tryd.prog n = some cs := by
  unfold World.var? at h ⊢
  cases hg : Tryd.prog.globalNamed n with
  | none => simp [hg] at h
  | some g =>
    simp only [hg, Option.bind_some] at h ⊢
    have hlt : g < w.heap.size := by
      rcases Nat.lt_or_ge g w.heap.size with h' | h'
      · exact h'
      · simp [Array.getElem?_eq_none h'] at h
    rw [hb.block g hlt]
    exact h
/-- the table of the powers of ten is laid. -/
abbrev Pow (w : World) : Prop := Lib.TabIs Tryd.prog w "internal/strconv.uint64pow10" .u64 Lib.pow10Tab
theorem Pow.below {w w' : World} (h : Pow w) (hb : Below w.heap.size w w') : Pow w' := var_below hb h
theorem text_calls (n : Int) (w : World) (hn : In n) (hp : Pow w) :
    Calls Tryd.prog 62 #[.int .i64 n] w fun e w' => e = .returned (.string ⟨(Lib.itoa n).toArray⟩) ∧ Below w.heap.size w w' := by
  have IT := Lib.hid (Tryd.strconv_Itoa n hn.1 hn.2 w hp)
  clear hp hn
  go_enter Tryd.func62, Tryd.ntmps62
  go_wp2_with fail
  refine IT.out.mono ?_
  rintro e w2 ⟨rfl, k, os, h2⟩
  have B2 := Lib.hid (show Below w.heap.size w w2 from by rw [h2]; exact Lib.below_grow _ _ (Nat.le_refl _) _ _)
  clear h2
  go_wp2_with fail
  go_ret
  exact ⟨rfl, B2.out⟩

theorem in_of {x : Int} (h : (Lit.int .i64 x).wf = true) : In x := by
  have h1 : IntKind.i64.min ≤ x ∧ x ≤ IntKind.i64.max := by simpa [Lit.wf] using h
  have e1 : IntKind.i64.min = -9223372036854775808 := by decide
  have e2 : IntKind.i64.max = 9223372036854775807 := by decide
  rw [e1, e2] at h1; exact h1
/-- the number that a text is of. -/
def signedS (l : List UInt8) : Int × Int := match Lib.parseIntB 64 l with
  | .ok v => if Lib.itoa v = l then (v, 0) else (0, 1)
  | _ => (0, 1)
theorem parse_ok_in {l : List UInt8} {v : Int} (h : Lib.parseIntB 64 l = .ok v) : In v := by
  unfold Lib.parseIntB at h
  split at h
  · cases h
  · simp only at h
    split at h
    · cases h
    · cases h
    · split at h
      · cases h
      · split at h
        · cases h
        · injection h with h
          subst h
          rename_i h1 h2
          split <;> omega
theorem parse_digits (M : Nat) (hM : M < 18446744073709551616) : ∀ (u : Nat), u ≤ M → ∀ r, Lib.parseUintM M 0 (Lib.decDigits u ++ r) = Lib.parseUintM M u r := by
  intro u
  induction u using Nat.strongRecOn with
  | _ u ih =>
    intro hu r
    have hd : ∀ d : Nat, d < 10 → (UInt8.ofNat (48 + d)).toNat = 48 + d := by
      intro d hd
      rw [UInt8.toNat_ofNat']
      exact Nat.mod_eq_of_lt (by omega)
    by_cases h : u < 10
    · rw [Lib.decDigits_one h]
      simp only [List.cons_append, List.nil_append, Lib.parseUintM]
      rw [hd u h, if_pos (by omega), if_neg (by omega), if_neg (by omega)]
      congr 1
      omega
    · rw [Lib.decDigits, dif_neg h, List.append_assoc, ih (u / 10) (by omega) (by omega)]
      simp only [List.cons_append, List.nil_append, Lib.parseUintM]
      rw [hd (u % 10) (by omega), if_pos (by omega), if_neg (by omega), if_neg (by omega)]
      congr 1
      omega
theorem digs_ne (u : Nat) : Lib.decDigits u ≠ [] := by
  intro h
  have h1 := Lib.decDigits_length u
  rw [h] at h1
  have := Lib.nDigits_pos u
  simp at h1
  omega
theorem dec_head (u : Nat) : ∃ c r, Lib.decDigits u = c :: r ∧ c.toNat ≠ 43 ∧ c.toNat ≠ 45 := by
  induction u using Nat.strongRecOn with
  | _ u ih =>
    by_cases h : u < 10
    · refine ⟨_, _, Lib.decDigits_one h, ?_, ?_⟩ <;> (rw [UInt8.toNat_ofNat', Nat.mod_eq_of_lt (by omega)]; omega)
    · obtain ⟨c, r, h1, h2, h3⟩ := ih (u / 10) (by omega)
      exact ⟨c, r ++ [UInt8.ofNat (48 + u % 10)], by rw [Lib.decDigits, dif_neg h, h1]; rfl, h2, h3⟩
theorem parse_itoa (n : Int) (hn : In n) : Lib.parseIntB 64 (Lib.itoa n) = .ok n := by
  unfold Lib.itoa
  by_cases h : n < 0
  · rw [if_pos h]
    unfold Lib.parseIntB
    simp only
    rw [show ((45 : UInt8).toNat) = 45 from rfl, if_pos (by omega)]
    unfold Lib.parseUintB
    have h1 := parse_digits (2 ^ 64 - 1) (by decide) n.natAbs (by omega) []
    rw [List.append_nil] at h1
    rw [if_neg (digs_ne _), h1]
    simp only [Lib.parseUintM]
    rw [if_neg (fun h => h.1 trivial), if_neg (fun h => by have := h.2; omega), if_pos trivial]
    congr 1
    omega
  · rw [if_neg h]
    obtain ⟨c, r, h1, h2, h3⟩ := dec_head n.toNat
    have h4 := parse_digits (2 ^ 64 - 1) (by decide) n.toNat (by omega) []
    rw [List.append_nil] at h4
    rw [h1] at h4 ⊢
    unfold Lib.parseIntB
    simp only
    rw [if_neg (by omega)]
    unfold Lib.parseUintB
    rw [if_neg (by simp), h4]
    simp only [Lib.parseUintM]
    rw [if_neg (fun h => by have := h.2; omega), if_neg (fun h => h3 h.1), if_neg h3]
    congr 1
    omega
theorem signed_itoa (n : Int) (hn : In n) : signedS (Lib.itoa n) = (n, 0) := by
  unfold signedS
  rw [parse_itoa n hn]
  exact if_pos rfl
theorem signed_ok {l : List UInt8} {c : Int} {h : Int} (e : signedS l = (c, h)) : (h = 0 ∧ Lib.itoa c = l ∧ In c) ∨ (h = 1 ∧ c = 0) := by
  unfold signedS at e
  split at e
  · rename_i v hv
    split at e
    · rename_i h1
      injection e with e1 e2
      subst e1
      exact .inl ⟨e2.symm, h1, parse_ok_in hv⟩
    · injection e with e1 e2
      exact .inr ⟨e2.symm, e1.symm⟩
  · injection e with e1 e2
    exact .inr ⟨e2.symm, e1.symm⟩
/-- the library's two errors are there. -/
structure Errs (w : World) : Prop where
  sy : ∃ ev, w.cell? ⟨4, 0, none⟩ = some ev ∧ (ev = .nilIface ∨ ∃ te pe, ev = .iface te pe)
  ra : ∃ ev, w.cell? ⟨5, 0, none⟩ = some ev ∧ (ev = .nilIface ∨ ∃ te pe, ev = .iface te pe)
theorem Errs.below {w w' : World} (h : Errs w) (hb : Below w.heap.size w w') : Errs w' := by
  obtain ⟨⟨a, h1, h2⟩, ⟨b, h3, h4⟩⟩ := h
  exact ⟨⟨a, pw_cell_below hb h1, h2⟩, ⟨b, pw_cell_below hb h3, h4⟩⟩
theorem bytes_below (w : World) (t : ByteArray) : Below w.heap.size w (Lib.bytesWorld w 5 t) := ⟨rfl, rfl, rfl, by rw [Lib.bytesWorld_size]; omega, fun k hk => Lib.bytesWorld_at_old w 5 t k hk⟩
set_option maxHeartbeats 4000000 in
set_option maxRecDepth 100000 in
theorem signed_calls (s : ByteArray) (w : World) (hs : s.size ≤ 140737488355328) (hp : Pow w) (he : Errs w) :
    Calls Tryd.prog 71 #[.string s] w fun e w' => e = .returned (.tuple #[.int .i64 (signedS s.data.toList).1, .int .i64 (signedS s.data.toList).2]) ∧ Below w.heap.size w w' := by
  obtain ⟨l, hl⟩ : ∃ l, s.data.toList = l := ⟨_, rfl⟩
  have HP := Lib.hid hp
  rcases hc : Lib.parseIntB 64 s.data.toList with ⟨v⟩ | _ | _
  · skip
    have C1 := Lib.hid (Tryd.strconv_ParseInt_10_at64_ok s (by omega) v hc w)
    have hv := parse_ok_in hc
    have HV := Lib.hid hv
    rw [hl] at hc ⊢
    have hsg : signedS l = if Lib.itoa v = l then (v, 0) else (0, 1) := by unfold signedS; rw [hc]
    have HL := Lib.hid hl
    by_cases hi : Lib.itoa v = l
    · rw [hsg, if_pos hi]
      have hst : (⟨(Lib.itoa v).toArray⟩ : ByteArray) = s := by
        rw [hi, ← hl]
      have HS := Lib.hid hst
      clear hp he hl hc hv hsg hi hst
      go_enter Tryd.func71, Tryd.ntmps71
      go_wp2_with fail
      refine C1.out.mono ?_
      rintro e w1 ⟨rfl, hb⟩
      have B1 := Lib.hid (show Below w.heap.size w w1 from hb.elim (fun e => by rw [e]; exact Below.refl _ _) (fun ⟨t, e⟩ => by rw [e]; exact bytes_below w t))
      clear hb C1
      go_wp2_with fail
      refine (text_calls v w1 HV.out (HP.out.below B1.out)).mono ?_
      rw [HS.out]
      rintro e w2 ⟨rfl, hb⟩
      have B2 := Lib.hid (B1.out.trans (hb.mono B1.out.size))
      clear hb
      go_wp2_with fail
      go_ret2
      exact ⟨rfl, B2.out⟩
    · rw [hsg, if_neg hi]
      obtain ⟨u, hu⟩ : ∃ u : ByteArray, ⟨(Lib.itoa v).toArray⟩ = u := ⟨_, rfl⟩
      have hne : (u.toList == s.toList) = false := by
        rw [beq_eq_false_iff_ne]
        intro e
        rw [ByteArray.toList_eq, ByteArray.toList_eq, hl, ← hu] at e
        exact hi e
      have hne2 : (!(u.toList == s.toList)) = true := by rw [hne]; rfl
      have HU := Lib.hid hu
      clear hp he hl hc hv hsg hi hu
      go_enter Tryd.func71, Tryd.ntmps71
      go_wp2_with fail
      refine C1.out.mono ?_
      rintro e w1 ⟨rfl, hb⟩
      have B1 := Lib.hid (show Below w.heap.size w w1 from hb.elim (fun e => by rw [e]; exact Below.refl _ _) (fun ⟨t, e⟩ => by rw [e]; exact bytes_below w t))
      clear hb C1
      go_wp2_with fail
      refine (text_calls v w1 HV.out (HP.out.below B1.out)).mono ?_
      rw [HU.out]
      rintro e w2 ⟨rfl, hb⟩
      have B2 := Lib.hid (B1.out.trans (hb.mono B1.out.size))
      clear hb
      go_wp2_with fail
      go_ret2
      exact ⟨rfl, B2.out⟩
  · skip
    obtain ⟨ev, h1, h2⟩ := he.sy
    have C1 := Lib.hid (Tryd.strconv_ParseInt_10_at64_syntax s (by omega) ⟨fun v e => (by rw [hc] at e; cases e), fun e => (by rw [hc] at e; cases e)⟩ ev w h1 h2)
    have hsg : signedS s.data.toList = (0, 1) := by unfold signedS; rw [hc]
    rw [hsg]
    clear hp he hl hc hsg h1 h2
    go_enter Tryd.func71, Tryd.ntmps71
    go_wp2_with fail
    refine C1.out.mono ?_
    rintro e w1 ⟨N, rfl, _, _, hb⟩
    have B1 := Lib.hid hb
    clear hb C1
    go_wp2_with fail
    go_ret2
    exact ⟨rfl, B1.out⟩
  · skip
    obtain ⟨ev, h1, h2⟩ := he.ra
    have C1 := Lib.hid (Tryd.strconv_ParseInt_10_at64_range s (by omega) hc ev w h1 h2)
    have hsg : signedS s.data.toList = (0, 1) := by unfold signedS; rw [hc]
    rw [hsg]
    clear hp he hl hc hsg h1 h2
    go_enter Tryd.func71, Tryd.ntmps71
    go_wp2_with fail
    refine C1.out.mono ?_
    rintro e w1 ⟨N, rfl, _, _, hb⟩
    have B1 := Lib.hid hb
    clear hb C1
    go_wp2_with fail
    go_ret2
    exact ⟨rfl, B1.out⟩
set_option maxRecDepth 100000

abbrev digs : ByteArray := ⟨#[48, 49, 50, 51, 52, 53, 54, 55, 56, 57]⟩
theorem digit_at (d : Nat) (hd : d < 10) (W : World) : (Instr.slice 9 (.string digs) (some (.int .u64 (d : Int))) (some (.int .u64 ((d : Int) + 1))) none).run Tryd.prog W = .ok (.string ⟨#[UInt8.ofNat (48 + d)]⟩) W := by
  have h : d = 0 ∨ d = 1 ∨ d = 2 ∨ d = 3 ∨ d = 4 ∨ d = 5 ∨ d = 6 ∨ d = 7 ∨ d = 8 ∨ d = 9 := by omega
  rcases h with rfl | rfl | rfl | rfl | rfl | rfl | rfl | rfl | rfl | rfl <;> rfl
theorem cat_list (a b : ByteArray) : (a ++ b).data.toList = a.data.toList ++ b.data.toList := by simp
theorem bytes_eq {a : ByteArray} {l : List UInt8} (h : a.data.toList = l) : a = ⟨l.toArray⟩ := by rw [← h]
theorem dec_step (m : Nat) (h : ¬ m < 10) : Lib.decDigits m = Lib.decDigits (m / 10) ++ [UInt8.ofNat (48 + m % 10)] := by rw [Lib.decDigits, dif_neg h]
theorem nd_half (u : Nat) : Lib.nDigits u ≤ u / 2 + 1 := by
  induction u using Nat.strongRecOn with
  | _ u ih =>
    by_cases h : u < 10
    · rw [Lib.nDigits_small h]; omega
    · rw [Lib.nDigits_big h]
      have := ih (u / 10) (by omega)
      omega
theorem left_size {m N : Nat} {o : ByteArray} (h : Lib.decDigits m ++ o.data.toList = Lib.decDigits N) (hN : (N : Int) ≤ 9223372036854775808) : o.size ≤ 4611686018427387905 := by
  have h1 := congrArg List.length h
  rw [List.length_append, Lib.decDigits_length, Lib.decDigits_length] at h1
  have h2 := nd_half N
  have h3 : o.data.toList.length = o.size := rfl
  omega
set_option maxHeartbeats 4000000 in
set_option maxRecDepth 100000 in
theorem refText_quiet (n : Int) (w : World) (hn : In n) :
    Calls Tryd.prog 61 #[.int .i64 n] w fun e w' => e = .returned (.string ⟨(Lib.itoa n).toArray⟩) ∧ Drawn0 w w' := by
  have ba := ab_bd n hn
  obtain ⟨N, hN⟩ : ∃ N : Nat, ab n = N := ⟨(ab n).toNat, by omega⟩
  have C1 := Lib.hid (PA.marlineref01_big.calls n _ _ w (big_is n hn))
  rw [hN] at C1 ba
  have hab : (decide (n < 0) = true → N = n.natAbs) ∧ (decide (n < 0) = false → N = n.toNat) := by
    unfold ab at hN
    constructor
    · intro h; rw [if_pos (of_decide_eq_true h)] at hN; omega
    · intro h; rw [if_neg (of_decide_eq_false h)] at hN; omega
  have HAB := Lib.hid hab
  have hNb : (N : Int) ≤ 9223372036854775808 := ba.2
  clear hab hN ba hn
  obtain ⟨b, hb⟩ : ∃ b, decide (n < 0) = b := ⟨_, rfl⟩
  rw [hb] at C1 HAB
  have HB := Lib.hid hb
  clear hb
  go_enter Tryd.func61, Tryd.ntmps61
  go_wp2_with fail
  refine C1.out.mono ?_
  rintro e w1 ⟨rfl, hb⟩
  have B1 := Lib.hid hb
  clear hb C1
  go_wp2_with fail
  go_loop [4, 5] (fun a s => ∃ (m : Nat) (o : ByteArray), a = .int .u64 m ∧ s = .string o ∧ (m : Int) ≤ 9223372036854775808 ∧ Hid (Lib.decDigits m ++ o.data.toList = Lib.decDigits N)) (fun a _ => (intOf a).toNat)
  case atStart => exact ⟨N, _, rfl, rfl, hNb, Lib.hid (List.append_nil _)⟩
  case round =>
    obtain ⟨m, o, rfl, rfl, hm, HM⟩ := hrel
    have hos := left_size HM.out hNb
    by_cases h9 : (9 : Int) < (m : Int)
    · have e1 : (m : Int) % 10 = ((m % 10 : Nat) : Int) := by omega
      have hd : m % 10 < 10 := by omega
      have sl := digit_at (m % 10) hd
      have hst : Lib.decDigits (m / 10) ++ ([UInt8.ofNat (48 + m % 10)] ++ o.data.toList) = Lib.decDigits N := by
        rw [← HM.out, dec_step m (by omega), List.append_assoc]
      obtain ⟨ch, hch⟩ : ∃ ch, UInt8.ofNat (48 + m % 10) = ch := ⟨_, rfl⟩
      rw [hch] at sl hst
      obtain ⟨d, hdd⟩ : ∃ d, m % 10 = d := ⟨_, rfl⟩
      rw [hdd] at e1 sl hd
      have HST := Lib.hid hst
      clear hdd hch hst
      go_wp2_with fail
      go_wp2_with fail
      go_round
      case rel => exact ⟨m / 10, ⟨#[ch]⟩ ++ o, by push_cast; rfl, rfl, by omega, Lib.hid (by rw [← HST.out, cat_list])⟩
      case measure => simp [intOf]; omega
    · have hd : m < 10 := by omega
      have sl := digit_at m hd
      have hst : [UInt8.ofNat (48 + m)] ++ o.data.toList = Lib.decDigits N := by
        rw [← HM.out, Lib.decDigits_one hd]
      obtain ⟨ch, hch⟩ : ∃ ch, UInt8.ofNat (48 + m) = ch := ⟨_, rfl⟩
      rw [hch] at sl hst
      have HST := Lib.hid hst
      clear hch hst
      have sz1 : (⟨#[ch]⟩ ++ o : ByteArray).size ≤ 4611686018427387906 := by rw [ByteArray.size_append]; show 1 + o.size ≤ _; omega
      cases b
      · go_wp2_with fail
        go_wp2_with fail
        go_ret
        refine ⟨congrArg Ending.returned (congrArg Value.string (bytes_eq ?_)), B1.out⟩
        rw [cat_list]
        show [ch] ++ o.data.toList = Lib.itoa n
        rw [HST.out, HAB.out.2 trivial]
        unfold Lib.itoa
        rw [if_neg (of_decide_eq_false HB.out)]
      · go_wp2_with fail
        go_wp2_with fail
        go_ret
        refine ⟨congrArg Ending.returned (congrArg Value.string (bytes_eq ?_)), B1.out⟩
        rw [cat_list, cat_list]
        show 45 :: ([ch] ++ o.data.toList) = Lib.itoa n
        rw [HST.out, HAB.out.1 trivial]
        unfold Lib.itoa
        rw [if_pos (of_decide_eq_true HB.out)]
theorem refText_calls (n : Int) (w : World) (hn : In n) :
    Calls Tryd.prog 61 #[.int .i64 n] w fun e w' => e = .returned (.string ⟨(Lib.itoa n).toArray⟩) ∧ Below w.heap.size w w' := (refText_quiet n w hn).mono fun _ _ h => ⟨h.1, h.2.below⟩
end Go.Proofs.YtfofpammnfcmiaaDoor.E
