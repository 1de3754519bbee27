/- Marline, layer 01: the reference's Text. Conditions: a number of 64 bits. -/
import Derived.Test.YtacpolhilhindaaDoorWu
namespace Go.Proofs.YtacpolhilhindaaDoor.E
open Go.RowKit Go.Proofs.YtacpolhilhindaaDoorW.PrintWords Go.Proofs.YtacpolhilhindaaDoorW.PrintLast Go.Proofs.YtacpolhilhindaaDoorW.PrintMore Go.Proofs.YtacpolhilhindaaDoor.Obj
set_option linter.unusedVariables false
set_option linter.unusedSimpArgs false
set_option maxRecDepth 100000

abbrev digs : ByteArray := ⟨#[48, 49, 50, 51, 52, 53, 54, 55, 56, 57]⟩
theorem digit_at (d : Nat) (hd : d < 10) (W : World) : (Instr.slice 9 (.string digs) (some (.int .u64 (d : Int))) (some (.int .u64 ((d : Int) + 1))) none).run Tryd.prog W = .ok (.string ⟨#[UInt8.ofNat (48 + d)]⟩) W := by
  have h : d = 0 ∨ d = 1 ∨ d = 2 ∨ d = 3 ∨ d = 4 ∨ d = 5 ∨ d = 6 ∨ d = 7 ∨ d = 8 ∨ d = 9 := by omega
  rcases h with rfl | rfl | rfl | rfl | rfl | rfl | rfl | rfl | rfl | rfl <;> rfl
theorem cat_list (a b : ByteArray) : (a ++ b).data.toList = a.data.toList ++ b.data.toList := by simp
theorem bytes_eq {a : ByteArray} {l : List UInt8} (h : a.data.toList = l) : a = ⟨l.toArray⟩ := by rw [← h]
theorem dec_step (m : Nat) (h : ¬ m < 10) : Lib.decDigits m = Lib.decDigits (m / 10) ++ [UInt8.ofNat (48 + m % 10)] := by rw [Lib.decDigits, dif_neg h]
theorem nd_half (u : Nat) : Lib.nDigits u ≤ u / 2 + 1 := by
  induction u using Nat.strongRecOn with
  | _ u ih =>
    by_cases h : u < 10
    · rw [Lib.nDigits_small h]; omega
    · rw [Lib.nDigits_big h]
      have := ih (u / 10) (by omega)
      omega
theorem left_size {m N : Nat} {o : ByteArray} (h : Lib.decDigits m ++ o.data.toList = Lib.decDigits N) (hN : (N : Int) ≤ 9223372036854775808) : o.size ≤ 4611686018427387905 := by
  have h1 := congrArg List.length h
  rw [List.length_append, Lib.decDigits_length, Lib.decDigits_length] at h1
  have h2 := nd_half N
  have h3 : o.data.toList.length = o.size := rfl
  omega
set_option maxHeartbeats 4000000 in
set_option maxRecDepth 100000 in
theorem refText_calls (n : Int) (w : World) (hn : In n) :
    Calls Tryd.prog 17 #[.int .i64 n] w fun e w' => e = .returned (.string ⟨(Lib.itoa n).toArray⟩) ∧ Below w.heap.size w w' := by
  have ba := ab_bd n hn
  obtain ⟨N, hN⟩ : ∃ N : Nat, ab n = N := ⟨(ab n).toNat, by omega⟩
  have C1 := Lib.hid (PA.marlineref01_big.calls n _ _ w (big_is n hn))
  rw [hN] at C1 ba
  have hab : (decide (n < 0) = true → N = n.natAbs) ∧ (decide (n < 0) = false → N = n.toNat) := by
    unfold ab at hN
    constructor
    · intro h; rw [if_pos (of_decide_eq_true h)] at hN; omega
    · intro h; rw [if_neg (of_decide_eq_false h)] at hN; omega
  have HAB := Lib.hid hab
  have hNb : (N : Int) ≤ 9223372036854775808 := ba.2
  clear hab hN ba hn
  obtain ⟨b, hb⟩ : ∃ b, decide (n < 0) = b := ⟨_, rfl⟩
  rw [hb] at C1 HAB
  have HB := Lib.hid hb
  clear hb
  go_enter Tryd.func17, Tryd.ntmps17
  go_wp2_with fail
  refine C1.out.mono ?_
  rintro e w1 ⟨rfl, hb⟩
  have B1 := Lib.hid hb.below
  clear hb C1
  go_wp2_with fail
  go_loop [4, 5] (fun a s => ∃ (m : Nat) (o : ByteArray), a = .int .u64 m ∧ s = .string o ∧ (m : Int) ≤ 9223372036854775808 ∧ Hid (Lib.decDigits m ++ o.data.toList = Lib.decDigits N)) (fun a _ => (intOf a).toNat)
  case atStart => exact ⟨N, _, rfl, rfl, hNb, Lib.hid (List.append_nil _)⟩
  case round =>
    obtain ⟨m, o, rfl, rfl, hm, HM⟩ := hrel
    have hos := left_size HM.out hNb
    by_cases h9 : (9 : Int) < (m : Int)
    · have e1 : (m : Int) % 10 = ((m % 10 : Nat) : Int) := by omega
      have hd : m % 10 < 10 := by omega
      have sl := digit_at (m % 10) hd
      have hst : Lib.decDigits (m / 10) ++ ([UInt8.ofNat (48 + m % 10)] ++ o.data.toList) = Lib.decDigits N := by
        rw [← HM.out, dec_step m (by omega), List.append_assoc]
      obtain ⟨ch, hch⟩ : ∃ ch, UInt8.ofNat (48 + m % 10) = ch := ⟨_, rfl⟩
      rw [hch] at sl hst
      obtain ⟨d, hdd⟩ : ∃ d, m % 10 = d := ⟨_, rfl⟩
      rw [hdd] at e1 sl hd
      have HST := Lib.hid hst
      clear hdd hch hst
      go_wp2_with fail
      go_wp2_with fail
      go_round
      case rel => exact ⟨m / 10, ⟨#[ch]⟩ ++ o, by push_cast; rfl, rfl, by omega, Lib.hid (by rw [← HST.out, cat_list])⟩
      case measure => simp [intOf]; omega
    · have hd : m < 10 := by omega
      have sl := digit_at m hd
      have hst : [UInt8.ofNat (48 + m)] ++ o.data.toList = Lib.decDigits N := by
        rw [← HM.out, Lib.decDigits_one hd]
      obtain ⟨ch, hch⟩ : ∃ ch, UInt8.ofNat (48 + m) = ch := ⟨_, rfl⟩
      rw [hch] at sl hst
      have HST := Lib.hid hst
      clear hch hst
      have sz1 : (⟨#[ch]⟩ ++ o : ByteArray).size ≤ 4611686018427387906 := by rw [ByteArray.size_append]; show 1 + o.size ≤ _; omega
      cases b
      · go_wp2_with fail
        go_wp2_with fail
        go_ret
        refine ⟨congrArg Ending.returned (congrArg Value.string (bytes_eq ?_)), B1.out⟩
        rw [cat_list]
        show [ch] ++ o.data.toList = Lib.itoa n
        rw [HST.out, HAB.out.2 trivial]
        unfold Lib.itoa
        rw [if_neg (of_decide_eq_false HB.out)]
      · go_wp2_with fail
        go_wp2_with fail
        go_ret
        refine ⟨congrArg Ending.returned (congrArg Value.string (bytes_eq ?_)), B1.out⟩
        rw [cat_list, cat_list]
        show 45 :: ([ch] ++ o.data.toList) = Lib.itoa n
        rw [HST.out, HAB.out.1 trivial]
        unfold Lib.itoa
        rw [if_pos (of_decide_eq_true HB.out)]
end Go.Proofs.YtacpolhilhindaaDoor.E
