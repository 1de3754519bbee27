/- Marline, layer 41: the reference's text of a schedule, plain; whether two schedules are one. Conditions: as each says. -/
import Derived.Test.YtfofpammnfcmiaaDoorSb
namespace Go.Proofs.YtfofpammnfcmiaaDoor.E
open Go.RowKit Go.Proofs.YtfofpammnfcmiaaDoorW.PrintWords Go.Proofs.YtfofpammnfcmiaaDoorW.PrintLast Go.Proofs.YtfofpammnfcmiaaDoorW.PrintMore Go.Proofs.YtfofpammnfcmiaaDoor.Kinds Go.Proofs.YtfofpammnfcmiaaDoor.Obj Go.Proofs.YtfofpammnfcmiaaDoor.Sp
set_option linter.unusedVariables false
set_option linter.unusedSimpArgs false
set_option maxRecDepth 100000

theorem rd_at (l : List S32) (j : Nat) (h : j < l.length) : l.drop j = rd_T32 l j :: l.drop (j + 1) := by
  rw [List.drop_eq_getElem_cons h]
  unfold rd_T32
  rw [Int.toNat_natCast]; simp [List.getD, List.getElem?_eq_getElem h]
theorem take_at (l : List S32) (j : Nat) (h : j < l.length) : l.take (j + 1) = l.take j ++ [rd_T32 l j] := by
  rw [List.take_add_one, List.getElem?_eq_getElem h]
  unfold rd_T32
  rw [Int.toNat_natCast]; simp [List.getD, List.getElem?_eq_getElem h]
theorem rd_mem (l : List S32) (j : Nat) (h : j < l.length) : rd_T32 l j ∈ l := by
  have : rd_T32 l j ∈ l.drop j := by rw [rd_at l j h]; exact List.mem_cons_self
  exact List.mem_of_mem_drop this
def tx (l : List S32) : ByteArray := ⟨(textS (l.map tk)).toArray⟩
theorem tx_size (l : List S32) (h : ∀ x ∈ l, (tk x).ok) : (tx l).size ≤ 43 * l.length := by
  have := text_len (l.map tk) (by intro p hp; obtain ⟨x, hx, rfl⟩ := List.mem_map.1 hp; exact h x hx)
  unfold tx
  show (textS (l.map tk)).toArray.size ≤ _
  simp at this ⊢; omega
theorem tx_data (l : List S32) : (tx l).data.toList = textS (l.map tk) := by unfold tx; simp
theorem tx_more (l : List S32) (x : S32) (h : l ≠ []) : (tx (l ++ [x])).data.toList = (tx l).data.toList ++ [32] ++ word (tk x) := by
  rw [tx_data, tx_data, List.map_append, List.map_cons, List.map_nil, text_snoc _ _ (by simpa using h)]
theorem tx_one (x : S32) : (tx [x]).data.toList = word (tk x) := by rw [tx_data]; exact text_one _
theorem bytes_ext {a b : ByteArray} (h : a.data.toList = b.data.toList) : a = b := by
  cases a; cases b; congr; exact Array.toList_inj.1 h
theorem itoa_size (n : Int) (h : In n) : (⟨(Lib.itoa n).toArray⟩ : ByteArray).size ≤ 20 := by
  have := itoa_len n h
  show (Lib.itoa n).toArray.size ≤ _
  simpa using this
/-- the next entry's text. -/
theorem tx_next (l : List S32) (j : Nat) (h : j < l.length) (u : ByteArray) (hu : u.data.toList = (if 0 < j then (tx (l.take j)).data.toList ++ [32] else []) ++ word (tk (rd_T32 l j))) : u = tx (l.take (j + 1)) := by
  refine bytes_ext ?_
  rw [hu, take_at l j h]
  by_cases h0 : 0 < j
  · rw [if_pos h0, tx_more _ _ (by rw [← List.length_pos_iff, List.length_take]; omega)]
  · have hj0 : j = 0 := by omega
    subst hj0
    rw [if_neg h0, List.take_zero, List.nil_append, List.nil_append, tx_one]
set_option maxHeartbeats 4000000 in
theorem refText41_calls (A : Option Addr) (c : Nat) (l : List S32) (w : World) (hr : Kd.C k32 w A l.length l) (hc : l.length ≤ c) (hx : ∀ x ∈ l, (tk x).ok) (hl : l.length ≤ 1000) :
    Calls Tryd.prog 17 #[.slice A l.length c] w fun e w' => e = .returned (.string (tx l)) ∧ Drawn0 w w' := by
  have hu32 := Tryd.underlying32
  obtain ⟨n, hn⟩ : ∃ n, l.length = n := ⟨_, rfl⟩
  have HR := Lib.hid hr; have HC := Lib.hid hc; have HX := Lib.hid hx; have HN := Lib.hid hn
  rw [hn] at hl ⊢
  clear hr hc hx hn
  go_enter Tryd.func17, Tryd.ntmps17
  go_wp2_with fail
  go_loopw [3, 4] (fun o i w' => ∃ (j : Nat), o = .string (tx (l.take j)) ∧ i = .int .i64 j ∧ j ≤ n ∧ Hid (Drawn0 w w')) (fun o i _ => n - (intOf i).toNat)
  case atStart => exact ⟨0, rfl, rfl, Nat.zero_le _, Lib.hid (Drawn0.refl _)⟩
  case round =>
    obtain ⟨j, rfl, rfl, hj, HD⟩ := hrel
    obtain ⟨⟨nd, rfl⟩⟩ := HD.out
    by_cases hlt : j < n
    · have hjl : j < l.length := by have := HN.out; omega
      obtain ⟨ad, he, k0, k1, k2⟩ := at_T32 HR.out (j : Int) (by omega) (by omega)
      rw [Int.toNat_natCast] at k0 k1 k2
      have hm := HX.out _ (rd_mem l j hjl)
      have IN0 := Lib.hid (show In (rd_T32 l j).f0 from hm.1)
      have IN1 := Lib.hid (show In (rd_T32 l j).f1 from hm.2)
      have z1 := itoa_size _ IN0.out
      have z2 := itoa_size _ IN1.out
      have z0 := tx_size (l.take j) (fun x hm => HX.out x (List.mem_of_mem_take hm))
      rw [List.length_take] at z0
      have z3 : (tx (l.take j)).size ≤ 43000 := by omega
      have NX := Lib.hid (tx_next l j hjl)
      obtain ⟨o, ho⟩ : ∃ o, tx (l.take j) = o := ⟨_, rfl⟩
      rw [ho] at z3 ⊢
      have HO := Lib.hid ho
      obtain ⟨p0, hp0⟩ : ∃ p, (⟨(Lib.itoa (rd_T32 l j).f0).toArray⟩ : ByteArray) = p := ⟨_, rfl⟩
      obtain ⟨p1, hp1⟩ : ∃ p, (⟨(Lib.itoa (rd_T32 l j).f1).toArray⟩ : ByteArray) = p := ⟨_, rfl⟩
      have Q0 := Lib.hid (fun w => refText_quiet _ w IN0.out)
      have Q1 := Lib.hid (fun w => refText_quiet _ w IN1.out)
      have HW := Lib.hid (show word (tk (rd_T32 l j)) = p0.data.toList ++ 47 :: (p1.data.toList ++ (if (rd_T32 l j).f2 = true then [103] else [])) by
        rw [← hp0, ← hp1]; unfold word tk; simp)
      rw [hp0] at z1 Q0
      rw [hp1] at z2 Q1
      obtain ⟨y, hy⟩ : ∃ y, rd_T32 l j = y := ⟨_, rfl⟩
      rw [hy] at k0 k1 k2 Q0 Q1 NX HW
      subst he
      clear hm z0 ho hp0 hp1 hy IN0 IN1 hjl
      have hA : (0 : Int) ≤ (j : Int) := by omega
      by_cases h0 : 0 < j
      · go_wp2_with fail
        go_quiet (first | (go_at_call 61; (with_reducible refine (Q0.out _).mono ?_); rintro e w' ⟨rfl, ⟨nd, rfl⟩⟩; (try first | exact ⟨rfl, _, World.drewN_drewN _ _ _⟩ | exact ⟨rfl, _, Eq.trans (World.drewN_drewN _ _ _) (congrArg (World.drewN _) (Nat.add_assoc _ _ _))⟩)) | (go_at_call 61; (with_reducible refine (Q1.out _).mono ?_); rintro e w' ⟨rfl, ⟨nd, rfl⟩⟩; (try first | exact ⟨rfl, _, World.drewN_drewN _ _ _⟩ | exact ⟨rfl, _, Eq.trans (World.drewN_drewN _ _ _) (congrArg (World.drewN _) (Nat.add_assoc _ _ _))⟩)))
        cases hf : y.f2 with
        | true =>
          rw [hf] at k2 HW
          go_wp2_with fail
          go_roundw
          case rel =>
            refine ⟨j + 1, congrArg Value.string (NX.out _ ?_), by push_cast; rfl, by omega, Lib.hid ⟨⟨_, rfl⟩⟩⟩
            rw [HW.out, HO.out]
            rw [if_pos h0]
            simp
          case measure => simp [intOf]; omega
        | false =>
          rw [hf] at k2 HW
          go_wp2_with fail
          go_roundw
          case rel =>
            refine ⟨j + 1, congrArg Value.string (NX.out _ ?_), by push_cast; rfl, by omega, Lib.hid ⟨⟨_, rfl⟩⟩⟩
            rw [HW.out, HO.out]
            rw [if_pos h0]
            simp
          case measure => simp [intOf]; omega
      · go_wp2_with fail
        go_quiet (first | (go_at_call 61; (with_reducible refine (Q0.out _).mono ?_); rintro e w' ⟨rfl, ⟨nd, rfl⟩⟩; (try first | exact ⟨rfl, _, World.drewN_drewN _ _ _⟩ | exact ⟨rfl, _, Eq.trans (World.drewN_drewN _ _ _) (congrArg (World.drewN _) (Nat.add_assoc _ _ _))⟩)) | (go_at_call 61; (with_reducible refine (Q1.out _).mono ?_); rintro e w' ⟨rfl, ⟨nd, rfl⟩⟩; (try first | exact ⟨rfl, _, World.drewN_drewN _ _ _⟩ | exact ⟨rfl, _, Eq.trans (World.drewN_drewN _ _ _) (congrArg (World.drewN _) (Nat.add_assoc _ _ _))⟩)))
        cases hf : y.f2 with
        | true =>
          rw [hf] at k2 HW
          go_wp2_with fail
          go_roundw
          case rel =>
            refine ⟨j + 1, congrArg Value.string (NX.out _ ?_), by push_cast; rfl, by omega, Lib.hid ⟨⟨_, rfl⟩⟩⟩
            rw [HW.out, HO.out]
            rw [if_neg h0, show o = ⟨#[]⟩ from by rw [← HO.out, show j = 0 by omega]; rfl]
            simp
          case measure => simp [intOf]; omega
        | false =>
          rw [hf] at k2 HW
          go_wp2_with fail
          go_roundw
          case rel =>
            refine ⟨j + 1, congrArg Value.string (NX.out _ ?_), by push_cast; rfl, by omega, Lib.hid ⟨⟨_, rfl⟩⟩⟩
            rw [HW.out, HO.out]
            rw [if_neg h0, show o = ⟨#[]⟩ from by rw [← HO.out, show j = 0 by omega]; rfl]
            simp
          case measure => simp [intOf]; omega
    · have hje : j = n := by omega
      subst hje
      go_wp2_with fail
      go_ret
      exact ⟨by rw [List.take_of_length_le (by rw [HN.out]; exact Nat.le_refl _)]; rfl, HD.out⟩
theorem same_l (xs : List S32) (hl : xs.length ≤ 1000000) : ∀ (ys : List S32), ys.length = xs.length → ∀ (n j k : Nat), j + n = xs.length → n + 1 ≤ k → (PA.marlineref41_Same.l0 k xs ys (j : Int) = some true ∧ xs.drop j = ys.drop j) ∨ (PA.marlineref41_Same.l0 k xs ys (j : Int) = some false ∧ xs.drop j ≠ ys.drop j) := by
  intro ys hy n
  induction n with
  | zero =>
    intro j k hj hk
    obtain ⟨k, rfl⟩ : ∃ q, k = q + 1 := ⟨k - 1, by omega⟩
    refine .inl ⟨?_, ?_⟩
    · simp only [PA.marlineref41_Same.l0]
      rw [if_neg (by omega)]
    · rw [List.drop_of_length_le (by omega), List.drop_of_length_le (by omega)]
  | succ n ih =>
    intro j k hj hk
    obtain ⟨k, rfl⟩ : ∃ q, k = q + 1 := ⟨k - 1, by omega⟩
    have w1 : wrap64 ((j : Int) + 1) = ((j + 1 : Nat) : Int) := by unfold wrap64; omega
    have d1 := rd_at xs j (by omega)
    have d2 := rd_at ys j (by omega)
    simp only [PA.marlineref41_Same.l0]
    rw [if_pos (by omega), if_pos (by omega), if_pos (by omega), w1, d1, d2]
    have hi := ih (j + 1) k (by omega) (by omega)
    obtain ⟨x, hx⟩ : ∃ x, rd_T32 xs j = x := ⟨_, rfl⟩
    obtain ⟨y, hy2⟩ : ∃ x, rd_T32 ys j = x := ⟨_, rfl⟩
    rw [hx, hy2]
    obtain ⟨x0, x1, x2⟩ := x
    obtain ⟨y0, y1, y2⟩ := y
    simp only
    by_cases h : x0 = y0 ∧ x1 = y1 ∧ x2 = y2
    · obtain ⟨rfl, rfl, rfl⟩ := h
      rw [if_neg (by simp)]
      rcases hi with ⟨h1, h2⟩ | ⟨h1, h2⟩
      · exact .inl ⟨h1, by rw [h2]⟩
      · exact .inr ⟨h1, fun e => h2 (by injection e)⟩
    · rw [if_pos (by
        simp
        by_cases g0 : x0 = y0
        · by_cases g1 : x1 = y1
          · exact .inr (.inr fun g2 => h ⟨g0, g1, g2⟩)
          · exact .inr (.inl g1)
        · exact .inl g0)]
      exact .inr ⟨rfl, fun e => h (by injection e with e _; injection e with e0 e1 e2; exact ⟨e0, e1, e2⟩)⟩
instance : DecidableEq S32 := fun x y => decidable_of_iff (x.f0 = y.f0 ∧ x.f1 = y.f1 ∧ x.f2 = y.f2) (by
  cases x; cases y; simp)
theorem same_ev (xs ys : List S32) (hl : xs.length ≤ 1000000) : PA.marlineref41_Same.f (xs.length + 1) xs ys = some (decide (xs = ys)) := by
  unfold PA.marlineref41_Same.f
  by_cases h : xs.length = ys.length
  · rw [if_pos (by omega)]
    rcases same_l xs hl ys h.symm xs.length 0 _ (by omega) (Nat.le_refl _) with ⟨h1, h2⟩ | ⟨h1, h2⟩
    · rw [show (0 : Int) = ((0 : Nat) : Int) from rfl, h1]; congr 1; symm; exact decide_eq_true (by simpa using h2)
    · rw [show (0 : Int) = ((0 : Nat) : Int) from rfl, h1]; congr 1; symm; exact decide_eq_false (by simpa using h2)
  · rw [if_neg (by omega)]; congr 1; symm; exact decide_eq_false (fun e => h (by rw [e]))
theorem same_calls (A B : Option Addr) (c d : Nat) (l m : List S32) (w : World) (hr : Kd.C k32 w A l.length l) (hc : l.length ≤ c) (hr2 : Kd.C k32 w B m.length m) (hc2 : m.length ≤ d) (hl : l.length ≤ 1000000) :
    Calls Tryd.prog 19 #[.slice A l.length c, .slice B m.length d] w fun e w' => e = .returned (.bool (decide (l = m))) ∧ Drawn0 w w' := PA.marlineref41_Same.calls _ A c l B d m _ w hr hc hr2 hc2 (same_ev l m hl)
end Go.Proofs.YtfofpammnfcmiaaDoor.E
