/- Marline, values: whether a value is right, by the program; whether two are the same. Conditions: as each says. -/
import Derived.Test.YtfofpammnfcmiaaDoorV1
namespace Go.Proofs.YtfofpammnfcmiaaDoor.Vl
open Go.RowKit Go.Proofs.YtfofpammnfcmiaaDoorW.PrintWords Go.Proofs.YtfofpammnfcmiaaDoorW.PrintLast Go.Proofs.YtfofpammnfcmiaaDoorW.PrintMore Go.Proofs.YtfofpammnfcmiaaDoor.Kinds Go.Proofs.YtfofpammnfcmiaaDoor.Obj
set_option linter.unusedVariables false
set_option linter.unusedSimpArgs false
set_option maxRecDepth 100000
mutual
/-- is a value right. -/
def right : S67 → Bool
  | ⟨k, n, l⟩ => if k = 0 then l.isEmpty else if k = 1 then l.isEmpty && (decide (n = 0) || decide (n = 1)) else if k = 2 ∨ k = 3 then decide (n = 0) && rightL l else false
def rightL : List S67 → Bool
  | [] => true
  | x :: r => right x && rightL r
end
/-- the first one that is not right. -/
def ixB : List S67 → Nat → Int
  | [], _ => -1
  | x :: r, j => if right x = true then ixB r (j + 1) else (j : Int)
theorem ixB_pos : ∀ (l : List S67) (j : Nat), decide (0 ≤ ixB l j) = !rightL l
  | [], j => rfl
  | x :: r, j => by
    unfold ixB rightL
    cases h : right x with
    | true => rw [if_pos rfl, ixB_pos r (j + 1)]; rfl
    | false => rw [if_neg Bool.false_ne_true]; exact decide_eq_true (Int.natCast_nonneg j)
theorem rd67_at (l : List S67) (i : Nat) (h : i < l.length) : rd_T67 l (i : Int) = l[i] := by
  unfold rd_T67; rw [Int.toNat_natCast, List.getD_eq_getElem?_getD, List.getElem?_eq_getElem h]; rfl
theorem ixB_step (l : List S67) (n : Nat) (h : n < l.length) : ixB (l.drop n) n = if right (rd_T67 l n) = true then ixB (l.drop (n + 1)) (n + 1) else (n : Int) := by
  rw [List.drop_eq_getElem_cons h, ixB, rd67_at l n h]
abbrev clo : Value := .func (.func 79) #[] #[]
theorem len0 (l : List S67) : ((l.length : Int) == 0) = l.isEmpty := by
  cases l with
  | nil => rfl
  | cons x r => exact beq_eq_false_iff_ne.2 (by simp only [List.length_cons]; omega)
theorem len0n (l : List S67) : (l.length == 0) = l.isEmpty := by
  cases l with
  | nil => rfl
  | cons x r => exact beq_eq_false_iff_ne.2 (by simp only [List.length_cons]; omega)
theorem blk67 (x : S67) (B : Option Addr) (d : Nat) (w : World) : Below w.heap.size w (w.alloc (.cells #[.int .i64 x.f0, .int .i64 x.f1, .slice B x.f2.length d] 67)) := below_alloc (Below.refl _ _) _
set_option maxHeartbeats 4000000 in
theorem clo_of (x : S67) (B : Option Addr) (d : Nat) (w : World) (h : ∀ W, Below w.heap.size w W → Calls Tryd.prog 52 #[v67 x.f0 x.f1 B x.f2.length d] W fun e w' => e = .returned (.bool (right x)) ∧ Below W.heap.size W w') :
    Calls Tryd.prog 79 #[v67 x.f0 x.f1 B x.f2.length d] w fun e w' => e = .returned (.bool (!right x)) ∧ Below w.heap.size w w' := by
  have hu67 := Tryd.underlying67
  have H := Lib.hid h
  have hB := Lib.hid (blk67 x B d w)
  clear h
  go_enter Tryd.func79, Tryd.ntmps79
  go_wp2_with fail
  refine (H.out _ hB.out).mono ?_
  rintro e w2 ⟨rfl, hb⟩
  have HB := Lib.hid (hB.out.trans (hb.mono hB.out.size))
  clear hb H
  go_wp2_with fail
  go_ret
  exact ⟨rfl, HB.out⟩
set_option maxHeartbeats 4000000 in
theorem index_of (A : Option Addr) (c : Nat) (l : List S67) (w : World) (hr : Kd.C k67 w A l.length l)
    (ih : ∀ (x : S67) (B : Option Addr) (d : Nat) (W : World), x ∈ l → x.f2.length ≤ d → Kd.C k67 W B x.f2.length x.f2 → Calls Tryd.prog 79 #[v67 x.f0 x.f1 B x.f2.length d] W fun e w' => e = .returned (.bool (!right x)) ∧ Below W.heap.size W w') :
    Calls Tryd.prog 104 #[.slice A l.length c, clo] w fun e w' => e = .returned (.int .i64 (ixB l 0)) ∧ Below w.heap.size w w' := by
  have hu67 := Tryd.underlying67
  have HR := Lib.hid hr; have IH := Lib.hid ih
  have m1 := CL hr
  obtain ⟨L, hL⟩ : ∃ L, l.length = L := ⟨_, rfl⟩
  have EL := Lib.hid hL
  rw [hL] at HR m1 ⊢
  clear hr ih hL
  go_enter Tryd.func104, Tryd.ntmps104
  go_wp2_with fail
  go_loopw [8] (fun i wr => ∃ n : Nat, i = .int .i64 n ∧ n ≤ L ∧ Hid (ixB l 0 = ixB (l.drop n) n) ∧ Hid (Below w.heap.size w wr)) (fun i _ => L - (intOf i).toNat)
  case atStart => exact ⟨0, rfl, by omega, Lib.hid rfl, Lib.hid (Below.refl _ _)⟩
  case round =>
    obtain ⟨n, rfl, hn, HS, HB⟩ := hrel
    by_cases hx : (n : Int) < (L : Int)
    · have hx1 := decide_eq_true hx
      have hlt : n < L := by omega
      have hm := rd_mem l n (by rw [EL.out]; exact hlt)
      have hst := ixB_step l n (by rw [EL.out]; exact hlt)
      obtain ⟨ad, B, d, ea, x0, x1, x2, xl, xr⟩ := at_T67 HR.out (n : Int) (by omega) hx
      cases ea
      obtain ⟨x, ex⟩ : ∃ x, rd_T67 l n = x := ⟨_, rfl⟩
      rw [ex] at x0 x1 x2 xl xr hm hst
      replace x0 := at_later HB.out x0; replace x1 := at_later HB.out x1; replace x2 := at_later HB.out x2
      rw [Int.toNat_natCast] at x0 x1 x2
      have CALL := Lib.hid (IH.out x B d wr hm xl (Kd.C_below xr HB.out))
      have qn : (0 : Int) ≤ (n : Int) := by omega
      have HST := Lib.hid hst
      have HLT := Lib.hid hlt
      have e1 : wrap64 ((n : Int) + 1) = (n : Int) + 1 := by unfold wrap64; omega
      clear xl xr ex hst hm hlt
      go_wp2_with fail
      refine CALL.out.mono ?_
      rintro e w3 ⟨rfl, hb⟩
      have HB3 := Lib.hid (HB.out.trans (hb.mono HB.out.size))
      clear hb CALL
      cases hs : right x with
      | true =>
        have HSX := Lib.hid hs
        clear hs
        go_wp2_with fail
        go_roundw
        case rel => exact ⟨n + 1, by push_cast; rfl, HLT.out, Lib.hid (by rw [HS.out, HST.out, if_pos HSX.out]), HB3⟩
        case measure => have := HLT.out; simp [intOf]; omega
      | false =>
        have HSX := Lib.hid hs
        clear hs
        go_wp2_with fail
        go_ret
        refine ⟨ret_int ?_, HB3.out⟩
        rw [HS.out, HST.out, if_neg (by rw [HSX.out]; exact Bool.false_ne_true)]
    · have hx1 := decide_eq_false hx
      have hne : n = L := by omega
      have HNE := Lib.hid hne
      clear hne
      go_wp2_with fail
      go_ret
      exact ⟨ret_int (by rw [HS.out, List.drop_of_length_le (by rw [EL.out, HNE.out]; exact Nat.le_refl _)]; rfl), HB.out⟩
set_option maxHeartbeats 4000000 in
theorem contains_of (A : Option Addr) (c : Nat) (l : List S67) (w : World) (h : Calls Tryd.prog 104 #[.slice A l.length c, clo] w fun e w' => e = .returned (.int .i64 (ixB l 0)) ∧ Below w.heap.size w w') :
    Calls Tryd.prog 78 #[.slice A l.length c, clo] w fun e w' => e = .returned (.bool (!rightL l)) ∧ Below w.heap.size w w' := by
  have H := Lib.hid h
  clear h
  go_enter Tryd.func78, Tryd.ntmps78
  go_wp2_with fail
  refine H.out.mono ?_
  rintro e w2 ⟨rfl, hb⟩
  have HB := Lib.hid hb
  clear hb H
  go_wp2_with fail
  go_ret
  exact ⟨ret_bool (ixB_pos l 0), HB.out⟩
set_option maxHeartbeats 4000000 in
theorem right_of (x : S67) (A : Option Addr) (c : Nat) (w : World) (h : ∀ W, Below w.heap.size w W → Calls Tryd.prog 78 #[.slice A x.f2.length c, clo] W fun e w' => e = .returned (.bool (!rightL x.f2)) ∧ Below W.heap.size W w') :
    Calls Tryd.prog 52 #[v67 x.f0 x.f1 A x.f2.length c] w fun e w' => e = .returned (.bool (right x)) ∧ Below w.heap.size w w' := by
  have hu67 := Tryd.underlying67
  have H := Lib.hid h
  have hB := Lib.hid (blk67 x A c w)
  obtain ⟨k, n, l⟩ := x
  have hlen := len0 l
  have hlen2 := len0n l
  clear h
  simp only at *
  by_cases h0 : k = 0
  · subst h0
    have er : right ⟨0, n, l⟩ = l.isEmpty := by simp [right]
    rw [er]
    clear er H
    go_enter Tryd.func52, Tryd.ntmps52
    go_wp2_with fail
    go_ret
    exact ⟨ret_bool (by first | rfl | exact hlen | exact hlen2), hB.out⟩
  · by_cases h1 : k = 1
    · subst h1
      have er : right ⟨1, n, l⟩ = (l.isEmpty && (decide (n = 0) || decide (n = 1))) := by simp [right]
      rw [er]
      clear er H
      cases he : l.isEmpty with
      | true =>
        rw [he] at hlen hlen2
        by_cases n0 : n = 0
        · have q0 : (n == 0) = true := by rw [beq_iff_eq]; exact n0
          have HN0 := Lib.hid n0
          clear n0
          go_enter Tryd.func52, Tryd.ntmps52
          go_wp2_with fail
          go_ret
          exact ⟨ret_bool (by simp [HN0.out]), hB.out⟩
        · have q0 : (n == 0) = false := by rw [beq_eq_false_iff_ne]; exact n0
          have HN0 := Lib.hid n0
          clear n0
          go_enter Tryd.func52, Tryd.ntmps52
          go_wp2_with fail
          go_ret
          refine ⟨ret_bool ?_, hB.out⟩
          have h2 := HN0.out
          by_cases h3 : n = 1 <;> simp [h2, h3]
      | false =>
        rw [he] at hlen hlen2
        go_enter Tryd.func52, Tryd.ntmps52
        go_wp2_with fail
        go_ret
        exact ⟨rfl, hB.out⟩
    · have p0 : (k == 0) = false := by rw [beq_eq_false_iff_ne]; exact h0
      have p1 : (k == 1) = false := by rw [beq_eq_false_iff_ne]; exact h1
      by_cases h23 : k = 2 ∨ k = 3
      · have er : right ⟨k, n, l⟩ = (decide (n = 0) && rightL l) := by simp [right, h0, h1, h23]
        rw [er]
        clear er h0 h1
        by_cases n0 : n = 0
        · have q0 : (n == 0) = true := by rw [beq_iff_eq]; exact n0
          have er : decide (n = 0) = true := decide_eq_true n0
          rw [er]
          clear n0 er
          rcases h23 with rfl | rfl
          all_goals
            go_enter Tryd.func52, Tryd.ntmps52
            go_wp2_with fail
            refine (H.out _ hB.out).mono ?_
            rintro e w2 ⟨rfl, hb⟩
            have HB := Lib.hid (hB.out.trans (hb.mono hB.out.size))
            clear hb
            go_wp2_with fail
            go_ret
            refine ⟨ret_bool ?_, HB.out⟩
            cases rightL l <;> rfl
        · have q0 : (n == 0) = false := by rw [beq_eq_false_iff_ne]; exact n0
          have er : decide (n = 0) = false := decide_eq_false n0
          rw [er]
          clear n0 er
          rcases h23 with rfl | rfl
          all_goals
            go_enter Tryd.func52, Tryd.ntmps52
            go_wp2_with fail
            go_ret
            exact ⟨rfl, hB.out⟩
      · have er : right ⟨k, n, l⟩ = false := by simp [right, h0, h1, h23]
        rw [er]
        have p2 : (k == 2) = false := by rw [beq_eq_false_iff_ne]; exact fun h => h23 (.inl h)
        have p3 : (k == 3) = false := by rw [beq_eq_false_iff_ne]; exact fun h => h23 (.inr h)
        clear er h0 h1 h23
        go_enter Tryd.func52, Tryd.ntmps52
        go_wp2_with fail
        go_ret
        exact ⟨rfl, hB.out⟩
theorem right_n : ∀ (n : Nat) (x : S67) (A : Option Addr) (c : Nat) (w : World), sz x < n → x.f2.length ≤ c → Kd.C k67 w A x.f2.length x.f2 →
    Calls Tryd.prog 52 #[v67 x.f0 x.f1 A x.f2.length c] w fun e w' => e = .returned (.bool (right x)) ∧ Below w.heap.size w w' := by
  intro n
  induction n with
  | zero => intro x A c w h; omega
  | succ n ih =>
    intro x A c w h h1 h2
    refine right_of x A c w (fun W hW => contains_of A c x.f2 W (index_of A c x.f2 W (Kd.C_below h2 hW) (fun y B d W2 hy g1 g2 => clo_of y B d W2 (fun W3 hW3 => ?_))))
    have hz := szL_mem x.f2 y hy
    have hz' := sz_eq x
    exact ih y B d W3 (by omega) g1 (Kd.C_below g2 hW3)
/-- a value is right, by the program. -/
theorem right_calls (x : S67) (A : Option Addr) (c : Nat) (w : World) (h1 : x.f2.length ≤ c) (h2 : Kd.C k67 w A x.f2.length x.f2) :
    Calls Tryd.prog 52 #[v67 x.f0 x.f1 A x.f2.length c] w fun e w' => e = .returned (.bool (right x)) ∧ Below w.heap.size w w' := right_n _ x A c w (Nat.lt_succ_self _) h1 h2
end Go.Proofs.YtfofpammnfcmiaaDoor.Vl
