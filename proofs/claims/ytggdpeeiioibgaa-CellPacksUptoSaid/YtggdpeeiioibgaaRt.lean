/- Marline, values: is a value right, by the program. Conditions: as each says. -/
import Derived.Test.YtggdpeeiioibgaaKq
namespace Go.Proofs.Ytggdpeeiioibgaa.E
open Go.RowKit Go.Proofs.YtggdpeeiioibgaaW.PrintWords Go.Proofs.YtggdpeeiioibgaaW.PrintLast Go.Proofs.YtggdpeeiioibgaaW.PrintMore Go.Proofs.Ytggdpeeiioibgaa.Kinds Go.Proofs.Ytggdpeeiioibgaa.Obj
set_option linter.unusedVariables false
set_option linter.unusedSimpArgs false

mutual
/-- is a value right. -/
def right : S24 → Bool
  | ⟨k, n, l⟩ => if k = 0 then decide (l.length = 0) else if k = 1 then decide (l.length = 0) && (decide (n = 0) || decide (n = 1)) else if k = 2 ∨ k = 3 then decide (n = 0) && rightL l else false
def rightL : List S24 → Bool
  | [] => true
  | x :: l => right x && rightL l
end
theorem rightL_step (l : List S24) (n : Nat) (h : n < l.length) : rightL (l.drop n) = (right (rd_T24 l n) && rightL (l.drop (n + 1))) := by
  rw [List.drop_eq_getElem_cons h, rd_eq l n h]
  simp only [rightL]
/-- what a search comes to: found, where not all are right. -/
def Found (l : List S24) (w : World) (e : Ending) (w' : World) : Prop := ∃ i : Int, e = .returned (.int .i64 i) ∧ decide (0 ≤ i) = !rightL l ∧ Below w.heap.size w w'
set_option maxHeartbeats 4000000 in
set_option maxRecDepth 100000 in
theorem index_of (A : Option Addr) (c : Nat) (l : List S24) (w : World) (hl : l.length ≤ c) (hr : Kd.C k24 w A l.length l)
    (ih : ∀ (x : S24) (B : Option Addr) (d : Nat) (W : World), x ∈ l → x.f2.length ≤ d → Kd.C k24 W B x.f2.length x.f2 →
      Calls Try.prog 88 #[v24 x.f0 x.f1 B x.f2.length d] W fun e w' => e = .returned (.bool (!right x)) ∧ Below W.heap.size W w') :
    Calls Try.prog 95 #[.slice A l.length c, .func (.func 88) #[] #[]] w (Found l w) := by
  have hu24 := Try.underlying24
  have HR := Lib.hid hr; have IH := Lib.hid ih
  have m1 := CL hr
  clear hr ih
  obtain ⟨L, hL⟩ : ∃ L, l.length = L := ⟨_, rfl⟩
  rw [hL] at HR hl m1 ⊢
  have EL := Lib.hid hL
  clear hL
  go_enter Try.func95, Try.ntmps95
  go_wp2_with fail
  go_loopw [8] (fun i wr => ∃ n : Nat, i = .int .i64 n ∧ n ≤ L ∧ Hid (rightL l = rightL (l.drop n)) ∧ Hid (Below w.heap.size w wr)) (fun i _ => L - (intOf i).toNat)
  case atStart => exact ⟨0, rfl, by omega, Lib.hid rfl, Lib.hid (Below.refl _ _)⟩
  case round =>
    obtain ⟨n, rfl, hn, HS, HB⟩ := hrel
    by_cases hx : (n : Int) < (L : Int)
    · have hx1 := decide_eq_true hx
      have hlt : n < L := by omega
      have hm := rd_mem l n (by rw [EL.out]; exact hlt)
      have hst := rightL_step l n (by rw [EL.out]; exact hlt)
      obtain ⟨ad, B, d, ea, x0, x1, x2, xl, xr⟩ := at_T24 HR.out (n : Int) (by omega) hx
      cases ea
      obtain ⟨x, ex⟩ : ∃ x, rd_T24 l n = x := ⟨_, rfl⟩
      rw [ex] at x0 x1 x2 xl xr hm hst
      replace x0 := at_later HB.out x0; replace x1 := at_later HB.out x1; replace x2 := at_later HB.out x2
      rw [Int.toNat_natCast] at x0 x1 x2
      have CALL := Lib.hid (fun W (hW : Below wr.heap.size wr W) => IH.out x B d W hm xl (Kd.C_below (Kd.C_below xr HB.out) hW))
      have pn := eq_true hx
      have qn := eq_true (show (0 : Int) ≤ (n : Int) by omega)
      have e1 : IntKind.i64.wrap ((n : Int) + 1) = (n : Int) + 1 := IntWalk.i64_in _ (by omega)
      have HST := Lib.hid hst
      clear xl xr ex hst hm
      go_wp2_with fail
      refine (CALL.out _ (Below.refl _ _)).mono ?_
      rintro e w3 ⟨rfl, hb⟩
      have HB3 := Lib.hid (HB.out.trans (hb.mono HB.out.size))
      clear hb
      by_cases hs : right x = true
      · have HSXY := Lib.hid hs
        rw [hs]
        clear hs
        go_wp2_with fail
        go_roundw
        case rel => exact ⟨n + 1, by push_cast; rfl, by omega, Lib.hid (by rw [HS.out, HST.out, HSXY.out]; rfl), HB3⟩
        case measure => simp [intOf]; omega
      · have hs' : right x = false := by simpa using hs
        have HSXY := Lib.hid hs'
        rw [hs']
        clear hs hs'
        go_wp2_with fail
        go_ret
        exact ⟨n, rfl, by rw [HS.out, HST.out, HSXY.out]; simp, HB3.out⟩
    · have hx1 := decide_eq_false hx
      have hne : n = L := by omega
      have HNE := Lib.hid hne
      clear hne
      go_wp2_with fail
      go_ret
      exact ⟨-1, rfl, by rw [HS.out, List.drop_of_length_le (by rw [EL.out, HNE.out]; exact Nat.le_refl _)]; rfl, HB.out⟩
/-- does a list hold one that is not right. -/
theorem contains_of (A : Option Addr) (c : Nat) (l : List S24) (w : World) (hl : l.length ≤ c) (hr : Kd.C k24 w A l.length l)
    (ih : ∀ (x : S24) (B : Option Addr) (d : Nat) (W : World), x ∈ l → x.f2.length ≤ d → Kd.C k24 W B x.f2.length x.f2 →
      Calls Try.prog 88 #[v24 x.f0 x.f1 B x.f2.length d] W fun e w' => e = .returned (.bool (!right x)) ∧ Below W.heap.size W w') :
    Calls Try.prog 87 #[.slice A l.length c, .func (.func 88) #[] #[]] w fun e w' => e = .returned (.bool (!rightL l)) ∧ Below w.heap.size w w' := by
  have hu24 := Try.underlying24
  have C := Lib.hid (index_of A c l w hl hr ih)
  clear hl hr ih
  go_enter Try.func87, Try.ntmps87
  go_wp2_with fail
  refine (C.out).mono ?_
  rintro e w' ⟨i, rfl, h1, h2⟩
  have H1 := Lib.hid h1; have H2 := Lib.hid h2
  clear h1 h2
  go_wp2_with fail
  go_ret
  exact ⟨ret_bool H1.out, H2.out⟩
set_option maxHeartbeats 4000000 in
set_option maxRecDepth 100000 in
theorem notRight_of (x : S24) (B : Option Addr) (d : Nat) (W : World)
    (ih : ∀ W', Below W.heap.size W W' → Calls Try.prog 68 #[v24 x.f0 x.f1 B x.f2.length d] W' fun e w' => e = .returned (.bool (right x)) ∧ Below W'.heap.size W' w') :
    Calls Try.prog 88 #[v24 x.f0 x.f1 B x.f2.length d] W fun e w' => e = .returned (.bool (!right x)) ∧ Below W.heap.size W w' := by
  have hu24 := Try.underlying24
  have IH := Lib.hid ih
  clear ih
  have hB := Lib.hid (below_alloc (Below.refl W.heap.size W) (.cells #[.int .i64 x.f0, .int .i64 x.f1, .slice B x.f2.length d] 24))
  go_enter Try.func88, Try.ntmps88
  go_wp2_with fail
  refine (IH.out _ hB.out).mono ?_
  rintro e w' ⟨rfl, h1⟩
  have H1 := Lib.hid (hB.out.trans (Below.mono h1 hB.out.size))
  clear h1
  go_wp2_with fail
  go_ret
  exact ⟨rfl, H1.out⟩
set_option maxHeartbeats 8000000 in
set_option maxRecDepth 100000 in
theorem right_of (a b : Int) (l : List S24) (A : Option Addr) (c : Nat) (w : World)
    (hall : ∀ W, Below w.heap.size w W → Calls Try.prog 87 #[.slice A l.length c, .func (.func 88) #[] #[]] W fun e w' => e = .returned (.bool (!rightL l)) ∧ Below W.heap.size W w') :
    Calls Try.prog 68 #[v24 a b A l.length c] w fun e w' => e = .returned (.bool (right ⟨a, b, l⟩)) ∧ Below w.heap.size w w' := by
  have hu24 := Try.underlying24
  have HA := Lib.hid hall
  clear hall
  have hB := Lib.hid (below_alloc (Below.refl w.heap.size w) (.cells #[.int .i64 a, .int .i64 b, .slice A l.length c] 24))
  have m0 : 0 ≤ (l.length : Int) := by omega
  by_cases h0 : a = 0
  · subst h0
    by_cases hl : l.length = 0
    · have p1 : ((l.length : Int) == 0) = true := by simp [hl]
      have E := Lib.hid (show right ⟨0, b, l⟩ = true by simp [right]; exact List.length_eq_zero_iff.1 hl)
      rw [E.out]
      clear hl
      go_enter Try.func68, Try.ntmps68
      go_wp2_with fail
      go_ret
      exact ⟨rfl, hB.out⟩
    · have p1 : ((l.length : Int) == 0) = false := by rw [beq_eq_false_iff_ne]; omega
      have E := Lib.hid (show right ⟨0, b, l⟩ = false by simp [right]; exact fun h => hl (by simp [h]))
      rw [E.out]
      clear hl
      go_enter Try.func68, Try.ntmps68
      go_wp2_with fail
      go_ret
      exact ⟨rfl, hB.out⟩
  · have g0 : (a == 0) = false := beq_eq_false_iff_ne.2 h0
    by_cases h1 : a = 1
    · subst h1
      by_cases hl : l.length = 0
      · have p1 : ((l.length : Int) == 0) = true := by simp [hl]
        have hl2 := List.length_eq_zero_iff.1 hl
        by_cases hb : b = 0
        · have E := Lib.hid (show right ⟨1, b, l⟩ = true by simp [right, hl2, hb])
          rw [E.out]
          subst hb
          clear hl hl2
          go_enter Try.func68, Try.ntmps68
          go_wp2_with fail
          go_ret
          exact ⟨rfl, hB.out⟩
        · have p2 : (b == 0) = false := beq_eq_false_iff_ne.2 hb
          by_cases hb1 : b = 1
          · have E := Lib.hid (show right ⟨1, b, l⟩ = true by simp [right, hl2, hb1])
            rw [E.out]
            subst hb1
            clear hl hl2 hb
            go_enter Try.func68, Try.ntmps68
            go_wp2_with fail
            go_ret
            exact ⟨rfl, hB.out⟩
          · have p3 : (b == 1) = false := beq_eq_false_iff_ne.2 hb1
            have E := Lib.hid (show right ⟨1, b, l⟩ = false by simp [right, hl2, hb1, hb])
            rw [E.out]
            clear hl hl2 hb hb1
            go_enter Try.func68, Try.ntmps68
            go_wp2_with fail
            go_ret
            exact ⟨rfl, hB.out⟩
      · have p1 : ((l.length : Int) == 0) = false := by rw [beq_eq_false_iff_ne]; omega
        have E := Lib.hid (show right ⟨1, b, l⟩ = false by simp [right]; exact fun h => absurd (by simp [h]) hl)
        rw [E.out]
        clear hl
        go_enter Try.func68, Try.ntmps68
        go_wp2_with fail
        go_ret
        exact ⟨rfl, hB.out⟩
    · have g1 : (a == 1) = false := beq_eq_false_iff_ne.2 h1
      by_cases h23 : a = 2 ∨ a = 3
      · by_cases hb : b = 0
        · have E := Lib.hid (show right ⟨a, b, l⟩ = rightL l by rcases h23 with rfl | rfl <;> simp [right, hb])
          rw [E.out]
          subst hb
          clear h0 h1
          rcases h23 with rfl | rfl
          all_goals
            go_enter Try.func68, Try.ntmps68
            go_wp2_with fail
            refine (HA.out _ hB.out).mono ?_
            rintro e w' ⟨rfl, h1⟩
            have H1 := Lib.hid (hB.out.trans (Below.mono h1 hB.out.size))
            clear h1
            go_wp2_with fail
            go_ret
            exact ⟨ret_bool (by simp), H1.out⟩
        · have E := Lib.hid (show right ⟨a, b, l⟩ = false by rcases h23 with rfl | rfl <;> simp [right, hb])
          rw [E.out]
          have p2 : (b == 0) = false := beq_eq_false_iff_ne.2 hb
          clear h0 h1 hb
          rcases h23 with rfl | rfl
          all_goals
            go_enter Try.func68, Try.ntmps68
            go_wp2_with fail
            go_ret
            exact ⟨rfl, hB.out⟩
      · have E := Lib.hid (show right ⟨a, b, l⟩ = false by simp [right, h0, h1, h23])
        rw [E.out]
        have g2 : (a == 2) = false := beq_eq_false_iff_ne.2 (fun h => h23 (.inl h))
        have g3 : (a == 3) = false := beq_eq_false_iff_ne.2 (fun h => h23 (.inr h))
        clear h0 h1 h23
        go_enter Try.func68, Try.ntmps68
        go_wp2_with fail
        go_ret
        exact ⟨rfl, hB.out⟩
theorem right_n : ∀ (n : Nat) (x : S24) (A : Option Addr) (c : Nat) (w : World), sz x ≤ n → Kd24 w A c x →
    Calls Try.prog 68 #[v24 x.f0 x.f1 A x.f2.length c] w fun e w' => e = .returned (.bool (right x)) ∧ Below w.heap.size w w' := by
  intro n
  induction n with
  | zero => intro x A c w h; have := sz_pos x; omega
  | succ n ih =>
    intro x A c w h hk
    obtain ⟨a, b, l⟩ := x
    refine right_of a b l A c w (fun W hW => contains_of A c l W hk.1 (Kd.C_below hk.2 hW) (fun x B d W2 hx g1 g2 => notRight_of x B d W2 (fun W3 hW3 => ih x B d W3 ?_ ⟨g1, Kd.C_below g2 hW3⟩)))
    have h1 := szL_mem l x hx
    have h2 := sz_eq ⟨a, b, l⟩
    have h3 : (⟨a, b, l⟩ : S24).f2 = l := rfl
    rw [h3] at h2
    omega
/-- Right, as a printed function is told. -/
def Right.f (a b : Int) (l : List S24) : Option Bool := some (right ⟨a, b, l⟩)
theorem Right.calls (a0_0 a0_1 : Int) (A0_2 : Option Addr) (c0_2 : Nat) (l0_2 : List S24) (r : Bool) (w : World) (hr0_2 : Kd.C k24 w A0_2 l0_2.length l0_2) (hc0_2 : l0_2.length ≤ c0_2) (h : Right.f a0_0 a0_1 l0_2 = some r) :
    Calls Try.prog 68 #[.agg #[.int .i64 a0_0, .int .i64 a0_1, .slice A0_2 l0_2.length c0_2]] w fun e w' => e = .returned (.bool r) ∧ Below w.heap.size w w' := by
  obtain rfl := Option.some.inj h
  exact right_n _ ⟨a0_0, a0_1, l0_2⟩ A0_2 c0_2 w (Nat.le_refl _) ⟨hc0_2, hr0_2⟩
end Go.Proofs.Ytggdpeeiioibgaa.E
