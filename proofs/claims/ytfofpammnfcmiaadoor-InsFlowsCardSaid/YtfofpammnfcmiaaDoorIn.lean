/- Marline, layer 26: the law of Flow. Condition: the tables are laid. -/
import Derived.Test.YtfofpammnfcmiaaDoorIi
import Derived.Test.YtfofpammnfcmiaaDoorNd
import Derived.Test.YtfofpammnfcmiaaDoorIk
import Derived.Test.YtfofpammnfcmiaaDoorOpo
namespace Go.Proofs.YtfofpammnfcmiaaDoor.Ip
open Go.RowKit Go.Proofs.YtfofpammnfcmiaaDoorW.PrintWords Go.Proofs.YtfofpammnfcmiaaDoorW.PrintLast Go.Proofs.YtfofpammnfcmiaaDoorW.PrintMore Go.Proofs.YtfofpammnfcmiaaDoor.Kinds Go.Proofs.YtfofpammnfcmiaaDoor.Obj Go.Proofs.YtfofpammnfcmiaaDoor.Sp Go.Proofs.YtfofpammnfcmiaaDoor.E
set_option linter.unusedVariables false
set_option linter.unusedSimpArgs false
set_option maxRecDepth 100000
def tabR (op a : Int) : Option (Int × Int × Bool) := (some (([0, 0, 0, 0, 1, 1, 2, 1, 1, 2, 2, 0, 1, 0, 0, 2, 1, 2, 1, 0, 0, 1, 1, 0, 0, 0, 1, 0, 1, 1, 1, 0, 0, 0] : List Int) : List Int)).bind fun y205 => ((some (([0, 1, 1, 1, 0, 0, 1, 1, 1, 1, 1, 0, 0, 1, 1, 1, 1, 1, 1, 0, 1, 1, 0, 0, 0, 0, 0, 0, 0, 0, 1, 1, 0, 0] : List Int) : List Int)).bind fun y208 => (if 0 ≤ op then (if op < (y205.length : Int) then (if op = 13 then (if op < (y208.length : Int) then (some (a, rd y208 op, true)) else (none)) else (if op = 14 then (if op < (y208.length : Int) then (some (a, rd y208 op, true)) else (none)) else (if op < (y208.length : Int) then (some (rd y205 op, rd y208 op, true)) else (none)))) else (none)) else (none)))
theorem tabR_is : ∀ (n : Fin 34), (n.val ≠ 19 ∧ n.val ≠ 23 ∧ n.val ≠ 24 ∧ n.val ≠ 27) → ∀ a : Int, tabR (n.val : Int) a = some (if (n.val : Int) = 13 ∨ (n.val : Int) = 14 then (a, 1, true) else (((tkn n.val : Nat) : Int), ((lyn n.val : Nat) : Int), true))
  | ⟨0, _⟩, _, a => rfl
  | ⟨1, _⟩, _, a => rfl
  | ⟨2, _⟩, _, a => rfl
  | ⟨3, _⟩, _, a => rfl
  | ⟨4, _⟩, _, a => rfl
  | ⟨5, _⟩, _, a => rfl
  | ⟨6, _⟩, _, a => rfl
  | ⟨7, _⟩, _, a => rfl
  | ⟨8, _⟩, _, a => rfl
  | ⟨9, _⟩, _, a => rfl
  | ⟨10, _⟩, _, a => rfl
  | ⟨11, _⟩, _, a => rfl
  | ⟨12, _⟩, _, a => rfl
  | ⟨13, _⟩, _, a => rfl
  | ⟨14, _⟩, _, a => rfl
  | ⟨15, _⟩, _, a => rfl
  | ⟨16, _⟩, _, a => rfl
  | ⟨17, _⟩, _, a => rfl
  | ⟨18, _⟩, _, a => rfl
  | ⟨19, _⟩, h, a => absurd rfl h.1
  | ⟨20, _⟩, _, a => rfl
  | ⟨21, _⟩, _, a => rfl
  | ⟨22, _⟩, _, a => rfl
  | ⟨23, _⟩, h, a => absurd rfl h.2.1
  | ⟨24, _⟩, h, a => absurd rfl h.2.2.1
  | ⟨25, _⟩, _, a => rfl
  | ⟨26, _⟩, _, a => rfl
  | ⟨27, _⟩, h, a => absurd rfl h.2.2.2
  | ⟨28, _⟩, _, a => rfl
  | ⟨29, _⟩, _, a => rfl
  | ⟨30, _⟩, _, a => rfl
  | ⟨31, _⟩, _, a => rfl
  | ⟨32, _⟩, _, a => rfl
  | ⟨33, _⟩, _, a => rfl
  | ⟨k + 34, h⟩, _, _ => absurd h (by omega)
theorem takes_at {n : Nat} (h : n < 34) : takesI (n : Int) = tkn n := by unfold takesI; rw [if_neg (by omega)]; rfl
theorem lays_at {n : Nat} (h : n < 34) : laysI (n : Int) = lyn n := by unfold laysI; rw [if_neg (by omega)]; rfl
set_option maxHeartbeats 2000000 in
theorem refFlow_ev (op a b d : Int) (l0 : List S48) (l1 : List S104) (l2 : List S226) (l3 : List (List Int)) (hl : ∀ j, (rd_L5 l3 j).length ≤ 1000000000000000) (z : Nat) (hz : (rd_L5 l3 a).length ≤ z ∧ (rd_L5 l3 b).length ≤ z) : PA.marlineref26_Flow.f (z + 5) op a b d l0 l1 l2 l3 = some (flowS op a b l1 (l2.length : Int) l3) := by
  unfold PA.marlineref26_Flow.f
  rw [show z + 5 = (z + 2) + 3 by omega, refRight_ev, Option.bind_some]
  have hW := fun x hx => ways_ev l0 l1 l2 l3 x hl (z + 2) hx
  have hj4 : ∀ x, PA.marlineref26_Flow.j4 (z + 2) x op a b d = if x < 0 then some (0, 0, false) else if op = 19 then some (wrap64 (x + 2), 1, true) else some (wrap64 (x + 2), 0, true) := fun _ => rfl
  have hj3 : ∀ b1 : Bool, PA.marlineref26_Flow.j3 (z + 3) b1 op a b d l0 l1 l2 l3 = if b1 = true then ((PA.marlineref26_Ways.f (z + 2) l0 l1 l2 l3 a).bind fun t => (if op = 23 then ((PA.marlineref26_Ways.f (z + 2) l0 l1 l2 l3 b).bind fun t2 => PA.marlineref26_Flow.j4 (z + 2) t2 op a b d) else PA.marlineref26_Flow.j4 (z + 2) t op a b d)) else tabR op a := fun _ => rfl
  have hj2 : ∀ b1 : Bool, PA.marlineref26_Flow.j2 (z + 4) b1 op a b d l0 l1 l2 l3 = if b1 = true then some (0, 0, false) else (if op = 19 then PA.marlineref26_Flow.j3 (z + 3) true op a b d l0 l1 l2 l3 else PA.marlineref26_Flow.j3 (z + 3) (op == 23) op a b d l0 l1 l2 l3) := fun _ => rfl
  have hj1 : ∀ b1 : Bool, PA.marlineref26_Flow.j1 (z + 4) b1 op a b d l0 l1 l2 l3 = if b1 = true then some (0, 0, false) else (if op = 27 then (if 0 ≤ a then (if a < (l1.length : Int) then some ((rd_T104 l1 a).f2, 1, true) else none) else none) else (if 0 ≤ a then (if a < (l1.length : Int) then (if (rd_T104 l1 a).f4 = true then some ((rd_T104 l1 a).f2, 1, true) else some ((rd_T104 l1 a).f2, 0, true)) else none) else none)) := fun _ => rfl
  have hj0 : ∀ b1 : Bool, PA.marlineref26_Flow.j0 (z + 2 + 3) b1 op a b d l0 l1 l2 l3 = if b1 = true then (if a ≥ (l1.length : Int) then PA.marlineref26_Flow.j1 (z + 4) true op a b d l0 l1 l2 l3 else (if 0 ≤ a then (if a < (l1.length : Int) then PA.marlineref26_Flow.j1 (z + 4) (decide ((rd_T104 l1 a).f2 < 0)) op a b d l0 l1 l2 l3 else none) else none)) else (if op ≥ 20 then (if op ≤ 23 then PA.marlineref26_Flow.j2 (z + 4) (decide (a ≥ (l2.length : Int))) op a b d l0 l1 l2 l3 else PA.marlineref26_Flow.j2 (z + 4) false op a b d l0 l1 l2 l3) else PA.marlineref26_Flow.j2 (z + 4) false op a b d l0 l1 l2 l3) := fun _ => rfl
  have key : ∀ x o, idxS l3 x = o → ∀ l, (if waysR o < 0 then some ((0 : Int), (0 : Int), false) else some (wrap64 (waysR o + 2), l, true)) = some (flow2 o l) := by
    intro x o ho l
    cases o with
    | none => rfl
    | some n =>
      show (if ((n : Nat) : Int) < 0 then _ else _) = _
      rw [if_neg (by omega)]
      show some (wrap64 ((n : Int) + 2), l, true) = _
      rw [idx_le l3 hl x n ho]; rfl
  have hT : (op = 24 ∨ op = 27) → 0 ≤ a → PA.marlineref26_Flow.j0 (z + 2 + 3) true op a b d l0 l1 l2 l3 = some (if (l1.length : Int) ≤ a ∨ (rd_T104 l1 a).f2 < 0 then (0, 0, false) else ((rd_T104 l1 a).f2, if op = 27 ∨ (rd_T104 l1 a).f4 = true then 1 else 0, true)) := by
    intro h h0
    rw [hj0, if_pos rfl]
    by_cases hg : (l1.length : Int) ≤ a
    · rw [if_pos (show a ≥ _ from hg), hj1, if_pos rfl, if_pos (.inl hg)]
    · rw [if_neg (show ¬ a ≥ _ from hg), if_pos h0, if_pos (by omega), hj1]
      by_cases hp : (rd_T104 l1 a).f2 < 0
      · rw [decide_eq_true hp, if_pos rfl, if_pos (.inr hp)]
      · have hn : ¬ ((l1.length : Int) ≤ a ∨ (rd_T104 l1 a).f2 < 0) := fun h => h.elim hg hp
        rw [decide_eq_false hp, if_neg Bool.false_ne_true, if_neg hn]
        by_cases h27 : op = 27
        · rw [if_pos h27, if_pos h0, if_pos (show a < (l1.length : Int) by omega), if_pos (show op = 27 ∨ _ from .inl h27)]
        · rw [if_neg h27, if_pos h0, if_pos (show a < (l1.length : Int) by omega)]
          cases hv : (rd_T104 l1 a).f4 with
          | true => rw [if_pos rfl, if_pos (show op = 27 ∨ _ from .inr rfl)]
          | false => rw [if_neg Bool.false_ne_true, if_neg (show ¬ (op = 27 ∨ _) from fun h => h.elim h27 Bool.false_ne_true)]
  unfold flowS
  cases hr : rightS op a b with
  | false => rw [if_neg Bool.false_ne_true, if_pos rfl]
  | true =>
    rw [if_pos rfl, if_neg (show ¬ (true = false) by decide)]
    by_cases h47 : op = 24 ∨ op = 27
    · have h0 := nonneg_of hr (by omega)
      rw [if_pos h47, ← hT h47 h0]
      by_cases h24 : op = 24
      · rw [if_pos h24]
      · rw [if_neg h24, show (op == 27) = true by have := h47.resolve_left h24; rw [this]; rfl]
    · rw [if_neg h47, if_neg (by omega), beq_no (show op ≠ 27 by omega), hj0, if_neg Bool.false_ne_true]
      by_cases h203 : 20 ≤ op ∧ op ≤ 23
      · rw [if_pos (show op ≥ 20 from h203.1), if_pos h203.2, hj2]
        by_cases hg : (l2.length : Int) ≤ a
        · rw [decide_eq_true (show a ≥ _ from hg), if_pos rfl, if_pos ⟨h203, hg⟩]
        · rw [decide_eq_false (show ¬ a ≥ _ from hg), if_neg Bool.false_ne_true, if_neg (show ¬ ((20 ≤ op ∧ op ≤ 23) ∧ (l2.length : Int) ≤ a) from fun h => hg h.2), if_neg (show ¬ op = 19 by omega), if_neg (show ¬ op = 19 by omega)]
          by_cases h23 : op = 23
          · rw [show (op == 23) = true by rw [h23]; rfl, hj3, if_pos rfl, hW a (by omega), Option.bind_some, if_pos h23, hW b (by omega), Option.bind_some, hj4, if_neg (show ¬ op = 19 by omega), key b _ rfl, if_pos h23]
          · rw [beq_no h23, hj3, if_neg Bool.false_ne_true, if_neg h23]
            obtain ⟨m, rfl, _, hm⟩ := right_name hr
            have := tabR_is ⟨m, hm⟩ (by simp only; omega) a
            simp only at this
            rw [this, takes_at hm, lays_at hm]
      · have e1 : (if op ≥ 20 then (if op ≤ 23 then PA.marlineref26_Flow.j2 (z + 4) (decide (a ≥ (l2.length : Int))) op a b d l0 l1 l2 l3 else PA.marlineref26_Flow.j2 (z + 4) false op a b d l0 l1 l2 l3) else PA.marlineref26_Flow.j2 (z + 4) false op a b d l0 l1 l2 l3) = PA.marlineref26_Flow.j2 (z + 4) false op a b d l0 l1 l2 l3 := by
          split
          · rw [if_neg (by omega)]
          · rfl
        rw [e1, hj2, if_neg Bool.false_ne_true, if_neg (show ¬ ((20 ≤ op ∧ op ≤ 23) ∧ (l2.length : Int) ≤ a) from fun h => h203 h.1)]
        by_cases h19 : op = 19
        · rw [if_pos h19, if_pos h19, hj3, if_pos rfl, hW a (by omega), Option.bind_some, if_neg (show ¬ op = 23 by omega), hj4, if_pos h19, key a _ rfl]
        · rw [if_neg h19, if_neg h19, if_neg (show ¬ op = 23 by omega), beq_no (show op ≠ 23 by omega), hj3, if_neg Bool.false_ne_true]
          obtain ⟨m, rfl, _, hm⟩ := right_name hr
          have := tabR_is ⟨m, hm⟩ (by simp only; omega) a
          simp only at this
          rw [this, takes_at hm, lays_at hm]
theorem refFlow_calls (op a b d : Int) {w : World} {v : Value} {l0 : List S48} {l1 : List S104} {l2 : List S226} {l3 : List (List Int)} (hc : CodeIs w v l0 l1 l2 l3) : Calls Tryd.prog 39 #[insV op a b d, v] w fun e w' => e = .returned (flowV (flowS op a b l1 (l2.length : Int) l3)) ∧ Below w.heap.size w w' := by
  obtain ⟨A0, c0, A1, c1, A2, c2, A3, c3, rfl, h0, e0, h1, e1, h2, e2, h3, e3⟩ := hc.ex
  exact PA.marlineref26_Flow.calls _ op a b d A0 c0 l0 A1 c1 l1 A2 c2 l2 A3 c3 l3 _ _ _ w h0 e0 h1 e1 h2 e2 h3 e3 (refFlow_ev op a b d l0 l1 l2 l3 hc.small ((rd_L5 l3 a).length + (rd_L5 l3 b).length) ⟨by omega, by omega⟩)
end Go.Proofs.YtfofpammnfcmiaaDoor.Ip
namespace Go.Proofs.YtfofpammnfcmiaaDoor.Ip
open Go.RowKit Go.Proofs.YtfofpammnfcmiaaDoorW.PrintWords Go.Proofs.YtfofpammnfcmiaaDoorW.PrintLast Go.Proofs.YtfofpammnfcmiaaDoorW.PrintMore Go.Proofs.YtfofpammnfcmiaaDoor.Kinds Go.Proofs.YtfofpammnfcmiaaDoor.Obj Go.Proofs.YtfofpammnfcmiaaDoor.Sp Go.Proofs.YtfofpammnfcmiaaDoor.E Go.Proofs.YtfofpammnfcmiaaDoor.Opn
set_option linter.unusedVariables false
set_option linter.unusedSimpArgs false
set_option maxRecDepth 100000
set_option maxHeartbeats 8000000 in
theorem iflows_walk (op a b d : Int) (A0 : Option Addr) (c0 : Nat) (A1 : Option Addr) (c1 : Nat) (A2 : Option Addr) (c2 : Nat) (A3 : Option Addr) (c3 : Nat) (l0 : List S48) (l1 : List S104) (l2 : List S226) (l3 : List (List Int)) (w : World)
    (hc : CodeIs w (.agg #[.slice A0 l0.length c0, .slice A1 l1.length c1, .slice A2 l2.length c2, .slice A3 l3.length c3]) l0 l1 l2 l3) (h : Li w) :
    Calls Tryd.prog 11 #[.agg #[.int .i64 op, .int .i64 a, .int .i64 b, .int .i64 d], .agg #[.slice A0 l0.length c0, .slice A1 l1.length c1, .slice A2 l2.length c2, .slice A3 l3.length c3]] w fun e w' => e = .returned (.bool true) ∧ Below w.heap.size w w' := by
  have hu48 := Tryd.underlying48
  have hu61 := Tryd.underlying61
  obtain ⟨g, hg⟩ : ∃ g, w.heap.size = g := ⟨_, rfl⟩
  have G : Hid (∃ w1 : World, (w.alloc (.cells #[.int .i64 op, .int .i64 a, .int .i64 b, .int .i64 d] 48)).alloc (.cells #[.slice A0 l0.length c0, .slice A1 l1.length c1, .slice A2 l2.length c2, .slice A3 l3.length c3] 61) = w1 ∧ Q4 w1 g 48 (.int .i64 op) (.int .i64 a) (.int .i64 b) (.int .i64 d) ∧ Q4 w1 (g + 1) 61 (.slice A0 l0.length c0) (.slice A1 l1.length c1) (.slice A2 l2.length c2) (.slice A3 l3.length c3) ∧ Below w.heap.size w w1) :=
    Lib.hid ⟨_, rfl, Q4.alloc (by rw [← hg]; exact blk_new _ _) _, by rw [← hg]; exact heap_alloc2_new w _ _, below_alloc (below_alloc (Below.refl _ _) _) _⟩
  have E1 := Lib.hid hg; have HC := Lib.hid hc; have HL := Lib.hid h
  obtain ⟨n1, hn1⟩ : ∃ n, l1.length = n := ⟨_, rfl⟩
  obtain ⟨n2, hn2⟩ : ∃ n, l2.length = n := ⟨_, rfl⟩
  obtain ⟨n3, hn3⟩ : ∃ n, l3.length = n := ⟨_, rfl⟩
  have FL := Lib.hid (fun (W : World) (v : Value) (hO : Ops W) (hC : CodeIs W v l0 l1 l2 l3) => flow_calls op a b d hO hC)
  have RF := Lib.hid (fun (W : World) (v : Value) (hC : CodeIs W v l0 l1 l2 l3) => refFlow_calls op a b d hC)
  obtain ⟨r1, r2, r3, hr⟩ : ∃ r1 r2 r3, flowS op a b l1 (l2.length : Int) l3 = (r1, r2, r3) := ⟨_, _, _, rfl⟩
  rw [hr] at FL RF
  unfold insV flowV at FL RF
  rw [hn1, hn2, hn3] at HC G ⊢
  by_cases hs : n1 ≤ 50 ∧ n2 ≤ 50 ∧ n3 ≤ 50
  · have p1 : decide ((50 : Int) < (n1 : Int)) = false := decide_eq_false (by omega)
    have p2 : decide ((50 : Int) < (n2 : Int)) = false := decide_eq_false (by omega)
    have p3 : decide ((50 : Int) < (n3 : Int)) = false := decide_eq_false (by omega)
    clear hg hc h hn1 hn2 hn3 hs hr
    go_enter Tryd.func11, Tryd.ntmps11
    go_upto_region 1 with (fail)
    rw [E1.out]
    obtain ⟨w1, hw1, v1, u1, b1⟩ := G.out
    rw [hw1]
    have V1 := Lib.hid v1; have U1 := Lib.hid u1; have B1 := Lib.hid b1
    clear v1 u1 b1 hw1 G
    go_wp2_with fail
    refine (iworks_calls w1 (HL.out.below B1.out)).mono ?_
    rintro e w2 ⟨rfl, b2⟩
    have V2 := Lib.hid (V1.out.below b2); have U2 := Lib.hid (U1.out.below b2); have B2 := Lib.hid (B1.out.trans (b2.mono B1.out.size))
    obtain ⟨m0, m1, m2, m3, t0, t1, t2, t3⟩ := V2.out.cells
    obtain ⟨k0, k1, k2, k3, f0, f1, f2, f3⟩ := U2.out.cells
    clear b2 V1 U1 B1 t0 t1 t2 t3 f0 f1 f2 f3
    go_wp2_with fail
    refine (FL.out w2 _ (HL.out.below B2.out).o (HC.out.below B2.out)).mono ?_
    rintro e w3 ⟨rfl, b3⟩
    have V3 := Lib.hid (V2.out.below b3); have U3 := Lib.hid (U2.out.below b3); have B3 := Lib.hid (B2.out.trans (b3.mono B2.out.size))
    obtain ⟨m0, m1, m2, m3, t0, t1, t2, t3⟩ := V3.out.cells
    obtain ⟨k0, k1, k2, k3, f0, f1, f2, f3⟩ := U3.out.cells
    clear b3 V2 U2 B2 t0 t1 t2 t3 f0 f1 f2 f3
    go_wp2_with fail
    refine (RF.out w3 _ (HC.out.below B3.out)).mono ?_
    rintro e w4 ⟨rfl, b4⟩
    have B4 := Lib.hid (B3.out.trans (b4.mono B3.out.size))
    clear b4 V3 U3 B3
    go_wp2_with fail
    go_ret
    exact ⟨rfl, B4.out⟩
  · have p : decide ((50 : Int) < (n1 : Int)) = true ∨ (decide ((50 : Int) < (n1 : Int)) = false ∧ decide ((50 : Int) < (n2 : Int)) = true) ∨ (decide ((50 : Int) < (n1 : Int)) = false ∧ decide ((50 : Int) < (n2 : Int)) = false ∧ decide ((50 : Int) < (n3 : Int)) = true) := by
      by_cases h1 : (50 : Int) < (n1 : Int)
      · exact .inl (decide_eq_true h1)
      · by_cases h2 : (50 : Int) < (n2 : Int)
        · exact .inr (.inl ⟨decide_eq_false h1, decide_eq_true h2⟩)
        · exact .inr (.inr ⟨decide_eq_false h1, decide_eq_false h2, decide_eq_true (by omega)⟩)
    clear hg hc h hn1 hn2 hn3 hs hr FL RF
    rcases p with p1 | ⟨p1, p2⟩ | ⟨p1, p2, p3⟩
    all_goals
      go_enter Tryd.func11, Tryd.ntmps11
      go_upto_region 1 with (fail)
      rw [E1.out]
      obtain ⟨w1, hw1, v1, u1, b1⟩ := G.out
      rw [hw1]
      have V1 := Lib.hid v1; have U1 := Lib.hid u1; have B1 := Lib.hid b1
      clear v1 u1 b1 hw1 G
      go_wp2_with fail
      refine (iworks_calls w1 (HL.out.below B1.out)).mono ?_
      rintro e w2 ⟨rfl, b2⟩
      have U2 := Lib.hid (U1.out.below b2); have B2 := Lib.hid (B1.out.trans (b2.mono B1.out.size))
      obtain ⟨k0, k1, k2, k3, f0, f1, f2, f3⟩ := U2.out.cells
      clear b2 V1 U1 B1 f0 f1 f2 f3
      go_wp2_with fail
      refine (iworks_calls w2 (HL.out.below B2.out)).mono ?_
      rintro e w3 ⟨rfl, b3⟩
      have B3 := Lib.hid (B2.out.trans (b3.mono B2.out.size))
      clear b3
      go_wp2_with fail
      go_ret
      exact ⟨rfl, B3.out⟩
theorem small_of {x : S61} (h : wf61 x) (j : Int) : (rd_L5 x.f3 j).length ≤ 1000000000000000 := by
  unfold rd_L5
  rw [List.getD_eq_getElem?_getD]
  cases hx : x.f3[j.toNat]? with
  | none => simp
  | some y =>
    have := (h.2.2.2.2 y (List.mem_of_getElem? hx)).1
    simp; omega
theorem iflows_row (i : S48) (x : S61) (A0 : Option Addr) (c0 : Nat) (A1 : Option Addr) (c1 : Nat) (A2 : Option Addr) (c2 : Nat) (A3 : Option Addr) (c3 : Nat) (w : World) (_hi : wf48 i) (hx : wf61 x)
    (hk : Kd.C k48 w A0 x.f0.length x.f0 ∧ x.f0.length ≤ c0 ∧ Kd.C k104 w A1 x.f1.length x.f1 ∧ x.f1.length ≤ c1 ∧ Kd.C k226 w A2 x.f2.length x.f2 ∧ x.f2.length ≤ c2 ∧ Kd.C (Kd.slice 3 (Kd.int .i64)) w A3 x.f3.length x.f3 ∧ x.f3.length ≤ c3) (h : Li w) :
    Calls Tryd.prog 11 #[.agg #[.int .i64 i.f0, .int .i64 i.f1, .int .i64 i.f2, .int .i64 i.f3], .agg #[.slice A0 x.f0.length c0, .slice A1 x.f1.length c1, .slice A2 x.f2.length c2, .slice A3 x.f3.length c3]] w fun e w' => e = .returned (.bool true) ∧ Below w.heap.size w w' :=
  iflows_walk i.f0 i.f1 i.f2 i.f3 A0 c0 A1 c1 A2 c2 A3 c3 x.f0 x.f1 x.f2 x.f3 w ⟨⟨A0, c0, A1, c1, A2, c2, A3, c3, rfl, hk⟩, small_of hx⟩ h
end Go.Proofs.YtfofpammnfcmiaaDoor.Ip
