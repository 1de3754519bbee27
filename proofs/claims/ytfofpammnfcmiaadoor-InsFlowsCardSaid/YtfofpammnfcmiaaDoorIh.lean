/- Marline, layer 26: how many values an instruction takes, and lays, by the program. Conditions: as each says. -/
import Derived.Test.YtfofpammnfcmiaaDoorIf
namespace Go.Proofs.YtfofpammnfcmiaaDoor.Ip
open Go.RowKit Go.Proofs.YtfofpammnfcmiaaDoorW.PrintWords Go.Proofs.YtfofpammnfcmiaaDoorW.PrintLast Go.Proofs.YtfofpammnfcmiaaDoorW.PrintMore Go.Proofs.YtfofpammnfcmiaaDoor.Kinds Go.Proofs.YtfofpammnfcmiaaDoor.Obj Go.Proofs.YtfofpammnfcmiaaDoor.Sp Go.Proofs.YtfofpammnfcmiaaDoor.E
set_option linter.unusedVariables false
set_option linter.unusedSimpArgs false
set_option maxRecDepth 100000
/-- how many indexes a way has: none, there is no such way. -/
def idxS (paths : List (List Int)) (way : Int) : Option Nat := if way < 0 ∨ (paths.length : Int) ≤ way then none else some ((rd_L5 paths way).countP (· == -1))
def idxR (o : Option Nat) : Int × Bool := match o with | none => (0, false) | some n => ((n : Int), true)
theorem cnt_at (l : List Int) (j : Nat) (h : j < l.length) : (l.drop j).countP (· == -1) = (if rd l j = -1 then 1 else 0) + (l.drop (j + 1)).countP (· == -1) := by
  have e : l.drop j = rd l j :: l.drop (j + 1) := by
    rw [List.drop_eq_getElem_cons h]
    unfold rd
    rw [Int.toNat_natCast]; simp [List.getD, List.getElem?_eq_getElem h]
  rw [e, List.countP_cons]
  by_cases hx : rd l j = -1
  · rw [if_pos hx]; simp [hx]; omega
  · rw [if_neg hx]; simp [hx]
theorem idx_l0 (l : List Int) (hl : l.length ≤ 1000000000000000) : ∀ (n j c k : Nat), j + n = l.length → c + n ≤ 1000000000000000 → n + 1 ≤ k → PA.ins_indexes.l0 k (c : Int) l (l.length : Int) (j : Int) = some (((c + (l.drop j).countP (· == -1) : Nat) : Int), true)
  | 0, j, c, k, hj, hc, hk => by
    obtain ⟨k, rfl⟩ : ∃ q, k = q + 1 := ⟨k - 1, by omega⟩
    unfold PA.ins_indexes.l0
    rw [if_neg (by omega), List.drop_of_length_le (by omega)]; simp
  | n + 1, j, c, k, hj, hc, hk => by
    obtain ⟨k, rfl⟩ : ∃ q, k = q + 1 := ⟨k - 1, by omega⟩
    unfold PA.ins_indexes.l0
    rw [if_pos (by omega), if_pos (by omega), if_pos (by omega), cnt_at l j (by omega)]
    have w1 : wrap64 ((j : Int) + 1) = ((j + 1 : Nat) : Int) := by unfold wrap64; omega
    have w2 : wrap64 ((c : Int) + 1) = ((c + 1 : Nat) : Int) := by unfold wrap64; omega
    by_cases hx : rd l j = -1
    · rw [if_pos hx, w1, w2, idx_l0 l hl n (j + 1) (c + 1) k (by omega) (by omega) (by omega), if_pos hx]
      simp; omega
    · rw [if_neg hx, w1, idx_l0 l hl n (j + 1) c k (by omega) (by omega) (by omega), if_neg hx]
      simp
theorem idx_ev (l0 : List S48) (l1 : List S104) (l2 : List S226) (l3 : List (List Int)) (a : Int) (hl : ∀ j, (rd_L5 l3 j).length ≤ 1000000000000000) : PA.ins_indexes.f ((rd_L5 l3 a).length + 2) l0 l1 l2 l3 a = some (idxR (idxS l3 a)) := by
  unfold PA.ins_indexes.f idxS
  have hj : ∀ b : Bool, PA.ins_indexes.j0 ((rd_L5 l3 a).length + 2) a b l0 l1 l2 l3 = if b = true then some (0, false) else if 0 ≤ a then (if a < (l3.length : Int) then PA.ins_indexes.l0 ((rd_L5 l3 a).length + 1) 0 (rd_L5 l3 a) ((rd_L5 l3 a).length : Int) 0 else none) else none := fun _ => rfl
  by_cases h0 : a < 0
  · rw [if_pos h0, if_pos (.inl h0), hj, if_pos rfl]; rfl
  · rw [if_neg h0]
    by_cases h1 : (l3.length : Int) ≤ a
    · rw [if_pos (.inr h1), hj, if_pos (decide_eq_true h1)]; rfl
    · rw [if_neg (by omega), hj, if_neg (by simpa using h1), if_pos (by omega), if_pos (by omega)]
      have := idx_l0 (rd_L5 l3 a) (hl a) (rd_L5 l3 a).length 0 0 ((rd_L5 l3 a).length + 1) (by omega) (by have := hl a; omega) (by omega)
      simp only [List.drop_zero, Nat.zero_add] at this
      exact this
theorem ways_l0 (l0 : List S48) (l1 : List S104) (l2 : List S226) (l3 : List (List Int)) (a : Int) (ha : 0 ≤ a ∧ a < (l3.length : Int)) (hl : (rd_L5 l3 a).length ≤ 1000000000000000) : ∀ (n j c k : Nat), j + n = (rd_L5 l3 a).length → c + n ≤ 1000000000000000 → n + 1 ≤ k → PA.marlineref26_Ways.l0 k a (c : Int) (j : Int) l0 l1 l2 l3 = some ((c + ((rd_L5 l3 a).drop j).countP (· == -1) : Nat) : Int)
  | 0, j, c, k, hj, hc, hk => by
    obtain ⟨k, rfl⟩ : ∃ q, k = q + 1 := ⟨k - 1, by omega⟩
    unfold PA.marlineref26_Ways.l0
    rw [if_pos ha.1, if_pos ha.2, if_neg (by omega), List.drop_of_length_le (by omega)]; simp
  | n + 1, j, c, k, hj, hc, hk => by
    obtain ⟨k, rfl⟩ : ∃ q, k = q + 1 := ⟨k - 1, by omega⟩
    unfold PA.marlineref26_Ways.l0
    rw [if_pos ha.1, if_pos ha.2, if_pos (by omega), if_pos (by omega), cnt_at _ j (by omega)]
    have w1 : wrap64 ((j : Int) + 1) = ((j + 1 : Nat) : Int) := by unfold wrap64; omega
    have w2 : wrap64 ((c : Int) + 1) = ((c + 1 : Nat) : Int) := by unfold wrap64; omega
    by_cases hx : rd (rd_L5 l3 a) j = -1
    · rw [if_pos hx, w1, w2, ways_l0 l0 l1 l2 l3 a ha hl n (j + 1) (c + 1) k (by omega) (by omega) (by omega), if_pos hx]
      simp; omega
    · rw [if_neg hx, w1, ways_l0 l0 l1 l2 l3 a ha hl n (j + 1) c k (by omega) (by omega) (by omega), if_neg hx]
      simp
def waysR (o : Option Nat) : Int := match o with | none => -1 | some n => (n : Int)
theorem ways_ev (l0 : List S48) (l1 : List S104) (l2 : List S226) (l3 : List (List Int)) (a : Int) (hl : ∀ j, (rd_L5 l3 j).length ≤ 1000000000000000) (q : Nat) (hq : (rd_L5 l3 a).length + 2 ≤ q) : PA.marlineref26_Ways.f q l0 l1 l2 l3 a = some (waysR (idxS l3 a)) := by
  obtain ⟨q, rfl⟩ : ∃ z, q = z + 1 := ⟨q - 1, by omega⟩
  unfold PA.marlineref26_Ways.f idxS
  have hj : ∀ b : Bool, PA.marlineref26_Ways.j0 (q + 1) a b l0 l1 l2 l3 = if b = true then some (-1) else PA.marlineref26_Ways.l0 q a 0 0 l0 l1 l2 l3 := fun _ => rfl
  by_cases h0 : a < 0
  · rw [if_pos h0, if_pos (.inl h0), hj, if_pos rfl]; rfl
  · rw [if_neg h0]
    by_cases h1 : (l3.length : Int) ≤ a
    · rw [if_pos (.inr h1), hj, if_pos (decide_eq_true h1)]; rfl
    · rw [if_neg (by omega), hj, if_neg (by simpa using h1)]
      have := ways_l0 l0 l1 l2 l3 a (by omega) (hl a) (rd_L5 l3 a).length 0 0 q (by omega) (by have := hl a; omega) (by omega)
      simp only [List.drop_zero, Nat.zero_add] at this
      exact this
/-- a code, as it is read. -/
structure CodeIs (w : World) (v : Value) (l0 : List S48) (l1 : List S104) (l2 : List S226) (l3 : List (List Int)) : Prop where
  ex : ∃ A0 c0 A1 c1 A2 c2 A3 c3, v = .agg #[.slice A0 l0.length c0, .slice A1 l1.length c1, .slice A2 l2.length c2, .slice A3 l3.length c3] ∧
    Kd.C k48 w A0 l0.length l0 ∧ l0.length ≤ c0 ∧ Kd.C k104 w A1 l1.length l1 ∧ l1.length ≤ c1 ∧ Kd.C k226 w A2 l2.length l2 ∧ l2.length ≤ c2 ∧ Kd.C (Kd.slice 3 (Kd.int .i64)) w A3 l3.length l3 ∧ l3.length ≤ c3
  small : ∀ j, (rd_L5 l3 j).length ≤ 1000000000000000
theorem CodeIs.below {w w' : World} {v : Value} {l0 : List S48} {l1 : List S104} {l2 : List S226} {l3 : List (List Int)} (h : CodeIs w v l0 l1 l2 l3) (hb : Below w.heap.size w w') : CodeIs w' v l0 l1 l2 l3 := by
  obtain ⟨A0, c0, A1, c1, A2, c2, A3, c3, rfl, h0, e0, h1, e1, h2, e2, h3, e3⟩ := h.ex
  exact ⟨⟨A0, c0, A1, c1, A2, c2, A3, c3, rfl, Kd.C_below h0 hb, e0, Kd.C_below h1 hb, e1, Kd.C_below h2 hb, e2, Kd.C_below h3 hb, e3⟩, h.small⟩
theorem idx_calls {w : World} {v : Value} {l0 : List S48} {l1 : List S104} {l2 : List S226} {l3 : List (List Int)} (h : CodeIs w v l0 l1 l2 l3) (a : Int) : Calls Tryd.prog 72 #[v, .int .i64 a] w fun e w' => e = .returned (.tuple #[.int .i64 (idxR (idxS l3 a)).1, .bool (idxR (idxS l3 a)).2]) ∧ Below w.heap.size w w' := by
  obtain ⟨A0, c0, A1, c1, A2, c2, A3, c3, rfl, h0, e0, h1, e1, h2, e2, h3, e3⟩ := h.ex
  exact PA.ins_indexes.calls _ A0 c0 l0 A1 c1 l1 A2 c2 l2 A3 c3 l3 a _ _ w h0 e0 h1 e1 h2 e2 h3 e3 (idx_ev l0 l1 l2 l3 a h.small)
end Go.Proofs.YtfofpammnfcmiaaDoor.Ip
namespace Go.Proofs.YtfofpammnfcmiaaDoor.Ip
open Go.RowKit Go.Proofs.YtfofpammnfcmiaaDoorW.PrintWords Go.Proofs.YtfofpammnfcmiaaDoorW.PrintLast Go.Proofs.YtfofpammnfcmiaaDoorW.PrintMore Go.Proofs.YtfofpammnfcmiaaDoor.Kinds Go.Proofs.YtfofpammnfcmiaaDoor.Obj Go.Proofs.YtfofpammnfcmiaaDoor.Sp Go.Proofs.YtfofpammnfcmiaaDoor.E
set_option linter.unusedVariables false
set_option linter.unusedSimpArgs false
set_option maxRecDepth 100000
def flowV (r : Int × Int × Bool) : Value := .tuple #[.int .i64 r.1, .int .i64 r.2.1, .bool r.2.2]
/-- Flow, under the facts of one case. -/
def FlowP (op a b d : Int) (l0 : List S48) (l1 : List S104) (l2 : List S226) (l3 : List (List Int)) (r : Int × Int × Bool) : Prop :=
  ∀ (w : World) (v : Value), Ops w → CodeIs w v l0 l1 l2 l3 → Calls Tryd.prog 38 #[insV op a b d, v] w fun e w' => e = .returned (flowV r) ∧ Below w.heap.size w w'
set_option maxHeartbeats 4000000 in
theorem flow_no (op a b d : Int) (l0 : List S48) (l1 : List S104) (l2 : List S226) (l3 : List (List Int)) (hr : rightS op a b = false)  : FlowP op a b d l0 l1 l2 l3 (0, 0, false) := by
  intro w v ho hc
  unfold insV flowV
  have hu48 := Tryd.underlying48
  have hu61 := Tryd.underlying61
  have hu94 := Tryd.underlying94
  obtain ⟨A0, c0, A1, c1, A2, c2, A3, c3, rfl, h0, e0, h1, e1, h2, e2, h3, e3⟩ := hc.ex
  obtain ⟨g, hg⟩ : ∃ g, w.heap.size = g := ⟨_, rfl⟩
  have G : Hid (∃ w1 : World, (w.alloc (.cells #[.int .i64 op, .int .i64 a, .int .i64 b, .int .i64 d] 48)).alloc (.cells #[.slice A0 l0.length c0, .slice A1 l1.length c1, .slice A2 l2.length c2, .slice A3 l3.length c3] 61) = w1 ∧ Q4 w1 g 48 (.int .i64 op) (.int .i64 a) (.int .i64 b) (.int .i64 d) ∧ Q4 w1 (g + 1) 61 (.slice A0 l0.length c0) (.slice A1 l1.length c1) (.slice A2 l2.length c2) (.slice A3 l3.length c3) ∧ Below w.heap.size w w1) :=
    Lib.hid ⟨_, rfl, Q4.alloc (by rw [← hg]; exact blk_new _ _) _, by rw [← hg]; exact heap_alloc2_new w _ _, below_alloc (below_alloc (Below.refl _ _) _) _⟩
  have E1 := Lib.hid hg; have HO := Lib.hid ho; have HC := Lib.hid hc; have HR := Lib.hid hr
  clear hg ho hc hr h0 e0 h1 e1 h2 e2 h3 e3
  go_enter Tryd.func38, Tryd.ntmps38
  go_upto_region 1 with (fail)
  rw [E1.out]
  obtain ⟨w1, hw1, v1, u1, b1⟩ := G.out
  rw [hw1]
  have V1 := Lib.hid v1; have U1 := Lib.hid u1; have B1 := Lib.hid b1
  obtain ⟨m0, m1, m2, m3, t0, t1, t2, t3⟩ := v1.cells
  clear v1 u1 b1 hw1 G
  go_wp2_with fail
  refine (right_calls op a b d w1 (HO.out.below B1.out)).mono ?_
  rintro e w2 ⟨rfl, b2⟩
  rw [HR.out]
  have V2 := Lib.hid (V1.out.below b2); have U2 := Lib.hid (U1.out.below b2); have B2 := Lib.hid (B1.out.trans (b2.mono B1.out.size))
  obtain ⟨m0, m1, m2, m3, t0, t1, t2, t3⟩ := V2.out.cells
  clear b2 V1 U1 B1
  go_wp2_with fail
  go_ret3
  exact ⟨rfl, B2.out⟩
set_option maxHeartbeats 4000000 in
theorem flow_13 (a b d : Int) (l0 : List S48) (l1 : List S104) (l2 : List S226) (l3 : List (List Int)) (hr : rightS 13 a b = true)  : FlowP 13 a b d l0 l1 l2 l3 (a, 1, true) := by
  intro w v ho hc
  unfold insV flowV
  have hu48 := Tryd.underlying48
  have hu61 := Tryd.underlying61
  have hu94 := Tryd.underlying94
  obtain ⟨A0, c0, A1, c1, A2, c2, A3, c3, rfl, h0, e0, h1, e1, h2, e2, h3, e3⟩ := hc.ex
  obtain ⟨g, hg⟩ : ∃ g, w.heap.size = g := ⟨_, rfl⟩
  have G : Hid (∃ w1 : World, (w.alloc (.cells #[.int .i64 13, .int .i64 a, .int .i64 b, .int .i64 d] 48)).alloc (.cells #[.slice A0 l0.length c0, .slice A1 l1.length c1, .slice A2 l2.length c2, .slice A3 l3.length c3] 61) = w1 ∧ Q4 w1 g 48 (.int .i64 13) (.int .i64 a) (.int .i64 b) (.int .i64 d) ∧ Q4 w1 (g + 1) 61 (.slice A0 l0.length c0) (.slice A1 l1.length c1) (.slice A2 l2.length c2) (.slice A3 l3.length c3) ∧ Below w.heap.size w w1) :=
    Lib.hid ⟨_, rfl, Q4.alloc (by rw [← hg]; exact blk_new _ _) _, by rw [← hg]; exact heap_alloc2_new w _ _, below_alloc (below_alloc (Below.refl _ _) _) _⟩
  have E1 := Lib.hid hg; have HO := Lib.hid ho; have HC := Lib.hid hc; have HR := Lib.hid hr
  clear hg ho hc hr h0 e0 h1 e1 h2 e2 h3 e3
  go_enter Tryd.func38, Tryd.ntmps38
  go_upto_region 1 with (fail)
  rw [E1.out]
  obtain ⟨w1, hw1, v1, u1, b1⟩ := G.out
  rw [hw1]
  have V1 := Lib.hid v1; have U1 := Lib.hid u1; have B1 := Lib.hid b1
  obtain ⟨m0, m1, m2, m3, t0, t1, t2, t3⟩ := v1.cells
  clear v1 u1 b1 hw1 G
  go_wp2_with fail
  refine (right_calls 13 a b d w1 (HO.out.below B1.out)).mono ?_
  rintro e w2 ⟨rfl, b2⟩
  rw [HR.out]
  have V2 := Lib.hid (V1.out.below b2); have U2 := Lib.hid (U1.out.below b2); have B2 := Lib.hid (B1.out.trans (b2.mono B1.out.size))
  obtain ⟨m0, m1, m2, m3, t0, t1, t2, t3⟩ := V2.out.cells
  clear b2 V1 U1 B1
  go_wp2_with fail
  refine (of_calls 13 w2 (HO.out.below B2.out)).mono ?_
  rintro e w3 ⟨rfl, b3⟩
  have V3 := Lib.hid (V2.out.below b3); have U3 := Lib.hid (U2.out.below b3); have B3 := Lib.hid (B2.out.trans (b3.mono B2.out.size))
  clear b3 V2 U2 B2
  obtain ⟨s, ar, tk, ly, hov, htk, hly⟩ : ∃ (s : ByteArray) (ar tk ly : Int), opV 13 = .agg #[.string s, .int .i64 ar, .int .i64 tk, .int .i64 ly] ∧ ((takesI 13 : Nat) : Int) = tk ∧ ((laysI 13 : Nat) : Int) = ly := ⟨_, _, _, _, rfl, rfl, rfl⟩
  rw [hov]
  have HTK := Lib.hid htk; have HLY := Lib.hid hly
  clear hov
  obtain rfl : tk = 0 := by rw [← htk]; rfl
  obtain rfl : ly = 1 := by rw [← hly]; rfl
  clear htk hly
  go_upto_region 4 with (fail)
  obtain ⟨gq, hgq⟩ : ∃ g, w3.heap.size = g := ⟨_, rfl⟩
  have H4 : ∃ w4 : World, w3.alloc (.cells #[.string s, .int .i64 ar, .int .i64 0, .int .i64 1] 94) = w4 ∧ Q4 w4 gq 94 (.string s) (.int .i64 ar) (.int .i64 0) (.int .i64 1) ∧ Q4 w4 g 48 (.int .i64 13) (.int .i64 a) (.int .i64 b) (.int .i64 d) ∧ Q4 w4 (g + 1) 61 (.slice A0 l0.length c0) (.slice A1 l1.length c1) (.slice A2 l2.length c2) (.slice A3 l3.length c3) ∧ Below w.heap.size w w4 :=
    ⟨_, rfl, by rw [← hgq]; exact blk_new w3 _, V3.out.alloc _, U3.out.alloc _, below_alloc B3.out _⟩
  rw [hgq]
  obtain ⟨w4, hw4, q4, v4, u4, b4⟩ := H4
  rw [hw4]
  have Q4' := Lib.hid q4; have V4 := Lib.hid v4; have U4 := Lib.hid u4; have B4 := Lib.hid b4
  obtain ⟨m0, m1, m2, m3, t0, t1, t2, t3⟩ := v4.cells
  obtain ⟨o0, o1, o2, o3, r0, r1, r2, r3⟩ := q4.cells
  obtain ⟨k0, k1, k2, k3, f0, f1, f2, f3⟩ := u4.cells
  clear q4 v4 u4 b4 hw4 hgq V3 U3 B3 t0 t1 t2 t3 r0 r1 r2 r3 f0 f1 f2 f3
  go_region
  all_goals
    go_wp2_with fail
    go_ret3
    exact ⟨rfl, below_drew1 B4.out⟩
set_option maxHeartbeats 4000000 in
theorem flow_14 (a b d : Int) (l0 : List S48) (l1 : List S104) (l2 : List S226) (l3 : List (List Int)) (hr : rightS 14 a b = true)  : FlowP 14 a b d l0 l1 l2 l3 (a, 1, true) := by
  intro w v ho hc
  unfold insV flowV
  have hu48 := Tryd.underlying48
  have hu61 := Tryd.underlying61
  have hu94 := Tryd.underlying94
  obtain ⟨A0, c0, A1, c1, A2, c2, A3, c3, rfl, h0, e0, h1, e1, h2, e2, h3, e3⟩ := hc.ex
  obtain ⟨g, hg⟩ : ∃ g, w.heap.size = g := ⟨_, rfl⟩
  have G : Hid (∃ w1 : World, (w.alloc (.cells #[.int .i64 14, .int .i64 a, .int .i64 b, .int .i64 d] 48)).alloc (.cells #[.slice A0 l0.length c0, .slice A1 l1.length c1, .slice A2 l2.length c2, .slice A3 l3.length c3] 61) = w1 ∧ Q4 w1 g 48 (.int .i64 14) (.int .i64 a) (.int .i64 b) (.int .i64 d) ∧ Q4 w1 (g + 1) 61 (.slice A0 l0.length c0) (.slice A1 l1.length c1) (.slice A2 l2.length c2) (.slice A3 l3.length c3) ∧ Below w.heap.size w w1) :=
    Lib.hid ⟨_, rfl, Q4.alloc (by rw [← hg]; exact blk_new _ _) _, by rw [← hg]; exact heap_alloc2_new w _ _, below_alloc (below_alloc (Below.refl _ _) _) _⟩
  have E1 := Lib.hid hg; have HO := Lib.hid ho; have HC := Lib.hid hc; have HR := Lib.hid hr
  clear hg ho hc hr h0 e0 h1 e1 h2 e2 h3 e3
  go_enter Tryd.func38, Tryd.ntmps38
  go_upto_region 1 with (fail)
  rw [E1.out]
  obtain ⟨w1, hw1, v1, u1, b1⟩ := G.out
  rw [hw1]
  have V1 := Lib.hid v1; have U1 := Lib.hid u1; have B1 := Lib.hid b1
  obtain ⟨m0, m1, m2, m3, t0, t1, t2, t3⟩ := v1.cells
  clear v1 u1 b1 hw1 G
  go_wp2_with fail
  refine (right_calls 14 a b d w1 (HO.out.below B1.out)).mono ?_
  rintro e w2 ⟨rfl, b2⟩
  rw [HR.out]
  have V2 := Lib.hid (V1.out.below b2); have U2 := Lib.hid (U1.out.below b2); have B2 := Lib.hid (B1.out.trans (b2.mono B1.out.size))
  obtain ⟨m0, m1, m2, m3, t0, t1, t2, t3⟩ := V2.out.cells
  clear b2 V1 U1 B1
  go_wp2_with fail
  refine (of_calls 14 w2 (HO.out.below B2.out)).mono ?_
  rintro e w3 ⟨rfl, b3⟩
  have V3 := Lib.hid (V2.out.below b3); have U3 := Lib.hid (U2.out.below b3); have B3 := Lib.hid (B2.out.trans (b3.mono B2.out.size))
  clear b3 V2 U2 B2
  obtain ⟨s, ar, tk, ly, hov, htk, hly⟩ : ∃ (s : ByteArray) (ar tk ly : Int), opV 14 = .agg #[.string s, .int .i64 ar, .int .i64 tk, .int .i64 ly] ∧ ((takesI 14 : Nat) : Int) = tk ∧ ((laysI 14 : Nat) : Int) = ly := ⟨_, _, _, _, rfl, rfl, rfl⟩
  rw [hov]
  have HTK := Lib.hid htk; have HLY := Lib.hid hly
  clear hov
  obtain rfl : tk = 0 := by rw [← htk]; rfl
  obtain rfl : ly = 1 := by rw [← hly]; rfl
  clear htk hly
  go_upto_region 4 with (fail)
  obtain ⟨gq, hgq⟩ : ∃ g, w3.heap.size = g := ⟨_, rfl⟩
  have H4 : ∃ w4 : World, w3.alloc (.cells #[.string s, .int .i64 ar, .int .i64 0, .int .i64 1] 94) = w4 ∧ Q4 w4 gq 94 (.string s) (.int .i64 ar) (.int .i64 0) (.int .i64 1) ∧ Q4 w4 g 48 (.int .i64 14) (.int .i64 a) (.int .i64 b) (.int .i64 d) ∧ Q4 w4 (g + 1) 61 (.slice A0 l0.length c0) (.slice A1 l1.length c1) (.slice A2 l2.length c2) (.slice A3 l3.length c3) ∧ Below w.heap.size w w4 :=
    ⟨_, rfl, by rw [← hgq]; exact blk_new w3 _, V3.out.alloc _, U3.out.alloc _, below_alloc B3.out _⟩
  rw [hgq]
  obtain ⟨w4, hw4, q4, v4, u4, b4⟩ := H4
  rw [hw4]
  have Q4' := Lib.hid q4; have V4 := Lib.hid v4; have U4 := Lib.hid u4; have B4 := Lib.hid b4
  obtain ⟨m0, m1, m2, m3, t0, t1, t2, t3⟩ := v4.cells
  obtain ⟨o0, o1, o2, o3, r0, r1, r2, r3⟩ := q4.cells
  obtain ⟨k0, k1, k2, k3, f0, f1, f2, f3⟩ := u4.cells
  clear q4 v4 u4 b4 hw4 hgq V3 U3 B3 t0 t1 t2 t3 r0 r1 r2 r3 f0 f1 f2 f3
  go_region
  all_goals
    go_wp2_with fail
    go_ret3
    exact ⟨rfl, below_drew1 B4.out⟩
set_option maxHeartbeats 4000000 in
theorem flow_19n (a b d : Int) (l0 : List S48) (l1 : List S104) (l2 : List S226) (l3 : List (List Int)) (hr : rightS 19 a b = true) (hidx : idxR (idxS l3 a) = (0, false)) : FlowP 19 a b d l0 l1 l2 l3 (0, 0, false) := by
  intro w v ho hc
  unfold insV flowV
  have hu48 := Tryd.underlying48
  have hu61 := Tryd.underlying61
  have hu94 := Tryd.underlying94
  obtain ⟨A0, c0, A1, c1, A2, c2, A3, c3, rfl, h0, e0, h1, e1, h2, e2, h3, e3⟩ := hc.ex
  obtain ⟨g, hg⟩ : ∃ g, w.heap.size = g := ⟨_, rfl⟩
  have G : Hid (∃ w1 : World, (w.alloc (.cells #[.int .i64 19, .int .i64 a, .int .i64 b, .int .i64 d] 48)).alloc (.cells #[.slice A0 l0.length c0, .slice A1 l1.length c1, .slice A2 l2.length c2, .slice A3 l3.length c3] 61) = w1 ∧ Q4 w1 g 48 (.int .i64 19) (.int .i64 a) (.int .i64 b) (.int .i64 d) ∧ Q4 w1 (g + 1) 61 (.slice A0 l0.length c0) (.slice A1 l1.length c1) (.slice A2 l2.length c2) (.slice A3 l3.length c3) ∧ Below w.heap.size w w1) :=
    Lib.hid ⟨_, rfl, Q4.alloc (by rw [← hg]; exact blk_new _ _) _, by rw [← hg]; exact heap_alloc2_new w _ _, below_alloc (below_alloc (Below.refl _ _) _) _⟩
  have E1 := Lib.hid hg; have HO := Lib.hid ho; have HC := Lib.hid hc; have HR := Lib.hid hr
  clear hg ho hc hr h0 e0 h1 e1 h2 e2 h3 e3
  go_enter Tryd.func38, Tryd.ntmps38
  go_upto_region 1 with (fail)
  rw [E1.out]
  obtain ⟨w1, hw1, v1, u1, b1⟩ := G.out
  rw [hw1]
  have V1 := Lib.hid v1; have U1 := Lib.hid u1; have B1 := Lib.hid b1
  obtain ⟨m0, m1, m2, m3, t0, t1, t2, t3⟩ := v1.cells
  clear v1 u1 b1 hw1 G
  go_wp2_with fail
  refine (right_calls 19 a b d w1 (HO.out.below B1.out)).mono ?_
  rintro e w2 ⟨rfl, b2⟩
  rw [HR.out]
  have V2 := Lib.hid (V1.out.below b2); have U2 := Lib.hid (U1.out.below b2); have B2 := Lib.hid (B1.out.trans (b2.mono B1.out.size))
  obtain ⟨m0, m1, m2, m3, t0, t1, t2, t3⟩ := V2.out.cells
  clear b2 V1 U1 B1
  go_wp2_with fail
  refine (of_calls 19 w2 (HO.out.below B2.out)).mono ?_
  rintro e w3 ⟨rfl, b3⟩
  have V3 := Lib.hid (V2.out.below b3); have U3 := Lib.hid (U2.out.below b3); have B3 := Lib.hid (B2.out.trans (b3.mono B2.out.size))
  clear b3 V2 U2 B2
  obtain ⟨s, ar, tk, ly, hov, htk, hly⟩ : ∃ (s : ByteArray) (ar tk ly : Int), opV 19 = .agg #[.string s, .int .i64 ar, .int .i64 tk, .int .i64 ly] ∧ ((takesI 19 : Nat) : Int) = tk ∧ ((laysI 19 : Nat) : Int) = ly := ⟨_, _, _, _, rfl, rfl, rfl⟩
  rw [hov]
  have HTK := Lib.hid htk; have HLY := Lib.hid hly
  clear hov
  obtain rfl : tk = 2 := by rw [← htk]; rfl
  obtain rfl : ly = 1 := by rw [← hly]; rfl
  clear htk hly
  go_upto_region 4 with (fail)
  obtain ⟨gq, hgq⟩ : ∃ g, w3.heap.size = g := ⟨_, rfl⟩
  have H4 : ∃ w4 : World, w3.alloc (.cells #[.string s, .int .i64 ar, .int .i64 2, .int .i64 1] 94) = w4 ∧ Q4 w4 gq 94 (.string s) (.int .i64 ar) (.int .i64 2) (.int .i64 1) ∧ Q4 w4 g 48 (.int .i64 19) (.int .i64 a) (.int .i64 b) (.int .i64 d) ∧ Q4 w4 (g + 1) 61 (.slice A0 l0.length c0) (.slice A1 l1.length c1) (.slice A2 l2.length c2) (.slice A3 l3.length c3) ∧ Below w.heap.size w w4 :=
    ⟨_, rfl, by rw [← hgq]; exact blk_new w3 _, V3.out.alloc _, U3.out.alloc _, below_alloc B3.out _⟩
  rw [hgq]
  obtain ⟨w4, hw4, q4, v4, u4, b4⟩ := H4
  rw [hw4]
  have Q4' := Lib.hid q4; have V4 := Lib.hid v4; have U4 := Lib.hid u4; have B4 := Lib.hid b4
  obtain ⟨m0, m1, m2, m3, t0, t1, t2, t3⟩ := v4.cells
  obtain ⟨o0, o1, o2, o3, r0, r1, r2, r3⟩ := q4.cells
  obtain ⟨k0, k1, k2, k3, f0, f1, f2, f3⟩ := u4.cells
  clear q4 v4 u4 b4 hw4 hgq V3 U3 B3 t0 t1 t2 t3 r0 r1 r2 r3 f0 f1 f2 f3
  go_region
  all_goals
    go_wp2_with fail
    refine (idx_calls (CodeIs.below (w := w4) (w' := w4.drew) (HC.out.below B4.out) (below_drew1 (Below.refl _ _))) a).mono ?_
    rintro e w5 ⟨rfl, b5⟩
    have V5 := Lib.hid (Q4.below (w := w4.drew) V4.out b5); have U5 := Lib.hid (Q4.below (w := w4.drew) U4.out b5); have Q5 := Lib.hid (Q4.below (w := w4.drew) Q4'.out b5); have B5 := Lib.hid (Below.trans (below_drew1 B4.out) (Below.mono b5 (by exact B4.out.size)))
    rw [hidx]
    dsimp only
    obtain ⟨m0, m1, m2, m3, t0, t1, t2, t3⟩ := V5.out.cells
    obtain ⟨o0, o1, o2, o3, r0, r1, r2, r3⟩ := Q5.out.cells
    obtain ⟨k0, k1, k2, k3, f0, f1, f2, f3⟩ := U5.out.cells
    clear b5 V4 U4 Q4' B4
    go_wp2_with fail
    go_ret3
    exact ⟨rfl, B5.out⟩
set_option maxHeartbeats 4000000 in
theorem flow_19s (a b d : Int) (l0 : List S48) (l1 : List S104) (l2 : List S226) (l3 : List (List Int)) (hr : rightS 19 a b = true) (n : Int) (hidx : idxR (idxS l3 a) = (n, true)) : FlowP 19 a b d l0 l1 l2 l3 (wrap64 (n + 2), 1, true) := by
  intro w v ho hc
  unfold insV flowV
  have hu48 := Tryd.underlying48
  have hu61 := Tryd.underlying61
  have hu94 := Tryd.underlying94
  obtain ⟨A0, c0, A1, c1, A2, c2, A3, c3, rfl, h0, e0, h1, e1, h2, e2, h3, e3⟩ := hc.ex
  obtain ⟨g, hg⟩ : ∃ g, w.heap.size = g := ⟨_, rfl⟩
  have G : Hid (∃ w1 : World, (w.alloc (.cells #[.int .i64 19, .int .i64 a, .int .i64 b, .int .i64 d] 48)).alloc (.cells #[.slice A0 l0.length c0, .slice A1 l1.length c1, .slice A2 l2.length c2, .slice A3 l3.length c3] 61) = w1 ∧ Q4 w1 g 48 (.int .i64 19) (.int .i64 a) (.int .i64 b) (.int .i64 d) ∧ Q4 w1 (g + 1) 61 (.slice A0 l0.length c0) (.slice A1 l1.length c1) (.slice A2 l2.length c2) (.slice A3 l3.length c3) ∧ Below w.heap.size w w1) :=
    Lib.hid ⟨_, rfl, Q4.alloc (by rw [← hg]; exact blk_new _ _) _, by rw [← hg]; exact heap_alloc2_new w _ _, below_alloc (below_alloc (Below.refl _ _) _) _⟩
  have E1 := Lib.hid hg; have HO := Lib.hid ho; have HC := Lib.hid hc; have HR := Lib.hid hr
  clear hg ho hc hr h0 e0 h1 e1 h2 e2 h3 e3
  go_enter Tryd.func38, Tryd.ntmps38
  go_upto_region 1 with (fail)
  rw [E1.out]
  obtain ⟨w1, hw1, v1, u1, b1⟩ := G.out
  rw [hw1]
  have V1 := Lib.hid v1; have U1 := Lib.hid u1; have B1 := Lib.hid b1
  obtain ⟨m0, m1, m2, m3, t0, t1, t2, t3⟩ := v1.cells
  clear v1 u1 b1 hw1 G
  go_wp2_with fail
  refine (right_calls 19 a b d w1 (HO.out.below B1.out)).mono ?_
  rintro e w2 ⟨rfl, b2⟩
  rw [HR.out]
  have V2 := Lib.hid (V1.out.below b2); have U2 := Lib.hid (U1.out.below b2); have B2 := Lib.hid (B1.out.trans (b2.mono B1.out.size))
  obtain ⟨m0, m1, m2, m3, t0, t1, t2, t3⟩ := V2.out.cells
  clear b2 V1 U1 B1
  go_wp2_with fail
  refine (of_calls 19 w2 (HO.out.below B2.out)).mono ?_
  rintro e w3 ⟨rfl, b3⟩
  have V3 := Lib.hid (V2.out.below b3); have U3 := Lib.hid (U2.out.below b3); have B3 := Lib.hid (B2.out.trans (b3.mono B2.out.size))
  clear b3 V2 U2 B2
  obtain ⟨s, ar, tk, ly, hov, htk, hly⟩ : ∃ (s : ByteArray) (ar tk ly : Int), opV 19 = .agg #[.string s, .int .i64 ar, .int .i64 tk, .int .i64 ly] ∧ ((takesI 19 : Nat) : Int) = tk ∧ ((laysI 19 : Nat) : Int) = ly := ⟨_, _, _, _, rfl, rfl, rfl⟩
  rw [hov]
  have HTK := Lib.hid htk; have HLY := Lib.hid hly
  clear hov
  obtain rfl : tk = 2 := by rw [← htk]; rfl
  obtain rfl : ly = 1 := by rw [← hly]; rfl
  clear htk hly
  go_upto_region 4 with (fail)
  obtain ⟨gq, hgq⟩ : ∃ g, w3.heap.size = g := ⟨_, rfl⟩
  have H4 : ∃ w4 : World, w3.alloc (.cells #[.string s, .int .i64 ar, .int .i64 2, .int .i64 1] 94) = w4 ∧ Q4 w4 gq 94 (.string s) (.int .i64 ar) (.int .i64 2) (.int .i64 1) ∧ Q4 w4 g 48 (.int .i64 19) (.int .i64 a) (.int .i64 b) (.int .i64 d) ∧ Q4 w4 (g + 1) 61 (.slice A0 l0.length c0) (.slice A1 l1.length c1) (.slice A2 l2.length c2) (.slice A3 l3.length c3) ∧ Below w.heap.size w w4 :=
    ⟨_, rfl, by rw [← hgq]; exact blk_new w3 _, V3.out.alloc _, U3.out.alloc _, below_alloc B3.out _⟩
  rw [hgq]
  obtain ⟨w4, hw4, q4, v4, u4, b4⟩ := H4
  rw [hw4]
  have Q4' := Lib.hid q4; have V4 := Lib.hid v4; have U4 := Lib.hid u4; have B4 := Lib.hid b4
  obtain ⟨m0, m1, m2, m3, t0, t1, t2, t3⟩ := v4.cells
  obtain ⟨o0, o1, o2, o3, r0, r1, r2, r3⟩ := q4.cells
  obtain ⟨k0, k1, k2, k3, f0, f1, f2, f3⟩ := u4.cells
  clear q4 v4 u4 b4 hw4 hgq V3 U3 B3 t0 t1 t2 t3 r0 r1 r2 r3 f0 f1 f2 f3
  go_region
  all_goals
    go_wp2_with fail
    refine (idx_calls (CodeIs.below (w := w4) (w' := w4.drew) (HC.out.below B4.out) (below_drew1 (Below.refl _ _))) a).mono ?_
    rintro e w5 ⟨rfl, b5⟩
    have V5 := Lib.hid (Q4.below (w := w4.drew) V4.out b5); have U5 := Lib.hid (Q4.below (w := w4.drew) U4.out b5); have Q5 := Lib.hid (Q4.below (w := w4.drew) Q4'.out b5); have B5 := Lib.hid (Below.trans (below_drew1 B4.out) (Below.mono b5 (by exact B4.out.size)))
    rw [hidx]
    dsimp only
    obtain ⟨m0, m1, m2, m3, t0, t1, t2, t3⟩ := V5.out.cells
    obtain ⟨o0, o1, o2, o3, r0, r1, r2, r3⟩ := Q5.out.cells
    obtain ⟨k0, k1, k2, k3, f0, f1, f2, f3⟩ := U5.out.cells
    clear b5 V4 U4 Q4' B4
    go_wp2_with fail
    go_ret3
    exact ⟨rfl, B5.out⟩
set_option maxHeartbeats 4000000 in
theorem flow_20y (a b d : Int) (l0 : List S48) (l1 : List S104) (l2 : List S226) (l3 : List (List Int)) (hr : rightS 20 a b = true) (h : decide (a < (l2.length : Int)) = true) : FlowP 20 a b d l0 l1 l2 l3 (0, 1, true) := by
  intro w v ho hc
  unfold insV flowV
  have hu48 := Tryd.underlying48
  have hu61 := Tryd.underlying61
  have hu94 := Tryd.underlying94
  obtain ⟨A0, c0, A1, c1, A2, c2, A3, c3, rfl, h0, e0, h1, e1, h2, e2, h3, e3⟩ := hc.ex
  obtain ⟨g, hg⟩ : ∃ g, w.heap.size = g := ⟨_, rfl⟩
  have G : Hid (∃ w1 : World, (w.alloc (.cells #[.int .i64 20, .int .i64 a, .int .i64 b, .int .i64 d] 48)).alloc (.cells #[.slice A0 l0.length c0, .slice A1 l1.length c1, .slice A2 l2.length c2, .slice A3 l3.length c3] 61) = w1 ∧ Q4 w1 g 48 (.int .i64 20) (.int .i64 a) (.int .i64 b) (.int .i64 d) ∧ Q4 w1 (g + 1) 61 (.slice A0 l0.length c0) (.slice A1 l1.length c1) (.slice A2 l2.length c2) (.slice A3 l3.length c3) ∧ Below w.heap.size w w1) :=
    Lib.hid ⟨_, rfl, Q4.alloc (by rw [← hg]; exact blk_new _ _) _, by rw [← hg]; exact heap_alloc2_new w _ _, below_alloc (below_alloc (Below.refl _ _) _) _⟩
  have E1 := Lib.hid hg; have HO := Lib.hid ho; have HC := Lib.hid hc; have HR := Lib.hid hr
  clear hg ho hc hr h0 e0 h1 e1 h2 e2 h3 e3
  go_enter Tryd.func38, Tryd.ntmps38
  go_upto_region 1 with (fail)
  rw [E1.out]
  obtain ⟨w1, hw1, v1, u1, b1⟩ := G.out
  rw [hw1]
  have V1 := Lib.hid v1; have U1 := Lib.hid u1; have B1 := Lib.hid b1
  obtain ⟨m0, m1, m2, m3, t0, t1, t2, t3⟩ := v1.cells
  clear v1 u1 b1 hw1 G
  go_wp2_with fail
  refine (right_calls 20 a b d w1 (HO.out.below B1.out)).mono ?_
  rintro e w2 ⟨rfl, b2⟩
  rw [HR.out]
  have V2 := Lib.hid (V1.out.below b2); have U2 := Lib.hid (U1.out.below b2); have B2 := Lib.hid (B1.out.trans (b2.mono B1.out.size))
  obtain ⟨m0, m1, m2, m3, t0, t1, t2, t3⟩ := V2.out.cells
  clear b2 V1 U1 B1
  go_wp2_with fail
  refine (of_calls 20 w2 (HO.out.below B2.out)).mono ?_
  rintro e w3 ⟨rfl, b3⟩
  have V3 := Lib.hid (V2.out.below b3); have U3 := Lib.hid (U2.out.below b3); have B3 := Lib.hid (B2.out.trans (b3.mono B2.out.size))
  clear b3 V2 U2 B2
  obtain ⟨s, ar, tk, ly, hov, htk, hly⟩ : ∃ (s : ByteArray) (ar tk ly : Int), opV 20 = .agg #[.string s, .int .i64 ar, .int .i64 tk, .int .i64 ly] ∧ ((takesI 20 : Nat) : Int) = tk ∧ ((laysI 20 : Nat) : Int) = ly := ⟨_, _, _, _, rfl, rfl, rfl⟩
  rw [hov]
  have HTK := Lib.hid htk; have HLY := Lib.hid hly
  clear hov
  obtain rfl : tk = 0 := by rw [← htk]; rfl
  obtain rfl : ly = 1 := by rw [← hly]; rfl
  clear htk hly
  go_upto_region 4 with (fail)
  obtain ⟨gq, hgq⟩ : ∃ g, w3.heap.size = g := ⟨_, rfl⟩
  have H4 : ∃ w4 : World, w3.alloc (.cells #[.string s, .int .i64 ar, .int .i64 0, .int .i64 1] 94) = w4 ∧ Q4 w4 gq 94 (.string s) (.int .i64 ar) (.int .i64 0) (.int .i64 1) ∧ Q4 w4 g 48 (.int .i64 20) (.int .i64 a) (.int .i64 b) (.int .i64 d) ∧ Q4 w4 (g + 1) 61 (.slice A0 l0.length c0) (.slice A1 l1.length c1) (.slice A2 l2.length c2) (.slice A3 l3.length c3) ∧ Below w.heap.size w w4 :=
    ⟨_, rfl, by rw [← hgq]; exact blk_new w3 _, V3.out.alloc _, U3.out.alloc _, below_alloc B3.out _⟩
  rw [hgq]
  obtain ⟨w4, hw4, q4, v4, u4, b4⟩ := H4
  rw [hw4]
  have Q4' := Lib.hid q4; have V4 := Lib.hid v4; have U4 := Lib.hid u4; have B4 := Lib.hid b4
  obtain ⟨m0, m1, m2, m3, t0, t1, t2, t3⟩ := v4.cells
  obtain ⟨o0, o1, o2, o3, r0, r1, r2, r3⟩ := q4.cells
  obtain ⟨k0, k1, k2, k3, f0, f1, f2, f3⟩ := u4.cells
  clear q4 v4 u4 b4 hw4 hgq V3 U3 B3 t0 t1 t2 t3 r0 r1 r2 r3 f0 f1 f2 f3
  go_region
  all_goals
    go_wp2_with fail
    go_ret3
    exact ⟨rfl, below_drew1 B4.out⟩
set_option maxHeartbeats 4000000 in
theorem flow_20n (a b d : Int) (l0 : List S48) (l1 : List S104) (l2 : List S226) (l3 : List (List Int)) (hr : rightS 20 a b = true) (h : decide (a < (l2.length : Int)) = false) : FlowP 20 a b d l0 l1 l2 l3 (0, 0, false) := by
  intro w v ho hc
  unfold insV flowV
  have hu48 := Tryd.underlying48
  have hu61 := Tryd.underlying61
  have hu94 := Tryd.underlying94
  obtain ⟨A0, c0, A1, c1, A2, c2, A3, c3, rfl, h0, e0, h1, e1, h2, e2, h3, e3⟩ := hc.ex
  obtain ⟨g, hg⟩ : ∃ g, w.heap.size = g := ⟨_, rfl⟩
  have G : Hid (∃ w1 : World, (w.alloc (.cells #[.int .i64 20, .int .i64 a, .int .i64 b, .int .i64 d] 48)).alloc (.cells #[.slice A0 l0.length c0, .slice A1 l1.length c1, .slice A2 l2.length c2, .slice A3 l3.length c3] 61) = w1 ∧ Q4 w1 g 48 (.int .i64 20) (.int .i64 a) (.int .i64 b) (.int .i64 d) ∧ Q4 w1 (g + 1) 61 (.slice A0 l0.length c0) (.slice A1 l1.length c1) (.slice A2 l2.length c2) (.slice A3 l3.length c3) ∧ Below w.heap.size w w1) :=
    Lib.hid ⟨_, rfl, Q4.alloc (by rw [← hg]; exact blk_new _ _) _, by rw [← hg]; exact heap_alloc2_new w _ _, below_alloc (below_alloc (Below.refl _ _) _) _⟩
  have E1 := Lib.hid hg; have HO := Lib.hid ho; have HC := Lib.hid hc; have HR := Lib.hid hr
  clear hg ho hc hr h0 e0 h1 e1 h2 e2 h3 e3
  go_enter Tryd.func38, Tryd.ntmps38
  go_upto_region 1 with (fail)
  rw [E1.out]
  obtain ⟨w1, hw1, v1, u1, b1⟩ := G.out
  rw [hw1]
  have V1 := Lib.hid v1; have U1 := Lib.hid u1; have B1 := Lib.hid b1
  obtain ⟨m0, m1, m2, m3, t0, t1, t2, t3⟩ := v1.cells
  clear v1 u1 b1 hw1 G
  go_wp2_with fail
  refine (right_calls 20 a b d w1 (HO.out.below B1.out)).mono ?_
  rintro e w2 ⟨rfl, b2⟩
  rw [HR.out]
  have V2 := Lib.hid (V1.out.below b2); have U2 := Lib.hid (U1.out.below b2); have B2 := Lib.hid (B1.out.trans (b2.mono B1.out.size))
  obtain ⟨m0, m1, m2, m3, t0, t1, t2, t3⟩ := V2.out.cells
  clear b2 V1 U1 B1
  go_wp2_with fail
  refine (of_calls 20 w2 (HO.out.below B2.out)).mono ?_
  rintro e w3 ⟨rfl, b3⟩
  have V3 := Lib.hid (V2.out.below b3); have U3 := Lib.hid (U2.out.below b3); have B3 := Lib.hid (B2.out.trans (b3.mono B2.out.size))
  clear b3 V2 U2 B2
  obtain ⟨s, ar, tk, ly, hov, htk, hly⟩ : ∃ (s : ByteArray) (ar tk ly : Int), opV 20 = .agg #[.string s, .int .i64 ar, .int .i64 tk, .int .i64 ly] ∧ ((takesI 20 : Nat) : Int) = tk ∧ ((laysI 20 : Nat) : Int) = ly := ⟨_, _, _, _, rfl, rfl, rfl⟩
  rw [hov]
  have HTK := Lib.hid htk; have HLY := Lib.hid hly
  clear hov
  obtain rfl : tk = 0 := by rw [← htk]; rfl
  obtain rfl : ly = 1 := by rw [← hly]; rfl
  clear htk hly
  go_upto_region 4 with (fail)
  obtain ⟨gq, hgq⟩ : ∃ g, w3.heap.size = g := ⟨_, rfl⟩
  have H4 : ∃ w4 : World, w3.alloc (.cells #[.string s, .int .i64 ar, .int .i64 0, .int .i64 1] 94) = w4 ∧ Q4 w4 gq 94 (.string s) (.int .i64 ar) (.int .i64 0) (.int .i64 1) ∧ Q4 w4 g 48 (.int .i64 20) (.int .i64 a) (.int .i64 b) (.int .i64 d) ∧ Q4 w4 (g + 1) 61 (.slice A0 l0.length c0) (.slice A1 l1.length c1) (.slice A2 l2.length c2) (.slice A3 l3.length c3) ∧ Below w.heap.size w w4 :=
    ⟨_, rfl, by rw [← hgq]; exact blk_new w3 _, V3.out.alloc _, U3.out.alloc _, below_alloc B3.out _⟩
  rw [hgq]
  obtain ⟨w4, hw4, q4, v4, u4, b4⟩ := H4
  rw [hw4]
  have Q4' := Lib.hid q4; have V4 := Lib.hid v4; have U4 := Lib.hid u4; have B4 := Lib.hid b4
  obtain ⟨m0, m1, m2, m3, t0, t1, t2, t3⟩ := v4.cells
  obtain ⟨o0, o1, o2, o3, r0, r1, r2, r3⟩ := q4.cells
  obtain ⟨k0, k1, k2, k3, f0, f1, f2, f3⟩ := u4.cells
  clear q4 v4 u4 b4 hw4 hgq V3 U3 B3 t0 t1 t2 t3 r0 r1 r2 r3 f0 f1 f2 f3
  go_region
  all_goals
    go_wp2_with fail
    go_ret3
    exact ⟨rfl, below_drew1 B4.out⟩
set_option maxHeartbeats 4000000 in
theorem flow_21y (a b d : Int) (l0 : List S48) (l1 : List S104) (l2 : List S226) (l3 : List (List Int)) (hr : rightS 21 a b = true) (h : decide (a < (l2.length : Int)) = true) : FlowP 21 a b d l0 l1 l2 l3 (1, 1, true) := by
  intro w v ho hc
  unfold insV flowV
  have hu48 := Tryd.underlying48
  have hu61 := Tryd.underlying61
  have hu94 := Tryd.underlying94
  obtain ⟨A0, c0, A1, c1, A2, c2, A3, c3, rfl, h0, e0, h1, e1, h2, e2, h3, e3⟩ := hc.ex
  obtain ⟨g, hg⟩ : ∃ g, w.heap.size = g := ⟨_, rfl⟩
  have G : Hid (∃ w1 : World, (w.alloc (.cells #[.int .i64 21, .int .i64 a, .int .i64 b, .int .i64 d] 48)).alloc (.cells #[.slice A0 l0.length c0, .slice A1 l1.length c1, .slice A2 l2.length c2, .slice A3 l3.length c3] 61) = w1 ∧ Q4 w1 g 48 (.int .i64 21) (.int .i64 a) (.int .i64 b) (.int .i64 d) ∧ Q4 w1 (g + 1) 61 (.slice A0 l0.length c0) (.slice A1 l1.length c1) (.slice A2 l2.length c2) (.slice A3 l3.length c3) ∧ Below w.heap.size w w1) :=
    Lib.hid ⟨_, rfl, Q4.alloc (by rw [← hg]; exact blk_new _ _) _, by rw [← hg]; exact heap_alloc2_new w _ _, below_alloc (below_alloc (Below.refl _ _) _) _⟩
  have E1 := Lib.hid hg; have HO := Lib.hid ho; have HC := Lib.hid hc; have HR := Lib.hid hr
  clear hg ho hc hr h0 e0 h1 e1 h2 e2 h3 e3
  go_enter Tryd.func38, Tryd.ntmps38
  go_upto_region 1 with (fail)
  rw [E1.out]
  obtain ⟨w1, hw1, v1, u1, b1⟩ := G.out
  rw [hw1]
  have V1 := Lib.hid v1; have U1 := Lib.hid u1; have B1 := Lib.hid b1
  obtain ⟨m0, m1, m2, m3, t0, t1, t2, t3⟩ := v1.cells
  clear v1 u1 b1 hw1 G
  go_wp2_with fail
  refine (right_calls 21 a b d w1 (HO.out.below B1.out)).mono ?_
  rintro e w2 ⟨rfl, b2⟩
  rw [HR.out]
  have V2 := Lib.hid (V1.out.below b2); have U2 := Lib.hid (U1.out.below b2); have B2 := Lib.hid (B1.out.trans (b2.mono B1.out.size))
  obtain ⟨m0, m1, m2, m3, t0, t1, t2, t3⟩ := V2.out.cells
  clear b2 V1 U1 B1
  go_wp2_with fail
  refine (of_calls 21 w2 (HO.out.below B2.out)).mono ?_
  rintro e w3 ⟨rfl, b3⟩
  have V3 := Lib.hid (V2.out.below b3); have U3 := Lib.hid (U2.out.below b3); have B3 := Lib.hid (B2.out.trans (b3.mono B2.out.size))
  clear b3 V2 U2 B2
  obtain ⟨s, ar, tk, ly, hov, htk, hly⟩ : ∃ (s : ByteArray) (ar tk ly : Int), opV 21 = .agg #[.string s, .int .i64 ar, .int .i64 tk, .int .i64 ly] ∧ ((takesI 21 : Nat) : Int) = tk ∧ ((laysI 21 : Nat) : Int) = ly := ⟨_, _, _, _, rfl, rfl, rfl⟩
  rw [hov]
  have HTK := Lib.hid htk; have HLY := Lib.hid hly
  clear hov
  obtain rfl : tk = 1 := by rw [← htk]; rfl
  obtain rfl : ly = 1 := by rw [← hly]; rfl
  clear htk hly
  go_upto_region 4 with (fail)
  obtain ⟨gq, hgq⟩ : ∃ g, w3.heap.size = g := ⟨_, rfl⟩
  have H4 : ∃ w4 : World, w3.alloc (.cells #[.string s, .int .i64 ar, .int .i64 1, .int .i64 1] 94) = w4 ∧ Q4 w4 gq 94 (.string s) (.int .i64 ar) (.int .i64 1) (.int .i64 1) ∧ Q4 w4 g 48 (.int .i64 21) (.int .i64 a) (.int .i64 b) (.int .i64 d) ∧ Q4 w4 (g + 1) 61 (.slice A0 l0.length c0) (.slice A1 l1.length c1) (.slice A2 l2.length c2) (.slice A3 l3.length c3) ∧ Below w.heap.size w w4 :=
    ⟨_, rfl, by rw [← hgq]; exact blk_new w3 _, V3.out.alloc _, U3.out.alloc _, below_alloc B3.out _⟩
  rw [hgq]
  obtain ⟨w4, hw4, q4, v4, u4, b4⟩ := H4
  rw [hw4]
  have Q4' := Lib.hid q4; have V4 := Lib.hid v4; have U4 := Lib.hid u4; have B4 := Lib.hid b4
  obtain ⟨m0, m1, m2, m3, t0, t1, t2, t3⟩ := v4.cells
  obtain ⟨o0, o1, o2, o3, r0, r1, r2, r3⟩ := q4.cells
  obtain ⟨k0, k1, k2, k3, f0, f1, f2, f3⟩ := u4.cells
  clear q4 v4 u4 b4 hw4 hgq V3 U3 B3 t0 t1 t2 t3 r0 r1 r2 r3 f0 f1 f2 f3
  go_region
  all_goals
    go_wp2_with fail
    go_ret3
    exact ⟨rfl, below_drew1 B4.out⟩
set_option maxHeartbeats 4000000 in
theorem flow_21n (a b d : Int) (l0 : List S48) (l1 : List S104) (l2 : List S226) (l3 : List (List Int)) (hr : rightS 21 a b = true) (h : decide (a < (l2.length : Int)) = false) : FlowP 21 a b d l0 l1 l2 l3 (0, 0, false) := by
  intro w v ho hc
  unfold insV flowV
  have hu48 := Tryd.underlying48
  have hu61 := Tryd.underlying61
  have hu94 := Tryd.underlying94
  obtain ⟨A0, c0, A1, c1, A2, c2, A3, c3, rfl, h0, e0, h1, e1, h2, e2, h3, e3⟩ := hc.ex
  obtain ⟨g, hg⟩ : ∃ g, w.heap.size = g := ⟨_, rfl⟩
  have G : Hid (∃ w1 : World, (w.alloc (.cells #[.int .i64 21, .int .i64 a, .int .i64 b, .int .i64 d] 48)).alloc (.cells #[.slice A0 l0.length c0, .slice A1 l1.length c1, .slice A2 l2.length c2, .slice A3 l3.length c3] 61) = w1 ∧ Q4 w1 g 48 (.int .i64 21) (.int .i64 a) (.int .i64 b) (.int .i64 d) ∧ Q4 w1 (g + 1) 61 (.slice A0 l0.length c0) (.slice A1 l1.length c1) (.slice A2 l2.length c2) (.slice A3 l3.length c3) ∧ Below w.heap.size w w1) :=
    Lib.hid ⟨_, rfl, Q4.alloc (by rw [← hg]; exact blk_new _ _) _, by rw [← hg]; exact heap_alloc2_new w _ _, below_alloc (below_alloc (Below.refl _ _) _) _⟩
  have E1 := Lib.hid hg; have HO := Lib.hid ho; have HC := Lib.hid hc; have HR := Lib.hid hr
  clear hg ho hc hr h0 e0 h1 e1 h2 e2 h3 e3
  go_enter Tryd.func38, Tryd.ntmps38
  go_upto_region 1 with (fail)
  rw [E1.out]
  obtain ⟨w1, hw1, v1, u1, b1⟩ := G.out
  rw [hw1]
  have V1 := Lib.hid v1; have U1 := Lib.hid u1; have B1 := Lib.hid b1
  obtain ⟨m0, m1, m2, m3, t0, t1, t2, t3⟩ := v1.cells
  clear v1 u1 b1 hw1 G
  go_wp2_with fail
  refine (right_calls 21 a b d w1 (HO.out.below B1.out)).mono ?_
  rintro e w2 ⟨rfl, b2⟩
  rw [HR.out]
  have V2 := Lib.hid (V1.out.below b2); have U2 := Lib.hid (U1.out.below b2); have B2 := Lib.hid (B1.out.trans (b2.mono B1.out.size))
  obtain ⟨m0, m1, m2, m3, t0, t1, t2, t3⟩ := V2.out.cells
  clear b2 V1 U1 B1
  go_wp2_with fail
  refine (of_calls 21 w2 (HO.out.below B2.out)).mono ?_
  rintro e w3 ⟨rfl, b3⟩
  have V3 := Lib.hid (V2.out.below b3); have U3 := Lib.hid (U2.out.below b3); have B3 := Lib.hid (B2.out.trans (b3.mono B2.out.size))
  clear b3 V2 U2 B2
  obtain ⟨s, ar, tk, ly, hov, htk, hly⟩ : ∃ (s : ByteArray) (ar tk ly : Int), opV 21 = .agg #[.string s, .int .i64 ar, .int .i64 tk, .int .i64 ly] ∧ ((takesI 21 : Nat) : Int) = tk ∧ ((laysI 21 : Nat) : Int) = ly := ⟨_, _, _, _, rfl, rfl, rfl⟩
  rw [hov]
  have HTK := Lib.hid htk; have HLY := Lib.hid hly
  clear hov
  obtain rfl : tk = 1 := by rw [← htk]; rfl
  obtain rfl : ly = 1 := by rw [← hly]; rfl
  clear htk hly
  go_upto_region 4 with (fail)
  obtain ⟨gq, hgq⟩ : ∃ g, w3.heap.size = g := ⟨_, rfl⟩
  have H4 : ∃ w4 : World, w3.alloc (.cells #[.string s, .int .i64 ar, .int .i64 1, .int .i64 1] 94) = w4 ∧ Q4 w4 gq 94 (.string s) (.int .i64 ar) (.int .i64 1) (.int .i64 1) ∧ Q4 w4 g 48 (.int .i64 21) (.int .i64 a) (.int .i64 b) (.int .i64 d) ∧ Q4 w4 (g + 1) 61 (.slice A0 l0.length c0) (.slice A1 l1.length c1) (.slice A2 l2.length c2) (.slice A3 l3.length c3) ∧ Below w.heap.size w w4 :=
    ⟨_, rfl, by rw [← hgq]; exact blk_new w3 _, V3.out.alloc _, U3.out.alloc _, below_alloc B3.out _⟩
  rw [hgq]
  obtain ⟨w4, hw4, q4, v4, u4, b4⟩ := H4
  rw [hw4]
  have Q4' := Lib.hid q4; have V4 := Lib.hid v4; have U4 := Lib.hid u4; have B4 := Lib.hid b4
  obtain ⟨m0, m1, m2, m3, t0, t1, t2, t3⟩ := v4.cells
  obtain ⟨o0, o1, o2, o3, r0, r1, r2, r3⟩ := q4.cells
  obtain ⟨k0, k1, k2, k3, f0, f1, f2, f3⟩ := u4.cells
  clear q4 v4 u4 b4 hw4 hgq V3 U3 B3 t0 t1 t2 t3 r0 r1 r2 r3 f0 f1 f2 f3
  go_region
  all_goals
    go_wp2_with fail
    go_ret3
    exact ⟨rfl, below_drew1 B4.out⟩
set_option maxHeartbeats 4000000 in
theorem flow_22y (a b d : Int) (l0 : List S48) (l1 : List S104) (l2 : List S226) (l3 : List (List Int)) (hr : rightS 22 a b = true) (h : decide (a < (l2.length : Int)) = true) : FlowP 22 a b d l0 l1 l2 l3 (1, 0, true) := by
  intro w v ho hc
  unfold insV flowV
  have hu48 := Tryd.underlying48
  have hu61 := Tryd.underlying61
  have hu94 := Tryd.underlying94
  obtain ⟨A0, c0, A1, c1, A2, c2, A3, c3, rfl, h0, e0, h1, e1, h2, e2, h3, e3⟩ := hc.ex
  obtain ⟨g, hg⟩ : ∃ g, w.heap.size = g := ⟨_, rfl⟩
  have G : Hid (∃ w1 : World, (w.alloc (.cells #[.int .i64 22, .int .i64 a, .int .i64 b, .int .i64 d] 48)).alloc (.cells #[.slice A0 l0.length c0, .slice A1 l1.length c1, .slice A2 l2.length c2, .slice A3 l3.length c3] 61) = w1 ∧ Q4 w1 g 48 (.int .i64 22) (.int .i64 a) (.int .i64 b) (.int .i64 d) ∧ Q4 w1 (g + 1) 61 (.slice A0 l0.length c0) (.slice A1 l1.length c1) (.slice A2 l2.length c2) (.slice A3 l3.length c3) ∧ Below w.heap.size w w1) :=
    Lib.hid ⟨_, rfl, Q4.alloc (by rw [← hg]; exact blk_new _ _) _, by rw [← hg]; exact heap_alloc2_new w _ _, below_alloc (below_alloc (Below.refl _ _) _) _⟩
  have E1 := Lib.hid hg; have HO := Lib.hid ho; have HC := Lib.hid hc; have HR := Lib.hid hr
  clear hg ho hc hr h0 e0 h1 e1 h2 e2 h3 e3
  go_enter Tryd.func38, Tryd.ntmps38
  go_upto_region 1 with (fail)
  rw [E1.out]
  obtain ⟨w1, hw1, v1, u1, b1⟩ := G.out
  rw [hw1]
  have V1 := Lib.hid v1; have U1 := Lib.hid u1; have B1 := Lib.hid b1
  obtain ⟨m0, m1, m2, m3, t0, t1, t2, t3⟩ := v1.cells
  clear v1 u1 b1 hw1 G
  go_wp2_with fail
  refine (right_calls 22 a b d w1 (HO.out.below B1.out)).mono ?_
  rintro e w2 ⟨rfl, b2⟩
  rw [HR.out]
  have V2 := Lib.hid (V1.out.below b2); have U2 := Lib.hid (U1.out.below b2); have B2 := Lib.hid (B1.out.trans (b2.mono B1.out.size))
  obtain ⟨m0, m1, m2, m3, t0, t1, t2, t3⟩ := V2.out.cells
  clear b2 V1 U1 B1
  go_wp2_with fail
  refine (of_calls 22 w2 (HO.out.below B2.out)).mono ?_
  rintro e w3 ⟨rfl, b3⟩
  have V3 := Lib.hid (V2.out.below b3); have U3 := Lib.hid (U2.out.below b3); have B3 := Lib.hid (B2.out.trans (b3.mono B2.out.size))
  clear b3 V2 U2 B2
  obtain ⟨s, ar, tk, ly, hov, htk, hly⟩ : ∃ (s : ByteArray) (ar tk ly : Int), opV 22 = .agg #[.string s, .int .i64 ar, .int .i64 tk, .int .i64 ly] ∧ ((takesI 22 : Nat) : Int) = tk ∧ ((laysI 22 : Nat) : Int) = ly := ⟨_, _, _, _, rfl, rfl, rfl⟩
  rw [hov]
  have HTK := Lib.hid htk; have HLY := Lib.hid hly
  clear hov
  obtain rfl : tk = 1 := by rw [← htk]; rfl
  obtain rfl : ly = 0 := by rw [← hly]; rfl
  clear htk hly
  go_upto_region 4 with (fail)
  obtain ⟨gq, hgq⟩ : ∃ g, w3.heap.size = g := ⟨_, rfl⟩
  have H4 : ∃ w4 : World, w3.alloc (.cells #[.string s, .int .i64 ar, .int .i64 1, .int .i64 0] 94) = w4 ∧ Q4 w4 gq 94 (.string s) (.int .i64 ar) (.int .i64 1) (.int .i64 0) ∧ Q4 w4 g 48 (.int .i64 22) (.int .i64 a) (.int .i64 b) (.int .i64 d) ∧ Q4 w4 (g + 1) 61 (.slice A0 l0.length c0) (.slice A1 l1.length c1) (.slice A2 l2.length c2) (.slice A3 l3.length c3) ∧ Below w.heap.size w w4 :=
    ⟨_, rfl, by rw [← hgq]; exact blk_new w3 _, V3.out.alloc _, U3.out.alloc _, below_alloc B3.out _⟩
  rw [hgq]
  obtain ⟨w4, hw4, q4, v4, u4, b4⟩ := H4
  rw [hw4]
  have Q4' := Lib.hid q4; have V4 := Lib.hid v4; have U4 := Lib.hid u4; have B4 := Lib.hid b4
  obtain ⟨m0, m1, m2, m3, t0, t1, t2, t3⟩ := v4.cells
  obtain ⟨o0, o1, o2, o3, r0, r1, r2, r3⟩ := q4.cells
  obtain ⟨k0, k1, k2, k3, f0, f1, f2, f3⟩ := u4.cells
  clear q4 v4 u4 b4 hw4 hgq V3 U3 B3 t0 t1 t2 t3 r0 r1 r2 r3 f0 f1 f2 f3
  go_region
  all_goals
    go_wp2_with fail
    go_ret3
    exact ⟨rfl, below_drew1 B4.out⟩
set_option maxHeartbeats 4000000 in
theorem flow_22n (a b d : Int) (l0 : List S48) (l1 : List S104) (l2 : List S226) (l3 : List (List Int)) (hr : rightS 22 a b = true) (h : decide (a < (l2.length : Int)) = false) : FlowP 22 a b d l0 l1 l2 l3 (0, 0, false) := by
  intro w v ho hc
  unfold insV flowV
  have hu48 := Tryd.underlying48
  have hu61 := Tryd.underlying61
  have hu94 := Tryd.underlying94
  obtain ⟨A0, c0, A1, c1, A2, c2, A3, c3, rfl, h0, e0, h1, e1, h2, e2, h3, e3⟩ := hc.ex
  obtain ⟨g, hg⟩ : ∃ g, w.heap.size = g := ⟨_, rfl⟩
  have G : Hid (∃ w1 : World, (w.alloc (.cells #[.int .i64 22, .int .i64 a, .int .i64 b, .int .i64 d] 48)).alloc (.cells #[.slice A0 l0.length c0, .slice A1 l1.length c1, .slice A2 l2.length c2, .slice A3 l3.length c3] 61) = w1 ∧ Q4 w1 g 48 (.int .i64 22) (.int .i64 a) (.int .i64 b) (.int .i64 d) ∧ Q4 w1 (g + 1) 61 (.slice A0 l0.length c0) (.slice A1 l1.length c1) (.slice A2 l2.length c2) (.slice A3 l3.length c3) ∧ Below w.heap.size w w1) :=
    Lib.hid ⟨_, rfl, Q4.alloc (by rw [← hg]; exact blk_new _ _) _, by rw [← hg]; exact heap_alloc2_new w _ _, below_alloc (below_alloc (Below.refl _ _) _) _⟩
  have E1 := Lib.hid hg; have HO := Lib.hid ho; have HC := Lib.hid hc; have HR := Lib.hid hr
  clear hg ho hc hr h0 e0 h1 e1 h2 e2 h3 e3
  go_enter Tryd.func38, Tryd.ntmps38
  go_upto_region 1 with (fail)
  rw [E1.out]
  obtain ⟨w1, hw1, v1, u1, b1⟩ := G.out
  rw [hw1]
  have V1 := Lib.hid v1; have U1 := Lib.hid u1; have B1 := Lib.hid b1
  obtain ⟨m0, m1, m2, m3, t0, t1, t2, t3⟩ := v1.cells
  clear v1 u1 b1 hw1 G
  go_wp2_with fail
  refine (right_calls 22 a b d w1 (HO.out.below B1.out)).mono ?_
  rintro e w2 ⟨rfl, b2⟩
  rw [HR.out]
  have V2 := Lib.hid (V1.out.below b2); have U2 := Lib.hid (U1.out.below b2); have B2 := Lib.hid (B1.out.trans (b2.mono B1.out.size))
  obtain ⟨m0, m1, m2, m3, t0, t1, t2, t3⟩ := V2.out.cells
  clear b2 V1 U1 B1
  go_wp2_with fail
  refine (of_calls 22 w2 (HO.out.below B2.out)).mono ?_
  rintro e w3 ⟨rfl, b3⟩
  have V3 := Lib.hid (V2.out.below b3); have U3 := Lib.hid (U2.out.below b3); have B3 := Lib.hid (B2.out.trans (b3.mono B2.out.size))
  clear b3 V2 U2 B2
  obtain ⟨s, ar, tk, ly, hov, htk, hly⟩ : ∃ (s : ByteArray) (ar tk ly : Int), opV 22 = .agg #[.string s, .int .i64 ar, .int .i64 tk, .int .i64 ly] ∧ ((takesI 22 : Nat) : Int) = tk ∧ ((laysI 22 : Nat) : Int) = ly := ⟨_, _, _, _, rfl, rfl, rfl⟩
  rw [hov]
  have HTK := Lib.hid htk; have HLY := Lib.hid hly
  clear hov
  obtain rfl : tk = 1 := by rw [← htk]; rfl
  obtain rfl : ly = 0 := by rw [← hly]; rfl
  clear htk hly
  go_upto_region 4 with (fail)
  obtain ⟨gq, hgq⟩ : ∃ g, w3.heap.size = g := ⟨_, rfl⟩
  have H4 : ∃ w4 : World, w3.alloc (.cells #[.string s, .int .i64 ar, .int .i64 1, .int .i64 0] 94) = w4 ∧ Q4 w4 gq 94 (.string s) (.int .i64 ar) (.int .i64 1) (.int .i64 0) ∧ Q4 w4 g 48 (.int .i64 22) (.int .i64 a) (.int .i64 b) (.int .i64 d) ∧ Q4 w4 (g + 1) 61 (.slice A0 l0.length c0) (.slice A1 l1.length c1) (.slice A2 l2.length c2) (.slice A3 l3.length c3) ∧ Below w.heap.size w w4 :=
    ⟨_, rfl, by rw [← hgq]; exact blk_new w3 _, V3.out.alloc _, U3.out.alloc _, below_alloc B3.out _⟩
  rw [hgq]
  obtain ⟨w4, hw4, q4, v4, u4, b4⟩ := H4
  rw [hw4]
  have Q4' := Lib.hid q4; have V4 := Lib.hid v4; have U4 := Lib.hid u4; have B4 := Lib.hid b4
  obtain ⟨m0, m1, m2, m3, t0, t1, t2, t3⟩ := v4.cells
  obtain ⟨o0, o1, o2, o3, r0, r1, r2, r3⟩ := q4.cells
  obtain ⟨k0, k1, k2, k3, f0, f1, f2, f3⟩ := u4.cells
  clear q4 v4 u4 b4 hw4 hgq V3 U3 B3 t0 t1 t2 t3 r0 r1 r2 r3 f0 f1 f2 f3
  go_region
  all_goals
    go_wp2_with fail
    go_ret3
    exact ⟨rfl, below_drew1 B4.out⟩
set_option maxHeartbeats 4000000 in
theorem flow_23n (a b d : Int) (l0 : List S48) (l1 : List S104) (l2 : List S226) (l3 : List (List Int)) (hr : rightS 23 a b = true) (hidx : idxR (idxS l3 b) = (0, false)) : FlowP 23 a b d l0 l1 l2 l3 (0, 0, false) := by
  intro w v ho hc
  unfold insV flowV
  have hu48 := Tryd.underlying48
  have hu61 := Tryd.underlying61
  have hu94 := Tryd.underlying94
  obtain ⟨A0, c0, A1, c1, A2, c2, A3, c3, rfl, h0, e0, h1, e1, h2, e2, h3, e3⟩ := hc.ex
  obtain ⟨g, hg⟩ : ∃ g, w.heap.size = g := ⟨_, rfl⟩
  have G : Hid (∃ w1 : World, (w.alloc (.cells #[.int .i64 23, .int .i64 a, .int .i64 b, .int .i64 d] 48)).alloc (.cells #[.slice A0 l0.length c0, .slice A1 l1.length c1, .slice A2 l2.length c2, .slice A3 l3.length c3] 61) = w1 ∧ Q4 w1 g 48 (.int .i64 23) (.int .i64 a) (.int .i64 b) (.int .i64 d) ∧ Q4 w1 (g + 1) 61 (.slice A0 l0.length c0) (.slice A1 l1.length c1) (.slice A2 l2.length c2) (.slice A3 l3.length c3) ∧ Below w.heap.size w w1) :=
    Lib.hid ⟨_, rfl, Q4.alloc (by rw [← hg]; exact blk_new _ _) _, by rw [← hg]; exact heap_alloc2_new w _ _, below_alloc (below_alloc (Below.refl _ _) _) _⟩
  have E1 := Lib.hid hg; have HO := Lib.hid ho; have HC := Lib.hid hc; have HR := Lib.hid hr
  clear hg ho hc hr h0 e0 h1 e1 h2 e2 h3 e3
  go_enter Tryd.func38, Tryd.ntmps38
  go_upto_region 1 with (fail)
  rw [E1.out]
  obtain ⟨w1, hw1, v1, u1, b1⟩ := G.out
  rw [hw1]
  have V1 := Lib.hid v1; have U1 := Lib.hid u1; have B1 := Lib.hid b1
  obtain ⟨m0, m1, m2, m3, t0, t1, t2, t3⟩ := v1.cells
  clear v1 u1 b1 hw1 G
  go_wp2_with fail
  refine (right_calls 23 a b d w1 (HO.out.below B1.out)).mono ?_
  rintro e w2 ⟨rfl, b2⟩
  rw [HR.out]
  have V2 := Lib.hid (V1.out.below b2); have U2 := Lib.hid (U1.out.below b2); have B2 := Lib.hid (B1.out.trans (b2.mono B1.out.size))
  obtain ⟨m0, m1, m2, m3, t0, t1, t2, t3⟩ := V2.out.cells
  clear b2 V1 U1 B1
  go_wp2_with fail
  refine (of_calls 23 w2 (HO.out.below B2.out)).mono ?_
  rintro e w3 ⟨rfl, b3⟩
  have V3 := Lib.hid (V2.out.below b3); have U3 := Lib.hid (U2.out.below b3); have B3 := Lib.hid (B2.out.trans (b3.mono B2.out.size))
  clear b3 V2 U2 B2
  obtain ⟨s, ar, tk, ly, hov, htk, hly⟩ : ∃ (s : ByteArray) (ar tk ly : Int), opV 23 = .agg #[.string s, .int .i64 ar, .int .i64 tk, .int .i64 ly] ∧ ((takesI 23 : Nat) : Int) = tk ∧ ((laysI 23 : Nat) : Int) = ly := ⟨_, _, _, _, rfl, rfl, rfl⟩
  rw [hov]
  have HTK := Lib.hid htk; have HLY := Lib.hid hly
  clear hov
  obtain rfl : tk = 2 := by rw [← htk]; rfl
  obtain rfl : ly = 0 := by rw [← hly]; rfl
  clear htk hly
  go_upto_region 4 with (fail)
  obtain ⟨gq, hgq⟩ : ∃ g, w3.heap.size = g := ⟨_, rfl⟩
  have H4 : ∃ w4 : World, w3.alloc (.cells #[.string s, .int .i64 ar, .int .i64 2, .int .i64 0] 94) = w4 ∧ Q4 w4 gq 94 (.string s) (.int .i64 ar) (.int .i64 2) (.int .i64 0) ∧ Q4 w4 g 48 (.int .i64 23) (.int .i64 a) (.int .i64 b) (.int .i64 d) ∧ Q4 w4 (g + 1) 61 (.slice A0 l0.length c0) (.slice A1 l1.length c1) (.slice A2 l2.length c2) (.slice A3 l3.length c3) ∧ Below w.heap.size w w4 :=
    ⟨_, rfl, by rw [← hgq]; exact blk_new w3 _, V3.out.alloc _, U3.out.alloc _, below_alloc B3.out _⟩
  rw [hgq]
  obtain ⟨w4, hw4, q4, v4, u4, b4⟩ := H4
  rw [hw4]
  have Q4' := Lib.hid q4; have V4 := Lib.hid v4; have U4 := Lib.hid u4; have B4 := Lib.hid b4
  obtain ⟨m0, m1, m2, m3, t0, t1, t2, t3⟩ := v4.cells
  obtain ⟨o0, o1, o2, o3, r0, r1, r2, r3⟩ := q4.cells
  obtain ⟨k0, k1, k2, k3, f0, f1, f2, f3⟩ := u4.cells
  clear q4 v4 u4 b4 hw4 hgq V3 U3 B3 t0 t1 t2 t3 r0 r1 r2 r3 f0 f1 f2 f3
  go_region
  all_goals
    go_wp2_with fail
    refine (idx_calls (CodeIs.below (w := w4) (w' := w4.drew) (HC.out.below B4.out) (below_drew1 (Below.refl _ _))) b).mono ?_
    rintro e w5 ⟨rfl, b5⟩
    have V5 := Lib.hid (Q4.below (w := w4.drew) V4.out b5); have U5 := Lib.hid (Q4.below (w := w4.drew) U4.out b5); have Q5 := Lib.hid (Q4.below (w := w4.drew) Q4'.out b5); have B5 := Lib.hid (Below.trans (below_drew1 B4.out) (Below.mono b5 (by exact B4.out.size)))
    rw [hidx]
    dsimp only
    obtain ⟨m0, m1, m2, m3, t0, t1, t2, t3⟩ := V5.out.cells
    obtain ⟨o0, o1, o2, o3, r0, r1, r2, r3⟩ := Q5.out.cells
    obtain ⟨k0, k1, k2, k3, f0, f1, f2, f3⟩ := U5.out.cells
    clear b5 V4 U4 Q4' B4
    go_wp2_with fail
    go_ret3
    exact ⟨rfl, B5.out⟩
set_option maxHeartbeats 4000000 in
theorem flow_23y (a b d : Int) (l0 : List S48) (l1 : List S104) (l2 : List S226) (l3 : List (List Int)) (hr : rightS 23 a b = true) (n : Int) (hidx : idxR (idxS l3 b) = (n, true)) (h : decide (a < (l2.length : Int)) = true) : FlowP 23 a b d l0 l1 l2 l3 (wrap64 (n + 2), 0, true) := by
  intro w v ho hc
  unfold insV flowV
  have hu48 := Tryd.underlying48
  have hu61 := Tryd.underlying61
  have hu94 := Tryd.underlying94
  obtain ⟨A0, c0, A1, c1, A2, c2, A3, c3, rfl, h0, e0, h1, e1, h2, e2, h3, e3⟩ := hc.ex
  obtain ⟨g, hg⟩ : ∃ g, w.heap.size = g := ⟨_, rfl⟩
  have G : Hid (∃ w1 : World, (w.alloc (.cells #[.int .i64 23, .int .i64 a, .int .i64 b, .int .i64 d] 48)).alloc (.cells #[.slice A0 l0.length c0, .slice A1 l1.length c1, .slice A2 l2.length c2, .slice A3 l3.length c3] 61) = w1 ∧ Q4 w1 g 48 (.int .i64 23) (.int .i64 a) (.int .i64 b) (.int .i64 d) ∧ Q4 w1 (g + 1) 61 (.slice A0 l0.length c0) (.slice A1 l1.length c1) (.slice A2 l2.length c2) (.slice A3 l3.length c3) ∧ Below w.heap.size w w1) :=
    Lib.hid ⟨_, rfl, Q4.alloc (by rw [← hg]; exact blk_new _ _) _, by rw [← hg]; exact heap_alloc2_new w _ _, below_alloc (below_alloc (Below.refl _ _) _) _⟩
  have E1 := Lib.hid hg; have HO := Lib.hid ho; have HC := Lib.hid hc; have HR := Lib.hid hr
  clear hg ho hc hr h0 e0 h1 e1 h2 e2 h3 e3
  go_enter Tryd.func38, Tryd.ntmps38
  go_upto_region 1 with (fail)
  rw [E1.out]
  obtain ⟨w1, hw1, v1, u1, b1⟩ := G.out
  rw [hw1]
  have V1 := Lib.hid v1; have U1 := Lib.hid u1; have B1 := Lib.hid b1
  obtain ⟨m0, m1, m2, m3, t0, t1, t2, t3⟩ := v1.cells
  clear v1 u1 b1 hw1 G
  go_wp2_with fail
  refine (right_calls 23 a b d w1 (HO.out.below B1.out)).mono ?_
  rintro e w2 ⟨rfl, b2⟩
  rw [HR.out]
  have V2 := Lib.hid (V1.out.below b2); have U2 := Lib.hid (U1.out.below b2); have B2 := Lib.hid (B1.out.trans (b2.mono B1.out.size))
  obtain ⟨m0, m1, m2, m3, t0, t1, t2, t3⟩ := V2.out.cells
  clear b2 V1 U1 B1
  go_wp2_with fail
  refine (of_calls 23 w2 (HO.out.below B2.out)).mono ?_
  rintro e w3 ⟨rfl, b3⟩
  have V3 := Lib.hid (V2.out.below b3); have U3 := Lib.hid (U2.out.below b3); have B3 := Lib.hid (B2.out.trans (b3.mono B2.out.size))
  clear b3 V2 U2 B2
  obtain ⟨s, ar, tk, ly, hov, htk, hly⟩ : ∃ (s : ByteArray) (ar tk ly : Int), opV 23 = .agg #[.string s, .int .i64 ar, .int .i64 tk, .int .i64 ly] ∧ ((takesI 23 : Nat) : Int) = tk ∧ ((laysI 23 : Nat) : Int) = ly := ⟨_, _, _, _, rfl, rfl, rfl⟩
  rw [hov]
  have HTK := Lib.hid htk; have HLY := Lib.hid hly
  clear hov
  obtain rfl : tk = 2 := by rw [← htk]; rfl
  obtain rfl : ly = 0 := by rw [← hly]; rfl
  clear htk hly
  go_upto_region 4 with (fail)
  obtain ⟨gq, hgq⟩ : ∃ g, w3.heap.size = g := ⟨_, rfl⟩
  have H4 : ∃ w4 : World, w3.alloc (.cells #[.string s, .int .i64 ar, .int .i64 2, .int .i64 0] 94) = w4 ∧ Q4 w4 gq 94 (.string s) (.int .i64 ar) (.int .i64 2) (.int .i64 0) ∧ Q4 w4 g 48 (.int .i64 23) (.int .i64 a) (.int .i64 b) (.int .i64 d) ∧ Q4 w4 (g + 1) 61 (.slice A0 l0.length c0) (.slice A1 l1.length c1) (.slice A2 l2.length c2) (.slice A3 l3.length c3) ∧ Below w.heap.size w w4 :=
    ⟨_, rfl, by rw [← hgq]; exact blk_new w3 _, V3.out.alloc _, U3.out.alloc _, below_alloc B3.out _⟩
  rw [hgq]
  obtain ⟨w4, hw4, q4, v4, u4, b4⟩ := H4
  rw [hw4]
  have Q4' := Lib.hid q4; have V4 := Lib.hid v4; have U4 := Lib.hid u4; have B4 := Lib.hid b4
  obtain ⟨m0, m1, m2, m3, t0, t1, t2, t3⟩ := v4.cells
  obtain ⟨o0, o1, o2, o3, r0, r1, r2, r3⟩ := q4.cells
  obtain ⟨k0, k1, k2, k3, f0, f1, f2, f3⟩ := u4.cells
  clear q4 v4 u4 b4 hw4 hgq V3 U3 B3 t0 t1 t2 t3 r0 r1 r2 r3 f0 f1 f2 f3
  go_region
  all_goals
    go_wp2_with fail
    refine (idx_calls (CodeIs.below (w := w4) (w' := w4.drew) (HC.out.below B4.out) (below_drew1 (Below.refl _ _))) b).mono ?_
    rintro e w5 ⟨rfl, b5⟩
    have V5 := Lib.hid (Q4.below (w := w4.drew) V4.out b5); have U5 := Lib.hid (Q4.below (w := w4.drew) U4.out b5); have Q5 := Lib.hid (Q4.below (w := w4.drew) Q4'.out b5); have B5 := Lib.hid (Below.trans (below_drew1 B4.out) (Below.mono b5 (by exact B4.out.size)))
    rw [hidx]
    dsimp only
    obtain ⟨m0, m1, m2, m3, t0, t1, t2, t3⟩ := V5.out.cells
    obtain ⟨o0, o1, o2, o3, r0, r1, r2, r3⟩ := Q5.out.cells
    obtain ⟨k0, k1, k2, k3, f0, f1, f2, f3⟩ := U5.out.cells
    clear b5 V4 U4 Q4' B4
    go_wp2_with fail
    go_ret3
    exact ⟨rfl, B5.out⟩
set_option maxHeartbeats 4000000 in
theorem flow_23f (a b d : Int) (l0 : List S48) (l1 : List S104) (l2 : List S226) (l3 : List (List Int)) (hr : rightS 23 a b = true) (n : Int) (hidx : idxR (idxS l3 b) = (n, true)) (h : decide (a < (l2.length : Int)) = false) : FlowP 23 a b d l0 l1 l2 l3 (0, 0, false) := by
  intro w v ho hc
  unfold insV flowV
  have hu48 := Tryd.underlying48
  have hu61 := Tryd.underlying61
  have hu94 := Tryd.underlying94
  obtain ⟨A0, c0, A1, c1, A2, c2, A3, c3, rfl, h0, e0, h1, e1, h2, e2, h3, e3⟩ := hc.ex
  obtain ⟨g, hg⟩ : ∃ g, w.heap.size = g := ⟨_, rfl⟩
  have G : Hid (∃ w1 : World, (w.alloc (.cells #[.int .i64 23, .int .i64 a, .int .i64 b, .int .i64 d] 48)).alloc (.cells #[.slice A0 l0.length c0, .slice A1 l1.length c1, .slice A2 l2.length c2, .slice A3 l3.length c3] 61) = w1 ∧ Q4 w1 g 48 (.int .i64 23) (.int .i64 a) (.int .i64 b) (.int .i64 d) ∧ Q4 w1 (g + 1) 61 (.slice A0 l0.length c0) (.slice A1 l1.length c1) (.slice A2 l2.length c2) (.slice A3 l3.length c3) ∧ Below w.heap.size w w1) :=
    Lib.hid ⟨_, rfl, Q4.alloc (by rw [← hg]; exact blk_new _ _) _, by rw [← hg]; exact heap_alloc2_new w _ _, below_alloc (below_alloc (Below.refl _ _) _) _⟩
  have E1 := Lib.hid hg; have HO := Lib.hid ho; have HC := Lib.hid hc; have HR := Lib.hid hr
  clear hg ho hc hr h0 e0 h1 e1 h2 e2 h3 e3
  go_enter Tryd.func38, Tryd.ntmps38
  go_upto_region 1 with (fail)
  rw [E1.out]
  obtain ⟨w1, hw1, v1, u1, b1⟩ := G.out
  rw [hw1]
  have V1 := Lib.hid v1; have U1 := Lib.hid u1; have B1 := Lib.hid b1
  obtain ⟨m0, m1, m2, m3, t0, t1, t2, t3⟩ := v1.cells
  clear v1 u1 b1 hw1 G
  go_wp2_with fail
  refine (right_calls 23 a b d w1 (HO.out.below B1.out)).mono ?_
  rintro e w2 ⟨rfl, b2⟩
  rw [HR.out]
  have V2 := Lib.hid (V1.out.below b2); have U2 := Lib.hid (U1.out.below b2); have B2 := Lib.hid (B1.out.trans (b2.mono B1.out.size))
  obtain ⟨m0, m1, m2, m3, t0, t1, t2, t3⟩ := V2.out.cells
  clear b2 V1 U1 B1
  go_wp2_with fail
  refine (of_calls 23 w2 (HO.out.below B2.out)).mono ?_
  rintro e w3 ⟨rfl, b3⟩
  have V3 := Lib.hid (V2.out.below b3); have U3 := Lib.hid (U2.out.below b3); have B3 := Lib.hid (B2.out.trans (b3.mono B2.out.size))
  clear b3 V2 U2 B2
  obtain ⟨s, ar, tk, ly, hov, htk, hly⟩ : ∃ (s : ByteArray) (ar tk ly : Int), opV 23 = .agg #[.string s, .int .i64 ar, .int .i64 tk, .int .i64 ly] ∧ ((takesI 23 : Nat) : Int) = tk ∧ ((laysI 23 : Nat) : Int) = ly := ⟨_, _, _, _, rfl, rfl, rfl⟩
  rw [hov]
  have HTK := Lib.hid htk; have HLY := Lib.hid hly
  clear hov
  obtain rfl : tk = 2 := by rw [← htk]; rfl
  obtain rfl : ly = 0 := by rw [← hly]; rfl
  clear htk hly
  go_upto_region 4 with (fail)
  obtain ⟨gq, hgq⟩ : ∃ g, w3.heap.size = g := ⟨_, rfl⟩
  have H4 : ∃ w4 : World, w3.alloc (.cells #[.string s, .int .i64 ar, .int .i64 2, .int .i64 0] 94) = w4 ∧ Q4 w4 gq 94 (.string s) (.int .i64 ar) (.int .i64 2) (.int .i64 0) ∧ Q4 w4 g 48 (.int .i64 23) (.int .i64 a) (.int .i64 b) (.int .i64 d) ∧ Q4 w4 (g + 1) 61 (.slice A0 l0.length c0) (.slice A1 l1.length c1) (.slice A2 l2.length c2) (.slice A3 l3.length c3) ∧ Below w.heap.size w w4 :=
    ⟨_, rfl, by rw [← hgq]; exact blk_new w3 _, V3.out.alloc _, U3.out.alloc _, below_alloc B3.out _⟩
  rw [hgq]
  obtain ⟨w4, hw4, q4, v4, u4, b4⟩ := H4
  rw [hw4]
  have Q4' := Lib.hid q4; have V4 := Lib.hid v4; have U4 := Lib.hid u4; have B4 := Lib.hid b4
  obtain ⟨m0, m1, m2, m3, t0, t1, t2, t3⟩ := v4.cells
  obtain ⟨o0, o1, o2, o3, r0, r1, r2, r3⟩ := q4.cells
  obtain ⟨k0, k1, k2, k3, f0, f1, f2, f3⟩ := u4.cells
  clear q4 v4 u4 b4 hw4 hgq V3 U3 B3 t0 t1 t2 t3 r0 r1 r2 r3 f0 f1 f2 f3
  go_region
  all_goals
    go_wp2_with fail
    refine (idx_calls (CodeIs.below (w := w4) (w' := w4.drew) (HC.out.below B4.out) (below_drew1 (Below.refl _ _))) b).mono ?_
    rintro e w5 ⟨rfl, b5⟩
    have V5 := Lib.hid (Q4.below (w := w4.drew) V4.out b5); have U5 := Lib.hid (Q4.below (w := w4.drew) U4.out b5); have Q5 := Lib.hid (Q4.below (w := w4.drew) Q4'.out b5); have B5 := Lib.hid (Below.trans (below_drew1 B4.out) (Below.mono b5 (by exact B4.out.size)))
    rw [hidx]
    dsimp only
    obtain ⟨m0, m1, m2, m3, t0, t1, t2, t3⟩ := V5.out.cells
    obtain ⟨o0, o1, o2, o3, r0, r1, r2, r3⟩ := Q5.out.cells
    obtain ⟨k0, k1, k2, k3, f0, f1, f2, f3⟩ := U5.out.cells
    clear b5 V4 U4 Q4' B4
    go_wp2_with fail
    go_ret3
    exact ⟨rfl, B5.out⟩
set_option maxHeartbeats 4000000 in
theorem flow_24g (a b d : Int) (l0 : List S48) (l1 : List S104) (l2 : List S226) (l3 : List (List Int)) (hr : rightS 24 a b = true) (h : decide ((l1.length : Int) ≤ a) = true) : FlowP 24 a b d l0 l1 l2 l3 (0, 0, false) := by
  intro w v ho hc
  unfold insV flowV
  have hu48 := Tryd.underlying48
  have hu61 := Tryd.underlying61
  have hu94 := Tryd.underlying94
  obtain ⟨A0, c0, A1, c1, A2, c2, A3, c3, rfl, h0, e0, h1, e1, h2, e2, h3, e3⟩ := hc.ex
  obtain ⟨g, hg⟩ : ∃ g, w.heap.size = g := ⟨_, rfl⟩
  have G : Hid (∃ w1 : World, (w.alloc (.cells #[.int .i64 24, .int .i64 a, .int .i64 b, .int .i64 d] 48)).alloc (.cells #[.slice A0 l0.length c0, .slice A1 l1.length c1, .slice A2 l2.length c2, .slice A3 l3.length c3] 61) = w1 ∧ Q4 w1 g 48 (.int .i64 24) (.int .i64 a) (.int .i64 b) (.int .i64 d) ∧ Q4 w1 (g + 1) 61 (.slice A0 l0.length c0) (.slice A1 l1.length c1) (.slice A2 l2.length c2) (.slice A3 l3.length c3) ∧ Below w.heap.size w w1) :=
    Lib.hid ⟨_, rfl, Q4.alloc (by rw [← hg]; exact blk_new _ _) _, by rw [← hg]; exact heap_alloc2_new w _ _, below_alloc (below_alloc (Below.refl _ _) _) _⟩
  have E1 := Lib.hid hg; have HO := Lib.hid ho; have HC := Lib.hid hc; have HR := Lib.hid hr
  clear hg ho hc hr h0 e0 h1 e1 h2 e2 h3 e3
  go_enter Tryd.func38, Tryd.ntmps38
  go_upto_region 1 with (fail)
  rw [E1.out]
  obtain ⟨w1, hw1, v1, u1, b1⟩ := G.out
  rw [hw1]
  have V1 := Lib.hid v1; have U1 := Lib.hid u1; have B1 := Lib.hid b1
  obtain ⟨m0, m1, m2, m3, t0, t1, t2, t3⟩ := v1.cells
  clear v1 u1 b1 hw1 G
  go_wp2_with fail
  refine (right_calls 24 a b d w1 (HO.out.below B1.out)).mono ?_
  rintro e w2 ⟨rfl, b2⟩
  rw [HR.out]
  have V2 := Lib.hid (V1.out.below b2); have U2 := Lib.hid (U1.out.below b2); have B2 := Lib.hid (B1.out.trans (b2.mono B1.out.size))
  obtain ⟨m0, m1, m2, m3, t0, t1, t2, t3⟩ := V2.out.cells
  clear b2 V1 U1 B1
  go_wp2_with fail
  refine (of_calls 24 w2 (HO.out.below B2.out)).mono ?_
  rintro e w3 ⟨rfl, b3⟩
  have V3 := Lib.hid (V2.out.below b3); have U3 := Lib.hid (U2.out.below b3); have B3 := Lib.hid (B2.out.trans (b3.mono B2.out.size))
  clear b3 V2 U2 B2
  obtain ⟨s, ar, tk, ly, hov, htk, hly⟩ : ∃ (s : ByteArray) (ar tk ly : Int), opV 24 = .agg #[.string s, .int .i64 ar, .int .i64 tk, .int .i64 ly] ∧ ((takesI 24 : Nat) : Int) = tk ∧ ((laysI 24 : Nat) : Int) = ly := ⟨_, _, _, _, rfl, rfl, rfl⟩
  rw [hov]
  have HTK := Lib.hid htk; have HLY := Lib.hid hly
  clear hov
  obtain rfl : tk = 0 := by rw [← htk]; rfl
  obtain rfl : ly = 0 := by rw [← hly]; rfl
  clear htk hly
  go_upto_region 4 with (fail)
  obtain ⟨gq, hgq⟩ : ∃ g, w3.heap.size = g := ⟨_, rfl⟩
  have H4 : ∃ w4 : World, w3.alloc (.cells #[.string s, .int .i64 ar, .int .i64 0, .int .i64 0] 94) = w4 ∧ Q4 w4 gq 94 (.string s) (.int .i64 ar) (.int .i64 0) (.int .i64 0) ∧ Q4 w4 g 48 (.int .i64 24) (.int .i64 a) (.int .i64 b) (.int .i64 d) ∧ Q4 w4 (g + 1) 61 (.slice A0 l0.length c0) (.slice A1 l1.length c1) (.slice A2 l2.length c2) (.slice A3 l3.length c3) ∧ Below w.heap.size w w4 :=
    ⟨_, rfl, by rw [← hgq]; exact blk_new w3 _, V3.out.alloc _, U3.out.alloc _, below_alloc B3.out _⟩
  rw [hgq]
  obtain ⟨w4, hw4, q4, v4, u4, b4⟩ := H4
  rw [hw4]
  have Q4' := Lib.hid q4; have V4 := Lib.hid v4; have U4 := Lib.hid u4; have B4 := Lib.hid b4
  obtain ⟨m0, m1, m2, m3, t0, t1, t2, t3⟩ := v4.cells
  obtain ⟨o0, o1, o2, o3, r0, r1, r2, r3⟩ := q4.cells
  obtain ⟨k0, k1, k2, k3, f0, f1, f2, f3⟩ := u4.cells
  clear q4 v4 u4 b4 hw4 hgq V3 U3 B3 t0 t1 t2 t3 r0 r1 r2 r3 f0 f1 f2 f3
  go_region
  all_goals
    go_wp2_with fail
    go_ret3
    exact ⟨rfl, below_drew1 B4.out⟩
set_option maxHeartbeats 4000000 in
theorem flow_24p (a b d : Int) (l0 : List S48) (l1 : List S104) (l2 : List S226) (l3 : List (List Int)) (hr : rightS 24 a b = true) (x : S104) (hx : rd_T104 l1 a = x) (ha0 : 0 ≤ a) (ha1 : a < (l1.length : Int)) (h : decide ((l1.length : Int) ≤ a) = false) (hp : decide (x.f2 < 0) = true) : FlowP 24 a b d l0 l1 l2 l3 (0, 0, false) := by
  intro w v ho hc
  unfold insV flowV
  have hu48 := Tryd.underlying48
  have hu61 := Tryd.underlying61
  have hu94 := Tryd.underlying94
  obtain ⟨A0, c0, A1, c1, A2, c2, A3, c3, rfl, h0, e0, h1, e1, h2, e2, h3, e3⟩ := hc.ex
  obtain ⟨g, hg⟩ : ∃ g, w.heap.size = g := ⟨_, rfl⟩
  have G : Hid (∃ w1 : World, (w.alloc (.cells #[.int .i64 24, .int .i64 a, .int .i64 b, .int .i64 d] 48)).alloc (.cells #[.slice A0 l0.length c0, .slice A1 l1.length c1, .slice A2 l2.length c2, .slice A3 l3.length c3] 61) = w1 ∧ Q4 w1 g 48 (.int .i64 24) (.int .i64 a) (.int .i64 b) (.int .i64 d) ∧ Q4 w1 (g + 1) 61 (.slice A0 l0.length c0) (.slice A1 l1.length c1) (.slice A2 l2.length c2) (.slice A3 l3.length c3) ∧ Below w.heap.size w w1) :=
    Lib.hid ⟨_, rfl, Q4.alloc (by rw [← hg]; exact blk_new _ _) _, by rw [← hg]; exact heap_alloc2_new w _ _, below_alloc (below_alloc (Below.refl _ _) _) _⟩
  have E1 := Lib.hid hg; have HO := Lib.hid ho; have HC := Lib.hid hc; have HR := Lib.hid hr
  clear hg ho hc hr h0 e0 h1 e1 h2 e2 h3 e3
  go_enter Tryd.func38, Tryd.ntmps38
  go_upto_region 1 with (fail)
  rw [E1.out]
  obtain ⟨w1, hw1, v1, u1, b1⟩ := G.out
  rw [hw1]
  have V1 := Lib.hid v1; have U1 := Lib.hid u1; have B1 := Lib.hid b1
  obtain ⟨m0, m1, m2, m3, t0, t1, t2, t3⟩ := v1.cells
  clear v1 u1 b1 hw1 G
  go_wp2_with fail
  refine (right_calls 24 a b d w1 (HO.out.below B1.out)).mono ?_
  rintro e w2 ⟨rfl, b2⟩
  rw [HR.out]
  have V2 := Lib.hid (V1.out.below b2); have U2 := Lib.hid (U1.out.below b2); have B2 := Lib.hid (B1.out.trans (b2.mono B1.out.size))
  obtain ⟨m0, m1, m2, m3, t0, t1, t2, t3⟩ := V2.out.cells
  clear b2 V1 U1 B1
  go_wp2_with fail
  refine (of_calls 24 w2 (HO.out.below B2.out)).mono ?_
  rintro e w3 ⟨rfl, b3⟩
  have V3 := Lib.hid (V2.out.below b3); have U3 := Lib.hid (U2.out.below b3); have B3 := Lib.hid (B2.out.trans (b3.mono B2.out.size))
  clear b3 V2 U2 B2
  obtain ⟨s, ar, tk, ly, hov, htk, hly⟩ : ∃ (s : ByteArray) (ar tk ly : Int), opV 24 = .agg #[.string s, .int .i64 ar, .int .i64 tk, .int .i64 ly] ∧ ((takesI 24 : Nat) : Int) = tk ∧ ((laysI 24 : Nat) : Int) = ly := ⟨_, _, _, _, rfl, rfl, rfl⟩
  rw [hov]
  have HTK := Lib.hid htk; have HLY := Lib.hid hly
  clear hov
  obtain rfl : tk = 0 := by rw [← htk]; rfl
  obtain rfl : ly = 0 := by rw [← hly]; rfl
  clear htk hly
  go_upto_region 4 with (fail)
  obtain ⟨gq, hgq⟩ : ∃ g, w3.heap.size = g := ⟨_, rfl⟩
  have H4 : ∃ w4 : World, w3.alloc (.cells #[.string s, .int .i64 ar, .int .i64 0, .int .i64 0] 94) = w4 ∧ Q4 w4 gq 94 (.string s) (.int .i64 ar) (.int .i64 0) (.int .i64 0) ∧ Q4 w4 g 48 (.int .i64 24) (.int .i64 a) (.int .i64 b) (.int .i64 d) ∧ Q4 w4 (g + 1) 61 (.slice A0 l0.length c0) (.slice A1 l1.length c1) (.slice A2 l2.length c2) (.slice A3 l3.length c3) ∧ Below w.heap.size w w4 :=
    ⟨_, rfl, by rw [← hgq]; exact blk_new w3 _, V3.out.alloc _, U3.out.alloc _, below_alloc B3.out _⟩
  rw [hgq]
  obtain ⟨w4, hw4, q4, v4, u4, b4⟩ := H4
  rw [hw4]
  have Q4' := Lib.hid q4; have V4 := Lib.hid v4; have U4 := Lib.hid u4; have B4 := Lib.hid b4
  obtain ⟨m0, m1, m2, m3, t0, t1, t2, t3⟩ := v4.cells
  obtain ⟨o0, o1, o2, o3, r0, r1, r2, r3⟩ := q4.cells
  obtain ⟨k0, k1, k2, k3, f0, f1, f2, f3⟩ := u4.cells
  clear q4 v4 u4 b4 hw4 hgq V3 U3 B3 t0 t1 t2 t3 r0 r1 r2 r3 f0 f1 f2 f3
  obtain ⟨_, _, A1', _, _, _, _, _, hve, _, _, h1, _, _, _, _, _⟩ := (HC.out.below B4.out).ex
  have hAA : A1' = A1 := by injection hve with hve; simp at hve; exact hve.2.1.1.symm
  subst hAA
  obtain ⟨ad, had, j0, j1, j2, j3, j4⟩ := at_T104 h1 a (by omega) (by omega)
  subst had
  rw [hx] at j0 j1 j2 j3 j4
  clear h1 hve hx
  go_region
  all_goals
    go_wp2_with fail
    go_ret3
    exact ⟨rfl, below_drew1 B4.out⟩
set_option maxHeartbeats 4000000 in
theorem flow_24y (a b d : Int) (l0 : List S48) (l1 : List S104) (l2 : List S226) (l3 : List (List Int)) (hr : rightS 24 a b = true) (x : S104) (hx : rd_T104 l1 a = x) (ha0 : 0 ≤ a) (ha1 : a < (l1.length : Int)) (h : decide ((l1.length : Int) ≤ a) = false) (hp : decide (x.f2 < 0) = false) (hgv : x.f4 = true) : FlowP 24 a b d l0 l1 l2 l3 (x.f2, 1, true) := by
  intro w v ho hc
  unfold insV flowV
  have hu48 := Tryd.underlying48
  have hu61 := Tryd.underlying61
  have hu94 := Tryd.underlying94
  obtain ⟨A0, c0, A1, c1, A2, c2, A3, c3, rfl, h0, e0, h1, e1, h2, e2, h3, e3⟩ := hc.ex
  obtain ⟨g, hg⟩ : ∃ g, w.heap.size = g := ⟨_, rfl⟩
  have G : Hid (∃ w1 : World, (w.alloc (.cells #[.int .i64 24, .int .i64 a, .int .i64 b, .int .i64 d] 48)).alloc (.cells #[.slice A0 l0.length c0, .slice A1 l1.length c1, .slice A2 l2.length c2, .slice A3 l3.length c3] 61) = w1 ∧ Q4 w1 g 48 (.int .i64 24) (.int .i64 a) (.int .i64 b) (.int .i64 d) ∧ Q4 w1 (g + 1) 61 (.slice A0 l0.length c0) (.slice A1 l1.length c1) (.slice A2 l2.length c2) (.slice A3 l3.length c3) ∧ Below w.heap.size w w1) :=
    Lib.hid ⟨_, rfl, Q4.alloc (by rw [← hg]; exact blk_new _ _) _, by rw [← hg]; exact heap_alloc2_new w _ _, below_alloc (below_alloc (Below.refl _ _) _) _⟩
  have E1 := Lib.hid hg; have HO := Lib.hid ho; have HC := Lib.hid hc; have HR := Lib.hid hr
  clear hg ho hc hr h0 e0 h1 e1 h2 e2 h3 e3
  go_enter Tryd.func38, Tryd.ntmps38
  go_upto_region 1 with (fail)
  rw [E1.out]
  obtain ⟨w1, hw1, v1, u1, b1⟩ := G.out
  rw [hw1]
  have V1 := Lib.hid v1; have U1 := Lib.hid u1; have B1 := Lib.hid b1
  obtain ⟨m0, m1, m2, m3, t0, t1, t2, t3⟩ := v1.cells
  clear v1 u1 b1 hw1 G
  go_wp2_with fail
  refine (right_calls 24 a b d w1 (HO.out.below B1.out)).mono ?_
  rintro e w2 ⟨rfl, b2⟩
  rw [HR.out]
  have V2 := Lib.hid (V1.out.below b2); have U2 := Lib.hid (U1.out.below b2); have B2 := Lib.hid (B1.out.trans (b2.mono B1.out.size))
  obtain ⟨m0, m1, m2, m3, t0, t1, t2, t3⟩ := V2.out.cells
  clear b2 V1 U1 B1
  go_wp2_with fail
  refine (of_calls 24 w2 (HO.out.below B2.out)).mono ?_
  rintro e w3 ⟨rfl, b3⟩
  have V3 := Lib.hid (V2.out.below b3); have U3 := Lib.hid (U2.out.below b3); have B3 := Lib.hid (B2.out.trans (b3.mono B2.out.size))
  clear b3 V2 U2 B2
  obtain ⟨s, ar, tk, ly, hov, htk, hly⟩ : ∃ (s : ByteArray) (ar tk ly : Int), opV 24 = .agg #[.string s, .int .i64 ar, .int .i64 tk, .int .i64 ly] ∧ ((takesI 24 : Nat) : Int) = tk ∧ ((laysI 24 : Nat) : Int) = ly := ⟨_, _, _, _, rfl, rfl, rfl⟩
  rw [hov]
  have HTK := Lib.hid htk; have HLY := Lib.hid hly
  clear hov
  obtain rfl : tk = 0 := by rw [← htk]; rfl
  obtain rfl : ly = 0 := by rw [← hly]; rfl
  clear htk hly
  go_upto_region 4 with (fail)
  obtain ⟨gq, hgq⟩ : ∃ g, w3.heap.size = g := ⟨_, rfl⟩
  have H4 : ∃ w4 : World, w3.alloc (.cells #[.string s, .int .i64 ar, .int .i64 0, .int .i64 0] 94) = w4 ∧ Q4 w4 gq 94 (.string s) (.int .i64 ar) (.int .i64 0) (.int .i64 0) ∧ Q4 w4 g 48 (.int .i64 24) (.int .i64 a) (.int .i64 b) (.int .i64 d) ∧ Q4 w4 (g + 1) 61 (.slice A0 l0.length c0) (.slice A1 l1.length c1) (.slice A2 l2.length c2) (.slice A3 l3.length c3) ∧ Below w.heap.size w w4 :=
    ⟨_, rfl, by rw [← hgq]; exact blk_new w3 _, V3.out.alloc _, U3.out.alloc _, below_alloc B3.out _⟩
  rw [hgq]
  obtain ⟨w4, hw4, q4, v4, u4, b4⟩ := H4
  rw [hw4]
  have Q4' := Lib.hid q4; have V4 := Lib.hid v4; have U4 := Lib.hid u4; have B4 := Lib.hid b4
  obtain ⟨m0, m1, m2, m3, t0, t1, t2, t3⟩ := v4.cells
  obtain ⟨o0, o1, o2, o3, r0, r1, r2, r3⟩ := q4.cells
  obtain ⟨k0, k1, k2, k3, f0, f1, f2, f3⟩ := u4.cells
  clear q4 v4 u4 b4 hw4 hgq V3 U3 B3 t0 t1 t2 t3 r0 r1 r2 r3 f0 f1 f2 f3
  obtain ⟨_, _, A1', _, _, _, _, _, hve, _, _, h1, _, _, _, _, _⟩ := (HC.out.below B4.out).ex
  have hAA : A1' = A1 := by injection hve with hve; simp at hve; exact hve.2.1.1.symm
  subst hAA
  obtain ⟨ad, had, j0, j1, j2, j3, j4⟩ := at_T104 h1 a (by omega) (by omega)
  subst had
  rw [hx] at j0 j1 j2 j3 j4
  clear h1 hve hx
  go_region
  all_goals
    go_wp2_with fail
    go_ret3
    exact ⟨rfl, below_drew1 B4.out⟩
set_option maxHeartbeats 4000000 in
theorem flow_24n (a b d : Int) (l0 : List S48) (l1 : List S104) (l2 : List S226) (l3 : List (List Int)) (hr : rightS 24 a b = true) (x : S104) (hx : rd_T104 l1 a = x) (ha0 : 0 ≤ a) (ha1 : a < (l1.length : Int)) (h : decide ((l1.length : Int) ≤ a) = false) (hp : decide (x.f2 < 0) = false) (hgv : x.f4 = false) : FlowP 24 a b d l0 l1 l2 l3 (x.f2, 0, true) := by
  intro w v ho hc
  unfold insV flowV
  have hu48 := Tryd.underlying48
  have hu61 := Tryd.underlying61
  have hu94 := Tryd.underlying94
  obtain ⟨A0, c0, A1, c1, A2, c2, A3, c3, rfl, h0, e0, h1, e1, h2, e2, h3, e3⟩ := hc.ex
  obtain ⟨g, hg⟩ : ∃ g, w.heap.size = g := ⟨_, rfl⟩
  have G : Hid (∃ w1 : World, (w.alloc (.cells #[.int .i64 24, .int .i64 a, .int .i64 b, .int .i64 d] 48)).alloc (.cells #[.slice A0 l0.length c0, .slice A1 l1.length c1, .slice A2 l2.length c2, .slice A3 l3.length c3] 61) = w1 ∧ Q4 w1 g 48 (.int .i64 24) (.int .i64 a) (.int .i64 b) (.int .i64 d) ∧ Q4 w1 (g + 1) 61 (.slice A0 l0.length c0) (.slice A1 l1.length c1) (.slice A2 l2.length c2) (.slice A3 l3.length c3) ∧ Below w.heap.size w w1) :=
    Lib.hid ⟨_, rfl, Q4.alloc (by rw [← hg]; exact blk_new _ _) _, by rw [← hg]; exact heap_alloc2_new w _ _, below_alloc (below_alloc (Below.refl _ _) _) _⟩
  have E1 := Lib.hid hg; have HO := Lib.hid ho; have HC := Lib.hid hc; have HR := Lib.hid hr
  clear hg ho hc hr h0 e0 h1 e1 h2 e2 h3 e3
  go_enter Tryd.func38, Tryd.ntmps38
  go_upto_region 1 with (fail)
  rw [E1.out]
  obtain ⟨w1, hw1, v1, u1, b1⟩ := G.out
  rw [hw1]
  have V1 := Lib.hid v1; have U1 := Lib.hid u1; have B1 := Lib.hid b1
  obtain ⟨m0, m1, m2, m3, t0, t1, t2, t3⟩ := v1.cells
  clear v1 u1 b1 hw1 G
  go_wp2_with fail
  refine (right_calls 24 a b d w1 (HO.out.below B1.out)).mono ?_
  rintro e w2 ⟨rfl, b2⟩
  rw [HR.out]
  have V2 := Lib.hid (V1.out.below b2); have U2 := Lib.hid (U1.out.below b2); have B2 := Lib.hid (B1.out.trans (b2.mono B1.out.size))
  obtain ⟨m0, m1, m2, m3, t0, t1, t2, t3⟩ := V2.out.cells
  clear b2 V1 U1 B1
  go_wp2_with fail
  refine (of_calls 24 w2 (HO.out.below B2.out)).mono ?_
  rintro e w3 ⟨rfl, b3⟩
  have V3 := Lib.hid (V2.out.below b3); have U3 := Lib.hid (U2.out.below b3); have B3 := Lib.hid (B2.out.trans (b3.mono B2.out.size))
  clear b3 V2 U2 B2
  obtain ⟨s, ar, tk, ly, hov, htk, hly⟩ : ∃ (s : ByteArray) (ar tk ly : Int), opV 24 = .agg #[.string s, .int .i64 ar, .int .i64 tk, .int .i64 ly] ∧ ((takesI 24 : Nat) : Int) = tk ∧ ((laysI 24 : Nat) : Int) = ly := ⟨_, _, _, _, rfl, rfl, rfl⟩
  rw [hov]
  have HTK := Lib.hid htk; have HLY := Lib.hid hly
  clear hov
  obtain rfl : tk = 0 := by rw [← htk]; rfl
  obtain rfl : ly = 0 := by rw [← hly]; rfl
  clear htk hly
  go_upto_region 4 with (fail)
  obtain ⟨gq, hgq⟩ : ∃ g, w3.heap.size = g := ⟨_, rfl⟩
  have H4 : ∃ w4 : World, w3.alloc (.cells #[.string s, .int .i64 ar, .int .i64 0, .int .i64 0] 94) = w4 ∧ Q4 w4 gq 94 (.string s) (.int .i64 ar) (.int .i64 0) (.int .i64 0) ∧ Q4 w4 g 48 (.int .i64 24) (.int .i64 a) (.int .i64 b) (.int .i64 d) ∧ Q4 w4 (g + 1) 61 (.slice A0 l0.length c0) (.slice A1 l1.length c1) (.slice A2 l2.length c2) (.slice A3 l3.length c3) ∧ Below w.heap.size w w4 :=
    ⟨_, rfl, by rw [← hgq]; exact blk_new w3 _, V3.out.alloc _, U3.out.alloc _, below_alloc B3.out _⟩
  rw [hgq]
  obtain ⟨w4, hw4, q4, v4, u4, b4⟩ := H4
  rw [hw4]
  have Q4' := Lib.hid q4; have V4 := Lib.hid v4; have U4 := Lib.hid u4; have B4 := Lib.hid b4
  obtain ⟨m0, m1, m2, m3, t0, t1, t2, t3⟩ := v4.cells
  obtain ⟨o0, o1, o2, o3, r0, r1, r2, r3⟩ := q4.cells
  obtain ⟨k0, k1, k2, k3, f0, f1, f2, f3⟩ := u4.cells
  clear q4 v4 u4 b4 hw4 hgq V3 U3 B3 t0 t1 t2 t3 r0 r1 r2 r3 f0 f1 f2 f3
  obtain ⟨_, _, A1', _, _, _, _, _, hve, _, _, h1, _, _, _, _, _⟩ := (HC.out.below B4.out).ex
  have hAA : A1' = A1 := by injection hve with hve; simp at hve; exact hve.2.1.1.symm
  subst hAA
  obtain ⟨ad, had, j0, j1, j2, j3, j4⟩ := at_T104 h1 a (by omega) (by omega)
  subst had
  rw [hx] at j0 j1 j2 j3 j4
  clear h1 hve hx
  go_region
  all_goals
    go_wp2_with fail
    go_ret3
    exact ⟨rfl, below_drew1 B4.out⟩
set_option maxHeartbeats 4000000 in
theorem flow_27g (a b d : Int) (l0 : List S48) (l1 : List S104) (l2 : List S226) (l3 : List (List Int)) (hr : rightS 27 a b = true) (h : decide ((l1.length : Int) ≤ a) = true) : FlowP 27 a b d l0 l1 l2 l3 (0, 0, false) := by
  intro w v ho hc
  unfold insV flowV
  have hu48 := Tryd.underlying48
  have hu61 := Tryd.underlying61
  have hu94 := Tryd.underlying94
  obtain ⟨A0, c0, A1, c1, A2, c2, A3, c3, rfl, h0, e0, h1, e1, h2, e2, h3, e3⟩ := hc.ex
  obtain ⟨g, hg⟩ : ∃ g, w.heap.size = g := ⟨_, rfl⟩
  have G : Hid (∃ w1 : World, (w.alloc (.cells #[.int .i64 27, .int .i64 a, .int .i64 b, .int .i64 d] 48)).alloc (.cells #[.slice A0 l0.length c0, .slice A1 l1.length c1, .slice A2 l2.length c2, .slice A3 l3.length c3] 61) = w1 ∧ Q4 w1 g 48 (.int .i64 27) (.int .i64 a) (.int .i64 b) (.int .i64 d) ∧ Q4 w1 (g + 1) 61 (.slice A0 l0.length c0) (.slice A1 l1.length c1) (.slice A2 l2.length c2) (.slice A3 l3.length c3) ∧ Below w.heap.size w w1) :=
    Lib.hid ⟨_, rfl, Q4.alloc (by rw [← hg]; exact blk_new _ _) _, by rw [← hg]; exact heap_alloc2_new w _ _, below_alloc (below_alloc (Below.refl _ _) _) _⟩
  have E1 := Lib.hid hg; have HO := Lib.hid ho; have HC := Lib.hid hc; have HR := Lib.hid hr
  clear hg ho hc hr h0 e0 h1 e1 h2 e2 h3 e3
  go_enter Tryd.func38, Tryd.ntmps38
  go_upto_region 1 with (fail)
  rw [E1.out]
  obtain ⟨w1, hw1, v1, u1, b1⟩ := G.out
  rw [hw1]
  have V1 := Lib.hid v1; have U1 := Lib.hid u1; have B1 := Lib.hid b1
  obtain ⟨m0, m1, m2, m3, t0, t1, t2, t3⟩ := v1.cells
  clear v1 u1 b1 hw1 G
  go_wp2_with fail
  refine (right_calls 27 a b d w1 (HO.out.below B1.out)).mono ?_
  rintro e w2 ⟨rfl, b2⟩
  rw [HR.out]
  have V2 := Lib.hid (V1.out.below b2); have U2 := Lib.hid (U1.out.below b2); have B2 := Lib.hid (B1.out.trans (b2.mono B1.out.size))
  obtain ⟨m0, m1, m2, m3, t0, t1, t2, t3⟩ := V2.out.cells
  clear b2 V1 U1 B1
  go_wp2_with fail
  refine (of_calls 27 w2 (HO.out.below B2.out)).mono ?_
  rintro e w3 ⟨rfl, b3⟩
  have V3 := Lib.hid (V2.out.below b3); have U3 := Lib.hid (U2.out.below b3); have B3 := Lib.hid (B2.out.trans (b3.mono B2.out.size))
  clear b3 V2 U2 B2
  obtain ⟨s, ar, tk, ly, hov, htk, hly⟩ : ∃ (s : ByteArray) (ar tk ly : Int), opV 27 = .agg #[.string s, .int .i64 ar, .int .i64 tk, .int .i64 ly] ∧ ((takesI 27 : Nat) : Int) = tk ∧ ((laysI 27 : Nat) : Int) = ly := ⟨_, _, _, _, rfl, rfl, rfl⟩
  rw [hov]
  have HTK := Lib.hid htk; have HLY := Lib.hid hly
  clear hov
  obtain rfl : tk = 0 := by rw [← htk]; rfl
  obtain rfl : ly = 1 := by rw [← hly]; rfl
  clear htk hly
  go_upto_region 4 with (fail)
  obtain ⟨gq, hgq⟩ : ∃ g, w3.heap.size = g := ⟨_, rfl⟩
  have H4 : ∃ w4 : World, w3.alloc (.cells #[.string s, .int .i64 ar, .int .i64 0, .int .i64 1] 94) = w4 ∧ Q4 w4 gq 94 (.string s) (.int .i64 ar) (.int .i64 0) (.int .i64 1) ∧ Q4 w4 g 48 (.int .i64 27) (.int .i64 a) (.int .i64 b) (.int .i64 d) ∧ Q4 w4 (g + 1) 61 (.slice A0 l0.length c0) (.slice A1 l1.length c1) (.slice A2 l2.length c2) (.slice A3 l3.length c3) ∧ Below w.heap.size w w4 :=
    ⟨_, rfl, by rw [← hgq]; exact blk_new w3 _, V3.out.alloc _, U3.out.alloc _, below_alloc B3.out _⟩
  rw [hgq]
  obtain ⟨w4, hw4, q4, v4, u4, b4⟩ := H4
  rw [hw4]
  have Q4' := Lib.hid q4; have V4 := Lib.hid v4; have U4 := Lib.hid u4; have B4 := Lib.hid b4
  obtain ⟨m0, m1, m2, m3, t0, t1, t2, t3⟩ := v4.cells
  obtain ⟨o0, o1, o2, o3, r0, r1, r2, r3⟩ := q4.cells
  obtain ⟨k0, k1, k2, k3, f0, f1, f2, f3⟩ := u4.cells
  clear q4 v4 u4 b4 hw4 hgq V3 U3 B3 t0 t1 t2 t3 r0 r1 r2 r3 f0 f1 f2 f3
  go_region
  all_goals
    go_wp2_with fail
    go_ret3
    exact ⟨rfl, below_drew1 B4.out⟩
set_option maxHeartbeats 4000000 in
theorem flow_27p (a b d : Int) (l0 : List S48) (l1 : List S104) (l2 : List S226) (l3 : List (List Int)) (hr : rightS 27 a b = true) (x : S104) (hx : rd_T104 l1 a = x) (ha0 : 0 ≤ a) (ha1 : a < (l1.length : Int)) (h : decide ((l1.length : Int) ≤ a) = false) (hp : decide (x.f2 < 0) = true) : FlowP 27 a b d l0 l1 l2 l3 (0, 0, false) := by
  intro w v ho hc
  unfold insV flowV
  have hu48 := Tryd.underlying48
  have hu61 := Tryd.underlying61
  have hu94 := Tryd.underlying94
  obtain ⟨A0, c0, A1, c1, A2, c2, A3, c3, rfl, h0, e0, h1, e1, h2, e2, h3, e3⟩ := hc.ex
  obtain ⟨g, hg⟩ : ∃ g, w.heap.size = g := ⟨_, rfl⟩
  have G : Hid (∃ w1 : World, (w.alloc (.cells #[.int .i64 27, .int .i64 a, .int .i64 b, .int .i64 d] 48)).alloc (.cells #[.slice A0 l0.length c0, .slice A1 l1.length c1, .slice A2 l2.length c2, .slice A3 l3.length c3] 61) = w1 ∧ Q4 w1 g 48 (.int .i64 27) (.int .i64 a) (.int .i64 b) (.int .i64 d) ∧ Q4 w1 (g + 1) 61 (.slice A0 l0.length c0) (.slice A1 l1.length c1) (.slice A2 l2.length c2) (.slice A3 l3.length c3) ∧ Below w.heap.size w w1) :=
    Lib.hid ⟨_, rfl, Q4.alloc (by rw [← hg]; exact blk_new _ _) _, by rw [← hg]; exact heap_alloc2_new w _ _, below_alloc (below_alloc (Below.refl _ _) _) _⟩
  have E1 := Lib.hid hg; have HO := Lib.hid ho; have HC := Lib.hid hc; have HR := Lib.hid hr
  clear hg ho hc hr h0 e0 h1 e1 h2 e2 h3 e3
  go_enter Tryd.func38, Tryd.ntmps38
  go_upto_region 1 with (fail)
  rw [E1.out]
  obtain ⟨w1, hw1, v1, u1, b1⟩ := G.out
  rw [hw1]
  have V1 := Lib.hid v1; have U1 := Lib.hid u1; have B1 := Lib.hid b1
  obtain ⟨m0, m1, m2, m3, t0, t1, t2, t3⟩ := v1.cells
  clear v1 u1 b1 hw1 G
  go_wp2_with fail
  refine (right_calls 27 a b d w1 (HO.out.below B1.out)).mono ?_
  rintro e w2 ⟨rfl, b2⟩
  rw [HR.out]
  have V2 := Lib.hid (V1.out.below b2); have U2 := Lib.hid (U1.out.below b2); have B2 := Lib.hid (B1.out.trans (b2.mono B1.out.size))
  obtain ⟨m0, m1, m2, m3, t0, t1, t2, t3⟩ := V2.out.cells
  clear b2 V1 U1 B1
  go_wp2_with fail
  refine (of_calls 27 w2 (HO.out.below B2.out)).mono ?_
  rintro e w3 ⟨rfl, b3⟩
  have V3 := Lib.hid (V2.out.below b3); have U3 := Lib.hid (U2.out.below b3); have B3 := Lib.hid (B2.out.trans (b3.mono B2.out.size))
  clear b3 V2 U2 B2
  obtain ⟨s, ar, tk, ly, hov, htk, hly⟩ : ∃ (s : ByteArray) (ar tk ly : Int), opV 27 = .agg #[.string s, .int .i64 ar, .int .i64 tk, .int .i64 ly] ∧ ((takesI 27 : Nat) : Int) = tk ∧ ((laysI 27 : Nat) : Int) = ly := ⟨_, _, _, _, rfl, rfl, rfl⟩
  rw [hov]
  have HTK := Lib.hid htk; have HLY := Lib.hid hly
  clear hov
  obtain rfl : tk = 0 := by rw [← htk]; rfl
  obtain rfl : ly = 1 := by rw [← hly]; rfl
  clear htk hly
  go_upto_region 4 with (fail)
  obtain ⟨gq, hgq⟩ : ∃ g, w3.heap.size = g := ⟨_, rfl⟩
  have H4 : ∃ w4 : World, w3.alloc (.cells #[.string s, .int .i64 ar, .int .i64 0, .int .i64 1] 94) = w4 ∧ Q4 w4 gq 94 (.string s) (.int .i64 ar) (.int .i64 0) (.int .i64 1) ∧ Q4 w4 g 48 (.int .i64 27) (.int .i64 a) (.int .i64 b) (.int .i64 d) ∧ Q4 w4 (g + 1) 61 (.slice A0 l0.length c0) (.slice A1 l1.length c1) (.slice A2 l2.length c2) (.slice A3 l3.length c3) ∧ Below w.heap.size w w4 :=
    ⟨_, rfl, by rw [← hgq]; exact blk_new w3 _, V3.out.alloc _, U3.out.alloc _, below_alloc B3.out _⟩
  rw [hgq]
  obtain ⟨w4, hw4, q4, v4, u4, b4⟩ := H4
  rw [hw4]
  have Q4' := Lib.hid q4; have V4 := Lib.hid v4; have U4 := Lib.hid u4; have B4 := Lib.hid b4
  obtain ⟨m0, m1, m2, m3, t0, t1, t2, t3⟩ := v4.cells
  obtain ⟨o0, o1, o2, o3, r0, r1, r2, r3⟩ := q4.cells
  obtain ⟨k0, k1, k2, k3, f0, f1, f2, f3⟩ := u4.cells
  clear q4 v4 u4 b4 hw4 hgq V3 U3 B3 t0 t1 t2 t3 r0 r1 r2 r3 f0 f1 f2 f3
  obtain ⟨_, _, A1', _, _, _, _, _, hve, _, _, h1, _, _, _, _, _⟩ := (HC.out.below B4.out).ex
  have hAA : A1' = A1 := by injection hve with hve; simp at hve; exact hve.2.1.1.symm
  subst hAA
  obtain ⟨ad, had, j0, j1, j2, j3, j4⟩ := at_T104 h1 a (by omega) (by omega)
  subst had
  rw [hx] at j0 j1 j2 j3 j4
  clear h1 hve hx
  go_region
  all_goals
    go_wp2_with fail
    go_ret3
    exact ⟨rfl, below_drew1 B4.out⟩
set_option maxHeartbeats 4000000 in
theorem flow_27y (a b d : Int) (l0 : List S48) (l1 : List S104) (l2 : List S226) (l3 : List (List Int)) (hr : rightS 27 a b = true) (x : S104) (hx : rd_T104 l1 a = x) (ha0 : 0 ≤ a) (ha1 : a < (l1.length : Int)) (h : decide ((l1.length : Int) ≤ a) = false) (hp : decide (x.f2 < 0) = false) : FlowP 27 a b d l0 l1 l2 l3 (x.f2, 1, true) := by
  intro w v ho hc
  unfold insV flowV
  have hu48 := Tryd.underlying48
  have hu61 := Tryd.underlying61
  have hu94 := Tryd.underlying94
  obtain ⟨A0, c0, A1, c1, A2, c2, A3, c3, rfl, h0, e0, h1, e1, h2, e2, h3, e3⟩ := hc.ex
  obtain ⟨g, hg⟩ : ∃ g, w.heap.size = g := ⟨_, rfl⟩
  have G : Hid (∃ w1 : World, (w.alloc (.cells #[.int .i64 27, .int .i64 a, .int .i64 b, .int .i64 d] 48)).alloc (.cells #[.slice A0 l0.length c0, .slice A1 l1.length c1, .slice A2 l2.length c2, .slice A3 l3.length c3] 61) = w1 ∧ Q4 w1 g 48 (.int .i64 27) (.int .i64 a) (.int .i64 b) (.int .i64 d) ∧ Q4 w1 (g + 1) 61 (.slice A0 l0.length c0) (.slice A1 l1.length c1) (.slice A2 l2.length c2) (.slice A3 l3.length c3) ∧ Below w.heap.size w w1) :=
    Lib.hid ⟨_, rfl, Q4.alloc (by rw [← hg]; exact blk_new _ _) _, by rw [← hg]; exact heap_alloc2_new w _ _, below_alloc (below_alloc (Below.refl _ _) _) _⟩
  have E1 := Lib.hid hg; have HO := Lib.hid ho; have HC := Lib.hid hc; have HR := Lib.hid hr
  clear hg ho hc hr h0 e0 h1 e1 h2 e2 h3 e3
  go_enter Tryd.func38, Tryd.ntmps38
  go_upto_region 1 with (fail)
  rw [E1.out]
  obtain ⟨w1, hw1, v1, u1, b1⟩ := G.out
  rw [hw1]
  have V1 := Lib.hid v1; have U1 := Lib.hid u1; have B1 := Lib.hid b1
  obtain ⟨m0, m1, m2, m3, t0, t1, t2, t3⟩ := v1.cells
  clear v1 u1 b1 hw1 G
  go_wp2_with fail
  refine (right_calls 27 a b d w1 (HO.out.below B1.out)).mono ?_
  rintro e w2 ⟨rfl, b2⟩
  rw [HR.out]
  have V2 := Lib.hid (V1.out.below b2); have U2 := Lib.hid (U1.out.below b2); have B2 := Lib.hid (B1.out.trans (b2.mono B1.out.size))
  obtain ⟨m0, m1, m2, m3, t0, t1, t2, t3⟩ := V2.out.cells
  clear b2 V1 U1 B1
  go_wp2_with fail
  refine (of_calls 27 w2 (HO.out.below B2.out)).mono ?_
  rintro e w3 ⟨rfl, b3⟩
  have V3 := Lib.hid (V2.out.below b3); have U3 := Lib.hid (U2.out.below b3); have B3 := Lib.hid (B2.out.trans (b3.mono B2.out.size))
  clear b3 V2 U2 B2
  obtain ⟨s, ar, tk, ly, hov, htk, hly⟩ : ∃ (s : ByteArray) (ar tk ly : Int), opV 27 = .agg #[.string s, .int .i64 ar, .int .i64 tk, .int .i64 ly] ∧ ((takesI 27 : Nat) : Int) = tk ∧ ((laysI 27 : Nat) : Int) = ly := ⟨_, _, _, _, rfl, rfl, rfl⟩
  rw [hov]
  have HTK := Lib.hid htk; have HLY := Lib.hid hly
  clear hov
  obtain rfl : tk = 0 := by rw [← htk]; rfl
  obtain rfl : ly = 1 := by rw [← hly]; rfl
  clear htk hly
  go_upto_region 4 with (fail)
  obtain ⟨gq, hgq⟩ : ∃ g, w3.heap.size = g := ⟨_, rfl⟩
  have H4 : ∃ w4 : World, w3.alloc (.cells #[.string s, .int .i64 ar, .int .i64 0, .int .i64 1] 94) = w4 ∧ Q4 w4 gq 94 (.string s) (.int .i64 ar) (.int .i64 0) (.int .i64 1) ∧ Q4 w4 g 48 (.int .i64 27) (.int .i64 a) (.int .i64 b) (.int .i64 d) ∧ Q4 w4 (g + 1) 61 (.slice A0 l0.length c0) (.slice A1 l1.length c1) (.slice A2 l2.length c2) (.slice A3 l3.length c3) ∧ Below w.heap.size w w4 :=
    ⟨_, rfl, by rw [← hgq]; exact blk_new w3 _, V3.out.alloc _, U3.out.alloc _, below_alloc B3.out _⟩
  rw [hgq]
  obtain ⟨w4, hw4, q4, v4, u4, b4⟩ := H4
  rw [hw4]
  have Q4' := Lib.hid q4; have V4 := Lib.hid v4; have U4 := Lib.hid u4; have B4 := Lib.hid b4
  obtain ⟨m0, m1, m2, m3, t0, t1, t2, t3⟩ := v4.cells
  obtain ⟨o0, o1, o2, o3, r0, r1, r2, r3⟩ := q4.cells
  obtain ⟨k0, k1, k2, k3, f0, f1, f2, f3⟩ := u4.cells
  clear q4 v4 u4 b4 hw4 hgq V3 U3 B3 t0 t1 t2 t3 r0 r1 r2 r3 f0 f1 f2 f3
  obtain ⟨_, _, A1', _, _, _, _, _, hve, _, _, h1, _, _, _, _, _⟩ := (HC.out.below B4.out).ex
  have hAA : A1' = A1 := by injection hve with hve; simp at hve; exact hve.2.1.1.symm
  subst hAA
  obtain ⟨ad, had, j0, j1, j2, j3, j4⟩ := at_T104 h1 a (by omega) (by omega)
  subst had
  rw [hx] at j0 j1 j2 j3 j4
  clear h1 hve hx
  go_region
  all_goals
    go_wp2_with fail
    go_ret3
    exact ⟨rfl, below_drew1 B4.out⟩
set_option maxHeartbeats 4000000 in
theorem flow_z (op a b d : Int) (l0 : List S48) (l1 : List S104) (l2 : List S226) (l3 : List (List Int)) (hr : rightS op a b = true) (e13 : (op == 13) = false) (e14 : (op == 14) = false) (e19 : (op == 19) = false) (e20 : (op == 20) = false) (e21 : (op == 21) = false) (e22 : (op == 22) = false) (e23 : (op == 23) = false) (e24 : (op == 24) = false) (e27 : (op == 27) = false) : FlowP op a b d l0 l1 l2 l3 ((takesI op : Nat), (laysI op : Nat), true) := by
  intro w v ho hc
  unfold insV flowV
  have hu48 := Tryd.underlying48
  have hu61 := Tryd.underlying61
  have hu94 := Tryd.underlying94
  obtain ⟨A0, c0, A1, c1, A2, c2, A3, c3, rfl, h0, e0, h1, e1, h2, e2, h3, e3⟩ := hc.ex
  obtain ⟨g, hg⟩ : ∃ g, w.heap.size = g := ⟨_, rfl⟩
  have G : Hid (∃ w1 : World, (w.alloc (.cells #[.int .i64 op, .int .i64 a, .int .i64 b, .int .i64 d] 48)).alloc (.cells #[.slice A0 l0.length c0, .slice A1 l1.length c1, .slice A2 l2.length c2, .slice A3 l3.length c3] 61) = w1 ∧ Q4 w1 g 48 (.int .i64 op) (.int .i64 a) (.int .i64 b) (.int .i64 d) ∧ Q4 w1 (g + 1) 61 (.slice A0 l0.length c0) (.slice A1 l1.length c1) (.slice A2 l2.length c2) (.slice A3 l3.length c3) ∧ Below w.heap.size w w1) :=
    Lib.hid ⟨_, rfl, Q4.alloc (by rw [← hg]; exact blk_new _ _) _, by rw [← hg]; exact heap_alloc2_new w _ _, below_alloc (below_alloc (Below.refl _ _) _) _⟩
  have E1 := Lib.hid hg; have HO := Lib.hid ho; have HC := Lib.hid hc; have HR := Lib.hid hr
  clear hg ho hc hr h0 e0 h1 e1 h2 e2 h3 e3
  go_enter Tryd.func38, Tryd.ntmps38
  go_upto_region 1 with (fail)
  rw [E1.out]
  obtain ⟨w1, hw1, v1, u1, b1⟩ := G.out
  rw [hw1]
  have V1 := Lib.hid v1; have U1 := Lib.hid u1; have B1 := Lib.hid b1
  obtain ⟨m0, m1, m2, m3, t0, t1, t2, t3⟩ := v1.cells
  clear v1 u1 b1 hw1 G
  go_wp2_with fail
  refine (right_calls op a b d w1 (HO.out.below B1.out)).mono ?_
  rintro e w2 ⟨rfl, b2⟩
  rw [HR.out]
  have V2 := Lib.hid (V1.out.below b2); have U2 := Lib.hid (U1.out.below b2); have B2 := Lib.hid (B1.out.trans (b2.mono B1.out.size))
  obtain ⟨m0, m1, m2, m3, t0, t1, t2, t3⟩ := V2.out.cells
  clear b2 V1 U1 B1
  go_wp2_with fail
  refine (of_calls op w2 (HO.out.below B2.out)).mono ?_
  rintro e w3 ⟨rfl, b3⟩
  have V3 := Lib.hid (V2.out.below b3); have U3 := Lib.hid (U2.out.below b3); have B3 := Lib.hid (B2.out.trans (b3.mono B2.out.size))
  clear b3 V2 U2 B2
  obtain ⟨s, ar, tk, ly, hov, htk, hly⟩ : ∃ (s : ByteArray) (ar tk ly : Int), opV op = .agg #[.string s, .int .i64 ar, .int .i64 tk, .int .i64 ly] ∧ ((takesI op : Nat) : Int) = tk ∧ ((laysI op : Nat) : Int) = ly := ⟨_, _, _, _, rfl, rfl, rfl⟩
  rw [hov]
  have HTK := Lib.hid htk; have HLY := Lib.hid hly
  clear hov
  clear htk hly
  go_upto_region 4 with (fail)
  obtain ⟨gq, hgq⟩ : ∃ g, w3.heap.size = g := ⟨_, rfl⟩
  have H4 : ∃ w4 : World, w3.alloc (.cells #[.string s, .int .i64 ar, .int .i64 tk, .int .i64 ly] 94) = w4 ∧ Q4 w4 gq 94 (.string s) (.int .i64 ar) (.int .i64 tk) (.int .i64 ly) ∧ Q4 w4 g 48 (.int .i64 op) (.int .i64 a) (.int .i64 b) (.int .i64 d) ∧ Q4 w4 (g + 1) 61 (.slice A0 l0.length c0) (.slice A1 l1.length c1) (.slice A2 l2.length c2) (.slice A3 l3.length c3) ∧ Below w.heap.size w w4 :=
    ⟨_, rfl, by rw [← hgq]; exact blk_new w3 _, V3.out.alloc _, U3.out.alloc _, below_alloc B3.out _⟩
  rw [hgq]
  obtain ⟨w4, hw4, q4, v4, u4, b4⟩ := H4
  rw [hw4]
  have Q4' := Lib.hid q4; have V4 := Lib.hid v4; have U4 := Lib.hid u4; have B4 := Lib.hid b4
  obtain ⟨m0, m1, m2, m3, t0, t1, t2, t3⟩ := v4.cells
  obtain ⟨o0, o1, o2, o3, r0, r1, r2, r3⟩ := q4.cells
  obtain ⟨k0, k1, k2, k3, f0, f1, f2, f3⟩ := u4.cells
  clear q4 v4 u4 b4 hw4 hgq V3 U3 B3 t0 t1 t2 t3 r0 r1 r2 r3 f0 f1 f2 f3
  go_region
  all_goals
    go_wp2_with fail
    go_ret3
    exact ⟨by show _ = Ending.returned (.tuple #[.int .i64 (takesI op : Nat), .int .i64 (laysI op : Nat), .bool true]); rw [HTK.out, HLY.out]; rfl, below_drew1 B4.out⟩
end Go.Proofs.YtfofpammnfcmiaaDoor.Ip
