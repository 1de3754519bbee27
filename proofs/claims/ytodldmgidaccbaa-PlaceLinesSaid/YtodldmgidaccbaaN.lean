/- Marline, layer 02: Search with At's closure, and At. Conditions: as each says. -/
import Derived.Test.YtodldmgidaccbaaM
namespace Go.Proofs.Ytodldmgidaccbaa.M
open Go.RowKit Go.Proofs.YtodldmgidaccbaaW.PrintWords Go.Proofs.YtodldmgidaccbaaW.PrintLast Go.Proofs.YtodldmgidaccbaaW.PrintMore Go.Proofs.Ytodldmgidaccbaa.Kinds Go.Proofs.Ytodldmgidaccbaa.Obj
attribute [local go_sem] max2_int min2_int max_two min_two
set_option linter.unusedVariables false
set_option linter.unusedSimpArgs false

theorem Ln.drewN {w : World} {g : Nat} {s : ByteArray} {B : List Int} (h : Ln w g s B) (n : Nat) : Ln (w.drewN n) g s B := h.below (pw_below_drewN (Below.refl _ _) n)
set_option maxHeartbeats 4000000 in
set_option maxRecDepth 100000 in
theorem search_is (g p q : Nat) (off : Int) (s : ByteArray) (B : List Int) (w : World) (h : Ln w g s B) (hp : w.heap[p]? = some (.cells #[.pointer (some ⟨g, 0, none⟩)] 23 (0, 0))) (hq : w.heap[q]? = some (.cells #[.int .i64 off] 3 (0, 0))) (hl : B.length ≤ 1000) :
    Calls Try.prog 13 #[.int .i64 B.length, .func (.func 14) #[] #[.pointer (some ⟨p, 0, none⟩), .pointer (some ⟨q, 0, none⟩)]] w fun e w' => ∃ k : Int, e = .returned (.int .i64 k) ∧ 0 ≤ k ∧ k ≤ B.length ∧ (0 < k → rd B (k - 1) ≤ off) ∧ (k < B.length → off < rd B k) ∧ ∃ n, w' = w.drewN n := by
  have H := Lib.hid h; have HP := Lib.hid hp; have HQ := Lib.hid hq
  clear h hp hq
  go_enter Try.func13, Try.ntmps13
  go_wp2_with fail
  go_loopw [5, 6, 7] (fun i j m wr => ∃ lo hi : Int, i = .int .i64 lo ∧ j = .int .i64 hi ∧ 0 ≤ lo ∧ lo ≤ hi ∧ hi ≤ B.length ∧ Hid (0 < lo → rd B (lo - 1) ≤ off) ∧ Hid (hi < B.length → off < rd B hi) ∧ ∃ n, wr = w.drewN n) (fun i j _ _ => (intOf j - intOf i).toNat)
  case atStart => exact ⟨0, B.length, rfl, rfl, by omega, by omega, by omega, Lib.hid (by omega), Lib.hid (by omega), 0, rfl⟩
  case round =>
    obtain ⟨lo, hi, rfl, rfl, l0, lh, hl2, P, Q, n, rfl⟩ := hrel
    by_cases hx : lo < hi
    · have hx1 := decide_eq_true hx
      have e1 : IntKind.i64.wrap (lo + hi) = lo + hi := IntWalk.i64_in _ (by omega)
      have e3 : IntKind.u64.wrap (lo + hi) = lo + hi := IntWalk.u64_in _ (by omega)
      go_wp2_with fail
      have m0 : lo ≤ (lo + hi) / 2 := by omega
      have m1 : (lo + hi) / 2 < hi := by omega
      generalize (lo + hi) / 2 = m at *
      have e4 : IntKind.i64.wrap (m + 1) = m + 1 := IntWalk.i64_in _ (by omega)
      refine (gt_is g p q m off s B _ (H.out.drewN n) (by exact HP.out) (by exact HQ.out) (by omega) (by omega)).mono ?_
      rintro e w' ⟨rfl, n2, rfl⟩
      by_cases hc : off < rd B m
      · have hd : decide (off < rd B m) = true := decide_eq_true hc
        rw [hd]
        have HC := Lib.hid hc
        clear hc hd
        go_wp2_with fail
        go_roundw
        case rel => exact ⟨lo, m, rfl, rfl, l0, m0, by omega, P, Lib.hid (fun _ => HC.out), _, rfl⟩
        case measure => simp [intOf]; omega
      · have hd : decide (off < rd B m) = false := decide_eq_false hc
        rw [hd]
        have HC := Lib.hid hc
        clear hc hd
        go_wp2_with fail
        go_roundw
        case rel => exact ⟨m + 1, hi, rfl, rfl, by omega, by omega, hl2, Lib.hid (fun _ => by rw [show m + 1 - 1 = m by omega]; have := HC.out; omega), Q, _, rfl⟩
        case measure => simp [intOf]; omega
    · have hx1 := decide_eq_false hx
      have he : lo = hi := by omega
      have HE := Lib.hid he
      clear he
      go_wp2_with fail
      go_ret
      exact ⟨lo, rfl, l0, by omega, P.out, HE.out ▸ Q.out, n, rfl⟩

set_option maxHeartbeats 8000000 in
set_option maxRecDepth 100000 in
theorem at_is (g : Nat) (off o m : Int) (s : ByteArray) (B : List Int) (w : World) (h : Ln w g s B) (hl : B.length ≤ 1000) (hl1 : 1 ≤ B.length) (hs : s.size ≤ 1000) (hB : ∀ x ∈ B, 0 ≤ x ∧ x ≤ 1000) (hz : rd B 0 = 0) (hmm : (if (s.size : Int) < off then (s.size : Int) else off) = m) (ho : (if 0 < m then m else 0) = o) :
    Calls Try.prog 7 #[.pointer (some ⟨g, 0, none⟩), .int .i64 off] w fun e w' => ∃ k : Int, e = .returned (.tuple #[.int .i64 k, .int .i64 (o - rd B (k - 1) + 1)]) ∧ 1 ≤ k ∧ k ≤ B.length ∧ rd B (k - 1) ≤ o ∧ (k < B.length → o < rd B k) ∧ Below w.heap.size w w' := by
  have hu39 := Try.underlying39
  have H0 := Lib.hid h
  have HO := Lib.hid ho
  have HBB := Lib.hid hB
  have HZ := Lib.hid hz
  have o0 : 0 ≤ o := by split at ho <;> omega
  have o1 : o ≤ 1000 := by split at ho <;> split at hmm <;> omega
  have HM := Lib.hid hmm
  clear hmm
  clear h ho hB hz
  go_enter Try.func7, Try.ntmps7
  go_wp2_with fail
  obtain ⟨p, hp⟩ : ∃ p, w.heap.size = p := ⟨_, rfl⟩
  obtain ⟨q, hq⟩ : ∃ q, w.heap.size + 1 = q := ⟨_, rfl⟩
  have P2 := Lib.hid (show ((w.alloc (Obj.cells #[.pointer (some ⟨g, 0, none⟩)] 23)).alloc (Obj.cells #[.int .i64 off] 3)).heap[p]? = some (.cells #[.pointer (some ⟨g, 0, none⟩)] 23 (0, 0)) from by rw [← hp]; exact blk_alloc (blk_new _ _) _)
  have Q2 := Lib.hid (show ((w.alloc (Obj.cells #[.pointer (some ⟨g, 0, none⟩)] 23)).alloc (Obj.cells #[.int .i64 off] 3)).heap[q]? = some (.cells #[.int .i64 off] 3 (0, 0)) from by rw [← hq, ← size_alloc w (Obj.cells #[.pointer (some ⟨g, 0, none⟩)] 23)]; exact blk_new _ _)
  have B2 := Lib.hid (below_alloc (below_alloc (Below.refl w.heap.size w) (Obj.cells #[.pointer (some ⟨g, 0, none⟩)] 23)) (Obj.cells #[.int .i64 off] 3))
  have H2 := Lib.hid (H0.out.below B2.out)
  have pq : p ≠ q := by omega
  have qw : w.heap.size ≤ q := by omega
  rw [hq, hp]
  generalize (w.alloc (Obj.cells #[.pointer (some ⟨g, 0, none⟩)] 23)).alloc (Obj.cells #[.int .i64 off] 3) = w2 at *
  clear hp hq
  have kp : w2.cell? ⟨p, 0, none⟩ = some (.pointer (some ⟨g, 0, none⟩)) := (blk_cell P2.out 0).trans rfl
  have kq : w2.cell? ⟨q, 0, none⟩ = some (.int .i64 off) := (blk_cell Q2.out 0).trans rfl
  have fq := blk_frozen Q2.out 0
  obtain ⟨v, hb, h0⟩ := H2.out
  have gq : g ≠ q := blk_ne hb Q2.out (by decide)
  obtain ⟨A0, c0, rfl⟩ := Kd.R_slice h0
  obtain ⟨k0, k1⟩ := cells2 hb
  clear hb h0
  go_region
  rw [HM.out, HO.out]
  have B3 := Lib.hid (show Below w.heap.size w (w2.setCell ⟨q, 0, none⟩ (.int .i64 o)).drew from pw_below_drewN (B2.out.setCell (p := ⟨q, 0, none⟩) qw (.int .i64 o)) 1)
  have H3 := Lib.hid (H0.out.below B3.out)
  have Q3 := Lib.hid (show (w2.setCell ⟨q, 0, none⟩ (.int .i64 o)).drew.heap[q]? = some (.cells #[.int .i64 o] 3 (0, 0)) from blk_set Q2.out 0 (.int .i64 o))
  have P3 := Lib.hid (show (w2.setCell ⟨q, 0, none⟩ (.int .i64 o)).drew.heap[p]? = some (.cells #[.pointer (some ⟨g, 0, none⟩)] 23 (0, 0)) from (Below.heap_setCell _ _ _ _ pq).trans P2.out)
  clear kp kq fq k0 k1 P2 Q2 B2 H2
  generalize (w2.setCell ⟨q, 0, none⟩ (.int .i64 o)).drew = w3 at *
  have kp : w3.cell? ⟨p, 0, none⟩ = some (.pointer (some ⟨g, 0, none⟩)) := (blk_cell P3.out 0).trans rfl
  have kq : w3.cell? ⟨q, 0, none⟩ = some (.int .i64 o) := (blk_cell Q3.out 0).trans rfl
  obtain ⟨v, hb, h0⟩ := H3.out
  obtain ⟨A1, c1, rfl⟩ := Kd.R_slice h0
  obtain ⟨k0, k1⟩ := cells2 hb
  have HR := Lib.hid h0
  clear hb h0
  go_wp2_with fail
  refine (search_is g p q o s B _ H3.out P3.out Q3.out hl).mono ?_
  rintro e w4 ⟨k, rfl, kk0, kk1, hP, hQ, n, rfl⟩
  have kk : 1 ≤ k := by
    rcases Int.lt_or_le 0 k with hk | hk
    · omega
    · have e : k = 0 := by omega
      subst e
      have := hQ (by omega)
      rw [HZ.out] at this
      omega
  have HP := Lib.hid (hP (by omega)); have HQ := Lib.hid hQ
  clear hP hQ
  have j0 : 0 ≤ k - 1 := by omega
  have j1 : k - 1 < (B.length : Int) := by omega
  obtain ⟨ad, ea, hx⟩ := Kd.at_int (Kd.R_reads' HR.out).2.2 (k - 1) j0 j1
  cases ea
  have hm : 0 ≤ rd B (k - 1) ∧ rd B (k - 1) ≤ 1000 := HBB.out _ (by
    unfold rd
    rw [List.getD_eq_getElem?_getD, List.getElem?_eq_getElem (show (k - 1).toNat < B.length by omega)]
    exact List.getElem_mem _)
  obtain ⟨u, hu⟩ : ∃ u, rd B (k - 1) = u := ⟨_, rfl⟩
  rw [hu] at hx hm
  rw [show (k - 1).toNat = k.toNat - 1 by omega] at hx
  have HU := Lib.hid hu
  have px := eq_true j0
  have qx := eq_true j1
  have e1 : IntKind.i64.wrap (k - 1) = k - 1 := IntWalk.i64_in _ (by omega)
  have e2 : IntKind.i64.wrap (o - u) = o - u := IntWalk.i64_in _ (by omega)
  have e3 : IntKind.i64.wrap (o - u + 1) = o - u + 1 := IntWalk.i64_in _ (by omega)
  clear hu
  go_wp2_with fail
  go_quiet (fail)
  go_wp2_with fail
  go_ret2
  refine ⟨k, by rw [HU.out]; rfl, kk, kk1, HP.out, HQ.out, pw_below_drewN (pw_below_drewN B3.out _) _⟩
end Go.Proofs.Ytodldmgidaccbaa.M
