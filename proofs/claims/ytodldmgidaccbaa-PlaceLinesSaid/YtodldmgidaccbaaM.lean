/- Marline, layer 02: the contracts of the lines of a text, an object in memory that is read only once it is made. Conditions: as each says. -/
import Derived.Test.YtodldmgidaccbaaProg
import Derived.Test.YtodldmgidaccbaaObj
import Derived.Test.YtodldmgidaccbaaK
import Derived.Deep.DeepMust
import Derived.Deep.RegionHeld3
import Derived.Deep.RegionLaw
import Derived.BigRegion
namespace Go.Proofs.Ytodldmgidaccbaa.M
open Go.RowKit Go.Proofs.YtodldmgidaccbaaW.PrintWords Go.Proofs.YtodldmgidaccbaaW.PrintLast Go.Proofs.YtodldmgidaccbaaW.PrintMore Go.Proofs.Ytodldmgidaccbaa.Kinds Go.Proofs.Ytodldmgidaccbaa.Obj
set_option linter.unusedVariables false
set_option linter.unusedSimpArgs false

/-- where the lines of the first n bytes begin. -/
def bg (s : ByteArray) : Nat → List Int
  | 0 => [0]
  | n + 1 => if bt s n = 10 then bg s n ++ [(n : Int) + 1] else bg s n
/-- the lines of a text. -/
def Ln (w : World) (g : Nat) (s : ByteArray) (B : List Int) : Prop :=
  ∃ v, w.heap[g]? = some (.cells #[.string s, v] 39 (0, 0)) ∧ Row (Kd.int .i64) 3 w v B
theorem info3 : (Try.prog.info? 3).map (fun i => (i.zero, i.size, i.bytes)) = some (some (.int .i64 0), 1, 8) := by kernel_rfl
theorem cells2 {w : World} {g : Nat} {v0 v1 : Value} {t : Nat} (h : w.heap[g]? = some (.cells #[v0, v1] t (0, 0))) : w.cell? ⟨g, 0, none⟩ = some v0 ∧ w.cell? ⟨g, 1, none⟩ = some v1 :=
  ⟨(blk_cell h 0).trans rfl, (blk_cell h 1).trans rfl⟩
theorem Ln.below {w w' : World} {g : Nat} {s : ByteArray} {B : List Int} (h : Ln w g s B) (hb : Below w.heap.size w w') : Ln w' g s B := by
  obtain ⟨v, hk, h0⟩ := h
  exact ⟨v, blk_below hk hb, Kd.R_below h0 hb⟩

theorem bg_len (s : ByteArray) : ∀ n, 1 ≤ (bg s n).length ∧ (bg s n).length ≤ n + 1
  | 0 => by simp [bg]
  | n + 1 => by
    have := bg_len s n
    unfold bg
    split
    · simp; omega
    · omega

set_option maxHeartbeats 1000000 in
theorem count_is (g : Nat) (s : ByteArray) (B : List Int) (w : World) (h : Ln w g s B) :
    Calls Try.prog 11 #[.pointer (some ⟨g, 0, none⟩)] w fun e w' => e = .returned (.int .i64 B.length) ∧ w' = w := by
  have hu39 := Try.underlying39
  obtain ⟨v, hb, h0⟩ := h
  obtain ⟨A0, c0, rfl⟩ := Kd.R_slice h0
  obtain ⟨k0, k1⟩ := cells2 hb
  clear hb h0
  go_enter Try.func11, Try.ntmps11
  go_wp2
  go_ret
  exact ⟨rfl, rfl⟩
theorem nil_count (w : World) : Calls Try.prog 11 #[.pointer none] w fun e w' => e = .returned (.int .i64 0) ∧ w' = w := by
  go_enter Try.func11, Try.ntmps11
  go_wp2
  go_ret
  exact ⟨rfl, rfl⟩
set_option maxHeartbeats 1000000 in
theorem has_is (g : Nat) (n : Int) (s : ByteArray) (B : List Int) (w : World) (h : Ln w g s B) :
    Calls Try.prog 15 #[.pointer (some ⟨g, 0, none⟩), .int .i64 n] w fun e w' => e = .returned (.bool (decide (1 ≤ n ∧ n ≤ B.length))) ∧ w' = w := by
  have hu39 := Try.underlying39
  obtain ⟨v, hb, h0⟩ := h
  obtain ⟨A0, c0, rfl⟩ := Kd.R_slice h0
  obtain ⟨k0, k1⟩ := cells2 hb
  clear hb h0
  by_cases hn : 1 ≤ n
  · have hn' := decide_eq_true hn
    go_enter Try.func15, Try.ntmps15
    go_wp2
    go_ret
    exact ⟨ret_bool (by simp [hn]), rfl⟩
  · have hn' := decide_eq_false hn
    go_enter Try.func15, Try.ntmps15
    go_wp2
    go_ret
    exact ⟨ret_bool (by simp [hn]), rfl⟩
theorem nil_has (n : Int) (w : World) : Calls Try.prog 15 #[.pointer none, .int .i64 n] w fun e w' => e = .returned (.bool false) ∧ w' = w := by
  go_enter Try.func15, Try.ntmps15
  go_wp2
  go_ret
  exact ⟨rfl, rfl⟩
/-- where a line ends. -/
def endN (s : ByteArray) (B : List Int) (n : Int) : Int := if n < B.length then rd B n - 1 else s.size
set_option maxHeartbeats 1000000 in
theorem end_is (g : Nat) (n : Int) (s : ByteArray) (B : List Int) (w : World) (h : Ln w g s B) (n0 : 0 ≤ n) (hB : ∀ x ∈ B, 0 ≤ x ∧ x ≤ 1000) :
    Calls Try.prog 16 #[.pointer (some ⟨g, 0, none⟩), .int .i64 n] w fun e w' => e = .returned (.int .i64 (endN s B n)) ∧ w' = w := by
  have hu39 := Try.underlying39
  obtain ⟨v, hb, h0⟩ := h
  obtain ⟨A0, c0, rfl⟩ := Kd.R_slice h0
  obtain ⟨k0, k1⟩ := cells2 hb
  by_cases hn : n < (B.length : Int)
  · have hn' := decide_eq_true hn
    obtain ⟨ad, ea, hx⟩ := Kd.at_int (Kd.R_reads' h0).2.2 n n0 hn
    cases ea
    have px := eq_true n0
    have qx := eq_true hn
    have hm : 0 ≤ rd B n ∧ rd B n ≤ 1000 := hB _ (by
      unfold rd
      rw [List.getD_eq_getElem?_getD, List.getElem?_eq_getElem (show n.toNat < B.length by omega)]
      exact List.getElem_mem _)
    have e2 : IntKind.i64.wrap (rd B n - 1) = rd B n - 1 := IntWalk.i64_in _ (by omega)
    clear hb h0 hB
    go_enter Try.func16, Try.ntmps16
    go_wp2
    go_ret
    exact ⟨ret_int (by unfold endN; rw [if_pos hn]), rfl⟩
  · have hn' := decide_eq_false hn
    clear hb h0 hB
    go_enter Try.func16, Try.ntmps16
    go_wp2
    go_ret
    exact ⟨ret_int (by unfold endN; rw [if_neg (by omega)]), rfl⟩

/-! ### Of -/
theorem size_alloc (w : World) (o : Obj) : (w.alloc o).heap.size = w.heap.size + 1 := by simp [World.alloc_eq]
theorem row_lit (W : World) : Row (Kd.int .i64) 3 (W.alloc (.cells #[.int .i64 0] 3)) (.slice (some ⟨W.heap.size, 0, none⟩) 1 1) [0] :=
  Kd.R_of_own (own_lit W 0 3 .i64 [0] (Nat.zero_le _) (by decide)) (fun _ _ => trivial)
set_option maxHeartbeats 4000000 in
set_option maxRecDepth 100000 in
theorem of_is (s : ByteArray) (w : World) (hs : s.size ≤ 400) :
    Calls Try.prog 6 #[.string s] w fun e w' => ∃ g, e = .returned (.pointer (some ⟨g, 0, none⟩)) ∧ Ln w' g s (bg s s.size) ∧ Below w.heap.size w w' := by
  have hu39 := Try.underlying39
  obtain ⟨g, hg⟩ : ∃ g, w.heap.size + 1 = g := ⟨_, rfl⟩
  have S0 : Hid (Ln ((w.alloc (Obj.cells #[.int .i64 0] 3)).alloc (Obj.cells #[.string s, .slice (some ⟨w.heap.size, 0, none⟩) 1 1] 39)) g s [0]) := by
    have e : (w.alloc (Obj.cells #[.int .i64 0] 3)).heap.size = g := (size_alloc _ _).trans hg
    have hb := blk_new (w.alloc (Obj.cells #[.int .i64 0] 3)) (Obj.cells #[.string s, .slice (some ⟨w.heap.size, 0, none⟩) 1 1] 39)
    rw [e] at hb
    exact Lib.hid ⟨_, hb, Kd.R_alloc (row_lit w) _⟩
  have B0 := Lib.hid (below_alloc (below_alloc (Below.refl w.heap.size w) (Obj.cells #[.int .i64 0] 3)) (Obj.cells #[.string s, .slice (some ⟨w.heap.size, 0, none⟩) 1 1] 39))
  have F0 : Hid (∀ k, Foot ((w.alloc (Obj.cells #[.int .i64 0] 3)).alloc (Obj.cells #[.string s, .slice (some ⟨w.heap.size, 0, none⟩) 1 1] 39)) g k → w.heap.size ≤ k) := by
    obtain ⟨v, hb, hr⟩ := S0.out
    have e : (w.alloc (Obj.cells #[.int .i64 0] 3)).heap.size = g := (size_alloc _ _).trans hg
    have hb' := blk_new (w.alloc (Obj.cells #[.int .i64 0] 3)) (Obj.cells #[.string s, .slice (some ⟨w.heap.size, 0, none⟩) 1 1] 39)
    rw [e] at hb'
    refine Lib.hid fun k hk => ?_
    rcases Foot.of hb' hk with rfl | ⟨u, hu, hq⟩
    · omega
    · simp at hu
      rcases hu with rfl | rfl
      · simp [Value.ownBlock] at hq
      · simp [Value.ownBlock] at hq; omega
  have G := Lib.hid hg
  clear hg
  go_enter Try.func6, Try.ntmps6
  go_wp2_with fail
  rw [G.out]
  generalize (w.alloc (Obj.cells #[.int .i64 0] 3)).alloc (Obj.cells #[.string s, .slice (some ⟨w.heap.size, 0, none⟩) 1 1] 39) = w3 at *
  go_loopw [11, 4] (fun i j wr => ∃ n : Nat, i = .int .i64 n ∧ n ≤ s.size ∧ Hid (Ln wr g s (bg s n)) ∧ Hid (Below w.heap.size w wr) ∧ Hid (∀ k, Foot wr g k → w.heap.size ≤ k)) (fun i _ _ => s.size - (intOf i).toNat)
  case atStart => exact ⟨0, rfl, by omega, S0, B0, F0⟩
  case round =>
    clear S0 B0 F0
    obtain ⟨n, rfl, hn, S, BB, F⟩ := hrel
    by_cases hx : (n : Int) < (s.size : Int)
    · have hx1 := decide_eq_true hx
      obtain ⟨v, hb, hr⟩ := S.out
      obtain ⟨A0, c0, rfl⟩ := Kd.R_slice hr
      obtain ⟨k0, k1⟩ := cells2 hb
      have mf := blk_frozen hb 1
      have HB := Lib.hid hb; have HR := Lib.hid hr
      obtain ⟨m, hm⟩ : ∃ m, bt s n = m := ⟨_, rfl⟩
      have HM := Lib.hid hm
      obtain ⟨z, hz⟩ : ∃ z, bg s n ++ [(n : Int) + 1] = z := ⟨_, rfl⟩
      have hlb := (bg_len s n).2
      have z1 : 1 ≤ z.length := by rw [← hz]; simp
      have z2 : z.length ≤ 140737488355328 := by rw [← hz]; simp; omega
      have hl' := Lib.hid (show ((bg s n).length + 1) * 8 ≤ 140737488355328 by omega)
      have HZ := Lib.hid hz
      have e2 : IntKind.i64.wrap ((n : Int) + 1) = (n : Int) + 1 := IntWalk.i64_in _ (by omega)
      clear hb hr hm hz hlb
      have hbs : n < s.size := by omega
      have hn0 : (0 : Int) ≤ n := by omega
      have pn := eq_true hx
      have hbt : ∀ h : n < s.size, ((s[n]'h).toNat : Int) = m := fun h => by rw [← HM.out]; exact bt_at s (n : Int) h
      by_cases h10 : m = 10
      · have b10 : (m == 10) = true := beq_iff_eq.2 h10
        have H10 := Lib.hid h10
        clear h10
        go_wp2_with ((with_reducible refine gate_builtin (b := .append) (xs := #[.tmp 22, .tmp 25]) rfl ?_); at_builtin; go_must (refine Kd.R_append (Kd.int .i64) (w0 := wr) 0 rfl (.tmp 22) (.tmp 25) 37 3 (.int .i64 0) 8 rfl Try.underlying37 info3 rfl (by decide) (by omega) (.slice A0 (bg s n).length c0) (bg s n) ((n : Int) + 1) [.int .i64 ((n : Int) + 1)] (fun _ => True) (fun _ => False) rfl rfl rfl (fun _ hk => hk.elim) (fun _ _ => trivial) ?aO ?aB (Nat.zero_le _) hl'.out ?_; (case aO => exact HR.out); (case aB => exact (Below.refl 0 wr)); intro v1' w1 ho hbl hg hat; rw [HZ.out] at ho; have mb := blk_grown HB.out hg (Kd.R_ne HR.out HB.out (by decide)); have mf1 := blk_frozen mb 1; obtain ⟨p0, p1⟩ := cells2 mb; obtain ⟨A0', c0', rfl⟩ := Kd.R_slice ho; have HO := Lib.hid ho; have HG := Lib.hid hg; have HAT := Lib.hid hat; have MB := Lib.hid mb; clear ho hg hat hbl mb))
        obtain ⟨hb2, hU⟩ := upd_field (j := 1) HB.out (by simp) (Kd.R_ne HR.out HB.out (by decide)) HG.out HAT.out
        go_roundw
        case rel =>
          refine ⟨n + 1, by push_cast; rfl, by omega, Lib.hid ⟨_, hb2, ?_⟩, Lib.hid (Ch.to_below BB.out hU.1 F.out), Lib.hid fun k hk => (hU.2 k hk).elim (F.out k) (fun e => Nat.le_trans BB.out.size e)⟩
          have e : bg s (n + 1) = z := by rw [bg, if_pos (HM.out.trans H10.out)]; exact HZ.out
          rw [e]
          exact Kd.R_set HO.out MB.out (by decide) _ _
        case measure => simp [intOf]; omega
      · have b10 : (m == 10) = false := beq_eq_false_iff_ne.2 h10
        have H10 := Lib.hid h10
        clear h10
        go_wp2_with fail
        go_roundw
        case rel =>
          refine ⟨n + 1, by push_cast; rfl, by omega, ?_, BB, F⟩
          rw [bg, if_neg (fun e => H10.out (HM.out.symm.trans e))]
          exact S
        case measure => simp [intOf]; omega
    · have hx1 := decide_eq_false hx
      have hne : n = s.size := by omega
      have HNE := Lib.hid hne
      clear hne
      go_wp2_with fail
      go_ret
      exact ⟨g, rfl, HNE.out ▸ S.out, BB.out⟩

/-! ### At's closure, and Search -/
set_option maxHeartbeats 1000000 in
theorem gt_is (g p q : Nat) (i off : Int) (s : ByteArray) (B : List Int) (w : World) (h : Ln w g s B) (hp : w.heap[p]? = some (.cells #[.pointer (some ⟨g, 0, none⟩)] 23 (0, 0))) (hq : w.heap[q]? = some (.cells #[.int .i64 off] 3 (0, 0))) (i0 : 0 ≤ i) (i1 : i < B.length) :
    Calls Try.prog 14 #[.int .i64 i, .pointer (some ⟨p, 0, none⟩), .pointer (some ⟨q, 0, none⟩)] w fun e w' => e = .returned (.bool (decide (off < rd B i))) ∧ ∃ n, w' = w.drewN n := by
  have hu39 := Try.underlying39
  obtain ⟨v, hb, h0⟩ := h
  obtain ⟨A0, c0, rfl⟩ := Kd.R_slice h0
  obtain ⟨k0, k1⟩ := cells2 hb
  have kp : w.cell? ⟨p, 0, none⟩ = some (.pointer (some ⟨g, 0, none⟩)) := (blk_cell hp 0).trans rfl
  have kq : w.cell? ⟨q, 0, none⟩ = some (.int .i64 off) := (blk_cell hq 0).trans rfl
  obtain ⟨ad, ea, hx⟩ := Kd.at_int (Kd.R_reads' h0).2.2 i i0 i1
  cases ea
  have px := eq_true i0
  have qx := eq_true i1
  clear hb h0 hp hq
  go_enter Try.func14, Try.ntmps14
  go_wp2_with fail
  go_quiet (fail)
  go_wp2_with fail
  go_ret
  exact ⟨rfl, _, rfl⟩
end Go.Proofs.Ytodldmgidaccbaa.M
