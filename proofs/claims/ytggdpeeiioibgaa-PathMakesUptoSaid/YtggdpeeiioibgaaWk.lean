/- Marline, layer 07: works() is true. Conditions: as each says. -/
import Derived.Test.YtggdpeeiioibgaaB
namespace Go.Proofs.Ytggdpeeiioibgaa.E
open Go.RowKit Go.Proofs.YtggdpeeiioibgaaW.PrintWords Go.Proofs.YtggdpeeiioibgaaW.PrintLast Go.Proofs.YtggdpeeiioibgaaW.PrintMore Go.Proofs.Ytggdpeeiioibgaa.Kinds Go.Proofs.Ytggdpeeiioibgaa.Obj
set_option linter.unusedVariables false
set_option linter.unusedSimpArgs false

/-- a row laid as one block. -/
theorem C_blk {α : Type} {d : Kd α} {w : World} {b : Nat} {cs : Array Value} {t : TypeId} (hb : w.heap[b]? = some (.cells cs t (0, 0))) (xs : List α) (hs : 0 < d.sz) (hl : xs.length ≤ 1000)
    (h : ∀ j x, xs[j]? = some x → d.K w x ((cs.toList.drop (j * d.sz)).take d.sz)) : Kd.C d w (some ⟨b, 0, none⟩) xs.length xs := by
  refine ⟨rfl, by omega, fun hp => ⟨_, rfl, fun j p hj => ⟨_, d.K_len (h j p hj), h j p hj, fun i u hu => ?_⟩⟩⟩
  have hi : i < d.sz := by have := (List.getElem?_eq_some_iff.1 hu).1; rw [List.length_take] at this; omega
  have e : (⟨b, 0, none⟩ : Addr).add (j * d.sz + i) = ⟨b, j * d.sz + i, none⟩ := add_plain b _
  rw [e, blk_cell hb]
  rw [List.getElem?_take_of_lt hi, List.getElem?_drop] at hu
  simpa using hu
theorem K_leaf (w : World) (a b : Int) : k24.K w ⟨a, b, []⟩ [.int .i64 a, .int .i64 b, .slice none 0 0] := k24_mk w ⟨a, b, []⟩ (Nat.zero_le 0) (Kd.C_nil k24 w)
def k5 : S24 := ⟨0, 5, []⟩
def k6 : S24 := ⟨0, 6, []⟩
def k1' : S24 := ⟨0, 1, []⟩
def karr : S24 := ⟨2, 0, [k5, k6]⟩
def kv : S24 := ⟨3, 0, [k1', karr]⟩
theorem ok_leaf (a b : Int) : Ok ⟨a, b, []⟩ := .mk _ (by simp) (fun y hy => by simp at hy)
theorem kv_ok : Ok kv := by
  refine .mk _ (by decide) (fun y hy => ?_)
  simp only [kv, List.mem_cons, List.not_mem_nil, or_false] at hy
  rcases hy with rfl | rfl
  · exact ok_leaf _ _
  · refine .mk _ (by decide) (fun y hy => ?_)
    simp only [karr, List.mem_cons, List.not_mem_nil, or_false] at hy
    rcases hy with rfl | rfl <;> exact ok_leaf _ _
theorem kv_reads {w : World} {b1 b2 : Nat} (h1 : w.heap[b1]? = some (.cells #[.int .i64 0, .int .i64 5, .slice none 0 0, .int .i64 0, .int .i64 6, .slice none 0 0] 24 (0, 0)))
    (h2 : w.heap[b2]? = some (.cells #[.int .i64 0, .int .i64 1, .slice none 0 0, .int .i64 2, .int .i64 0, .slice (some ⟨b1, 0, none⟩) 2 2] 24 (0, 0))) : Kd24 w (some ⟨b2, 0, none⟩) 2 kv := by
  have c1 : Kd.C k24 w (some ⟨b1, 0, none⟩) [k5, k6].length [k5, k6] := C_blk h1 [k5, k6] (by decide) (by decide) (fun j x hj => by
    match j, hj with
    | 0, hj => simp at hj; subst hj; exact K_leaf w 0 5
    | 1, hj => simp at hj; subst hj; exact K_leaf w 0 6
    | n + 2, hj => simp at hj)
  refine ⟨Nat.le_refl 2, ?_⟩
  exact C_blk h2 [k1', karr] (by decide) (by decide) (fun j x hj => by
    match j, hj with
    | 0, hj => simp at hj; subst hj; exact K_leaf w 0 1
    | 1, hj => simp at hj; subst hj; exact k24_mk w karr (c2 := 2) (Nat.le_refl 2) c1
    | n + 2, hj => simp at hj)
theorem C38 {w : World} {b : Nat} (l : List S38) (hl : l.length ≤ 1000) {cs : Array Value} {t : TypeId} (hb : w.heap[b]? = some (.cells cs t (0, 0))) (h : ∀ j x, l[j]? = some x → (cs.toList.drop (j * 2)).take 2 = [.bool x.f0, .int .i64 x.f1]) : Kd.C k38 w (some ⟨b, 0, none⟩) l.length l :=
  C_blk hb l (by decide) hl (fun j x hj => by have e : k38.sz = 2 := rfl; rw [e, h j x hj]; exact k38_mk w x)
theorem wat : at_ kv [⟨true, 1⟩, ⟨false, 0⟩] = (k5, 0) := by rfl
theorem wset : set_ kv ⟨0, 9, []⟩ [⟨true, 0⟩] = (⟨3, 0, [⟨0, 9, []⟩, karr]⟩, 0) := by
  refine set_yes kv ⟨0, 9, []⟩ k1' [⟨true, 0⟩] rfl ⟨3, 0, [⟨0, 9, []⟩, karr]⟩ rfl ?_
  have e : sz (⟨3, 0, [⟨0, 9, []⟩, karr]⟩ : S24) = 5 := rfl
  unfold szw
  rw [e]
  unfold wrap64
  omega
theorem w_at (W : World) (b o : Nat) (h : Kd24 W (some ⟨b, 0, none⟩) 2 kv) (ho : W.heap[o]? = some (.cells #[.bool true, .int .i64 1, .bool false, .int .i64 0] 38 (0, 0))) :
    Calls Try.prog 18 #[.agg #[.int .i64 3, .int .i64 0, .slice (some ⟨b, 0, none⟩) 2 2], .slice (some ⟨o, 0, none⟩) 2 2] W fun e w' => ∃ B d, e = .returned (.tuple #[.agg #[.int .i64 0, .int .i64 5, .slice B 0 d], .int .i64 0]) ∧ Kd24 w' B d k5 ∧ Below W.heap.size W w' := by
  refine (at24 kv (some ⟨b, 0, none⟩) 2 [⟨true, 1⟩, ⟨false, 0⟩] (some ⟨o, 0, none⟩) 2 W h (by decide) (C38 _ (by decide) ho (fun j x hj => ?_))).mono ?_
  · match j, hj with
    | 0, hj => simp at hj; subst hj; rfl
    | 1, hj => simp at hj; subst hj; rfl
    | n + 2, hj => simp at hj
  · rintro e w' ⟨B, d, rfl, h1, h2⟩
    rw [wat] at h1 ⊢
    exact ⟨B, d, rfl, h1, h2⟩
theorem w_set (W : World) (b o : Nat) (h : Kd24 W (some ⟨b, 0, none⟩) 2 kv) (ho : W.heap[o]? = some (.cells #[.bool true, .int .i64 0] 38 (0, 0))) :
    Calls Try.prog 20 #[.agg #[.int .i64 3, .int .i64 0, .slice (some ⟨b, 0, none⟩) 2 2], .agg #[.int .i64 0, .int .i64 9, .slice none 0 0], .slice (some ⟨o, 0, none⟩) 1 1] W fun e w' => ∃ B d, e = .returned (.tuple #[.agg #[.int .i64 3, .int .i64 0, .slice B 2 d], .int .i64 0]) ∧ Kd24 w' B d ⟨3, 0, [⟨0, 9, []⟩, karr]⟩ ∧ Below W.heap.size W w' := by
  refine (set24 kv (some ⟨b, 0, none⟩) 2 ⟨0, 9, []⟩ none 0 [⟨true, 0⟩] (some ⟨o, 0, none⟩) 1 W kv_ok (ok_leaf _ _) h ⟨Nat.zero_le _, Kd.C_nil k24 W⟩ (by decide) (C38 _ (by decide) ho (fun j x hj => ?_))).mono ?_
  · match j, hj with
    | 0, hj => simp at hj; subst hj; rfl
    | n + 1, hj => simp at hj
  · rintro e w' ⟨B, d, rfl, h1, h2⟩
    rw [wset] at h1 ⊢
    exact ⟨B, d, rfl, h1, h2⟩
set_option maxHeartbeats 1000000 in
theorem w_len (W : World) (A : Option Addr) : Calls Try.prog 27 #[.agg #[.int .i64 3, .int .i64 0, .slice A 2 2]] W fun e w' => e = .returned (.int .i64 0) ∧ Below W.heap.size W w' := by
  have hu24 := Try.underlying24
  go_enter Try.func27, Try.ntmps27
  go_wp2_with fail
  go_ret
  exact ⟨rfl, below_alloc (Below.refl _ _) _⟩

set_option maxHeartbeats 8000000 in
set_option maxRecDepth 100000 in
theorem works_is (w : World) : Calls Try.prog 14 #[] w fun e w' => e = .returned (.bool true) ∧ Below w.heap.size w w' := by
  have hu24 := Try.underlying24
  have hu38 := Try.underlying38
  obtain ⟨b1, hb1⟩ : ∃ b, w.heap.size = b := ⟨_, rfl⟩
  obtain ⟨b2, hb2⟩ : ∃ b, w.heap.size + 1 = b := ⟨_, rfl⟩
  obtain ⟨b3, hb3⟩ : ∃ b, w.heap.size + 1 + 1 = b := ⟨_, rfl⟩
  have H0 : ∃ w3 : World, ((w.alloc (.cells #[.int .i64 0, .int .i64 5, .slice none 0 0, .int .i64 0, .int .i64 6, .slice none 0 0] 24)).alloc (.cells #[.int .i64 0, .int .i64 1, .slice none 0 0, .int .i64 2, .int .i64 0, .slice (some ⟨b1, 0, none⟩) 2 2] 24)).alloc (.cells #[.int .i64 3, .int .i64 0, .slice (some ⟨b2, 0, none⟩) 2 2] 24) = w3 ∧
      w3.heap[b1]? = some (.cells #[.int .i64 0, .int .i64 5, .slice none 0 0, .int .i64 0, .int .i64 6, .slice none 0 0] 24 (0, 0)) ∧ w3.heap[b2]? = some (.cells #[.int .i64 0, .int .i64 1, .slice none 0 0, .int .i64 2, .int .i64 0, .slice (some ⟨b1, 0, none⟩) 2 2] 24 (0, 0)) ∧ Var w3 b3 kv (some ⟨b2, 0, none⟩) 2 ∧ Below w.heap.size w w3 := by
    refine ⟨_, rfl, ?_, ?_, ?_, below_alloc (below_alloc (below_alloc (Below.refl _ _) _) _) _⟩
    · rw [← hb1]; exact blk_alloc (blk_alloc (blk_new _ _) _) _
    · rw [← hb2, ← size_al w (.cells #[.int .i64 0, .int .i64 5, .slice none 0 0, .int .i64 0, .int .i64 6, .slice none 0 0] 24)]; exact blk_alloc (blk_new _ _) _
    · rw [← hb3, ← size_al w (.cells #[.int .i64 0, .int .i64 5, .slice none 0 0, .int .i64 0, .int .i64 6, .slice none 0 0] 24), ← size_al _ (.cells #[.int .i64 0, .int .i64 1, .slice none 0 0, .int .i64 2, .int .i64 0, .slice (some ⟨b1, 0, none⟩) 2 2] 24)]; exact blk_new _ _
  have G := Lib.hid H0
  have E1 := Lib.hid hb1; have E2 := Lib.hid hb2; have E3 := Lib.hid hb3
  have wb3 : w.heap.size ≤ b3 := by omega
  clear H0 hb1 hb2 hb3
  go_enter Try.func14, Try.ntmps14
  go_upto_region 2 with (fail)
  rw [E3.out, E2.out, E1.out]
  obtain ⟨w3, hw3, h1, h2, v3, b3'⟩ := G.out
  rw [hw3]
  have KR := Lib.hid (kv_reads h1 h2); have V3 := Lib.hid v3; have B3 := Lib.hid b3'
  clear G h1 h2 v3 b3' hw3
  obtain ⟨k0, k1, k2, f0, f1, f2⟩ := V3.out.cells
  simp only [kv, List.length_cons, List.length_nil] at k0 k1 k2
  go_wp2_with fail
  refine (w_at _ b2 w3.heap.size (KR.out.below (below_alloc (Below.refl _ _) _)) (blk_new _ _)).mono ?_
  rintro e w4 ⟨B, d, rfl, h4, b4⟩
  have V4 := Lib.hid (Var.below (Var.alloc V3.out _) b4)
  have B4 := Lib.hid (Below.trans (below_alloc B3.out _) (Below.mono b4 (below_alloc B3.out _).size))
  have KR4 := Lib.hid ((KR.out.below (below_alloc (Below.refl _ _) _)).below b4)
  have X4 := Lib.hid h4
  clear h4 b4 k0 k1 k2 f0 f1 f2 V3 KR B3
  go_upto_region 3 with (fail)
  obtain ⟨g4, hg4⟩ : ∃ g, w4.heap.size = g := ⟨_, rfl⟩
  have H5 : ∃ w5 : World, w4.alloc (.cells #[.int .i64 0, .int .i64 5, .slice B 0 d] 24) = w5 ∧ Var w5 b3 kv (some ⟨b2, 0, none⟩) 2 ∧ Var w5 g4 k5 B d ∧ Kd24 w5 (some ⟨b2, 0, none⟩) 2 kv ∧ Below w.heap.size w w5 :=
    ⟨_, rfl, Var.alloc V4.out _, by rw [← hg4]; exact blk_new w4 _, KR4.out.below (below_alloc (Below.refl _ _) _), below_alloc B4.out _⟩
  have wg4 : w.heap.size ≤ g4 := by have := B4.out.size; omega
  rw [hg4]
  obtain ⟨w5, hw5, v5, x5, kr5, b5⟩ := H5
  rw [hw5]
  have V5 := Lib.hid v5; have X5 := Lib.hid x5; have KR5 := Lib.hid kr5; have B5 := Lib.hid b5
  clear hg4 hw5 v5 x5 kr5 b5 V4 B4 KR4 X4
  obtain ⟨k0, k1, k2, f0, f1, f2⟩ := V5.out.cells
  simp only [kv, List.length_cons, List.length_nil] at k0 k1 k2
  go_wp2_with fail
  refine (w_set _ b2 w5.heap.size (KR5.out.below (below_alloc (Below.refl _ _) _)) (blk_new _ _)).mono ?_
  rintro e w6 ⟨B', d', rfl, h6, b6⟩
  have V6 := Lib.hid (Var.below (Var.alloc V5.out _) b6)
  have X6 := Lib.hid (Var.below (Var.alloc X5.out _) b6)
  have B6 := Lib.hid (Below.trans (below_alloc B5.out _) (Below.mono b6 (below_alloc B5.out _).size))
  have Y6 := Lib.hid h6
  clear h6 b6 k0 k1 k2 f0 f1 f2 V5 X5 KR5 B5
  go_upto_region 4 with (fail)
  obtain ⟨g6, hg6⟩ : ∃ g, w6.heap.size = g := ⟨_, rfl⟩
  have H7 : ∃ w7 : World, w6.alloc (.cells #[.int .i64 3, .int .i64 0, .slice B' 2 d'] 24) = w7 ∧ Var w7 b3 kv (some ⟨b2, 0, none⟩) 2 ∧ Var w7 g4 k5 B d ∧ Var w7 g6 ⟨3, 0, [⟨0, 9, []⟩, karr]⟩ B' d' ∧ Kd24 w7 B' d' ⟨3, 0, [⟨0, 9, []⟩, karr]⟩ ∧ Below w.heap.size w w7 :=
    ⟨_, rfl, Var.alloc V6.out _, Var.alloc X6.out _, by rw [← hg6]; exact blk_new w6 _, Y6.out.below (below_alloc (Below.refl _ _) _), below_alloc B6.out _⟩
  rw [hg6]
  obtain ⟨w7, hw7, v7, x7, y7, z7, b7⟩ := H7
  rw [hw7]
  have V7 := Lib.hid v7; have X7 := Lib.hid x7; have Y7 := Lib.hid y7; have Z7 := Lib.hid z7; have B7 := Lib.hid b7
  clear hg6 hw7 v7 x7 y7 z7 b7 V6 X6 Y6 B6
  obtain ⟨k0, k1, k2, f0, f1, f2⟩ := X7.out.cells
  simp only [k5, List.length_nil] at k0 k1 k2
  go_wp2_with fail
  refine (fill_no (-1) k5 B d _ (by decide)).mono ?_
  rintro e w8 ⟨rfl, b8⟩
  have V8 := Lib.hid (Var.below V7.out b8)
  have X8 := Lib.hid (Var.below X7.out b8)
  have Y8 := Lib.hid (Var.below Y7.out b8)
  have Z8 := Lib.hid (Z7.out.below b8)
  have B8 := Lib.hid (Below.trans B7.out (Below.mono b8 B7.out.size))
  clear b8 k0 k1 k2 f0 f1 f2 V7 X7 Y7 Z7 B7
  go_upto_region 5 with (fail)
  have H9 : ∃ w9 : World, w8.alloc (.cells #[.int .i64 0, .int .i64 0, .slice none 0 0] 24) = w9 ∧ Var w9 b3 kv (some ⟨b2, 0, none⟩) 2 ∧ Var w9 g4 k5 B d ∧ Var w9 g6 ⟨3, 0, [⟨0, 9, []⟩, karr]⟩ B' d' ∧ Kd24 w9 B' d' ⟨3, 0, [⟨0, 9, []⟩, karr]⟩ ∧ Below w.heap.size w w9 :=
    ⟨_, rfl, Var.alloc V8.out _, Var.alloc X8.out _, Var.alloc Y8.out _, Z8.out.below (below_alloc (Below.refl _ _) _), below_alloc B8.out _⟩
  obtain ⟨w9, hw9, v9, x9, y9, z9, b9⟩ := H9
  rw [hw9]
  have V9 := Lib.hid v9; have Z9 := Lib.hid z9; have B9 := Lib.hid b9
  obtain ⟨k0, k1, k2, _⟩ := v9.cells
  obtain ⟨m0, m1, m2, _⟩ := x9.cells
  obtain ⟨n0, n1, n2, _⟩ := y9.cells
  simp only [kv, List.length_cons, List.length_nil] at k0 k1 k2
  simp only [k5, List.length_nil] at m0 m1 m2
  simp only [List.length_cons, List.length_nil] at n0 n1 n2
  obtain ⟨ad, B2, d2, ea, x0, x1, x2, xl, xr⟩ := at_T24 Z9.out.2 0 (Int.le_refl 0) (by decide)
  cases ea
  have ex : rd_T24 [⟨0, 9, []⟩, karr] 0 = (⟨0, 9, []⟩ : S24) := rfl
  simp only [ex, Int.toNat_zero, Nat.zero_mul] at x0 x1
  have x1' : w9.cell? ⟨ad.block, ad.off + 1, none⟩ = some (.int .i64 9) := x1
  clear xl xr x2 ex x1 hw9 v9 x9 y9 z9 b9 V8 X8 Y8 Z8 B8
  go_wp2_with fail
  refine (w_len _ _).mono ?_
  rintro e w10 ⟨rfl, b10⟩
  have B10 := Lib.hid (Below.trans B9.out (Below.mono b10 B9.out.size))
  clear b10
  go_wp2_with fail
  go_ret
  exact ⟨rfl, B10.out⟩
end Go.Proofs.Ytggdpeeiioibgaa.E
