/- Marline, layer 27: the contracts of Mark, Jump, New and Clone, for an assembly in memory that owns its three rows. Conditions: as each says. -/
import Derived.Test.YtchmcmbglaffdaaM
import Derived.Deep.RegionHeld3
import Derived.Deep.RegionLaw
import Derived.Deep.AppendLies
import Derived.BigRegion
namespace Go.Proofs.Ytchmcmbglaffdaa.M
open Go.RowKit Go.Proofs.YtchmcmbglaffdaaW.PrintWords Go.Proofs.YtchmcmbglaffdaaW.PrintLast Go.Proofs.YtchmcmbglaffdaaW.PrintMore Go.Proofs.Ytchmcmbglaffdaa.Kinds Go.Proofs.Ytchmcmbglaffdaa.Obj
set_option linter.unusedVariables false
set_option linter.unusedSimpArgs false

theorem As.drew {w : World} {g : Nat} {L : List S36} {lb : List Int} {J : List S49} (h : As w g L lb J) : As w.drew g L lb J := by
  obtain ⟨v0, v1, v2, hb, h0, h1, h2⟩ := h
  exact ⟨v0, v1, v2, hb, Kd.R_drew h0, Kd.R_drew h1, Kd.R_drew h2⟩
theorem As.drewN {w : World} {g : Nat} {L : List S36} {lb : List Int} {J : List S49} (h : As w g L lb J) (n : Nat) : As (w.drewN n) g L lb J := by
  obtain ⟨v0, v1, v2, hb, h0, h1, h2⟩ := h
  exact ⟨v0, v1, v2, hb, Kd.R_drewN h0 n, Kd.R_drewN h1 n, Kd.R_drewN h2 n⟩

set_option maxHeartbeats 2000000 in
theorem mark_no2 (g : Nat) (n : Int) (L : List S36) (lb : List Int) (J : List S49) (w : World) (h : As w g L lb J) (n0 : 0 ≤ n) (n1 : n < lb.length) (hm : rd lb n ≠ -1) :
    Calls Try.prog 8 #[.pointer (some ⟨g, 0, none⟩), .int .i64 n] w fun e w' => e = .returned (.bool false) ∧ w' = w := by
  have hu47 := Try.underlying47
  have e : (decide (0 ≤ n) && decide (n < (lb.length : Int))) = true := by simp [n0, n1]
  have E := Lib.hid e; have H := Lib.hid h
  obtain ⟨v0, v1, v2, hb, h0, h1, h2⟩ := h
  obtain ⟨A1, c1, rfl⟩ := Kd.R_slice h1
  obtain ⟨k0, k1, k2⟩ := cells3 hb
  obtain ⟨ad, ea, hx⟩ := Kd.at_int (Kd.R_reads' h1).2.2 n n0 n1
  cases ea
  have px := eq_true n0
  have qx := eq_true n1
  have mb : (rd lb n != -1) = true := bne_iff_ne.2 hm
  clear e hb h0 h1 h2 hm
  go_enter Try.func8, Try.ntmps8
  go_wp2_with fail
  refine (has_is g n L lb J _ H.out).mono ?_
  rintro e w' ⟨rfl, rfl⟩
  rw [E.out]
  go_wp2_with fail
  go_ret
  exact ⟨rfl, rfl⟩

set_option maxHeartbeats 4000000 in
theorem mark_yes (g : Nat) (n : Int) (L : List S36) (lb : List Int) (J : List S49) (w : World) (h : As w g L lb J) (n0 : 0 ≤ n) (n1 : n < lb.length) (hm : rd lb n = -1) :
    Calls Try.prog 8 #[.pointer (some ⟨g, 0, none⟩), .int .i64 n] w fun e w' => e = .returned (.bool true) ∧ As w' g L (lb.set n.toNat L.length) J ∧ Upd g w w' := by
  have hu47 := Try.underlying47
  have e : (decide (0 ≤ n) && decide (n < (lb.length : Int))) = true := by simp [n0, n1]
  have E := Lib.hid e; have H := Lib.hid h
  obtain ⟨v0, v1, v2, hb, h0, h1, h2⟩ := h
  obtain ⟨A0, c0, rfl⟩ := Kd.R_slice h0
  obtain ⟨A1, c1, rfl⟩ := Kd.R_slice h1
  obtain ⟨b, rfl⟩ := row_some h1 (by omega)
  obtain ⟨k0, k1, k2⟩ := cells3 hb
  obtain ⟨hx, hf⟩ := Kd.R_cell (0 : Int) h1 n n0 n1
  rw [show Value.int .i64 (rdOf 0 lb n) = Value.int .i64 (-1) from congrArg _ hm] at hx
  have hbg : b ≠ g := fun e => Kd.R_ne h1 hb (by decide) (by rw [e]; rfl)
  have px := eq_true n0
  have qx := eq_true n1
  have n0' := decide_eq_true n0
  have n1' := decide_eq_true n1
  have HB := Lib.hid hb; have H0 := Lib.hid h0; have H1 := Lib.hid h1; have H2 := Lib.hid h2
  clear e hb h0 h1 h2 hm
  go_enter Try.func8, Try.ntmps8
  go_wp2_with fail
  refine (has_is g n L lb J _ H.out).mono ?_
  rintro e w' ⟨rfl, rfl⟩
  rw [E.out]
  go_wp2_with fail
  go_region
  all_goals go_wp2
  all_goals go_ret
  obtain ⟨hp, hg⟩ := Kd.R_put H1.out n (L.length : Int)
  obtain ⟨hb2, hU⟩ := upd_row HB.out (by simp) (Kd.R_ne H1.out HB.out (by decide)) hg
  refine ⟨rfl, As.drew ⟨_, _, _, hb2, ?_, ?_, ?_⟩, hU.drew⟩
  · exact Kd.R_over' H0.out (Kd.R_typed H1.out) (by decide) hg
  · exact hp
  · exact Kd.R_over' H2.out (Kd.R_typed H1.out) (by decide) hg

/-! ### New -/
set_option maxHeartbeats 1000000 in
theorem new_is (w : World) : Calls Try.prog 6 #[] w fun e w' => e = .returned (.pointer (some ⟨w.heap.size, 0, none⟩)) ∧ As w' w.heap.size [] [] [] ∧ Below w.heap.size w w' ∧ ∀ k, Foot w' w.heap.size k → w.heap.size ≤ k := by
  have hu47 := Try.underlying47
  go_enter Try.func6, Try.ntmps6
  go_wp2
  go_ret
  refine ⟨rfl, ⟨_, _, _, blk_new _ _, Kd.R_nil _ _ _ _ _, Kd.R_nil _ _ _ _ _, Kd.R_nil _ _ _ _ _⟩, below_alloc (Below.refl _ _) _, fun k hk => ?_⟩
  rcases Foot.of (blk_new _ _) hk with rfl | ⟨v, hv, hk⟩
  · exact Nat.le_refl _
  · simp at hv
    subst hv
    simp [Value.ownBlock] at hk

/-! ### Jump -/
set_option maxHeartbeats 2000000 in
theorem jump_no (g : Nat) (op n at_ : Int) (L : List S36) (lb : List Int) (J : List S49) (w : World) (h : As w g L lb J) (hn : ¬ (0 ≤ n ∧ n < lb.length ∧ (op = 11 ∨ op = 12))) :
    Calls Try.prog 9 #[.pointer (some ⟨g, 0, none⟩), .int .i64 op, .int .i64 n, .int .i64 at_] w fun e w' => e = .returned (.bool false) ∧ w' = w := by
  have H := Lib.hid h
  clear h
  by_cases hb : 0 ≤ n ∧ n < lb.length
  · have e : (decide (0 ≤ n) && decide (n < (lb.length : Int))) = true := by simp [hb]
    have E := Lib.hid e
    have o1 : (op != 11) = true := bne_iff_ne.2 (fun h => hn ⟨hb.1, hb.2, .inl h⟩)
    have o2 : (op != 12) = true := bne_iff_ne.2 (fun h => hn ⟨hb.1, hb.2, .inr h⟩)
    clear e hb hn
    go_enter Try.func9, Try.ntmps9
    go_wp2_with fail
    refine (has_is g n L lb J _ H.out).mono ?_
    rintro e w' ⟨rfl, rfl⟩
    rw [E.out]
    go_wp2_with fail
    go_ret
    exact ⟨rfl, rfl⟩
  · have e : (decide (0 ≤ n) && decide (n < (lb.length : Int))) = false := by
      by_cases h1 : 0 ≤ n
      · by_cases h2 : n < (lb.length : Int)
        · exact absurd ⟨h1, h2⟩ hb
        · simp [h2]
      · simp [h1]
    have E := Lib.hid e
    clear e hb hn
    go_enter Try.func9, Try.ntmps9
    go_wp2_with fail
    refine (has_is g n L lb J _ H.out).mono ?_
    rintro e w' ⟨rfl, rfl⟩
    rw [E.out]
    go_wp2_with fail
    go_ret
    exact ⟨rfl, rfl⟩

set_option maxHeartbeats 8000000 in
theorem jump_yes (g : Nat) (op n at_ : Int) (L : List S36) (lb : List Int) (J : List S49) (w : World) (h : As w g L lb J) (n0 : 0 ≤ n) (n1 : n < lb.length) (hop : op = 11 ∨ op = 12) (hl : (L.length + 1) * 32 ≤ 140737488355328) (hj : (J.length + 1) * 16 ≤ 140737488355328) :
    Calls Try.prog 9 #[.pointer (some ⟨g, 0, none⟩), .int .i64 op, .int .i64 n, .int .i64 at_] w fun e w' => e = .returned (.bool true) ∧ As w' g (L ++ [⟨op, 0, 0, at_⟩]) lb (J ++ [⟨L.length, n⟩]) ∧ Upd g w w' := by
  have hu47 := Try.underlying47
  have hu49 := Try.underlying49
  have e : (decide (0 ≤ n) && decide (n < (lb.length : Int))) = true := by simp [n0, n1]
  have E := Lib.hid e; have H := Lib.hid h
  obtain ⟨v0, v1, v2, hb, h0, h1, h2⟩ := h
  obtain ⟨A2, c2, rfl⟩ := Kd.R_slice h2
  obtain ⟨k0, k1, k2⟩ := cells3 hb
  have HB := Lib.hid hb; have H0 := Lib.hid h0; have H1 := Lib.hid h1; have H2 := Lib.hid h2
  have hl' := Lib.hid hl; have hj' := Lib.hid hj
  obtain ⟨y, hy⟩ : ∃ y, J ++ [(⟨L.length, n⟩ : S49)] = y := ⟨_, rfl⟩
  have hy' := Lib.hid hy
  clear e hb h0 h1 h2 hl hj hy
  rcases hop with rfl | rfl
  · go_enter Try.func9, Try.ntmps9
    go_wp2_with fail
    refine (has_is g n L lb J _ H.out).mono ?_
    rintro e w' ⟨rfl, rfl⟩
    rw [E.out]
    go_wp2_with fail
    go_region_law
      ((first
        | (go_simp; go_at_call 10; refine (emit_raw g _ _ _ _ L lb J v0 v1 (.slice A2 J.length c2) _ (by exact HB.out) (Kd.R_drew H0.out) (Kd.R_drew H1.out) (Kd.R_drew H2.out) hl'.out).mono ?_; rintro e w1 ⟨rfl, v0', hb1, h01, h11, h21, hU⟩; obtain ⟨m0, m1, m2⟩ := cells3 hb1; have mf := blk_frozen hb1 2; have nn := World.new_ne w1 _ m2; have ng : g < w1.heap.size := blk_lt hb1; have B1 := Lib.hid hb1; have H01 := Lib.hid h01; have H11 := Lib.hid h11; have H21 := Lib.hid h21; have U1 := Lib.hid hU; clear hb1 h01 h11 h21 hU)
        | (refine Kd.R_append_step k49 (w0 := w1) 0 rfl (.tmp 25) (.tmp 32) 45 49 (.agg #[(.int .i64 0), (.int .i64 0)]) 16 rfl Try.underlying45 info49 rfl (by decide) (by omega) (.slice A2 J.length c2) J (⟨L.length, n⟩ : S49) [.int .i64 L.length, .int .i64 n] (fun _ => True) (fun _ => False) rfl rfl (k49_mkM _ _ _ (⟨L.length, n⟩ : S49)) (fun _ hk => hk.elim) (fun _ _ => trivial) H21.out (Below.refl 0 w1) (Nat.zero_le _) hj'.out ?_; intro v2' w2 ho hbl hg hat; rw [hy'.out] at ho; have ne := Kd.R_ne H21.out B1.out (by decide); have hb2 := blk_grown B1.out hg ne; obtain ⟨q0, q1, q2⟩ := cells3 hb2; have qf := blk_frozen hb2 2; obtain ⟨A2', c2', rfl⟩ := Kd.R_slice ho; have HO := Lib.hid ho; have HG := Lib.hid hg; have HAT := Lib.hid hat; have B2 := Lib.hid hb2; clear ho hg hat hb2 hbl ne)))
    all_goals go_wp2
    all_goals go_ret
    all_goals (obtain ⟨hb3, hU3⟩ := upd_field (j := 2) B1.out (by simp) (Kd.R_ne H21.out B1.out (by decide)) HG.out HAT.out)
    all_goals (refine ⟨rfl, ⟨_, _, _, hb3, Kd.R_set (Kd.R_over' H01.out (Kd.R_typed H21.out) (by decide) HG.out) B2.out (by decide) _ _, Kd.R_set (Kd.R_over' H11.out (Kd.R_typed H21.out) (by decide) HG.out) B2.out (by decide) _ _, ?_⟩, Upd.trans (Upd.trans (Upd.drew (Upd.refl g w')) U1.out) hU3⟩)
    all_goals (rw [hy'.out]; exact Kd.R_set HO.out B2.out (by decide) _ _)
  · go_enter Try.func9, Try.ntmps9
    go_wp2_with fail
    refine (has_is g n L lb J _ H.out).mono ?_
    rintro e w' ⟨rfl, rfl⟩
    rw [E.out]
    go_wp2_with fail
    go_region_law
      ((first
        | (go_simp; go_at_call 10; refine (emit_raw g _ _ _ _ L lb J v0 v1 (.slice A2 J.length c2) _ (by exact HB.out) (Kd.R_drew H0.out) (Kd.R_drew H1.out) (Kd.R_drew H2.out) hl'.out).mono ?_; rintro e w1 ⟨rfl, v0', hb1, h01, h11, h21, hU⟩; obtain ⟨m0, m1, m2⟩ := cells3 hb1; have mf := blk_frozen hb1 2; have nn := World.new_ne w1 _ m2; have ng : g < w1.heap.size := blk_lt hb1; have B1 := Lib.hid hb1; have H01 := Lib.hid h01; have H11 := Lib.hid h11; have H21 := Lib.hid h21; have U1 := Lib.hid hU; clear hb1 h01 h11 h21 hU)
        | (refine Kd.R_append_step k49 (w0 := w1) 0 rfl (.tmp 25) (.tmp 32) 45 49 (.agg #[(.int .i64 0), (.int .i64 0)]) 16 rfl Try.underlying45 info49 rfl (by decide) (by omega) (.slice A2 J.length c2) J (⟨L.length, n⟩ : S49) [.int .i64 L.length, .int .i64 n] (fun _ => True) (fun _ => False) rfl rfl (k49_mkM _ _ _ (⟨L.length, n⟩ : S49)) (fun _ hk => hk.elim) (fun _ _ => trivial) H21.out (Below.refl 0 w1) (Nat.zero_le _) hj'.out ?_; intro v2' w2 ho hbl hg hat; rw [hy'.out] at ho; have ne := Kd.R_ne H21.out B1.out (by decide); have hb2 := blk_grown B1.out hg ne; obtain ⟨q0, q1, q2⟩ := cells3 hb2; have qf := blk_frozen hb2 2; obtain ⟨A2', c2', rfl⟩ := Kd.R_slice ho; have HO := Lib.hid ho; have HG := Lib.hid hg; have HAT := Lib.hid hat; have B2 := Lib.hid hb2; clear ho hg hat hb2 hbl ne)))
    all_goals go_wp2
    all_goals go_ret
    all_goals (obtain ⟨hb3, hU3⟩ := upd_field (j := 2) B1.out (by simp) (Kd.R_ne H21.out B1.out (by decide)) HG.out HAT.out)
    all_goals (refine ⟨rfl, ⟨_, _, _, hb3, Kd.R_set (Kd.R_over' H01.out (Kd.R_typed H21.out) (by decide) HG.out) B2.out (by decide) _ _, Kd.R_set (Kd.R_over' H11.out (Kd.R_typed H21.out) (by decide) HG.out) B2.out (by decide) _ _, ?_⟩, Upd.trans (Upd.trans (Upd.drew (Upd.refl g w')) U1.out) hU3⟩)
    all_goals (rw [hy'.out]; exact Kd.R_set HO.out B2.out (by decide) _ _)
end Go.Proofs.Ytchmcmbglaffdaa.M
