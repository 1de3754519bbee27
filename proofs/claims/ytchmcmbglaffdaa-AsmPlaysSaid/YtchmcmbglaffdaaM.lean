/- Marline, layer 27: the contracts of the assembly's methods, for an assembly in memory that owns its three rows; and at a nil assembly. Conditions: as each says. -/
import Derived.Test.YtchmcmbglaffdaaProg
import Derived.Test.YtchmcmbglaffdaaObj
import Derived.Test.YtchmcmbglaffdaaK
import Derived.Deep.DeepMust
namespace Go.Proofs.Ytchmcmbglaffdaa.M
open Go.RowKit Go.Proofs.YtchmcmbglaffdaaW.PrintWords Go.Proofs.YtchmcmbglaffdaaW.PrintLast Go.Proofs.YtchmcmbglaffdaaW.PrintMore Go.Proofs.Ytchmcmbglaffdaa.Kinds Go.Proofs.Ytchmcmbglaffdaa.Obj
set_option linter.unusedVariables false
set_option linter.unusedSimpArgs false

/-- an assembly: its instructions, labels, jumps. -/
def As (w : World) (g : Nat) (L : List S36) (lb : List Int) (J : List S49) : Prop :=
  ∃ v0 v1 v2, w.heap[g]? = some (.cells #[v0, v1, v2] 47 (0, 0)) ∧ Row k36 36 w v0 L ∧ Row (Kd.int .i64) 3 w v1 lb ∧ Row k49 49 w v2 J

theorem info36 : (Try.prog.info? 36).map (fun i => (i.zero, i.size, i.bytes)) = some (some (.agg #[(.int .i64 0), (.int .i64 0), (.int .i64 0), (.int .i64 0)]), 4, 32) := by kernel_rfl
theorem info49 : (Try.prog.info? 49).map (fun i => (i.zero, i.size, i.bytes)) = some (some (.agg #[(.int .i64 0), (.int .i64 0)]), 2, 16) := by kernel_rfl
theorem info3 : (Try.prog.info? 3).map (fun i => (i.zero, i.size, i.bytes)) = some (some (.int .i64 0), 1, 8) := by kernel_rfl

theorem cells3 {w : World} {g : Nat} {v0 v1 v2 : Value} {t : Nat} (h : w.heap[g]? = some (.cells #[v0, v1, v2] t (0, 0))) : w.cell? ⟨g, 0, none⟩ = some v0 ∧ w.cell? ⟨g, 1, none⟩ = some v1 ∧ w.cell? ⟨g, 2, none⟩ = some v2 :=
  ⟨(blk_cell h 0).trans rfl, (blk_cell h 1).trans rfl, (blk_cell h 2).trans rfl⟩

/-! ### Len, has -/
set_option maxHeartbeats 1000000 in
theorem len_is (g : Nat) (L : List S36) (lb : List Int) (J : List S49) (w : World) (h : As w g L lb J) :
    Calls Try.prog 11 #[.pointer (some ⟨g, 0, none⟩)] w fun e w' => e = .returned (.int .i64 L.length) ∧ w' = w := by
  have hu47 := Try.underlying47
  obtain ⟨v0, v1, v2, hb, h0, h1, h2⟩ := h
  obtain ⟨A0, c0, rfl⟩ := Kd.R_slice h0
  obtain ⟨k0, k1, k2⟩ := cells3 hb
  clear hb h0 h1 h2
  go_enter Try.func11, Try.ntmps11
  go_wp2
  go_ret
  exact ⟨rfl, rfl⟩
set_option maxHeartbeats 1000000 in
theorem has_is (g : Nat) (n : Int) (L : List S36) (lb : List Int) (J : List S49) (w : World) (h : As w g L lb J) :
    Calls Try.prog 15 #[.pointer (some ⟨g, 0, none⟩), .int .i64 n] w fun e w' => e = .returned (.bool (decide (0 ≤ n) && decide (n < lb.length))) ∧ w' = w := by
  have hu47 := Try.underlying47
  obtain ⟨v0, v1, v2, hb, h0, h1, h2⟩ := h
  obtain ⟨A1, c1, rfl⟩ := Kd.R_slice h1
  obtain ⟨k0, k1, k2⟩ := cells3 hb
  clear hb h0 h1 h2
  by_cases hn : 0 ≤ n
  · have hn' := decide_eq_true hn
    go_enter Try.func15, Try.ntmps15
    go_wp2
    go_ret
    exact ⟨by simp [hn], rfl⟩
  · have hn' := decide_eq_false hn
    go_enter Try.func15, Try.ntmps15
    go_wp2
    go_ret
    exact ⟨by simp [hn], rfl⟩

/-! ### Label -/
set_option maxHeartbeats 4000000 in
theorem label_is (g : Nat) (L : List S36) (lb : List Int) (J : List S49) (w : World) (h : As w g L lb J) (hl : (lb.length + 1) * 8 ≤ 140737488355328) :
    Calls Try.prog 7 #[.pointer (some ⟨g, 0, none⟩)] w fun e w' => e = .returned (.int .i64 lb.length) ∧ As w' g L (lb ++ [-1]) J ∧ Upd g w w' := by
  have hu47 := Try.underlying47
  obtain ⟨v0, v1, v2, hb, h0, h1, h2⟩ := h
  obtain ⟨A0, c0, rfl⟩ := Kd.R_slice h0
  obtain ⟨A1, c1, rfl⟩ := Kd.R_slice h1
  obtain ⟨A2, c2, rfl⟩ := Kd.R_slice h2
  obtain ⟨k0, k1, k2⟩ := cells3 hb
  have f1 := blk_frozen hb 1
  obtain ⟨y, hy⟩ : ∃ y, lb ++ [-1] = y := ⟨_, rfl⟩
  have yl : y.length = lb.length + 1 := by rw [← hy]; simp
  have y1 : 1 ≤ y.length := by omega
  have y2 : y.length ≤ 140737488355328 := by omega
  have hl' := Lib.hid hl; have hy' := Lib.hid hy; have yl' := Lib.hid yl
  have HB := Lib.hid hb; have H0 := Lib.hid h0; have H1 := Lib.hid h1; have H2 := Lib.hid h2
  clear hb h0 h1 h2 hl hy yl
  go_enter Try.func7, Try.ntmps7
  go_wp2_with ((with_reducible refine gate_builtin (b := .append) (xs := #[.tmp 9, .tmp 10]) rfl ?_); at_builtin; go_must (refine Kd.R_append (Kd.int .i64) (w0 := w) 0 rfl (.tmp 9) (.tmp 10) 27 3 (.int .i64 0) 8 rfl Try.underlying27 info3 rfl (by decide) (by omega) (.slice A1 lb.length c1) lb (-1) [.int .i64 (-1)] (fun _ => True) (fun _ => False) rfl rfl rfl (fun _ hk => hk.elim) (fun _ _ => trivial) ?aO ?aB (Nat.zero_le _) hl'.out ?_; (case aO => exact H1.out); (case aB => exact (Below.refl 0 w)); intro v1' w1 ho hbl hg hat; rw [hy'.out] at ho; have ne := Kd.R_ne H1.out HB.out (by decide); have hb1 := blk_grown HB.out hg ne; obtain ⟨m0, m1, m2⟩ := cells3 hb1; have mf := blk_frozen hb1 1; obtain ⟨A1', c1', rfl⟩ := Kd.R_slice ho; have HO := Lib.hid ho; have HG := Lib.hid hg; have HAT := Lib.hid hat; have HB1 := Lib.hid hb1; clear ho hg hat hb1 hbl ne))
  go_ret
  obtain ⟨hb2, hU⟩ := upd_field (j := 1) HB.out (by simp) (Kd.R_ne H1.out HB.out (by decide)) HG.out HAT.out
  refine ⟨?_, ⟨_, _, _, hb2, ?_, ?_, ?_⟩, hU⟩
  · exact ret_int (by have := yl'.out; omega)
  · exact Kd.R_set (Kd.R_over' H0.out (Kd.R_typed H1.out) (by decide) HG.out) HB1.out (by decide) _ _
  · rw [hy'.out]; exact Kd.R_set HO.out HB1.out (by decide) _ _
  · exact Kd.R_set (Kd.R_over' H2.out (Kd.R_typed H1.out) (by decide) HG.out) HB1.out (by decide) _ _

/-! ### Emit -/
set_option maxHeartbeats 4000000 in
theorem emit_raw (g : Nat) (op x y at_ : Int) (L : List S36) (lb : List Int) (J : List S49) (v0 v1 v2 : Value) (w : World) (hb : w.heap[g]? = some (.cells #[v0, v1, v2] 47 (0, 0))) (h0 : Row k36 36 w v0 L) (h1 : Row (Kd.int .i64) 3 w v1 lb) (h2 : Row k49 49 w v2 J)
    (hl : (L.length + 1) * 32 ≤ 140737488355328) :
    Calls Try.prog 10 #[.pointer (some ⟨g, 0, none⟩), .int .i64 op, .int .i64 x, .int .i64 y, .int .i64 at_] w fun e w' => e = .returned (.int .i64 L.length) ∧
      ∃ v0', w'.heap[g]? = some (.cells #[v0', v1, v2] 47 (0, 0)) ∧ Row k36 36 w' v0' (L ++ [⟨op, x, y, at_⟩]) ∧ Row (Kd.int .i64) 3 w' v1 lb ∧ Row k49 49 w' v2 J ∧ Upd g w w' := by
  have hu47 := Try.underlying47
  have hu36 := Try.underlying36
  obtain ⟨A0, c0, rfl⟩ := Kd.R_slice h0
  obtain ⟨A1, c1, rfl⟩ := Kd.R_slice h1
  obtain ⟨A2, c2, rfl⟩ := Kd.R_slice h2
  obtain ⟨k0, k1, k2⟩ := cells3 hb
  have f0 := blk_frozen hb 0
  obtain ⟨z, hz⟩ : ∃ z, L ++ [(⟨op, x, y, at_⟩ : S36)] = z := ⟨_, rfl⟩
  have zl : z.length = L.length + 1 := by rw [← hz]; simp
  have z1 : 1 ≤ z.length := by omega
  have z2 : z.length ≤ 140737488355328 := by omega
  have hl' := Lib.hid hl; have hz' := Lib.hid hz; have zl' := Lib.hid zl
  have HB := Lib.hid hb; have H0 := Lib.hid h0; have H1 := Lib.hid h1; have H2 := Lib.hid h2
  clear hb h0 h1 h2 hl hz zl
  go_enter Try.func10, Try.ntmps10
  go_wp2_with ((with_reducible refine gate_builtin (b := .append) (xs := #[.tmp 17, .tmp 23]) rfl ?_); at_builtin; go_must (refine Kd.R_append k36 (w0 := w) 0 rfl (.tmp 17) (.tmp 23) 26 36 (.agg #[(.int .i64 0), (.int .i64 0), (.int .i64 0), (.int .i64 0)]) 32 rfl Try.underlying26 info36 rfl (by decide) (by omega) (.slice A0 L.length c0) L (⟨op, x, y, at_⟩ : S36) [.int .i64 op, .int .i64 x, .int .i64 y, .int .i64 at_] (fun _ => True) (fun _ => False) rfl rfl (k36_mkM _ _ _ (⟨op, x, y, at_⟩ : S36)) (fun _ hk => hk.elim) (fun _ _ => trivial) ?aO ?aB (Nat.zero_le _) hl'.out ?_; (case aO => exact H0.out); (case aB => exact (Below.refl 0 w)); intro v0' w1 ho hbl hg hat; rw [hz'.out] at ho; have ne := Kd.R_ne H0.out HB.out (by decide); have hb1 := blk_grown HB.out hg ne; obtain ⟨m0, m1, m2⟩ := cells3 hb1; have mf := blk_frozen hb1 0; obtain ⟨A0', c0', rfl⟩ := Kd.R_slice ho; have HO := Lib.hid ho; have HG := Lib.hid hg; have HAT := Lib.hid hat; have HB1 := Lib.hid hb1; clear ho hg hat hb1 hbl ne))
  go_ret
  obtain ⟨hb2, hU⟩ := upd_field (j := 0) HB.out (by simp) (Kd.R_ne H0.out HB.out (by decide)) HG.out HAT.out
  refine ⟨?_, _, hb2, ?_, ?_, ?_, hU⟩
  · exact ret_int (by have := zl'.out; omega)
  · rw [hz'.out]; exact Kd.R_set HO.out HB1.out (by decide) _ _
  · exact Kd.R_set (Kd.R_over' H1.out (Kd.R_typed H0.out) (by decide) HG.out) HB1.out (by decide) _ _
  · exact Kd.R_set (Kd.R_over' H2.out (Kd.R_typed H0.out) (by decide) HG.out) HB1.out (by decide) _ _
theorem emit_is (g : Nat) (op x y at_ : Int) (L : List S36) (lb : List Int) (J : List S49) (w : World) (h : As w g L lb J) (hl : (L.length + 1) * 32 ≤ 140737488355328) :
    Calls Try.prog 10 #[.pointer (some ⟨g, 0, none⟩), .int .i64 op, .int .i64 x, .int .i64 y, .int .i64 at_] w fun e w' => e = .returned (.int .i64 L.length) ∧ As w' g (L ++ [⟨op, x, y, at_⟩]) lb J ∧ Upd g w w' := by
  obtain ⟨v0, v1, v2, hb, h0, h1, h2⟩ := h
  refine (emit_raw g op x y at_ L lb J v0 v1 v2 w hb h0 h1 h2 hl).mono ?_
  rintro e w' ⟨rfl, v0', hb', h0', h1', h2', hU⟩
  exact ⟨rfl, ⟨v0', v1, v2, hb', h0', h1', h2'⟩, hU⟩

/-! ### Mark -/
/-- A row of one's own that is not empty begins its block. -/
theorem row_some {α : Type} {d : Kd α} {e : Nat} {w : World} {A : Option Addr} {n c : Nat} {xs : List α} (h : Row d e w (.slice A n c) xs) (hn : 0 < xs.length) : ∃ b, A = some ⟨b, 0, none⟩ := by
  obtain ⟨_, inner, ho, hr⟩ := h
  rcases ho.2 with ⟨hv, hi⟩ | ⟨b, cap, cur, hv, _⟩
  · exfalso
    have := ho.1
    injection hv with h1 h2 h3
    have hl := Kd.R_reads' (⟨by assumption, inner, ho, hr⟩ : Row d e w (.slice A n c) xs)
    omega
  · injection hv with h1 h2 h3
    exact ⟨b, h1⟩
set_option maxHeartbeats 1000000 in
theorem mark_no1 (g : Nat) (n : Int) (L : List S36) (lb : List Int) (J : List S49) (w : World) (h : As w g L lb J) (hn : ¬ (0 ≤ n ∧ n < lb.length)) :
    Calls Try.prog 8 #[.pointer (some ⟨g, 0, none⟩), .int .i64 n] w fun e w' => e = .returned (.bool false) ∧ w' = w := by
  have e : (decide (0 ≤ n) && decide (n < (lb.length : Int))) = false := by
    by_cases h1 : 0 ≤ n
    · by_cases h2 : n < (lb.length : Int)
      · exact absurd ⟨h1, h2⟩ hn
      · simp [h2]
    · simp [h1]
  have E := Lib.hid e; have H := Lib.hid h
  clear e h hn
  go_enter Try.func8, Try.ntmps8
  go_wp2_with fail
  refine (has_is g n L lb J _ H.out).mono ?_
  rintro e w' ⟨rfl, rfl⟩
  rw [E.out]
  go_wp2_with fail
  go_ret
  exact ⟨rfl, rfl⟩
end Go.Proofs.Ytchmcmbglaffdaa.M
