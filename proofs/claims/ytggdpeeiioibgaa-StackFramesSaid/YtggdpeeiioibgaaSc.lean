/- Marline, layer 36: a row of values copied to the head of another one. Conditions: as it says. -/
import Derived.Test.YtggdpeeiioibgaaRp
import Derived.Test.YtggdpeeiioibgaaKq
import Derived.Laws.CopyOwn
namespace Go.Proofs.Ytggdpeeiioibgaa.E
open Go.RowKit Go.Proofs.YtggdpeeiioibgaaW.PrintWords Go.Proofs.YtggdpeeiioibgaaW.PrintLast Go.Proofs.YtggdpeeiioibgaaW.PrintMore Go.Proofs.Ytggdpeeiioibgaa.Kinds Go.Proofs.Ytggdpeeiioibgaa.Obj
set_option linter.unusedVariables false
set_option linter.unusedSimpArgs false

theorem adr0 (g i : Nat) : (⟨g, 0, none⟩ : Addr).add i = ⟨g, i, none⟩ := by unfold Addr.add; split <;> simp_all
theorem copy_run {W : World} {N0 : Nat} {ok ok2 : Nat → Prop} {g cap : Nat} {xs ys : List S24} {v2 : Value} (ty : TypeId)
    (HD : Kd.N k24 24 W N0 ok (.slice (some ⟨g, 0, none⟩) xs.length cap) xs) (HS : Kd.N k24 24 W N0 ok2 v2 ys) (hne : v2.ownBlock ≠ some g) (hm : ys.length ≤ xs.length)
    (hok : ∀ k, ok2 k → some k ≠ v2.ownBlock → ok k ∧ k ≠ g) :
    ∃ w', (Builtin.copy_ #[22, 22] ty #[.slice (some ⟨g, 0, none⟩) xs.length cap, v2]).run Try.prog W = .ok (goInt ys.length) w' ∧ Kd.N k24 24 w' N0 ok (.slice (some ⟨g, 0, none⟩) xs.length cap) (ys ++ xs.drop ys.length) ∧ W.grownBy w' (some g) := by
  obtain ⟨h0, rows, hl, ⟨_, inner, ho, hr⟩, hf⟩ := HD
  obtain ⟨_, rows2, hl2, ⟨_, inner2, ho2, hr2⟩, hf2⟩ := HS
  rcases ho.2 with ⟨hv, _⟩ | ⟨g', cap', cur, hv, hge, hb, hle, hmx, hsz, htk⟩
  · cases hv
  injection hv with e1 e2 e3
  injection e1 with e1
  injection e1 with e1
  subst e1 e3
  have s3 : (Kd.raw k24.sz).sz = 3 := rfl
  have k3 : k24.sz = 3 := rfl
  rw [s3] at hr hr2 hsz htk
  rcases ho2.2 with ⟨hv2, hz⟩ | ⟨g2, cap2, cur2, hv2, hge2, hb2, hle2, hmx2, hsz2, htk2⟩
  · subst hv2
    have hy : ys = [] := List.eq_nil_of_length_eq_zero (by omega)
    subst hy
    refine ⟨W, ?_, ?_, ⟨rfl, rfl, rfl, Nat.le_refl _, fun _ _ _ => rfl⟩⟩
    · obtain ⟨i0, hi, hz0, hz1, hz2⟩ := info_parts info24
      have hu := Try.underlying22
      simp [Builtin.copy_, run_underlying hu, Builtin.lenOf, Builtin.firstCells, sizeOf, typeInfo, hi, hz1, goInt, storeCells, Result.andThen]
    · simp only [List.length_nil, List.drop_zero, List.nil_append]
      exact ⟨h0, rows, hl, ⟨fun k hk => hk.symm, inner, ho, by rw [s3]; exact hr⟩, hf⟩
  · subst hv2
    rw [s3] at hsz2 htk2
    have hne2 : g2 ≠ g := fun e => hne (by rw [e]; rfl)
    have hc2 : inner2.length = ys.length * 3 := by rw [hr2.1, hl2]
    have hone := Kd.reps_one hr2 (by omega) (fun p c h => h.2.2)
    have hin : inner.length = xs.length * 3 := by rw [hr.1, hl]
    have hmin : Nat.min rows2.length xs.length = ys.length := by
      show min rows2.length xs.length = _
      omega
    have hfit : 0 + inner2.length ≤ cur.size := by rw [hsz, hc2]; omega
    have hrun := run_copy3 W ty g 0 xs.length cap ⟨g2, 0, none⟩ rows2.length cap2 cur 24 inner2 ys.length hmin hc2 hb (fun j v hj => by
      have hj2 := (List.getElem?_eq_some_iff.1 hj).1
      rw [← htk2] at hj
      rw [List.getElem?_take] at hj
      split at hj
      · rw [adr0]
        rw [blk_cell hb2, ← Array.getElem?_toList]
        exact hj
      · cases hj) hfit hone
    refine ⟨_, hrun, ?_, ?_⟩
    · have hb' := setRow_heap W g cur (cur.toList.take 0 ++ inner2 ++ cur.toList.drop (0 + inner2.length)).toArray 24 (0, 0) hb
      have hst : ∀ k, k ≠ g → k < W.heap.size → (W.setRow g (cur.toList.take 0 ++ inner2 ++ cur.toList.drop (0 + inner2.length)).toArray).heap[k]? = W.heap[k]? := fun k hk _ => setRow_other W g k _ hk
      have hrr := Kd.reps_append hr2 (Kd.reps_drop (m := ys.length) hr)
      have hlen : (rows2 ++ rows.drop ys.length).length = xs.length := by rw [List.length_append, List.length_drop]; omega
      have hlen2 : (ys ++ xs.drop ys.length).length = xs.length := by rw [List.length_append, List.length_drop]; omega
      refine ⟨h0, rows2 ++ rows.drop ys.length, by rw [hlen, hlen2], ⟨fun k hk => hk.symm, inner2 ++ inner.drop (ys.length * 3), ⟨by rw [s3, hlen, List.length_append, List.length_drop]; omega, .inr ⟨g, cap, _, by rw [hlen], hge, hb', by rw [hlen]; omega, hmx, ?_, ?_⟩⟩, hrr⟩, fun j x c hx hc => ?_⟩
      · rw [s3]
        simp only [List.take_zero, List.nil_append, List.size_toArray, List.length_append, List.length_drop, Array.length_toList]
        omega
      · rw [s3, hlen]
        simp only [List.take_zero, List.nil_append, Nat.zero_add]
        rw [hl] at htk
        rw [← htk, List.take_append, List.take_of_length_le (by omega), List.drop_take, hc2]
      · rcases Nat.lt_or_ge j ys.length with hlt | hge3
        · rw [List.getElem?_append_left hlt] at hx
          rw [List.getElem?_append_left (by omega)] at hc
          refine Kd.FK_mono (Kd.FK_step (hf2 j x c hx hc) (fun k hk hlt2 => hst k (hok k hk.1 hk.2).2 hlt2)) (fun k hk => ⟨(hok k hk.1 hk.2).1, fun e => (hok k hk.1 hk.2).2 (by injection e)⟩)
        · rw [List.getElem?_append_right hge3, List.getElem?_drop] at hx
          rw [List.getElem?_append_right (by omega), List.getElem?_drop] at hc
          rw [show ys.length + (j - ys.length) = j by omega] at hx
          rw [show ys.length + (j - rows2.length) = j by omega] at hc
          exact Kd.FK_step (hf j x c hx hc) (fun k hk hlt2 => hst k (fun e => hk.2 (by rw [e]; rfl)) hlt2)
    · exact ⟨rfl, rfl, rfl, by simp, fun k _ hk => setRow_other W g k _ (fun e => hk (by rw [e]))⟩
set_option maxHeartbeats 4000000 in
set_option maxRecDepth 100000 in
theorem clone_raw (P : Nat → Prop) (A : Option Addr) (c : Nat) (l : List (List Value)) (w : World) (hc : l.length ≤ c) (hF : Kd.F (Kd.raw 3) w P A l.length l) (hbig : l.length * 40 ≤ 140737488355328) :
    Calls Try.prog 67 #[.slice A l.length c] w fun e w' => ∃ v, e = .returned v ∧ Kd.N (Kd.raw 3) 24 w' w.heap.size (fun k => (P k ∧ k < w.heap.size) ∨ w.heap.size ≤ k) v l ∧ Below w.heap.size w w' := by
  have q22 : ∀ (w : World) (a : Option Addr) (n c n' c' : Nat), (binOp .eql 22 (.slice a n c) (.slice none n' c')).run Try.prog w = .ok (.bool a.isNone) w := fun w a n c n' c' => Lib.run_eql_slice_nil w _ _ a n c n' c' Try.underlying22
  have hFF := hF
  have HF := Lib.hid hF
  clear hF
  cases A with
  | none =>
    have hl : l = [] := by
      rcases Nat.eq_zero_or_pos l.length with h | h
      · exact List.length_eq_zero_iff.1 h
      · obtain ⟨ad, he, _⟩ := (Kd.F_now hFF).2.2 h
        cases he
    clear hFF
    subst hl
    go_enter Try.func67, Try.ntmps67
    go_wp2_with fail
    go_ret
    exact ⟨_, rfl, Kd.N_nil _ _ _ _ _, Below.refl _ _⟩
  | some ad =>
    clear hFF
    have HF2 := Lib.hid (Kd.F_alloc (Kd.F_bound HF.out) (.cells #[] 24))
    have R0 : Kd.R (Kd.raw 3) 24 (w.alloc (.cells #[] 24)) w.heap.size (fun k => (P k ∧ k < w.heap.size) ∨ w.heap.size ≤ k) (.slice (some ⟨w.heap.size, 0, none⟩) 0 0) [] :=
      ⟨fun k hk => by simp [Value.ownBlock] at hk; exact .inr (by omega), [], World.ownsRow_made w #[] 0 (Nat.le_refl _) (Nat.zero_le _) (by simp), Reps.none _ _⟩
    have HN := Lib.hid (Kd.R_N R0)
    have HB := Lib.hid (below_alloc (Below.refl w.heap.size w) (.cells #[] 24))
    clear R0
    go_enter Try.func67, Try.ntmps67
    go_wp2_with (at_builtin; refine Kd.N_append_rows (Kd.raw 3) (w0 := w) w.heap.size rfl (.tmp 5) (.tmp 6) 22 24 (.agg #[(.int .i64 0), (.int .i64 0), (.slice none 0 0)]) 40 rfl Try.underlying22 info24 rfl (by decide) (by decide) (.slice (some ⟨w.heap.size, 0, none⟩) 0 0) [] l (some ad) l.length c (fun k => (P k ∧ k < w.heap.size) ∨ w.heap.size ≤ k) (fun k => P k ∧ k < w.heap.size) rfl rfl ?h1 ?h2 ?h3 ?h4 ?h5 ?h6 ?h7 ?_; (case h1 => exact HN.out); (case h2 => exact HF2.out); (case h3 => intro k hk; exact ⟨.inl hk, by simp [Value.ownBlock]; omega⟩); (case h4 => intro k hk; simp at hk; right; omega); (case h5 => exact HB.out); (case h6 => simp); (case h7 => simpa using hbig); intro v1 w1 hn hb hg hat; have HN1 := Lib.hid hn; have HB1 := Lib.hid hb; clear hn hb hg hat)
    go_ret
    exact ⟨_, rfl, HN1.out, HB1.out⟩
/-- a row of raw cells, as it lies there. -/
theorem raw_N {W : World} {base : Nat} {ok : Nat → Prop} {v : Value} {rows : List (List Value)} (h : Kd.N (Kd.raw 3) 24 W base ok v rows) : (Kd.raw 3).R 24 W base (fun k => some k = v.ownBlock) v rows := by
  obtain ⟨h0, rows', hl, hR, hf⟩ := h
  have e : rows' = rows := by
    apply List.ext_getElem?
    intro j
    by_cases hj : j < rows.length
    · have h1 := hf j rows[j] rows'[j] (List.getElem?_eq_getElem hj) (List.getElem?_eq_getElem (by omega))
      have h2 : rows'[j] = rows[j] := (Kd.FK_now h1).1
      rw [List.getElem?_eq_getElem hj, List.getElem?_eq_getElem (by omega), h2]
    · rw [List.getElem?_eq_none (by omega), List.getElem?_eq_none (by omega)]
  rw [← e]
  exact hR
/-- a copy of what lies behind the first ones of a row of one's own. -/
theorem clone_tail {N0 : Nat} {ok : Nat → Prop} {A : Option Addr} {c n : Nat} {xs : List S24} {w : World} (h : Kd.N k24 24 w N0 ok (.slice A xs.length c) xs) (hn : n ≤ xs.length) (hbig : xs.length * 40 ≤ 140737488355328) (hb : N0 ≤ w.heap.size) :
    Calls Try.prog 67 #[.slice (if c = n then A else A.map (·.add (n * 3))) (xs.length - n) (c - n)] w fun e w' => ∃ v, e = .returned v ∧ Kd.N k24 24 w' N0 (fun k => (ok k ∧ some k ≠ (Value.slice A xs.length c).ownBlock) ∨ v.ownBlock = some k) v (xs.drop n) ∧ (∀ k, v.ownBlock = some k → w.heap.size ≤ k) ∧ Below w.heap.size w w' := by
  obtain ⟨h0, rows, hl, hR, hf⟩ := h
  have hV := Kd.R_V (base' := N0) hR
  rw [← hl] at hV
  obtain ⟨_, hc, hF⟩ := Kd.V_at hV
  have hF2 := Kd.F_cut hF (m := n) (by omega) hc
  have e : (rows.drop n).length = xs.length - n := by rw [List.length_drop]; omega
  have hk := clone_raw _ (if c = n then A else A.map (·.add (n * 3))) (c - n) (rows.drop n) w (by rw [e]; omega) hF2 (by rw [e]; omega)
  rw [e] at hk
  refine hk.mono ?_
  rintro e2 w' ⟨v, rfl, hN, hb2⟩
  refine ⟨v, rfl, ?_, fun k hk => Kd.N_base hN k hk, hb2⟩
  have hlt : ∀ k, v.ownBlock = some k → w.heap.size ≤ k := fun k hk => Kd.N_base hN k hk
  refine ⟨fun k hk => .inr hk, rows.drop n, by rw [List.length_drop, List.length_drop, hl], Kd.R_lower (raw_N hN) hb, fun j x c hx hc => ?_⟩
  rw [List.getElem?_drop] at hx hc
  have h1 := Kd.FK_bound (hf _ x c hx hc)
  exact Kd.FK_mono (Kd.FK_below h1 hb2) (fun k hk => ⟨.inl hk.1, fun he => by have := hlt k he.symm; have := hk.2; omega⟩)
end Go.Proofs.Ytggdpeeiioibgaa.E
