/- Marline, layer 36: calls on a stack that has frames: what changes it. Conditions: as each says. -/
import Derived.Test.YtggdpeeiioibgaaSm
namespace Go.Proofs.Ytggdpeeiioibgaa.E
open Go.RowKit Go.Proofs.YtggdpeeiioibgaaW.PrintWords Go.Proofs.YtggdpeeiioibgaaW.PrintLast Go.Proofs.YtggdpeeiioibgaaW.PrintMore Go.Proofs.Ytggdpeeiioibgaa.Kinds Go.Proofs.Ytggdpeeiioibgaa.Obj
set_option linter.unusedVariables false
set_option linter.unusedSimpArgs false

theorem info115 : (Try.prog.info? 115).map (fun i => (i.zero, i.size, i.bytes)) = some (some (.pointer none), 1, 8) := by kernel_rfl
/-- the row of frames lies elsewhere. -/
theorem Sx.row_ne {N0 : Nat} {W : World} {P : Nat → Prop} {s : Nat} {A : Option Addr} {c : Nat} {fs : List Nat} {l : List S65} (h : Sx N0 W P s A c fs l) : some s ≠ (Value.slice A l.length c).ownBlock := Kd.R_ne h.row h.blk (by decide)
/-- the frames but the innermost one, in a world where all else is as it was. -/
theorem Sx.pop {N0 : Nat} {W W' : World} {P : Nat → Prop} {s g c f : Nat} {fs : List Nat} {x : S65} {l : List S65} (h : Sx N0 W P s (some ⟨g, 0, none⟩) c (f :: fs) (x :: l)) (hb : W'.heap[s]? = some (.cells #[.slice (some ⟨g, 0, none⟩) l.length c] 111 (0, 0)))
    (hm : ∀ k, k ≠ s → k < W.heap.size → W'.heap[k]? = W.heap[k]?) : Stk N0 W' P s l := by
  obtain ⟨A2, c2, A3, c3, hf, hu, hr⟩ := h.head
  have hl := hr.len
  have e : (f :: fs).reverse.take l.length = fs.reverse := by
    rw [List.reverse_cons, List.take_append_of_le_length (by simp [hl]), List.take_of_length_le (by simp [hl])]
  have h1 := Kd.R_take (m := l.length) h.row (by simp [hl])
  rw [e] at h1
  have hne := h.row_ne
  have h2 : kp.R 115 W' N0 P (.slice (some ⟨g, 0, none⟩) l.length c) fs.reverse :=
    Kd.R_mono (Kd.R_step (Kd.R_tight2 rfl h1) (fun k hk hlt => hm k (fun e => hne (by rw [← e]; exact hk.1)) hlt)) (fun k hk => hk.2)
  refine ⟨h.ps, h.ge, _, fs, hb, h2, ?_⟩
  exact Frs.mono (Frs.step (hU := trivial) (Frs.mono hr (U' := fun k => (P k ∧ k ≠ s ∧ (Value.slice (some ⟨g, 0, none⟩) l.length c).ownBlock ≠ some k)) (fun k hk _ => hk.1)) (fun k hk hlt => hm k (fun e => by
    rcases hk with hk | hk
    · exact hk.2.1 e
    · have := h.ge; omega) hlt)) (fun k hk _ => hk)
theorem Ch.of_drewN {F : Nat → Prop} {a : World} (n : Nat) : Ch F a (a.drewN n) := (Ch.refl F a).drewN n
set_option maxHeartbeats 4000000 in
set_option maxRecDepth 100000 in
theorem leave_is {N0 : Nat} {P : Nat → Prop} {s : Nat} {x : S65} {l : List S65} (w : World) (h : Stk N0 w P s (x :: l)) :
    Calls Try.prog 47 #[.pointer (some ⟨s, 0, none⟩)] w fun e w' => e = .returned (.tuple #[.int .i64 x.f1, .bool true]) ∧ Stk N0 w' P s l ∧ Ch P w w' := by
  obtain ⟨A, c, f, fs, hx⟩ := h.split
  have T := Lib.hid (top_cons hx)
  obtain ⟨A2, c2, A3, c3, hf, hu, hr⟩ := hx.head
  obtain ⟨k0, k1, k2, k3, _⟩ := hf.cells
  obtain ⟨g, rfl, t0, hnb⟩ := hx.top
  obtain ⟨s0, s1⟩ := hx.cell
  have hfs : f ≠ s := (hu f (.inl rfl)).1.2.1
  obtain ⟨i0, hi, hz0, hz1, hz2⟩ := info_parts info115
  have hlc : l.length + 1 ≤ c := by
    obtain ⟨_, inner, ho, _⟩ := hx.row
    rcases ho.2 with ⟨hv, h0⟩ | ⟨g', cap, cur, hv, _, hc, h1, h2, _⟩
    · cases hv
    · injection hv with e1 e2 e3
      rw [← e2, ← e3] at h1
      exact h1
  have cut : ∀ W : World, (Instr.slice 109 (.slice (some ⟨g, 0, none⟩) (l.length + 1) c) none (some (.int .i64 (l.length : Int))) none).run Try.prog W = .ok (.slice (some ⟨g, 0, none⟩) l.length c) W := by
    intro W
    have h1 := cut_to (P := Try.prog) 109 115 .i64 (by kernel_rfl) hi (some ⟨g, 0, none⟩) (l.length + 1) c (l.length : Int) (by omega) (by omega) hlc W
    rw [h1, Int.toNat_natCast]
  have e1 : IntKind.i64.wrap (l.length : Int) = l.length := by simp at hnb; exact IntWalk.i64_in _ (by omega)
  have e2 : (0 : Int) ≤ (l.length : Int) := by omega
  have e3 : (l.length : Int) ≤ (c : Int) := by omega
  have cut := 0
  have HX := Lib.hid hx; have HF := Lib.hid hf; have HU := Lib.hid hu; have HR := Lib.hid hr
  have hfs := Lib.hid hfs
  simp only [List.length_cons] at s0
  clear h hx hf hu hr hi hz0 hz1 hz2 t0 hlc hnb
  go_enter Try.func47, Try.ntmps47
  go_wp2_with fail
  refine (T.out _ (Below.refl _ _)).mono ?_
  rintro e w2 ⟨rfl, hb⟩
  have HB := Lib.hid hb
  have k4 := pw_cell_below hb k1
  have s2 := pw_cell_below hb s0
  have fz := (hb.block s (blk_lt HX.out.blk)).trans HX.out.blk
  have s3 : w2.frozen? ⟨s, 0, none⟩ = false := by simp [World.frozen?, fz]
  clear hb k0 k1 k2 k3 s0 s1 fz
  go_wp2_with fail
  go_still_tail 12, (by kernel_rfl)
  change wpList _ _ _ _ _ w2.drew
  have W3 : ∃ w3 : World, w2.drew = w3 ∧ Ch P w w3 ∧ Below w.heap.size w w3 ∧ w3.cell? ⟨s, 0, none⟩ = some (.slice (some ⟨g, 0, none⟩) (l.length + 1) c) ∧ w3.frozen? ⟨s, 0, none⟩ = false ∧ w3.cell? ⟨f, 1, none⟩ = some (.int .i64 x.f1) :=
    ⟨_, rfl, (Ch.of_below HB.out).drew, below_drew HB.out, s2, s3, k4⟩
  obtain ⟨w3, hw3, hch, hb3, s4, s5, k5⟩ := W3
  rw [hw3]
  clear hw3 s2 s3 k4
  have k6 : (w3.setCell ⟨s, 0, none⟩ (.slice (some ⟨g, 0, none⟩) l.length c)).cell? ⟨f, 1, none⟩ = some (.int .i64 x.f1) := far1 k5 hfs.out
  have CH := Lib.hid (hch.setCell (p := ⟨s, 0, none⟩) (.inl HX.out.ps) (.slice (some ⟨g, 0, none⟩) l.length c)); have B3 := Lib.hid hb3
  clear hch hb3
  go_wp2_with fail
  go_ret2
  refine ⟨rfl, HX.out.pop (blk_set ((B3.out.block s (blk_lt HX.out.blk)).trans HX.out.blk) 0 _) (fun k hk hlt => ?_), CH.out⟩
  exact (Below.heap_setCell w3 ⟨s, 0, none⟩ _ k hk).trans (B3.out.block k hlt)
/-- the innermost frame changed. -/
theorem Sx.upd {N0 : Nat} {W W' : World} {P : Nat → Prop} {s c f : Nat} {A : Option Addr} {fs : List Nat} {x x' : S65} {l : List S65} {vS vV vS' vV' : Value} (h : Sx N0 W P s A c (f :: fs) (x :: l))
    (hf : Fr N0 W f x vS vV) (hu : ∀ k, Fp f vS vV k → (P k ∧ k ≠ s ∧ (Value.slice A (x :: l).length c).ownBlock ≠ some k) ∧ N0 ≤ k)
    (hr : Frs N0 W (fun k => (P k ∧ k ≠ s ∧ (Value.slice A (x :: l).length c).ownBlock ≠ some k) ∧ ¬ Fp f vS vV k) fs l)
    (hm : ∀ k, ¬ Fp f vS vV k → k < W.heap.size → W'.heap[k]? = W.heap[k]?) (hf' : Fr N0 W' f x' vS' vV') (hn : ∀ k, Fp f vS' vV' k → Fp f vS vV k ∨ W.heap.size ≤ k) :
    Stk N0 W' (fun k => P k ∨ (W.heap.size ≤ k ∧ Fp f vS' vV' k)) s (x' :: l) := by
  have hs := blk_lt h.blk
  have hge := h.ge
  have hlt := fun k hk => Kd.R_lt h.row k hk
  have hs2 : W'.heap[s]? = W.heap[s]? := hm s (fun e => (hu s e).1.2.1 rfl) hs
  have hR : kp.R 115 W' N0 P (.slice A (x :: l).length c) (f :: fs).reverse :=
    Kd.R_mono (Kd.R_step (Kd.R_tight2 rfl h.row) (fun k hk hlt => hm k (fun e => (hu k e).1.2.2 hk.1.symm) hlt)) (fun k hk => hk.2)
  refine ⟨.inl h.ps, hge, _, f :: fs, hs2.trans h.blk, Kd.R_mono hR (fun k hk => .inl hk), vS', vV', hf', fun k hk => ?_, ?_⟩
  · rcases hn k hk with h1 | h1
    · exact ⟨⟨.inl (hu k h1).1.1, (hu k h1).1.2⟩, (hu k h1).2⟩
    · exact ⟨⟨.inr ⟨h1, hk⟩, by omega, fun e => by have := hlt k e; omega⟩, by omega⟩
  · have h2 : Frs N0 W (fun k => (P k ∧ k ≠ s ∧ (Value.slice A (x :: l).length c).ownBlock ≠ some k) ∧ (¬ Fp f vS vV k ∧ k < W.heap.size)) fs l := Frs.mono hr (fun k hk hlt => ⟨hk.1, hk.2, hlt⟩)
    have h3 : Frs N0 W' (fun k => (P k ∧ k ≠ s ∧ (Value.slice A (x :: l).length c).ownBlock ≠ some k) ∧ (¬ Fp f vS vV k ∧ k < W.heap.size)) fs l := Frs.step (hU := trivial) h2 (fun k hk hlt => hm k (fun e => by
      rcases hk with hk | hk
      · exact hk.2.1 e
      · have := (hu k e).2; omega) hlt)
    exact Frs.mono h3 (fun k hk _ => ⟨⟨.inl hk.1.1, hk.1.2⟩, fun e => by
      rcases hn k e with h1 | h1
      · exact hk.2.1 h1
      · have := hk.2.2; omega⟩)
/-- the frame's block changed in its values. -/
theorem Fr.values {N0 : Nat} {W W' : World} {f : Nat} {x : S65} {vS vV vV' : Value} {l' : List S24} (h : Fr N0 W f x vS vV) (hb : W'.heap[f]? = some (.cells #[.int .i64 x.f0, .int .i64 x.f1, vS, vV'] 118 (0, 0)))
    (hV : Kd.N k24 24 W' N0 (fun k => k < N0 ∨ vV'.ownBlock = some k) vV' l') (ha : ∀ k, vS.ownBlock = some k → vV'.ownBlock ≠ some k) (hm : ∀ k, k < N0 ∨ vS.ownBlock = some k → k < W.heap.size → W'.heap[k]? = W.heap[k]?) : Fr N0 W' f ⟨x.f0, x.f1, x.f2, l'⟩ vS vV' :=
  ⟨hb, Kd.N_step h.S hm, hV, ha⟩
/-- what Take comes to. -/
def TakeP (N0 : Nat) (P : Nat → Prop) (s : Nat) (w : World) (x : S65) (l : List S65) (n : Nat) (e : Ending) (w' : World) : Prop :=
  ∃ v, e = .returned (.tuple #[v, .bool true]) ∧ Kd.N k24 24 w' N0 (fun k => k < N0 ∨ v.ownBlock = some k) v (x.f3.drop (x.f3.length - n)) ∧ (∀ k, v.ownBlock = some k → w.heap.size ≤ k) ∧ Stk N0 w' P s (⟨x.f0, x.f1, x.f2, x.f3.take (x.f3.length - n)⟩ :: l) ∧ Ch P w w'
set_option maxHeartbeats 4000000 in
set_option maxRecDepth 100000 in
theorem take_is {N0 : Nat} {P : Nat → Prop} {s : Nat} {x : S65} {l : List S65} (w : World) (h : Stk N0 w P s (x :: l)) (n : Nat) (hn : n ≤ x.f3.length) (hbig : x.f3.length * 40 ≤ 140737488355328) :
    Calls Try.prog 48 #[.pointer (some ⟨s, 0, none⟩), .int .i64 n] w (TakeP N0 P s w x l n) := by
  obtain ⟨A, c, f, fs, hx⟩ := h.split
  have T := Lib.hid (top_cons hx)
  obtain ⟨A2, c2, A3, c3, hf, hu, hr⟩ := hx.head
  obtain ⟨k0, k1, k2, k3, k5⟩ := hf.cells
  obtain ⟨i0, hi, hz0, hz1, hz2⟩ := info_parts info24
  have hN0 : N0 ≤ w.heap.size := by have := hx.ge; have := blk_lt hx.blk; omega
  have hlc : x.f3.length ≤ c3 := by
    obtain ⟨_, rows, hl, ⟨_, inner, ho, _⟩, _⟩ := hf.V
    rcases ho.2 with ⟨hv, h0⟩ | ⟨g', cap, cur, hv, _, hc, h1, h2, _⟩
    · omega
    · injection hv with e1 e2 e3
      omega
  obtain ⟨m, hm⟩ : ∃ m, x.f3.length - n = m := ⟨_, rfl⟩
  have hm2 : m ≤ x.f3.length := by omega
  have cut1 : ∀ W : World, (Instr.slice 22 (.slice A3 x.f3.length c3) (some (.int .i64 (m : Int))) none none).run Try.prog W = .ok (.slice (if c3 = m then A3 else A3.map (·.add (m * 3))) (x.f3.length - m) (c3 - m)) W := by
    intro W
    have h1 := cut_from (P := Try.prog) 22 24 .i64 Try.underlying22 hi 3 hz1 A3 x.f3.length c3 (m : Int) (by omega) (by omega) W
    rw [h1, Int.toNat_natCast]
  have cut2 : ∀ W : World, (Instr.slice 22 (.slice A3 x.f3.length c3) none (some (.int .i64 (m : Int))) none).run Try.prog W = .ok (.slice A3 m c3) W := by
    intro W
    have h1 := cut_to (P := Try.prog) 22 24 .i64 Try.underlying22 hi A3 x.f3.length c3 (m : Int) (by omega) (by omega) hlc W
    rw [h1, Int.toNat_natCast]
  have e1 : wrap64 ((x.f3.length : Int) - (n : Int)) = (m : Int) := by unfold wrap64; omega
  have p1 : decide ((n : Int) < 0) = false := decide_eq_false (by omega)
  have p2 : decide ((x.f3.length : Int) < (n : Int)) = false := decide_eq_false (by omega)
  have p3 : ¬ x.f3.length < n := by omega
  have e2 : IntKind.i64.wrap ((x.f3.length : Int) - (n : Int)) = (m : Int) := by rw [IntWalk.i64_in _ (by omega)]; omega
  unfold TakeP
  rw [hm]
  have CL := fun W (hb : Below w.heap.size w W) => clone_tail (n := m) (w := W) (Kd.N_below hf.V hb) hm2 hbig (Nat.le_trans hN0 hb.size)
  obtain ⟨A', hA'⟩ : ∃ A', (if c3 = m then A3 else A3.map (·.add (m * 3))) = A' := ⟨_, rfl⟩
  rw [hA'] at CL cut1
  have CL := Lib.hid CL
  have HX := Lib.hid hx; have HF := Lib.hid hf; have HU := Lib.hid hu; have HR := Lib.hid hr; have HM := Lib.hid hm2; have HN := Lib.hid hN0
  clear h hx hf hu hr hi hz0 hz1 hz2 hlc hm hm2 hN0 hn hA'
  go_enter Try.func48, Try.ntmps48
  go_wp2_with fail
  refine (T.out _ (Below.refl _ _)).mono ?_
  rintro e w2 ⟨rfl, hb⟩
  have HB := Lib.hid hb
  have k4 := pw_cell_below hb k3
  clear hb k0 k1 k2 k3
  go_wp2_with fail
  have b2 : N0 ≤ w2.heap.size := Nat.le_trans HN.out HB.out.size
  refine (CL.out w2 HB.out).mono ?_
  rintro e w3 ⟨v, rfl, hN, hnew, hb3⟩
  have k6 := pw_cell_below hb3 k4
  have B3 := Lib.hid (HB.out.trans (hb3.mono HB.out.size))
  have hN2 := Lib.hid (Kd.N_mono hN (ok' := fun k => k < N0 ∨ v.ownBlock = some k) (fun k hk => hk.elim (fun h => h.1.elim .inl (fun h2 => absurd h2.symm h.2)) .inr))
  have HNEW := Lib.hid (fun k hk => Nat.le_trans HB.out.size (hnew k hk))
  have bf := Lib.hid ((B3.out.block f (blk_lt HF.out.blk)).trans HF.out.blk)
  have fz : w3.frozen? ⟨f, 3, none⟩ = false := by simp [World.frozen?, bf.out]
  clear hN hnew hb3 k4 b2
  go_wp2_with fail
  go_ret2
  have hown : (Value.slice A3 x.f3.length c3).ownBlock = (Value.slice A3 m c3).ownBlock := by cases A3 <;> rfl
  have hfN : N0 ≤ f := (HU.out f (.inl rfl)).2
  have hfl := blk_lt HF.out.blk
  have hst : ∀ k, k ≠ f → k < w.heap.size → (w3.setCell ⟨f, 3, none⟩ (.slice A3 m c3)).heap[k]? = w.heap[k]? := fun k hk hlt => (Below.heap_setCell w3 ⟨f, 3, none⟩ _ k hk).trans (B3.out.block k hlt)
  have hlen : (x.f3.take m).length = m := by rw [List.length_take]; have := HM.out; omega
  have hfr : Fr N0 (w3.setCell ⟨f, 3, none⟩ (.slice A3 m c3)) f ⟨x.f0, x.f1, x.f2, x.f3.take m⟩ (.slice A2 x.f2.length c2) (.slice A3 m c3) := by
    refine Fr.values HF.out (blk_set bf.out 3 _) ?_ (fun k hk he => HF.out.ap k hk (hown.trans he)) (fun k hk hlt => hst k (fun e => ?_) hlt)
    · have h1 := Kd.N_take (m := m) HF.out.V HM.out
      have h2 := Kd.N_mono h1 (ok' := fun k => k < N0 ∨ (Value.slice A3 m c3).ownBlock = some k) (fun k hk => hk.imp id (fun e => hown.symm.trans e))
      refine Kd.N_step h2 (fun k hk hlt => hst k (fun e => ?_) hlt)
      rcases hk with hk | hk
      · omega
      · exact Kd.N_ne HF.out.V HF.out.blk (by decide) (by rw [hown, hk, e])
    · rcases hk with hk | hk
      · omega
      · exact Kd.N_ne HF.out.S HF.out.blk (by decide) (by rw [hk, e])
  refine ⟨_, rfl, Kd.N_far hN2.out (fun k hk e => ?_) _, HNEW.out, ?_, ?_⟩
  · rcases hk with hk | hk
    · simp only at e; omega
    · have := HNEW.out k hk; simp only at e; omega
  · refine Stk.mono (HX.out.upd HF.out HU.out HR.out (fun k hk hlt => hst k (fun e => hk (.inl e)) hlt) hfr (fun k hk => .inl ?_)) (fun k hk => ?_)
    · rcases hk with hk | hk | hk
      · exact .inl hk
      · exact .inr (.inl hk)
      · exact .inr (.inr (hown.trans hk))
    · rcases hk with hk | ⟨hk, hp⟩
      · exact hk
      · exfalso
        have : k < w.heap.size := by
          rcases hp with hp | hp | hp
          · omega
          · exact HF.out.lt (.inr (.inl hp))
          · exact HF.out.lt (.inr (.inr (hown.trans hp)))
        omega
  · exact (Ch.of_below B3.out).setCell (.inl (HU.out f (.inl rfl)).1.1) _
end Go.Proofs.Ytggdpeeiioibgaa.E
