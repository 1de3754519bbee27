/- Marline, layer 19: a scope in memory, and the calls on it. Conditions: as each says. -/
import Derived.Test.YtlpfgeeibbfibaaPAx2
import Derived.Test.YtlpfgeeibbfibaaObj
namespace Go.Proofs.Ytlpfgeeibbfibaa.E
open Go.RowKit Go.Proofs.YtlpfgeeibbfibaaW.PrintWords Go.Proofs.YtlpfgeeibbfibaaW.PrintLast Go.Proofs.YtlpfgeeibbfibaaW.PrintMore Go.Proofs.Ytlpfgeeibbfibaa.Kinds Go.Proofs.Ytlpfgeeibbfibaa.Obj
set_option linter.unusedVariables false
set_option linter.unusedSimpArgs false
set_option maxRecDepth 100000
theorem info53 : (Try.prog.info? 53).map (fun i => (i.zero, i.size, i.bytes)) = some (some (.agg #[.string ⟨#[]⟩, .int .i64 0, .int .i64 0, .int .i64 0, .string ⟨#[]⟩, .slice none 0 0]), 6, 80) := by kernel_rfl
/-- a scope in memory: its names, where each block's begin, and the most there were. -/
structure Sco (N0 : Nat) (W : World) (g : Nat) (vN vB : Value) (l : List S53) (bs : List Int) (m : Int) : Prop where
  blk : W.heap[g]? = some (.cells #[vN, vB, .int .i64 m] 49 (0, 0))
  ge : N0 ≤ g
  N : Kd.N k53 53 W N0 (fun k => k < N0 ∨ vN.ownBlock = some k) vN l
  B : Kd.R (Kd.int .i64) 3 W N0 (fun k => vB.ownBlock = some k) vB bs
section
variable {N0 : Nat} {W W' : World} {g : Nat} {vN vB : Value} {l : List S53} {bs : List Int} {m : Int}
theorem Sco.step (h : Sco N0 W g vN vB l bs m) (hm : ∀ k, (k < N0 ∨ k = g ∨ vN.ownBlock = some k ∨ vB.ownBlock = some k) → k < W.heap.size → W'.heap[k]? = W.heap[k]?) : Sco N0 W' g vN vB l bs m :=
  ⟨(hm g (.inr (.inl rfl)) (blk_lt h.blk)).trans h.blk, h.ge, Kd.N_step h.N (fun k hk hlt => hm k (hk.elim .inl (fun e => .inr (.inr (.inl e)))) hlt), Kd.R_step h.B (fun k hk hlt => hm k (.inr (.inr (.inr hk))) hlt)⟩
theorem Sco.below (h : Sco N0 W g vN vB l bs m) (hb : Below W.heap.size W W') : Sco N0 W' g vN vB l bs m := h.step (fun k _ hk => hb.block k hk)
theorem Sco.cells (h : Sco N0 W g vN vB l bs m) : W.cell? ⟨g, 0, none⟩ = some vN ∧ W.cell? ⟨g, 1, none⟩ = some vB ∧ W.cell? ⟨g, 2, none⟩ = some (.int .i64 m) ∧ W.frozen? ⟨g, 0, none⟩ = false ∧ W.frozen? ⟨g, 1, none⟩ = false ∧ W.frozen? ⟨g, 2, none⟩ = false :=
  ⟨(blk_cell h.blk 0).trans rfl, (blk_cell h.blk 1).trans rfl, (blk_cell h.blk 2).trans rfl, blk_frozen h.blk 0, blk_frozen h.blk 1, blk_frozen h.blk 2⟩
/-- the blocks of it. -/
theorem Sco.foot (h : Sco N0 W g vN vB l bs m) {k : Nat} : Foot W g k ↔ k = g ∨ vN.ownBlock = some k ∨ vB.ownBlock = some k := by
  constructor
  · intro hf
    rcases Foot.of h.blk hf with h1 | ⟨v, hv, ho⟩
    · exact .inl h1
    · have hv : v = vN ∨ v = vB ∨ v = .int .i64 m := by simpa using hv
      rcases hv with rfl | rfl | rfl
      · exact .inr (.inl ho)
      · exact .inr (.inr ho)
      · cases ho
  · rintro (rfl | h1 | h1)
    · exact Foot.self _ _
    · exact Foot.mk h.blk (v := vN) (by simp) h1
    · exact Foot.mk h.blk (v := vB) (by simp) h1
theorem Sco.neN (h : Sco N0 W g vN vB l bs m) : some g ≠ vN.ownBlock := Kd.N_ne h.N h.blk (by decide)
theorem Sco.neB (h : Sco N0 W g vN vB l bs m) : some g ≠ vB.ownBlock := Kd.R_ne h.B h.blk (by decide)
theorem Sco.neNB (h : Sco N0 W g vN vB l bs m) {k : Nat} (hk : vN.ownBlock = some k) : some k ≠ vB.ownBlock := by
  obtain ⟨cs, hb⟩ := Kd.N_typed h.N k hk
  exact Kd.R_ne h.B hb (by decide)
end
/-- a node in a variable. -/
def Nd (w : World) (g : Nat) (cs : Array Value) : Prop := w.heap[g]? = some (.cells cs 30 (0, 0))
theorem Nd.set5 {w : World} {g : Nat} {a b c d e : Value} (h : Nd w g #[a, b, c, d, e]) (a2 b2 c2 d2 e2 : Value) :
    Nd (((((w.setCell ⟨g, 0, none⟩ a2).setCell ⟨g, 1, none⟩ b2).setCell ⟨g, 2, none⟩ c2).setCell ⟨g, 3, none⟩ d2).setCell ⟨g, 4, none⟩ e2) g #[a2, b2, c2, d2, e2] := by
  have h1 := blk_set (blk_set (blk_set (blk_set (blk_set h 0 a2) 1 b2) 2 c2) 3 d2) 4 e2
  unfold Nd
  simpa using h1
theorem one_row (w : World) (N0 : Nat) (hN : N0 ≤ w.heap.size) (x : Int) : Kd.R (Kd.int .i64) 3 (w.alloc (.cells #[.int .i64 x] 3)) N0 (fun k => (Value.slice (some ⟨w.heap.size, 0, none⟩) 1 1).ownBlock = some k) (.slice (some ⟨w.heap.size, 0, none⟩) 1 1) [x] :=
  ⟨fun k hk => hk, OwnRow.lit w N0 (inner := [.int .i64 x]) ((Reps.none _ 1).snoc (p := x) (c := [.int .i64 x]) rfl rfl) hN (by simp)⟩
/-- no scope has none of it. -/
theorem len_nil (w : World) : Calls Try.prog 11 #[.pointer none] w fun e w' => e = .returned (.int .i64 0) ∧ Below w.heap.size w w' := by
  go_enter Try.func11, Try.ntmps11
  go_wp2_with fail
  go_ret
  exact ⟨rfl, Below.refl _ _⟩
theorem deep_nil (w : World) : Calls Try.prog 12 #[.pointer none] w fun e w' => e = .returned (.int .i64 0) ∧ Below w.heap.size w w' := by
  go_enter Try.func12, Try.ntmps12
  go_wp2_with fail
  go_ret
  exact ⟨rfl, Below.refl _ _⟩
theorem most_nil (w : World) : Calls Try.prog 13 #[.pointer none] w fun e w' => e = .returned (.int .i64 0) ∧ Below w.heap.size w w' := by
  go_enter Try.func13, Try.ntmps13
  go_wp2_with fail
  go_ret
  exact ⟨rfl, Below.refl _ _⟩
theorem open_nil (w : World) : Calls Try.prog 15 #[.pointer none] w fun e w' => e = .returned (.tuple #[]) ∧ Below w.heap.size w w' := by
  go_enter Try.func15, Try.ntmps15
  go_wp2_with fail
  go_end0
  exact ⟨rfl, Below.refl _ _⟩
theorem get_nil (s : ByteArray) (w : World) : Calls Try.prog 9 #[.pointer none, .string s] w fun e w' => e = .returned (.tuple #[.int .i64 0, .agg #[.int .i64 0, .int .i64 0, .int .i64 0, .string ⟨#[]⟩, .slice none 0 0], .bool false]) ∧ Below w.heap.size w w' := by
  go_enter Try.func9, Try.ntmps9
  go_wp2_with fail
  refine bodyPost_ret (results_list (rs := [ResultVar.tmp 4, ResultVar.cell 5 30, ResultVar.tmp 6]) (vs := [.int .i64 0, .agg #[.int .i64 0, .int .i64 0, .int .i64 0, .string ⟨#[]⟩, .slice none 0 0], .bool false]) rfl (by decide) (.tmp (.cell w.heap.size 30 #[.int .i64 0, .int .i64 0, .int .i64 0, .string ⟨#[]⟩, .slice none 0 0] (0, 0) _ rfl (blk_new w _) Try.underlying30 rfl (by kernel_rfl) (.tmp .nil)))) rfl ?_
  exact ⟨rfl, below_alloc (Below.refl _ _) _⟩
theorem close_nil (w : World) : Calls Try.prog 17 #[.pointer none] w fun e w' => e = .returned (.bool false) ∧ Below w.heap.size w w' := by
  have D := Lib.hid (deep_nil w)
  go_enter Try.func17, Try.ntmps17
  go_wp2_with fail
  refine D.out.mono ?_
  rintro e w2 ⟨rfl, hb⟩
  have HB := Lib.hid hb
  clear hb D
  go_wp2_with fail
  go_ret
  exact ⟨rfl, HB.out⟩
theorem put_nil (s : ByteArray) (a b c d e : Value) (w : World) : Calls Try.prog 16 #[.pointer none, .string s, .agg #[a, b, c, d, e]] w fun e w' => e = .returned (.tuple #[.int .i64 0, .bool false]) ∧ Below w.heap.size w w' := by
  have D := Lib.hid (get_nil s (w.alloc (.cells #[a, b, c, d, e] 30)))
  have HA := Lib.hid (below_alloc (Below.refl w.heap.size w) (.cells #[a, b, c, d, e] 30))
  go_enter Try.func16, Try.ntmps16
  go_wp2_with fail
  refine D.out.mono ?_
  rintro e w2 ⟨rfl, hb⟩
  have HB := Lib.hid hb
  clear hb D
  go_wp2_with fail
  go_ret2
  exact ⟨rfl, below_alloc (HA.out.trans (HB.out.mono HA.out.size)) _⟩
theorem len_is {N0 : Nat} {g : Nat} {vN vB : Value} {l : List S53} {bs : List Int} {m : Int} (w : World) (h : Sco N0 w g vN vB l bs m) : Calls Try.prog 11 #[.pointer (some ⟨g, 0, none⟩)] w fun e w' => e = .returned (.int .i64 l.length) ∧ Below w.heap.size w w' := by
  obtain ⟨A, c, rfl⟩ := Kd.N_slice h.N
  obtain ⟨k0, k1, k2, f0, f1, f2⟩ := h.cells
  clear h
  go_enter Try.func11, Try.ntmps11
  go_wp2_with fail
  go_ret
  exact ⟨rfl, Below.refl _ _⟩
theorem deep_is {N0 : Nat} {g : Nat} {vN vB : Value} {l : List S53} {bs : List Int} {m : Int} (w : World) (h : Sco N0 w g vN vB l bs m) : Calls Try.prog 12 #[.pointer (some ⟨g, 0, none⟩)] w fun e w' => e = .returned (.int .i64 bs.length) ∧ Below w.heap.size w w' := by
  obtain ⟨A, c, rfl⟩ := Kd.R_slice h.B
  obtain ⟨k0, k1, k2, f0, f1, f2⟩ := h.cells
  clear h
  go_enter Try.func12, Try.ntmps12
  go_wp2_with fail
  go_ret
  exact ⟨rfl, Below.refl _ _⟩
theorem most_is {N0 : Nat} {g : Nat} {vN vB : Value} {l : List S53} {bs : List Int} {m : Int} (w : World) (h : Sco N0 w g vN vB l bs m) : Calls Try.prog 13 #[.pointer (some ⟨g, 0, none⟩)] w fun e w' => e = .returned (.int .i64 m) ∧ Below w.heap.size w w' := by
  obtain ⟨k0, k1, k2, f0, f1, f2⟩ := h.cells
  clear h
  go_enter Try.func13, Try.ntmps13
  go_wp2_with fail
  go_ret
  exact ⟨rfl, Below.refl _ _⟩
set_option maxHeartbeats 4000000 in
theorem new_calls (N0 : Nat) (w : World) (hN : N0 ≤ w.heap.size) : Calls Try.prog 6 #[] w fun e w' => ∃ g vN vB, e = .returned (.pointer (some ⟨g, 0, none⟩)) ∧ w.heap.size ≤ g ∧ (∀ k, Foot w' g k → w.heap.size ≤ k) ∧ Sco N0 w' g vN vB [] [0] 0 ∧ Below w.heap.size w w' := by
  go_enter Try.func6, Try.ntmps6
  go_wp2_with fail
  go_ret
  have hb : ((w.alloc (.cells #[.int .i64 0] 3)).alloc (.cells #[.slice none 0 0, .slice (some ⟨w.heap.size, 0, none⟩) 1 1, .int .i64 0] 49)).heap[w.heap.size + 1]? = some (.cells #[.slice none 0 0, .slice (some ⟨w.heap.size, 0, none⟩) 1 1, .int .i64 0] 49 (0, 0)) := by
    have h1 := blk_new (w.alloc (.cells #[.int .i64 0] 3)) (.cells #[.slice none 0 0, .slice (some ⟨w.heap.size, 0, none⟩) 1 1, .int .i64 0] 49)
    rw [show (w.alloc (.cells #[.int .i64 0] 3)).heap.size = w.heap.size + 1 by simp] at h1
    exact h1
  have S : Sco N0 ((w.alloc (.cells #[.int .i64 0] 3)).alloc (.cells #[.slice none 0 0, .slice (some ⟨w.heap.size, 0, none⟩) 1 1, .int .i64 0] 49)) (w.heap.size + 1) (.slice none 0 0) (.slice (some ⟨w.heap.size, 0, none⟩) 1 1) [] [0] 0 :=
    ⟨hb, by omega, Kd.N_nil _ _ _ _ _, Kd.R_alloc (one_row w N0 hN 0) _⟩
  refine ⟨_, _, _, rfl, by omega, fun k hk => ?_, S, below_alloc (below_alloc (Below.refl _ _) _) _⟩
  rcases S.foot.1 hk with rfl | h1 | h1
  · omega
  · simp [Value.ownBlock] at h1
  · have : w.heap.size = k := by simpa [Value.ownBlock] using h1
    omega
end Go.Proofs.Ytlpfgeeibbfibaa.E
