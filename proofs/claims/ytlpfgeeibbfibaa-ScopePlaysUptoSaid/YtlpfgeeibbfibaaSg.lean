/- Marline, layer 19: calls on a scope that change it, or look into it. Conditions: as each says. -/
import Derived.Test.YtlpfgeeibbfibaaSc
import Derived.Deep.RegionHeld3
import Derived.Deep.RegionLaw
import Derived.Deep.AppendLies
import Derived.BigRegion
namespace Go.Proofs.Ytlpfgeeibbfibaa.E
open Go.RowKit Go.Proofs.YtlpfgeeibbfibaaW.PrintWords Go.Proofs.YtlpfgeeibbfibaaW.PrintLast Go.Proofs.YtlpfgeeibbfibaaW.PrintMore Go.Proofs.Ytlpfgeeibbfibaa.Kinds Go.Proofs.Ytlpfgeeibbfibaa.Obj
set_option linter.unusedVariables false
set_option linter.unusedSimpArgs false
set_option maxRecDepth 100000
section
variable {α : Type} {d : Kd α} {e : Nat} {W w1 : World} {v v1 : Value} {N0 : Nat} {xs : List α}
/-- a row whose elements lead below N0 alone, with one element more. -/
theorem low_app {rows : List (List Value)} {p : α} {cs : List Value} (hl : rows.length = xs.length) (hf : ∀ (j : Nat) (x : α) (c : List Value), xs[j]? = some x → rows[j]? = some c → Kd.FK d W (fun k => k < N0) x c)
    (hp : Kd.FK d W (fun k => k < N0) p cs) (hv : ∀ k, v.ownBlock = some k → N0 ≤ k) (hR : (Kd.raw d.sz).R e w1 N0 (fun _ => True) v1 (rows ++ [cs])) (hg : W.grownBy w1 v.ownBlock) :
    Kd.N d e w1 N0 (fun k => k < N0 ∨ v1.ownBlock = some k) v1 (xs ++ [p]) := by
  have hb1 := Kd.R_base hR
  have step : ∀ {x : α} {c : List Value}, Kd.FK d W (fun k => k < N0) x c → Kd.FK d w1 (fun k => (k < N0 ∨ v1.ownBlock = some k) ∧ some k ≠ v1.ownBlock) x c := by
    intro x c hq
    refine Kd.FK_mono (Kd.FK_step hq (fun k hk hlt => hg.block k hlt (fun he => ?_))) (fun k hk => ⟨.inl hk, fun he => ?_⟩)
    · have := hv k he.symm; omega
    · have := hb1 k he.symm; omega
  refine ⟨fun k hk => .inr hk, rows ++ [cs], by rw [List.length_append, List.length_append, hl]; rfl, Kd.raw_tight hR, fun j x c hx hc => ?_⟩
  rcases Nat.lt_or_ge j xs.length with hlt | hge
  · rw [List.getElem?_append_left hlt] at hx
    rw [List.getElem?_append_left (by omega)] at hc
    exact step (hf j x c hx hc)
  · rw [List.getElem?_append_right hge] at hx
    rw [List.getElem?_append_right (by omega), hl] at hc
    have hj : j - xs.length = 0 := by
      have := (List.getElem?_eq_some_iff.1 hx).1
      simp at this; omega
    rw [hj] at hx hc
    injection hx with hx
    injection hc with hc
    subst hx hc
    exact step hp
end
section
variable {N0 : Nat} {w w1 : World} {g : Nat} {vN vB v1 : Value} {l l' : List S53} {bs bs' : List Int} {m m' : Int}
theorem Sco.lt (h : Sco N0 w g vN vB l bs m) : g < w.heap.size := blk_lt h.blk
theorem Sco.size (h : Sco N0 w g vN vB l bs m) : N0 ≤ w.heap.size := Nat.le_of_lt (Nat.lt_of_le_of_lt h.ge h.lt)
/-- the row of beginnings was written. -/
theorem Sco.setB (h : Sco N0 w g vN vB l bs m) (hg : w.grownBy w1 vB.ownBlock) (ho : Kd.R (Kd.int .i64) 3 w1 N0 (fun _ => True) v1 bs') (hat : v1.ownBlock = vB.ownBlock ∨ ∃ b, v1.ownBlock = some b ∧ w.heap.size ≤ b) :
    Sco N0 (w1.setCell ⟨g, 1, none⟩ v1) g vN v1 l bs' m ∧ Upd g w (w1.setCell ⟨g, 1, none⟩ v1) := by
  obtain ⟨h1, h2⟩ := upd_field (j := 1) h.blk (v := vB) (by simp) h.neB hg hat
  have hb1 := blk_grown h.blk hg h.neB
  have hvB := Kd.R_base h.B
  refine ⟨⟨by simpa using h1, h.ge, ?_, ?_⟩, h2⟩
  · refine Kd.N_far (p := ⟨g, 1, none⟩) (Kd.N_grown h.N hg (fun k hk he => ?_)) (fun k hk he => ?_) v1
    · rcases hk with hk | hk
      · have := hvB k he.symm; omega
      · exact h.neNB hk he
    · have he : k = g := he
      subst he
      rcases hk with hk | hk
      · have := h.ge; omega
      · exact h.neN hk.symm
  · exact Kd.R_mono (Kd.R_tight rfl (Kd.R_set ho hb1 (by decide) 1 v1)) (fun k hk => hk.symm)
/-- the row of names was written. -/
theorem Sco.setN (h : Sco N0 w g vN vB l bs m) (hg : w.grownBy w1 vN.ownBlock) (ho : Kd.N k53 53 w1 N0 (fun k => k < N0 ∨ v1.ownBlock = some k) v1 l') (hat : v1.ownBlock = vN.ownBlock ∨ ∃ b, v1.ownBlock = some b ∧ w.heap.size ≤ b) :
    Sco N0 (w1.setCell ⟨g, 0, none⟩ v1) g v1 vB l' bs m ∧ Upd g w (w1.setCell ⟨g, 0, none⟩ v1) := by
  obtain ⟨h1, h2⟩ := upd_field (j := 0) h.blk (v := vN) (by simp) h.neN hg hat
  have hb1 := blk_grown h.blk hg h.neN
  have hne := Kd.N_ne ho hb1 (by decide)
  refine ⟨⟨by simpa using h1, h.ge, ?_, ?_⟩, h2⟩
  · refine Kd.N_far (p := ⟨g, 0, none⟩) ho (fun k hk he => ?_) v1
    have he : k = g := he
    subst he
    rcases hk with hk | hk
    · have := h.ge; omega
    · exact hne hk.symm
  · have hB : Kd.R (Kd.int .i64) 3 w1 N0 (fun k => vB.ownBlock = some k) vB bs := Kd.R_grown h.B hg (fun k hk he => h.neNB he.symm hk.symm)
    exact Kd.R_set hB hb1 (by decide) 0 v1
theorem Sco.setM (h : Sco N0 w g vN vB l bs m) (m2 : Int) : Sco N0 (w.setCell ⟨g, 2, none⟩ (.int .i64 m2)) g vN vB l bs m2 ∧ Upd g w (w.setCell ⟨g, 2, none⟩ (.int .i64 m2)) := by
  have hb := blk_set h.blk 2 (.int .i64 m2)
  have S : Sco N0 (w.setCell ⟨g, 2, none⟩ (.int .i64 m2)) g vN vB l bs m2 := by
    refine ⟨by simpa using hb, h.ge, ?_, Kd.R_set h.B h.blk (by decide) 2 _⟩
    refine Kd.N_far (p := ⟨g, 2, none⟩) h.N (fun k hk he => ?_) _
    have he : k = g := he
    subst he
    rcases hk with hk | hk
    · have := h.ge; omega
    · exact h.neN hk.symm
  exact ⟨S, Ch.setCell (p := ⟨g, 2, none⟩) (Ch.refl (Foot w g) w) (.inl (Foot.self w g)) _, fun k hk => .inl (h.foot.2 (S.foot.1 hk))⟩
end
set_option maxHeartbeats 8000000 in
theorem open_is {N0 : Nat} {g : Nat} {vN vB : Value} {l : List S53} {bs : List Int} {m : Int} (w : World) (h : Sco N0 w g vN vB l bs m) (hb : bs.length ≤ 1000000) :
    Calls Try.prog 15 #[.pointer (some ⟨g, 0, none⟩)] w fun e w' => e = .returned (.tuple #[]) ∧ ∃ vB', Sco N0 w' g vN vB' l (bs ++ [(l.length : Int)]) m ∧ Upd g w w' := by
  obtain ⟨A, c, rfl⟩ := Kd.N_slice h.N
  obtain ⟨A1, c1, rfl⟩ := Kd.R_slice h.B
  obtain ⟨k0, k1, k2, f0, f1, f2⟩ := h.cells
  have H := Lib.hid (h.below (below_drew (Below.refl w.heap.size w)))
  have nn := World.new_ne w _ k1
  have ng : g < w.heap.size := h.lt
  have HS := Lib.hid h.size
  have HLB := Lib.hid (show (bs.length + 1) * 8 ≤ 140737488355328 by omega)
  obtain ⟨y, hy⟩ : ∃ y, bs ++ [(l.length : Int)] = y := ⟨_, rfl⟩
  have HY := Lib.hid hy
  rw [hy]
  clear h hb hy
  go_enter Try.func15, Try.ntmps15
  go_wp2_with fail
  go_region_law
    ((first
      | (refine Kd.R_append_step (Kd.int .i64) (w0 := w) N0 rfl (.tmp 8) (.tmp 14) 46 3 (.int .i64 0) 8 rfl Try.underlying46 PA.info3 rfl (by decide) (by omega) (.slice A1 bs.length c1) bs (l.length : Int) [.int .i64 l.length] (fun _ => True) (fun _ => False) rfl rfl rfl (fun _ hk => hk.elim) (fun _ _ => trivial) (Kd.R_mono H.out.B (fun _ _ => trivial)) (below_drew (Below.refl _ _)) HS.out HLB.out ?_; intro v2' w2 ho hbl hg hat; rw [HY.out] at ho; have hb2 := blk_grown H.out.blk hg H.out.neB; obtain ⟨q0, q1, q2⟩ : w2.cell? ⟨g, 0, none⟩ = some (.slice A l.length c) ∧ w2.cell? ⟨g, 1, none⟩ = some (.slice A1 bs.length c1) ∧ w2.cell? ⟨g, 2, none⟩ = some (.int .i64 m) := ⟨(blk_cell hb2 0).trans rfl, (blk_cell hb2 1).trans rfl, (blk_cell hb2 2).trans rfl⟩; have qf := blk_frozen hb2 1; obtain ⟨A2', c2', rfl⟩ := Kd.R_slice ho; have HO := Lib.hid ho; have HG := Lib.hid hg; have HAT := Lib.hid hat; clear ho hg hat hb2 hbl)))
  all_goals
    go_wp2_with fail
    go_end0
    obtain ⟨S, U⟩ := Sco.setB H.out HG.out HO.out HAT.out
    exact ⟨rfl, _, S, Upd.trans (Upd.drew (Upd.refl g w)) U⟩
/-- where a name stands. -/
def idx (nm : ByteArray) : List S53 → Nat → Option Nat
  | [], _ => none
  | x :: r, j => if x.f0.toList = nm.toList then some j else idx nm r (j + 1)
theorem idx_ge {nm : ByteArray} : ∀ {l : List S53} {j i : Nat}, idx nm l j = some i → j ≤ i ∧ i < j + l.length
  | [], j, i, h => by cases h
  | x :: r, j, i, h => by
    unfold idx at h
    split at h
    · injection h with h; subst h; exact ⟨Nat.le_refl _, by simp⟩
    · have := idx_ge h; simp only [List.length_cons]; omega
theorem idx_step (nm : ByteArray) (l : List S53) (j : Nat) (h : j < l.length) : idx nm (l.drop j) j = if (rd_T53 l (j : Int)).f0.toList = nm.toList then some j else idx nm (l.drop (j + 1)) (j + 1) := by
  have e : rd_T53 l (j : Int) = l[j] := by unfold rd_T53; rw [Int.toNat_natCast, List.getD_eq_getElem?_getD, List.getElem?_eq_getElem h]; rfl
  rw [List.drop_eq_getElem_cons h, e, idx]
abbrev zN : Value := .agg #[.int .i64 0, .int .i64 0, .int .i64 0, .string ⟨#[]⟩, .slice none 0 0]
abbrev nV (x : S30) (A : Option Addr) (c : Nat) : Value := .agg #[.int .i64 x.f0, .int .i64 x.f1, .int .i64 x.f2, .string x.f3, .slice A x.f4.length c]
theorem Nd.cells {w : World} {g : Nat} {a b c d e : Value} (h : Nd w g #[a, b, c, d, e]) : w.cell? ⟨g, 0, none⟩ = some a ∧ w.cell? ⟨g, 1, none⟩ = some b ∧ w.cell? ⟨g, 2, none⟩ = some c ∧ w.cell? ⟨g, 3, none⟩ = some d ∧ w.cell? ⟨g, 4, none⟩ = some e ∧ w.frozen? ⟨g, 0, none⟩ = false ∧ w.frozen? ⟨g, 1, none⟩ = false ∧ w.frozen? ⟨g, 2, none⟩ = false ∧ w.frozen? ⟨g, 3, none⟩ = false ∧ w.frozen? ⟨g, 4, none⟩ = false :=
  ⟨(blk_cell h 0).trans rfl, (blk_cell h 1).trans rfl, (blk_cell h 2).trans rfl, (blk_cell h 3).trans rfl, (blk_cell h 4).trans rfl, blk_frozen h 0, blk_frozen h 1, blk_frozen h 2, blk_frozen h 3, blk_frozen h 4⟩
theorem Nd.below {w w' : World} {g : Nat} {cs : Array Value} (h : Nd w g cs) (hb : Below w.heap.size w w') : Nd w' g cs := (hb.block g (blk_lt h)).trans h
/-- a name in a variable. -/
def Lc (w : World) (g : Nat) (x : S53) (A : Option Addr) (c : Nat) : Prop := w.heap[g]? = some (.cells #[.string x.f0, .int .i64 x.f1.f0, .int .i64 x.f1.f1, .int .i64 x.f1.f2, .string x.f1.f3, .slice A x.f1.f4.length c] 53 (0, 0))
theorem Lc.cells {w : World} {g : Nat} {x : S53} {A : Option Addr} {c : Nat} (h : Lc w g x A c) : w.cell? ⟨g, 0, none⟩ = some (.string x.f0) ∧ w.cell? ⟨g, 1, none⟩ = some (.int .i64 x.f1.f0) ∧ w.cell? ⟨g, 2, none⟩ = some (.int .i64 x.f1.f1) ∧ w.cell? ⟨g, 3, none⟩ = some (.int .i64 x.f1.f2) ∧ w.cell? ⟨g, 4, none⟩ = some (.string x.f1.f3) ∧ w.cell? ⟨g, 5, none⟩ = some (.slice A x.f1.f4.length c) :=
  ⟨(blk_cell h 0).trans rfl, (blk_cell h 1).trans rfl, (blk_cell h 2).trans rfl, (blk_cell h 3).trans rfl, (blk_cell h 4).trans rfl, (blk_cell h 5).trans rfl⟩
theorem below_set5 {N0 : Nat} {w W : World} {g : Nat} (h : Below N0 w W) (hg : N0 ≤ g) (a b c d e : Value) : Below N0 w (((((W.setCell ⟨g, 0, none⟩ a).setCell ⟨g, 1, none⟩ b).setCell ⟨g, 2, none⟩ c).setCell ⟨g, 3, none⟩ d).setCell ⟨g, 4, none⟩ e) := by
  have one : ∀ {X : World} (j : Nat) (u : Value), Below N0 w X → Below N0 w (X.setCell ⟨g, j, none⟩ u) := fun {X} j u hX =>
    ⟨hX.os, hX.tape, hX.output, by simpa using hX.size, fun k hk => (Below.heap_setCell X ⟨g, j, none⟩ u k (by show k ≠ g; omega)).trans (hX.block k hk)⟩
  exact one 4 e (one 3 d (one 2 c (one 1 b (one 0 a h))))
def GetP (l : List S53) (o : Option Nat) (w : World) (e : Ending) (w' : World) : Prop :=
  (match o with
   | none => e = .returned (.tuple #[.int .i64 0, zN, .bool false])
   | some i => ∃ A c, e = .returned (.tuple #[.int .i64 i, nV (rd_T53 l i).f1 A c, .bool true]) ∧ (rd_T53 l i).f1.f4.length ≤ c ∧ k30.C w' A (rd_T53 l i).f1.f4.length (rd_T53 l i).f1.f4) ∧ Below w.heap.size w w'
set_option maxHeartbeats 8000000 in
theorem get_is {N0 : Nat} {g : Nat} {vN vB : Value} {l : List S53} {bs : List Int} {m : Int} (nm : ByteArray) (w : World) (h : Sco N0 w g vN vB l bs m) (hl : l.length ≤ 1000000000) :
    Calls Try.prog 9 #[.pointer (some ⟨g, 0, none⟩), .string nm] w (GetP l (idx nm l 0) w) := by
  have hu53 := Try.underlying53
  have hu30 := Try.underlying30
  obtain ⟨A, c, rfl⟩ := Kd.N_slice h.N
  have HC := Lib.hid (Kd.N_reads' h.N).2.2
  obtain ⟨k0, k1, k2, f0, f1, f2⟩ := (h.below (below_alloc (Below.refl w.heap.size w) (.cells #[.int .i64 0, .int .i64 0, .int .i64 0, .string ⟨#[]⟩, .slice none 0 0] 30))).cells
  obtain ⟨n, hn⟩ : ∃ n, l.length = n := ⟨_, rfl⟩
  have HN := Lib.hid hn; have HLN := Lib.hid hl
  obtain ⟨o, ho⟩ : ∃ o, idx nm l 0 = o := ⟨_, rfl⟩
  have HO := Lib.hid ho
  rw [ho]
  have G := Lib.hid (show ∃ w1 : World, w.alloc (.cells #[.int .i64 0, .int .i64 0, .int .i64 0, .string ⟨#[]⟩, .slice none 0 0] 30) = w1 ∧ Nd w1 w.heap.size #[.int .i64 0, .int .i64 0, .int .i64 0, .string ⟨#[]⟩, .slice none 0 0] ∧ Below w.heap.size w w1 from ⟨_, rfl, blk_new w _, below_alloc (Below.refl _ _) _⟩)
  clear h ho hl
  go_enter Try.func9, Try.ntmps9
  go_wp2_with fail
  obtain ⟨w1, hw1, d1, b1⟩ := G.out
  simp only [hw1]
  have D1 := Lib.hid d1; have B1 := Lib.hid b1
  obtain ⟨g5, hg5⟩ : ∃ g5, w.heap.size = g5 := ⟨_, rfl⟩
  have HG5 := Lib.hid hg5
  rw [hg5] at d1 ⊢
  have D1 := Lib.hid d1
  clear G hw1 d1 b1 k0 k1 k2 f0 f1 f2 hg5
  go_loopw [17] (fun i w' => ∃ (j : Nat), i = .int .i64 j ∧ j ≤ n ∧ Hid (idx nm (l.drop j) j = o) ∧ Hid (Nd w' g5 #[.int .i64 0, .int .i64 0, .int .i64 0, .string ⟨#[]⟩, .slice none 0 0]) ∧ Hid (Below w.heap.size w w')) (fun i _ => n - (intOf i).toNat)
  case atStart => exact ⟨0, rfl, Nat.zero_le _, Lib.hid (by rw [List.drop_zero]; exact HO.out), D1, B1⟩
  case round =>
    obtain ⟨j, rfl, hj, HI, HD, HB⟩ := hrel
    by_cases hlt : j < n
    · have hjl : j < l.length := by have := HN.out; omega
      obtain ⟨ad, A5, c5, he, q0, q1, q2, q3, q4, q5, q6, q7⟩ := at_T53 HC.out (j : Int) (by omega) (by omega)
      rw [Int.toNat_natCast] at q0 q1 q2 q3 q4 q5
      have q0 := pw_cell_below HB.out q0
      have q1 := pw_cell_below HB.out q1
      have q2 := pw_cell_below HB.out q2
      have q3 := pw_cell_below HB.out q3
      have q4 := pw_cell_below HB.out q4
      have q5 := pw_cell_below HB.out q5
      have hst := idx_step nm l j hjl
      rw [HI.out] at hst
      have HST := Lib.hid hst
      have HW := Lib.hid (show wrap64 ((j : Int) + 1) = (j : Int) + 1 by have := HLN.out; unfold wrap64; omega)
      obtain ⟨y, hy⟩ : ∃ y, rd_T53 l (j : Int) = y := ⟨_, rfl⟩
      have HY := Lib.hid hy
      rw [hy] at q0 q1 q2 q3 q4 q5 q6 q7 
      have HQ6 := Lib.hid q6; have HQ7 := Lib.hid q7
      subst he
      have hA : (0 : Int) ≤ (j : Int) := Int.natCast_nonneg j
      have hB : (j : Int) < (n : Int) := Int.ofNat_lt.2 hlt
      clear hjl hst hy q6 q7
      go_upto_region 6 with (fail)
      obtain ⟨g8, hg8⟩ : ∃ g8, wr.heap.size = g8 := ⟨_, rfl⟩
      have H3 : ∃ w3 : World, wr.alloc (.cells #[.string y.f0, .int .i64 y.f1.f0, .int .i64 y.f1.f1, .int .i64 y.f1.f2, .string y.f1.f3, .slice A5 y.f1.f4.length c5] 53) = w3 ∧ Lc w3 g8 y A5 c5 ∧ Nd w3 g5 #[.int .i64 0, .int .i64 0, .int .i64 0, .string ⟨#[]⟩, .slice none 0 0] ∧ Below w.heap.size w w3 :=
        ⟨_, rfl, by rw [← hg8]; exact blk_new wr _, blk_alloc HD.out _, below_alloc HB.out _⟩
      rw [hg8]
      obtain ⟨w3, hw3, v3, d3, b3⟩ := H3
      rw [hw3]
      have D3 := Lib.hid d3; have B3 := Lib.hid b3
      obtain ⟨m0, m1, m2, m3, m4, m5⟩ := v3.cells
      obtain ⟨a0, a1, a2, a3, a4, f0, f1, f2, f3, f4⟩ := d3.cells
      clear hw3 v3 d3 b3 HD HB hg8 q0 q1 q2 q3 q4 q5
      by_cases hnm : y.f0.toList = nm.toList
      · have HF := Lib.hid (show o = some j by rw [HST.out, HY.out, if_pos hnm])
        have p0 : (y.f0.toList == nm.toList) = true := by rw [beq_iff_eq]; exact hnm
        go_upto_region 7 with (fail)
        go_region
        all_goals
          go_wp2_with fail
          refine bodyPost_ret (results_list (rs := [ResultVar.tmp 4, ResultVar.cell 5 30, ResultVar.tmp 6]) (vs := [.int .i64 j, nV y.f1 A5 c5, .bool true]) rfl (by simp) (.tmp (.cell g5 30 #[.int .i64 y.f1.f0, .int .i64 y.f1.f1, .int .i64 y.f1.f2, .string y.f1.f3, .slice A5 y.f1.f4.length c5] (0, 0) _ rfl (by exact Nd.set5 (w := w3) D3.out _ _ _ _ _) Try.underlying30 rfl (by kernel_rfl) (.tmp .nil)))) rfl ?_
          rw [HF.out]
          have BE := below_set5 B3.out (g := g5) (by rw [HG5.out]; exact Nat.le_refl _) (.int .i64 y.f1.f0) (.int .i64 y.f1.f1) (.int .i64 y.f1.f2) (.string y.f1.f3) (.slice A5 y.f1.f4.length c5)
          have HY2 := HY.out
          have HG6 := HQ6.out
          refine ⟨⟨A5, c5, ?_, ?_, ?_⟩, by first | exact BE | exact below_drew BE⟩
          · rw [HY2]
          · rw [HY2]; exact HG6
          · rw [HY2]; exact Kd.C_below HQ7.out (by first | exact BE | exact below_drew BE)
      · have HF := Lib.hid (show idx nm (l.drop (j + 1)) (j + 1) = o by rw [HST.out, HY.out, if_neg hnm])
        have p0 : (y.f0.toList == nm.toList) = false := by rw [beq_eq_false_iff_ne]; exact hnm
        go_wp2_with fail
        go_roundw
        case rel => exact ⟨j + 1, by rw [HW.out]; push_cast; rfl, hlt, HF, D3, B3⟩
        case measure => rw [HW.out]; simp [intOf]; omega
    · have hje : j = n := by omega
      subst hje
      have ho : o = none := by rw [← HI.out, List.drop_of_length_le (by rw [HN.out]; exact Nat.le_refl _)]; rfl
      subst ho
      obtain ⟨a0, a1, a2, a3, a4, b0, b1, b2, b3, b4⟩ := HD.out.cells
      go_wp2_with fail
      refine bodyPost_ret (results_list (rs := [ResultVar.tmp 4, ResultVar.cell 5 30, ResultVar.tmp 6]) (vs := [.int .i64 0, zN, .bool false]) rfl (by decide) (.tmp (.cell g5 30 #[.int .i64 0, .int .i64 0, .int .i64 0, .string ⟨#[]⟩, .slice none 0 0] (0, 0) _ rfl (Nd.set5 HD.out _ _ _ _ _) Try.underlying30 rfl (by kernel_rfl) (.tmp .nil)))) rfl ?_
      exact ⟨rfl, below_set5 HB.out (by rw [HG5.out]; exact Nat.le_refl _) _ _ _ _ _⟩
end Go.Proofs.Ytlpfgeeibbfibaa.E
