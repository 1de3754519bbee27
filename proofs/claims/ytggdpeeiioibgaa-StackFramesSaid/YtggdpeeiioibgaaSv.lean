/- Marline, layer 36: calls on a stack that has frames, out of bounds. Conditions: as each says. -/
import Derived.Test.YtggdpeeiioibgaaSw
namespace Go.Proofs.Ytggdpeeiioibgaa.E
open Go.RowKit Go.Proofs.YtggdpeeiioibgaaW.PrintWords Go.Proofs.YtggdpeeiioibgaaW.PrintLast Go.Proofs.YtggdpeeiioibgaaW.PrintMore Go.Proofs.Ytggdpeeiioibgaa.Kinds Go.Proofs.Ytggdpeeiioibgaa.Obj
set_option linter.unusedVariables false
set_option linter.unusedSimpArgs false

set_option maxHeartbeats 4000000 in
set_option maxRecDepth 100000 in
theorem take_out {N0 : Nat} {P : Nat → Prop} {s : Nat} {x : S65} {l : List S65} (w : World) (h : Stk N0 w P s (x :: l)) (n : Int) (hn : n < 0 ∨ (x.f3.length : Int) < n) :
    Calls Try.prog 48 #[.pointer (some ⟨s, 0, none⟩), .int .i64 n] w fun e w' => e = .returned (.tuple #[.slice none 0 0, .bool false]) ∧ Below w.heap.size w w' := by
  obtain ⟨A, c, f, fs, hx⟩ := h.split
  have T := Lib.hid (top_cons hx)
  obtain ⟨A2, c2, A3, c3, hf, hu, hr⟩ := hx.head
  obtain ⟨k0, k1, k2, k3, _⟩ := hf.cells
  clear h hx hf hu hr
  by_cases h0 : n < 0
  · have p1 : decide (n < 0) = true := decide_eq_true h0
    go_enter Try.func48, Try.ntmps48
    go_wp2_with fail
    refine (T.out _ (Below.refl _ _)).mono ?_
    rintro e w2 ⟨rfl, hb⟩
    have HB := Lib.hid hb
    have k4 := pw_cell_below hb k3
    clear hb k0 k1 k2 k3
    go_wp2_with fail
    go_ret2
    exact ⟨rfl, HB.out⟩
  · have p1 : decide (n < 0) = false := decide_eq_false h0
    have p2 : decide ((x.f3.length : Int) < n) = true := decide_eq_true (by omega)
    go_enter Try.func48, Try.ntmps48
    go_wp2_with fail
    refine (T.out _ (Below.refl _ _)).mono ?_
    rintro e w2 ⟨rfl, hb⟩
    have HB := Lib.hid hb
    have k4 := pw_cell_below hb k3
    clear hb k0 k1 k2 k3
    go_wp2_with fail
    go_ret2
    exact ⟨rfl, HB.out⟩
theorem enter_out {N0 : Nat} {P : Nat → Prop} {s : Nat} {x : S65} {l : List S65} (w : World) (h : Stk N0 w P s (x :: l)) (f b n m : Int) (hm : n < m ∨ m < 0 ∨ (x.f3.length : Int) < m) :
    Calls Try.prog 46 #[.pointer (some ⟨s, 0, none⟩), .int .i64 f, .int .i64 b, .int .i64 n, .int .i64 m] w fun e w' => e = .returned (.bool false) ∧ Below w.heap.size w w' := by
  have T := Lib.hid h
  clear h
  by_cases h : n < m
  · have p1 : decide (n < m) = true := decide_eq_true h
    go_enter Try.func46, Try.ntmps46
    go_wp2_with fail
    go_ret
    exact ⟨rfl, Below.refl _ _⟩
  · have p1 : decide (n < m) = false := decide_eq_false h
    have HM := Lib.hid (show m < 0 ∨ (x.f3.length : Int) < m by omega)
    clear hm
    go_enter Try.func46, Try.ntmps46
    go_wp2_with fail
    refine (take_out w T.out m HM.out).mono ?_
    rintro e w2 ⟨rfl, hb⟩
    have HB := Lib.hid hb
    clear hb
    go_wp2_with fail
    go_ret
    exact ⟨rfl, HB.out⟩
theorem load_out {N0 : Nat} {P : Nat → Prop} {s : Nat} {x : S65} {l : List S65} (w : World) (ht : Stk N0 w P s (x :: l)) (n : Int) (hn : n < 0 ∨ (x.f2.length : Int) ≤ n) : Calls Try.prog 49 #[.pointer (some ⟨s, 0, none⟩), .int .i64 n] w fun e w' => e = .returned (.tuple #[v24 0 0 none 0 0, .bool false]) ∧ Below w.heap.size w w' := by
  have hu24 := Try.underlying24
  have T := Lib.hid ht
  obtain ⟨ga, hga⟩ : ∃ ga, w.heap.size = ga := ⟨_, rfl⟩
  have G : Hid (∃ w1 : World, w.alloc (.cells #[.int .i64 0, .int .i64 0, .slice none 0 0] 24) = w1 ∧ Var w1 ga z24 none 0 ∧ Below w.heap.size w w1) :=
    Lib.hid ⟨_, rfl, by rw [← hga]; exact blk_new _ _, below_alloc (Below.refl _ _) _⟩
  have wga : w.heap.size ≤ ga := by omega
  have GA := Lib.hid hga
  have HO := Lib.hid hn
  clear ht hga hn
  go_enter Try.func49, Try.ntmps49
  go_upto_region 1 with (fail)
  rw [GA.out]
  obtain ⟨w1, hw1, v1, b1⟩ := G.out
  rw [hw1]
  have V1 := Lib.hid v1; have B1 := Lib.hid b1
  clear G hw1 v1 b1
  go_wp2_with fail
  refine (slot_out w1 (T.out.below B1.out) n HO.out).mono ?_
  rintro e w2 ⟨rfl, hb⟩
  have B2 := Lib.hid (B1.out.trans (hb.mono B1.out.size))
  have V2 := Lib.hid (Var.below V1.out hb)
  clear hb V1 B1
  obtain ⟨m0, m1, m2, t0, t1, t2⟩ := V2.out.cells
  simp only [z24] at m0 m1 m2
  simp only [List.length_nil] at m2
  go_wp2_with fail
  refine bodyPost_ret (results_ct rfl _ _ ga 24 #[.int .i64 0, .int .i64 0, .slice none 0 0] (0, 0) _ rfl (V2.out.set z24 none 0) Try.underlying24 rfl (by kernel_rfl)) rfl ?_
  exact ⟨rfl, below3 B2.out wga⟩
theorem pop_out {N0 : Nat} {P : Nat → Prop} {s : Nat} {x : S65} {l : List S65} (w : World) (ht : Stk N0 w P s (x :: l)) (hn : x.f3.length = 0) : Calls Try.prog 74 #[.pointer (some ⟨s, 0, none⟩)] w fun e w' => e = .returned (.tuple #[v24 0 0 none 0 0, .bool false]) ∧ Below w.heap.size w w' := by
  have hu24 := Try.underlying24
  have T := Lib.hid ht
  obtain ⟨ga, hga⟩ : ∃ ga, w.heap.size = ga := ⟨_, rfl⟩
  have G : Hid (∃ w1 : World, w.alloc (.cells #[.int .i64 0, .int .i64 0, .slice none 0 0] 24) = w1 ∧ Var w1 ga z24 none 0 ∧ Below w.heap.size w w1) :=
    Lib.hid ⟨_, rfl, by rw [← hga]; exact blk_new _ _, below_alloc (Below.refl _ _) _⟩
  have wga : w.heap.size ≤ ga := by omega
  have GA := Lib.hid hga
  have HO := Lib.hid (show (1 : Int) < 0 ∨ (x.f3.length : Int) < 1 by omega)
  clear ht hga hn
  go_enter Try.func74, Try.ntmps74
  go_upto_region 1 with (fail)
  rw [GA.out]
  obtain ⟨w1, hw1, v1, b1⟩ := G.out
  rw [hw1]
  have V1 := Lib.hid v1; have B1 := Lib.hid b1
  clear G hw1 v1 b1
  go_wp2_with fail
  refine (take_out w1 (T.out.below B1.out) 1 HO.out).mono ?_
  rintro e w2 ⟨rfl, hb⟩
  have B2 := Lib.hid (B1.out.trans (hb.mono B1.out.size))
  have V2 := Lib.hid (Var.below V1.out hb)
  clear hb V1 B1
  obtain ⟨m0, m1, m2, t0, t1, t2⟩ := V2.out.cells
  simp only [z24] at m0 m1 m2
  simp only [List.length_nil] at m2
  go_wp2_with fail
  refine bodyPost_ret (results_ct rfl _ _ ga 24 #[.int .i64 0, .int .i64 0, .slice none 0 0] (0, 0) _ rfl (V2.out.set z24 none 0) Try.underlying24 rfl (by kernel_rfl)) rfl ?_
  exact ⟨rfl, below3 B2.out wga⟩
theorem store_out {N0 : Nat} {P : Nat → Prop} {s : Nat} {x0 : S65} {l : List S65} (w : World) (ht : Stk N0 w P s (x0 :: l)) (n : Int) (hn : n < 0 ∨ (x0.f2.length : Int) ≤ n) (x : S24) (A : Option Addr) (c : Nat) : Calls Try.prog 44 #[.pointer (some ⟨s, 0, none⟩), .int .i64 n, v24 x.f0 x.f1 A x.f2.length c] w fun e w' => e = .returned (.bool false) ∧ Below w.heap.size w w' := by
  have T := Lib.hid ht
  have hu24 := Try.underlying24
  have hB := Lib.hid (below_alloc (Below.refl w.heap.size w) (.cells #[.int .i64 x.f0, .int .i64 x.f1, .slice A x.f2.length c] 24))
  have HO := Lib.hid hn
  clear ht hn
  go_enter Try.func44, Try.ntmps44
  go_wp2_with fail
  refine (slot_out _ (T.out.below hB.out) n HO.out).mono ?_
  rintro e w2 ⟨rfl, hb⟩
  have HB := Lib.hid (hB.out.trans (hb.mono hB.out.size))
  clear hb
  go_wp2_with fail
  go_ret
  exact ⟨rfl, HB.out⟩
/-- what Pop comes to. -/
def PopP (N0 : Nat) (P : Nat → Prop) (s : Nat) (w : World) (y : S24) (l' : List S65) (e : Ending) (w' : World) : Prop :=
  ∃ B d, e = .returned (.tuple #[v24 y.f0 y.f1 B y.f2.length d, .bool true]) ∧ y.f2.length ≤ d ∧ Kd.F k24 w' (fun k => k < N0) B y.f2.length y.f2 ∧ Stk N0 w' P s l' ∧ Ch P w w'
set_option maxHeartbeats 4000000 in
set_option maxRecDepth 100000 in
theorem pop_yes {N0 : Nat} {P : Nat → Prop} {s : Nat} {x : S65} {l : List S65} (w : World) (h : Stk N0 w P s (x :: l)) (xs : List S24) (y : S24) (hx : x.f3 = xs ++ [y]) (hbig : x.f3.length * 40 ≤ 140737488355328) :
    Calls Try.prog 74 #[.pointer (some ⟨s, 0, none⟩)] w (PopP N0 P s w y (⟨x.f0, x.f1, x.f2, xs⟩ :: l)) := by
  have hu24 := Try.underlying24
  obtain ⟨i0, hi, hz0, hz1, hz2⟩ := info_parts info24
  obtain ⟨ga, hga⟩ : ∃ ga, w.heap.size = ga := ⟨_, rfl⟩
  have G : Hid (∃ w1 : World, w.alloc (.cells #[.int .i64 0, .int .i64 0, .slice none 0 0] 24) = w1 ∧ Var w1 ga z24 none 0 ∧ Below w.heap.size w w1) :=
    Lib.hid ⟨_, rfl, by rw [← hga]; exact blk_new _ _, below_alloc (Below.refl _ _) _⟩
  have wga : w.heap.size ≤ ga := by omega
  have GA := Lib.hid hga
  have hN0 : N0 ≤ w.heap.size := by obtain ⟨A, c, fs, hx⟩ := h.x; have := hx.ge; have := blk_lt hx.blk; omega
  have hlen : x.f3.length = xs.length + 1 := by rw [hx]; simp
  have e1 : x.f3.drop (x.f3.length - 1) = [y] := by rw [hlen, Nat.add_sub_cancel, hx]; simp
  have e2 : x.f3.take (x.f3.length - 1) = xs := by rw [hlen, Nat.add_sub_cancel, hx]; simp
  have TK : ∀ W, Below w.heap.size w W → Calls Try.prog 48 #[.pointer (some ⟨s, 0, none⟩), .int .i64 1] W fun e w' => ∃ v, e = .returned (.tuple #[v, .bool true]) ∧ Kd.N k24 24 w' N0 (fun k => k < N0 ∨ v.ownBlock = some k) v [y] ∧ Stk N0 w' (fun k => P k ∧ k < w.heap.size) s (⟨x.f0, x.f1, x.f2, xs⟩ :: l) ∧ Ch (fun k => P k ∧ k < w.heap.size) W w' := by
    intro W hW
    refine (take_is W (h.bound.below hW) 1 (by omega) hbig).mono ?_
    rintro e w' ⟨v, he, g1, g2, g3, g4⟩
    rw [e1] at g1
    rw [e2] at g3
    exact ⟨v, he, g1, g3, g4⟩
  have TK := Lib.hid TK; have HN := Lib.hid hN0
  clear h hga hx hbig hlen e1 e2 hN0
  go_enter Try.func74, Try.ntmps74
  go_upto_region 1 with (fail)
  rw [GA.out]
  obtain ⟨w1, hw1, v1, b1⟩ := G.out
  rw [hw1]
  have V1 := Lib.hid v1; have B1 := Lib.hid b1
  clear G hw1 v1 b1
  go_wp2_with fail
  refine (TK.out w1 B1.out).mono ?_
  rintro e w2 ⟨v, rfl, g1, g2, g3⟩
  have V2 := Lib.hid (show Var w2 ga z24 none 0 from g3.blk V1.out (fun hk => by have := hk.2; omega))
  have S2 := Lib.hid g2
  have C2 := Lib.hid (Ch.trans (F := P) (Ch.of_below B1.out) (g3.mono (G := P) (fun k hk => hk.1)) (fun i hi => .inl hi))
  have BL := Lib.hid (Nat.le_trans B1.out.size g3.size)
  obtain ⟨B0, d0, rfl⟩ := Kd.N_slice g1
  obtain ⟨⟨gv, rfl⟩, _⟩ := N_ad g1 (Nat.succ_pos 0)
  obtain ⟨B, d, x0, x1, x2, x3, x4⟩ := N_elem g1 (fun k hk hne => hk.elim id (fun e => absurd (by simpa [Value.ownBlock] using e : gv = k).symm hne)) 0 (Nat.succ_pos 0)
  have X3 := Lib.hid (show y.f2.length ≤ d from x3); have X4 := Lib.hid (show Kd.F k24 w2 (fun k => k < N0) B y.f2.length y.f2 from x4)
  have x0 : w2.cell? ⟨gv, 0, none⟩ = some (.int .i64 y.f0) := by have hq := x0; rw [show rd_T24 [y] ((0 : Nat) : Int) = y from rfl] at hq; simpa using hq
  have x1 : w2.cell? ⟨gv, 1, none⟩ = some (.int .i64 y.f1) := by have hq := x1; rw [show rd_T24 [y] ((0 : Nat) : Int) = y from rfl] at hq; simpa using hq
  have x2 : w2.cell? ⟨gv, 2, none⟩ = some (.slice B y.f2.length d) := by have hq := x2; rw [show rd_T24 [y] ((0 : Nat) : Int) = y from rfl] at hq; simpa using hq
  have ix : (⟨gv, 0, none⟩ : Addr).add 0 = ⟨gv, 0, none⟩ := adr0 gv 0
  clear g1 g2 g3 x3 x4 V1 B1
  obtain ⟨m0, m1, m2, t0, t1, t2⟩ := V2.out.cells
  simp only [z24] at m0 m1 m2
  simp only [List.length_nil] at m2
  go_wp2_with fail
  refine bodyPost_ret (results_ct rfl _ _ ga 24 #[.int .i64 y.f0, .int .i64 y.f1, .slice B y.f2.length d] (0, 0) _ rfl (V2.out.set y B d) Try.underlying24 rfl (by kernel_rfl)) rfl ?_
  have hs3 : ∀ k, k ≠ ga → (((w2.setCell ⟨ga, 0, none⟩ (.int .i64 y.f0)).setCell ⟨ga, 1, none⟩ (.int .i64 y.f1)).setCell ⟨ga, 2, none⟩ (.slice B y.f2.length d)).heap[k]? = w2.heap[k]? := fun k hk => (Below.heap_setCell _ _ _ k hk).trans ((Below.heap_setCell _ _ _ k hk).trans (Below.heap_setCell _ _ _ k hk))
  have hN := HN.out
  refine ⟨B, d, rfl, X3.out, Kd.F_step X4.out (fun k hk _ => hs3 k (by omega)), Stk.mono (S2.out.step (fun k hk _ => hs3 k (by rcases hk with hk | hk <;> omega))) (fun k hk => hk.1), ((C2.out.setCell (.inr wga) _).setCell (.inr wga) _).setCell (.inr wga) _⟩
end Go.Proofs.Ytggdpeeiioibgaa.E
namespace Go.Proofs.Ytggdpeeiioibgaa.E
open Go.RowKit Go.Proofs.YtggdpeeiioibgaaW.PrintWords Go.Proofs.YtggdpeeiioibgaaW.PrintLast Go.Proofs.YtggdpeeiioibgaaW.PrintMore Go.Proofs.Ytggdpeeiioibgaa.Kinds Go.Proofs.Ytggdpeeiioibgaa.Obj
set_option linter.unusedVariables false
set_option linter.unusedSimpArgs false

/-- an element of a row of one's own is written. -/
theorem N_set3 {W : World} {N0 g c n : Nat} {xs : List S24} {y : S24} {A : Option Addr} {cy : Nat} (h : Kd.N k24 24 W N0 (fun k => k < N0 ∨ (Value.slice (some ⟨g, 0, none⟩) xs.length c).ownBlock = some k) (.slice (some ⟨g, 0, none⟩) xs.length c) xs) (hn : n < xs.length) (hy : y.f2.length ≤ cy) (hF : Kd.F k24 W (fun k => k < N0) A y.f2.length y.f2) :
    Kd.N k24 24 (((W.setCell ⟨g, n * 3, none⟩ (.int .i64 y.f0)).setCell ⟨g, n * 3 + 1, none⟩ (.int .i64 y.f1)).setCell ⟨g, n * 3 + 2, none⟩ (.slice A y.f2.length cy)) N0 (fun k => k < N0 ∨ (Value.slice (some ⟨g, 0, none⟩) xs.length c).ownBlock = some k) (.slice (some ⟨g, 0, none⟩) xs.length c) (xs.set n y) := by
  have hgN : N0 ≤ g := Kd.N_base h g rfl
  obtain ⟨h0, rows, hl, hR, hf⟩ := h
  obtain ⟨cc, hcl, hM, hcc⟩ := Kd.R_get hR [] (n : Int) (by omega) (by omega)
  have h1 := Kd.R_seg hR (n : Int) (by omega) (by omega) (c := cc) (seg := [.int .i64 y.f0, .int .i64 y.f1, .slice A y.f2.length cy]) (j := 0) hcl (fun j u hj => by
    have h2 := hcc j u hj
    rw [adr0] at h2
    exact h2) (Nat.le_refl 3) (x' := [.int .i64 y.f0, .int .i64 y.f1, .slice A y.f2.length cy]) (okp := fun _ => False) (by
      have hd : cc.drop (0 + [Value.int IntKind.i64 y.f0, .int .i64 y.f1, .slice A y.f2.length cy].length) = [] := List.drop_eq_nil_of_le (by rw [hcl]; exact Nat.le_refl 3)
      rw [hd]
      exact ⟨rfl, rfl, fun u hu => by simp at hu; rcases hu with rfl | rfl | rfl <;> rfl⟩) (fun _ h => h.elim)
  have h3 := Kd.N_written (d := k24) (i := (n : Int)) h0 hl hf (Kd.raw_any h1.1) h1.2 (k24_mkF W (fun k => k < N0) y hy hF) (fun k hk => ⟨.inl hk, by omega⟩)
  rw [Int.toNat_natCast] at h3
  exact h3
set_option maxHeartbeats 4000000 in
set_option maxRecDepth 100000 in
theorem store_yes {N0 : Nat} {P : Nat → Prop} {s : Nat} {x : S65} {l : List S65} (w : World) (h : Stk N0 w P s (x :: l)) (n : Nat) (hn : n < x.f2.length) (y : S24) (A : Option Addr) (cy : Nat) (hy : y.f2.length ≤ cy) (hF : Kd.F k24 w (fun k => k < N0) A y.f2.length y.f2) :
    Calls Try.prog 44 #[.pointer (some ⟨s, 0, none⟩), .int .i64 n, v24 y.f0 y.f1 A y.f2.length cy] w fun e w' => e = .returned (.bool true) ∧ Stk N0 w' P s (⟨x.f0, x.f1, x.f2.set n y, x.f3⟩ :: l) ∧ Ch P w w' := by
  have hu24 := Try.underlying24
  obtain ⟨AF, c, f, fs, hx⟩ := h.split
  obtain ⟨A2, c2, A3, c3, hf, hu, hr⟩ := hx.head
  obtain ⟨⟨g, rfl⟩, _⟩ := N_ad hf.S (by omega)
  obtain ⟨ga, hga⟩ : ∃ ga, w.heap.size = ga := ⟨_, rfl⟩
  have G : Hid (∃ w1 : World, w.alloc (.cells #[.int .i64 y.f0, .int .i64 y.f1, .slice A y.f2.length cy] 24) = w1 ∧ Var w1 ga y A cy ∧ Below w.heap.size w w1) :=
    Lib.hid ⟨_, rfl, by rw [← hga]; exact blk_new _ _, below_alloc (Below.refl _ _) _⟩
  have GA := Lib.hid hga
  have SY := Lib.hid (fun w1 (hb : Below w.heap.size w w1) => slot_yes (n := n) w1 (hx.below hb) (hf.step (fun k _ hk => hb.block k hk)) hn)
  have HX := Lib.hid hx; have HF := Lib.hid hf; have HU := Lib.hid hu; have HR := Lib.hid hr; have HYL := Lib.hid hy; have HYF := Lib.hid hF; have HNN := Lib.hid hn
  clear h hx hf hu hr hga hy hF hn
  go_enter Try.func44, Try.ntmps44
  go_upto_region 1 with (fail)
  rw [GA.out]
  obtain ⟨w1, hw1, v1, b1⟩ := G.out
  rw [hw1]
  have V1 := Lib.hid v1; have B1 := Lib.hid b1
  clear G hw1 v1 b1
  go_wp2_with fail
  refine (SY.out w1 B1.out).mono ?_
  rintro e w2 ⟨rfl, hb⟩
  have B2 := Lib.hid (B1.out.trans (hb.mono B1.out.size))
  have V2 := Lib.hid (Var.below V1.out hb)
  clear hb V1 B1
  have N2 := Lib.hid (Kd.N_below HF.out.S B2.out)
  obtain ⟨B, d, e0, e1, e2, _, _⟩ := N_elem N2.out (Sx.okS HF.out) n HNN.out
  obtain ⟨cells, hcb⟩ := Kd.N_typed N2.out g rfl
  have z0 : w2.frozen? ⟨g, n * 3, none⟩ = false := by simp [World.frozen?, hcb]
  have z1 : w2.frozen? ⟨g, n * 3 + 1, none⟩ = false := by simp [World.frozen?, hcb]
  have z2 : w2.frozen? ⟨g, n * 3 + 2, none⟩ = false := by simp [World.frozen?, hcb]
  clear hcb
  obtain ⟨m0, m1, m2, _, _, _⟩ := V2.out.cells
  go_wp2_with fail
  go_ret
  have N3 := N_set3 N2.out HNN.out HYL.out (Kd.F_below HYF.out B2.out)
  have hs3 : ∀ k, k ≠ g → k < w.heap.size → (((w2.setCell ⟨g, n * 3, none⟩ (.int .i64 y.f0)).setCell ⟨g, n * 3 + 1, none⟩ (.int .i64 y.f1)).setCell ⟨g, n * 3 + 2, none⟩ (.slice A y.f2.length cy)).heap[k]? = w.heap[k]? := fun k hk hlt => (Below.heap_setCell _ _ _ k hk).trans ((Below.heap_setCell _ _ _ k hk).trans ((Below.heap_setCell _ _ _ k hk).trans (B2.out.block k hlt)))
  have pg := HU.out g (.inr (.inl rfl))
  have hfg : f ≠ g := fun e => Kd.N_ne HF.out.S HF.out.blk (by decide) (by rw [e]; rfl)
  have hfl := blk_lt HF.out.blk
  have hlen : (x.f2.set n y).length = x.f2.length := List.length_set ..
  have hfr : Fr N0 (((w2.setCell ⟨g, n * 3, none⟩ (.int .i64 y.f0)).setCell ⟨g, n * 3 + 1, none⟩ (.int .i64 y.f1)).setCell ⟨g, n * 3 + 2, none⟩ (.slice A y.f2.length cy)) f ⟨x.f0, x.f1, x.f2.set n y, x.f3⟩ (.slice (some ⟨g, 0, none⟩) x.f2.length c2) (.slice A3 x.f3.length c3) :=
    ⟨(hs3 f hfg hfl).trans HF.out.blk, N3, Kd.N_step HF.out.V (fun k hk hlt => hs3 k (fun e => by
      rcases hk with hk | hk
      · have := pg.2; omega
      · exact HF.out.ap g rfl (by rw [hk, e])) hlt), HF.out.ap⟩
  refine ⟨rfl, Stk.mono (HX.out.upd HF.out HU.out HR.out (fun k hk hlt => hs3 k (fun e => hk (.inr (.inl (by rw [e]; rfl)))) hlt) hfr (fun k hk => .inl hk)) (fun k hk => ?_), (((Ch.of_below B2.out).setCell (.inl pg.1.1) _).setCell (.inl pg.1.1) _).setCell (.inl pg.1.1) _⟩
  rcases hk with hk | ⟨hk, hp⟩
  · exact hk
  · have := HF.out.lt hp; omega
end Go.Proofs.Ytggdpeeiioibgaa.E
