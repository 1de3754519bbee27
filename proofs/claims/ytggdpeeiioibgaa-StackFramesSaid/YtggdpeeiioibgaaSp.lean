/- Marline, layer 36: a value is pushed. Conditions: as each says. -/
import Derived.Test.YtggdpeeiioibgaaSd
import Derived.Test.YtggdpeeiioibgaaWTab
namespace Go.Proofs.Ytggdpeeiioibgaa.E
open Go.RowKit Go.Proofs.YtggdpeeiioibgaaW.PrintWords Go.Proofs.YtggdpeeiioibgaaW.PrintLast Go.Proofs.YtggdpeeiioibgaaW.PrintMore Go.Proofs.Ytggdpeeiioibgaa.Kinds Go.Proofs.Ytggdpeeiioibgaa.Obj
set_option linter.unusedVariables false
set_option linter.unusedSimpArgs false

def pushT : Bool × List (List Nat × List Nat) := (true, [([], []), ([0], [0]), ([1], [1]), ([2], [2]), ([], []), ([3], [3]), ([], []), ([3, 6, 0, 1, 2, 3, 4, 5, 6], [3, 6]),
  ([7, 5, 0, 1, 2, 3, 4, 5, 6, 7], [5, 7]), ([8, 4, 7, 0, 1, 2, 3, 4, 5, 6, 7], [4, 8]), ([0, 0, 1, 2, 3, 4, 5, 6, 7], [0]), ([10, 0, 1, 2, 3, 4, 5, 6, 7], [10]), ([11, 7, 7, 0, 1, 2, 3, 4, 5, 6, 7], [7, 11])])
def pushB : List Nat := [0, 1, 3, 7, 0, 15, 0, 127, 255, 511, 255, 1279, 3327]
theorem push_tab : rtab .any (opsOf Try.f45 4) = pushT := by kernel_rfl
theorem push_bits : waitsOk pushT.2 pushB = true := by kernel_rfl
theorem ready_of {md : Region.Mode} {ops : Array Oper} {T : Bool × List (List Nat × List Nat)} {l : Array Bool} {rs : List Nat} (hT : rtab md ops = T) (h : (readyT T.2 l.toList == rs) = true) : Region.ready md ops l = rs := by
  rw [ready_eq, hT]
  exact eq_of_beq h
theorem zz_raw {W : World} {b : Nat} {ok : Nat → Prop} : (Kd.raw 3).M W b ok [.int .i64 0, .int .i64 0, .slice none 0 0] [.int .i64 0, .int .i64 0, .slice none 0 0] := ⟨rfl, rfl, by decide⟩
theorem R_ad {W : World} {N0 n : Nat} {ok : Nat → Prop} {A : Option Addr} {c : Nat} {xs : List (List Value)} (h : (Kd.raw 3).R 24 W N0 ok (.slice A n c) xs) (h0 : 0 < n) : ∃ g, A = some ⟨g, 0, none⟩ := by
  obtain ⟨_, inner, ho, _⟩ := h
  rcases ho.2 with ⟨hv, hz⟩ | ⟨g, cap, cur, hv, _⟩
  · injection hv with e1 e2 e3
    omega
  · injection hv with e1 e2 e3
    exact ⟨g, e1⟩
/-- the last element's cells. -/
theorem raw_last {W : World} {N0 n g c : Nat} {ok : Nat → Prop} {rows : List (List Value)} (h : (Kd.raw 3).R 24 W N0 ok (.slice (some ⟨g, 0, none⟩) (n + 1) c) (rows ++ [([.int .i64 0, .int .i64 0, .slice none 0 0] : List Value)])) (hl : rows.length = n) :
    W.cell? ⟨g, n * 3, none⟩ = some (.int .i64 0) ∧ W.cell? ⟨g, n * 3 + 1, none⟩ = some (.int .i64 0) ∧ W.cell? ⟨g, n * 3 + 2, none⟩ = some (.slice none 0 0) ∧ W.frozen? ⟨g, n * 3, none⟩ = false ∧ W.frozen? ⟨g, n * 3 + 1, none⟩ = false ∧ W.frozen? ⟨g, n * 3 + 2, none⟩ = false := by
  obtain ⟨cc, hcl, hM, hcc⟩ := Kd.R_get h [] (n : Int) (by omega) (by omega)
  obtain ⟨cells, hb⟩ := Kd.R_typed h g rfl
  have hM : cc = (rows ++ [([.int .i64 0, .int .i64 0, .slice none 0 0] : List Value)]).getD ((n : Int)).toNat [] := hM.1
  rw [Int.toNat_natCast, List.getD_eq_getElem?_getD, List.getElem?_append_right (by omega), hl, Nat.sub_self] at hM
  have hM : cc = [.int .i64 0, .int .i64 0, .slice none 0 0] := hM
  rw [hM] at hcc
  have c0 := hcc 0 _ rfl
  have c1 := hcc 1 _ rfl
  have c2 := hcc 2 _ rfl
  have e3 : ∀ j, (⟨g, 0, none⟩ : Addr).add ((n : Int).toNat * (Kd.raw 3).sz + j) = ⟨g, n * 3 + j, none⟩ := fun j => by
    rw [adr0, Int.toNat_natCast]; rfl
  rw [e3] at c0 c1 c2
  refine ⟨c0, c1, c2, ?_, ?_, ?_⟩
  all_goals simp [World.frozen?, hb]
theorem seg3 {W : World} {N0 n g c : Nat} {rows : List (List Value)} (h : (Kd.raw 3).R 24 W N0 (fun _ => True) (.slice (some ⟨g, 0, none⟩) (n + 1) c) (rows ++ [([.int .i64 0, .int .i64 0, .slice none 0 0] : List Value)])) (hl : rows.length = n) (a b : Int) (B : Option Addr) (m d : Nat) :
    (Kd.raw 3).R 24 (((W.setCell ⟨g, n * 3, none⟩ (.int .i64 a)).setCell ⟨g, n * 3 + 1, none⟩ (.int .i64 b)).setCell ⟨g, n * 3 + 2, none⟩ (.slice B m d)) N0 (fun _ => True) (.slice (some ⟨g, 0, none⟩) (n + 1) c) (rows ++ [[.int .i64 a, .int .i64 b, .slice B m d]]) := by
  obtain ⟨e0, e1, e2, _⟩ := raw_last h hl
  have h1 := (Kd.R_seg h (n : Int) (by omega) (by omega) (c := [.int .i64 0, .int .i64 0, .slice none 0 0]) (seg := [.int .i64 a, .int .i64 b, .slice B m d]) (j := 0) rfl (fun j u hj => by
    rw [Int.toNat_natCast]
    match j, hj with
    | 0, hj => simp only [List.getElem?_cons_zero, Option.some.injEq] at hj; rw [← hj]; exact e0
    | 1, hj => simp only [List.getElem?_cons_succ, List.getElem?_cons_zero, Option.some.injEq] at hj; rw [← hj]; exact e1
    | 2, hj => simp only [List.getElem?_cons_succ, List.getElem?_cons_zero, Option.some.injEq] at hj; rw [← hj]; exact e2
    | j + 3, hj => simp at hj) (Nat.le_refl 3) (x' := [.int .i64 a, .int .i64 b, .slice B m d]) (okp := fun _ => False) ⟨rfl, rfl, fun u hu => by
      simp at hu
      rcases hu with rfl | rfl | rfl <;> rfl⟩ (fun _ h => h.elim)).1
  rw [Int.toNat_natCast, List.set_append_right _ _ (by omega), hl, Nat.sub_self] at h1
  exact h1
theorem push_end {N0 : Nat} {w w6 : World} {P : Nat → Prop} {s c f c2 c3 c4 g4 cy : Nat} {AF A2 A3 A : Option Addr} {fs : List Nat} {x : S65} {l : List S65} {y : S24} {rows : List (List Value)}
    (HX : Sx N0 w P s AF c (f :: fs) (x :: l)) (HF : Fr N0 w f x (.slice A2 x.f2.length c2) (.slice A3 x.f3.length c3))
    (HU : ∀ k, Fp f (.slice A2 x.f2.length c2) (.slice A3 x.f3.length c3) k → (P k ∧ k ≠ s ∧ (Value.slice AF (x :: l).length c).ownBlock ≠ some k) ∧ N0 ≤ k)
    (HR : Frs N0 w (fun k => (P k ∧ k ≠ s ∧ (Value.slice AF (x :: l).length c).ownBlock ≠ some k) ∧ ¬ Fp f (.slice A2 x.f2.length c2) (.slice A3 x.f3.length c3) k) fs l)
    (hl : rows.length = x.f3.length) (hFK : ∀ (j : Nat) (z : S24) (cc : List Value), x.f3[j]? = some z → rows[j]? = some cc → Kd.FK k24 w (fun k => (k < N0 ∨ (Value.slice A3 x.f3.length c3).ownBlock = some k) ∧ some k ≠ (Value.slice A3 x.f3.length c3).ownBlock) z cc)
    (hy : y.f2.length ≤ cy) (hF : Kd.F k24 w (fun k => k < N0) A y.f2.length y.f2)
    (hb : w6.heap[f]? = some (.cells #[.int .i64 x.f0, .int .i64 x.f1, .slice A2 x.f2.length c2, .slice (some ⟨g4, 0, none⟩) (x.f3.length + 1) c4] 118 (0, 0)))
    (hR : (Kd.raw 3).R 24 w6 N0 (fun _ => True) (.slice (some ⟨g4, 0, none⟩) (x.f3.length + 1) c4) (rows ++ [[.int .i64 y.f0, .int .i64 y.f1, .slice A y.f2.length cy]]))
    (hm : ∀ k, k ≠ f → k ≠ g4 → (Value.slice A3 x.f3.length c3).ownBlock ≠ some k → k < w.heap.size → w6.heap[k]? = w.heap[k]?)
    (hg : (Value.slice A3 x.f3.length c3).ownBlock = some g4 ∨ w.heap.size ≤ g4) :
    Stk N0 w6 (fun k => P k ∨ w.heap.size ≤ k) s (⟨x.f0, x.f1, x.f2, x.f3 ++ [y]⟩ :: l) := by
  have hgN : N0 ≤ g4 := Kd.R_base hR g4 rfl
  have hfN : N0 ≤ f := (HU f (.inl rfl)).2
  have hN : ∀ k, k < N0 → k < w.heap.size → w6.heap[k]? = w.heap[k]? := fun k hk hlt => hm k (by omega) (by omega) (fun e => by have := (HU k (.inr (.inr e))).2; omega) hlt
  have hSl : ∀ k, (Value.slice A2 x.f2.length c2).ownBlock = some k → k ≠ g4 := fun k hk e => by
    rcases hg with h | h
    · exact HF.ap k hk (by rw [h, e])
    · have := HF.lt (.inr (.inl hk)); omega
  have hSs : ∀ k, k < N0 ∨ (Value.slice A2 x.f2.length c2).ownBlock = some k → k < w.heap.size → w6.heap[k]? = w.heap[k]? := fun k hk hlt => by
    rcases hk with hk | hk
    · exact hN k hk hlt
    · exact hm k (fun e => Kd.N_ne HF.S HF.blk (by decide) (by rw [hk, e])) (hSl k hk) (fun e => HF.ap k hk e) hlt
  have hV : Kd.N k24 24 w6 N0 (fun k => k < N0 ∨ (Value.slice (some ⟨g4, 0, none⟩) (x.f3.length + 1) c4).ownBlock = some k) (.slice (some ⟨g4, 0, none⟩) (x.f3.length + 1) c4) (x.f3 ++ [y]) := by
    refine ⟨fun k hk => .inr hk, rows ++ [[.int .i64 y.f0, .int .i64 y.f1, .slice A y.f2.length cy]], by simp [hl], (by have h3 := Kd.raw_tight hR; exact h3), fun j z cc hz hc => ?_⟩
    have fin : ∀ {z : S24} {cc : List Value}, Kd.FK k24 w (fun k => k < N0) z cc → Kd.FK k24 w6 (fun k => (k < N0 ∨ (Value.slice (some ⟨g4, 0, none⟩) (x.f3.length + 1) c4).ownBlock = some k) ∧ some k ≠ (Value.slice (some ⟨g4, 0, none⟩) (x.f3.length + 1) c4).ownBlock) z cc := fun h =>
      Kd.FK_mono (Kd.FK_step h (fun k hk hlt => hN k hk hlt)) (fun k hk => ⟨.inl hk, fun e => by simp only [Value.ownBlock, Option.some.injEq] at e; omega⟩)
    rcases Nat.lt_or_ge j x.f3.length with hlt | hge
    · rw [List.getElem?_append_left hlt] at hz
      rw [List.getElem?_append_left (by omega)] at hc
      exact fin (Kd.FK_mono (hFK j z cc hz hc) (fun k hk => hk.1.elim id (fun e => absurd e.symm hk.2)))
    · rw [List.getElem?_append_right hge] at hz
      rw [List.getElem?_append_right (by omega), hl] at hc
      rcases hj : j - x.f3.length with _ | q
      · rw [hj] at hz hc
        simp only [List.getElem?_cons_zero, Option.some.injEq] at hz hc
        rw [← hz, ← hc]
        exact fin (k24_mkF w _ y hy hF)
      · rw [hj] at hz
        simp at hz
  have hfr := Fr.values HF hb hV (fun k hk e => hSl k hk (by simp only [Value.ownBlock, Option.some.injEq] at e; omega)) hSs
  refine Stk.mono (HX.upd HF HU HR (fun k hk hlt => ?_) hfr (fun k hk => ?_)) (fun k hk => hk.imp id (fun h => h.1))
  · by_cases e : k = g4
    · rcases hg with h | h
      · exact absurd (.inr (.inr (by rw [h, e]))) hk
      · omega
    · exact hm k (fun e2 => hk (.inl e2)) e (fun e2 => hk (.inr (.inr e2))) hlt
  · rcases hk with hk | hk | hk
    · exact .inl (.inl hk)
    · exact .inl (.inr (.inl hk))
    · simp only [Value.ownBlock, Option.some.injEq] at hk
      rcases hg with h | h
      · exact .inl (.inr (.inr (by rw [h, hk])))
      · exact .inr (by omega)
set_option maxHeartbeats 4000000 in
set_option maxRecDepth 100000 in
theorem push_yes {N0 : Nat} {P : Nat → Prop} {s : Nat} {x : S65} {l : List S65} (w : World) (h : Stk N0 w P s (x :: l)) (y : S24) (A : Option Addr) (cy : Nat) (hy : y.f2.length ≤ cy) (hF : Kd.F k24 w (fun k => k < N0) A y.f2.length y.f2) (hbig : x.f3.length ≤ 1000000) :
    Calls Try.prog 45 #[.pointer (some ⟨s, 0, none⟩), v24 y.f0 y.f1 A y.f2.length cy] w fun e w' => e = .returned (.bool true) ∧ Stk N0 w' (fun k => P k ∨ w.heap.size ≤ k) s (⟨x.f0, x.f1, x.f2, x.f3 ++ [y]⟩ :: l) ∧ Ch P w w' := by
  have hu24 := Try.underlying24
  obtain ⟨AF, c, f, fs, hx⟩ := h.split
  obtain ⟨A2, c2, A3, c3, hf, hu, hr⟩ := hx.head
  obtain ⟨k0, k1, k2, k3, k5⟩ := hf.cells
  have hN0 : N0 ≤ w.heap.size := by have := hx.ge; have := blk_lt hx.blk; omega
  obtain ⟨hvo, rows, hrl, hR, hFK⟩ := hf.V
  obtain ⟨ga, hga⟩ : ∃ ga, w.heap.size = ga := ⟨_, rfl⟩
  have G : Hid (∃ w1 : World, w.alloc (.cells #[.int .i64 y.f0, .int .i64 y.f1, .slice A y.f2.length cy] 24) = w1 ∧ Var w1 ga y A cy ∧ Below w.heap.size w w1) :=
    Lib.hid ⟨_, rfl, by rw [← hga]; exact blk_new _ _, below_alloc (Below.refl _ _) _⟩
  have wga : w.heap.size ≤ ga := by omega
  have GA := Lib.hid hga
  have TC := Lib.hid (fun w1 (hb : Below w.heap.size w w1) => top_cons (hx.below hb))
  have HX := Lib.hid hx; have HF := Lib.hid hf; have HU := Lib.hid hu; have HR := Lib.hid hr; have HN := Lib.hid hN0; have HVO := Lib.hid hvo; have HRL := Lib.hid hrl; have HRR := Lib.hid hR; have HFK := Lib.hid hFK; have HYF := Lib.hid hF; have HYL := Lib.hid hy; have HBG := Lib.hid hbig
  clear h hx hf hu hr hN0 hga k0 k1 k2 hvo hrl hR hFK hF hy hbig
  go_enter Try.func45, Try.ntmps45
  go_upto_region 1 with (fail)
  rw [GA.out]
  obtain ⟨w1, hw1, v1, b1⟩ := G.out
  rw [hw1]
  have V1 := Lib.hid v1; have B1 := Lib.hid b1
  clear G hw1 v1 b1
  go_wp2_with fail
  refine (TC.out w1 B1.out w1 (Below.refl _ _)).mono ?_
  rintro e w2 ⟨rfl, hb⟩
  have b2 : Below w.heap.size w w2.drew := below_drew (B1.out.trans (hb.mono B1.out.size))
  have v2 : Var w2.drew ga y A cy := blk_drew (Var.below V1.out hb)
  have k6 : w2.drew.cell? ⟨f, 3, none⟩ = some (.slice A3 x.f3.length c3) := pw_cell_below b2 k3
  obtain ⟨x0, x1, x2, _, _, _⟩ := v2.cells
  clear hb V1 B1 k3 k5 v2
  go_wp2_with fail
  refine start_ (n := 13) (S := fun w' => w'.cell? ⟨ga, 0, none⟩ = some (.int .i64 y.f0) ∧ w'.cell? ⟨ga, 1, none⟩ = some (.int .i64 y.f1) ∧ w'.cell? ⟨ga, 2, none⟩ = some (.slice A y.f2.length cy) ∧ w'.cell? ⟨f, 3, none⟩ = some (.slice A3 x.f3.length c3)) (ds := [7, 9, 12]) #[false, false, false, false, false, false, false, false, false, false, false, false, false] (by kernel_rfl) rfl rfl ⟨x0, x1, x2, k6⟩ (fun hHeld => ?_)
  refine with_tabW push_tab push_bits (fun HT_ HW_ => ?_)
  generalize w2.drew = w3 at *
  have B3 := Lib.hid b2
  have HR3 := Lib.hid (show (Kd.raw 3).R 24 w3 N0 (fun _ => True) (.slice A3 x.f3.length c3) rows from Kd.R_mono (Kd.R_below HRR.out b2) (fun _ _ => trivial))
  have HB0 := Lib.hid (Below.refl N0 w3)
  have HBS := Lib.hid (Nat.le_trans HN.out b2.size)
  have HLB := Lib.hid (show (rows.length + 1) * 40 ≤ 140737488355328 by rw [HRL.out]; have := HBG.out; omega)
  have HL4 := Lib.hid (show (rows ++ [([.int .i64 0, .int .i64 0, .slice none 0 0] : List Value)]).length = x.f3.length + 1 by rw [List.length_append, HRL.out]; rfl)
  have FB := Lib.hid ((b2.block f (blk_lt HF.out.blk)).trans HF.out.blk)
  have FN := Lib.hid (Kd.N_ne HF.out.V HF.out.blk (by decide))
  clear b2 x0 x1 x2 k6
  refine pure_ (i := 0) (N := some 10) (v := ?_) (a' := ?_) #[true, false, false, false, false, false, false, false, false, false, false, false, false] rfl rfl (any_of HT_.out (by kernel_rfl)) (fun _ _ _ h => h) (Or.inl ⟨by rfl, ?_⟩) ?_ ?_
  rotate_left
  · intro w'
    go_simp
    with_reducible rfl
  rotate_left
  · simp only [Act.put, List.setIfInBounds_toArray, List.set_cons_zero, List.set_cons_succ, i64_w, i32_w]
    rfl
  refine pure_ (i := 1) (N := some 11) (v := ?_) (a' := ?_) #[true, true, false, false, false, false, false, false, false, false, false, false, false] rfl rfl (any_of HT_.out (by kernel_rfl)) (fun _ _ _ h => h) (Or.inl ⟨by rfl, ?_⟩) ?_ ?_
  rotate_left
  · intro w'
    go_simp
    with_reducible rfl
  rotate_left
  · simp only [Act.put, List.setIfInBounds_toArray, List.set_cons_zero, List.set_cons_succ, i64_w, i32_w]
    rfl
  refine pure_ (i := 2) (N := some 12) (v := ?_) (a' := ?_) #[true, true, true, false, false, false, false, false, false, false, false, false, false] rfl rfl (any_of HT_.out (by kernel_rfl)) (fun _ _ _ h => h) (Or.inl ⟨by rfl, ?_⟩) ?_ ?_
  rotate_left
  · intro w'
    go_simp
    with_reducible rfl
  rotate_left
  · simp only [Act.put, List.setIfInBounds_toArray, List.set_cons_zero, List.set_cons_succ, i64_w, i32_w]
    rfl
  refine take_ (i := 3) (N := some 13) (v := ?_) (a' := ?_) #[true, true, true, true, false, false, false, false, false, false, false, false, false] rfl rfl (take_ofW HT_.out HW_.out (by kernel_rfl)) (fun _ _ _ h => h) (Or.inl ⟨by rfl, ?_⟩) hHeld ?_ ?_
  rotate_left
  · rintro w' ⟨s0, s1, s2, s3⟩
    go_simp
    with_reducible rfl
  rotate_left
  · simp only [Act.put, List.setIfInBounds_toArray, List.set_cons_zero, List.set_cons_succ, i64_w, i32_w]
    rfl
  refine take_ (i := 4) (N := some 14) (v := ?_) (a' := ?_) #[true, true, true, true, true, false, false, false, false, false, false, false, false] rfl rfl (take_ofW HT_.out HW_.out (by kernel_rfl)) (fun _ _ _ h => h) (Or.inl ⟨by rfl, ?_⟩) hHeld ?_ ?_
  rotate_left
  · rintro w' ⟨s0, s1, s2, s3⟩
    go_simp
    with_reducible rfl
  rotate_left
  · simp only [Act.put, List.setIfInBounds_toArray, List.set_cons_zero, List.set_cons_succ, i64_w, i32_w]
    rfl
  refine pure_ (i := 5) (N := some 15) (v := ?_) (a' := ?_) #[true, true, true, true, true, true, false, false, false, false, false, false, false] rfl rfl (any_of HT_.out (by kernel_rfl)) (fun _ _ _ h => h) (Or.inl ⟨by rfl, ?_⟩) ?_ ?_
  rotate_left
  · intro w'
    go_simp
    with_reducible rfl
  rotate_left
  · simp only [Act.put, List.setIfInBounds_toArray, List.set_cons_zero, List.set_cons_succ, i64_w, i32_w]
    rfl
  refine one_ (i := 6) (N := some 16) #[true, true, true, true, true, true, true, false, false, false, false, false, false] rfl rfl (one_of HT_.out (by kernel_rfl)) (by decide) (fun K hK => ?_)
  refine value_ (w1 := ?_) (v := ?_) (by rfl) rfl ?_ ?_
  rotate_left 2
  · go_simp
    constructor
    · rfl
    · rfl
  refine hK.out _ _ ⟨(World.cell?_alloc_lt _ _ _ (World.block_lt_of_cell? _ _ hHeld.1)).trans hHeld.1, (World.cell?_alloc_lt _ _ _ (World.block_lt_of_cell? _ _ hHeld.2.1)).trans hHeld.2.1, (World.cell?_alloc_lt _ _ _ (World.block_lt_of_cell? _ _ hHeld.2.2.1)).trans hHeld.2.2.1, (World.cell?_alloc_lt _ _ _ (World.block_lt_of_cell? _ _ hHeld.2.2.2)).trans hHeld.2.2.2⟩ (fun hHeld => ?_)
  clear hK K
  refine norm_ (a' := ?_) ?_ ?_
  rotate_left
  · show Act.put _ (some 16) _ = _
    simp only [Act.put, List.setIfInBounds_toArray, List.set_cons_zero, List.set_cons_succ, i64_w, i32_w]
    rfl
  refine last_ (i := 7) (N := some 17) #[true, true, true, true, true, true, true, true, false, false, false, false, false] rfl rfl (one_of HT_.out (by kernel_rfl)) (by decide) (fun K hK => ?_)
  refine Kd.R_append_step (Kd.raw 3) (w0 := w3) N0 (by rfl) (.tmp 13) (.tmp 16) 22 24 (.agg #[(.int .i64 0), (.int .i64 0), (.slice none 0 0)]) 40 rfl Try.underlying22 info24 rfl (by decide) (by omega) (.slice A3 x.f3.length c3) rows [.int .i64 0, .int .i64 0, .slice none 0 0] [.int .i64 0, .int .i64 0, .slice none 0 0] (fun _ => True) (fun _ => False) rfl rfl zz_raw (fun _ h => h.elim) (fun _ _ => trivial) HR3.out HB0.out HBS.out HLB.out ?_
  intro v4 w4 h1 h2 h3 h4
  obtain ⟨A4, c4, rfl⟩ := Kd.R_slice h1
  rw [HL4.out] at h1 h4 ⊢
  obtain ⟨g4, rfl⟩ := R_ad h1 (Nat.succ_pos _)
  have R4 := Lib.hid h1; have G4 := Lib.hid h3; have A4_ := Lib.hid h4
  have F4 := Lib.hid (blk_grown FB.out h3 FN.out)
  obtain ⟨e0, e1, e2, e3, e4, e5⟩ := raw_last h1 HRL.out
  clear h1 h2 h3 h4
  refine hK.out _ _ ?_
  clear hK K
  refine norm_ (a' := ?_) ?_ ?_
  rotate_left
  · show Act.put _ (some 17) _ = _
    simp only [Act.put, List.setIfInBounds_toArray, List.set_cons_zero, List.set_cons_succ, i64_w, i32_w]
    rfl
  have ixb : ((x.f3.length : Int) < (x.f3.length : Int) + 1) = True := eq_true (by omega)
  have ix : (⟨g4, 0, none⟩ : Addr).add (x.f3.length * 3) = ⟨g4, x.f3.length * 3, none⟩ := adr0 g4 _
  refine pure_ (i := 8) (N := some 18) (v := ?_) (a' := ?_) #[true, true, true, true, true, true, true, true, true, false, false, false, false] rfl rfl (any_of HT_.out (by kernel_rfl)) (fun _ _ _ h => h) (Or.inl ⟨by rfl, ?_⟩) ?_ ?_
  rotate_left
  · intro w'
    go_simp
    with_reducible rfl
  rotate_left
  · simp only [Act.put, List.setIfInBounds_toArray, List.set_cons_zero, List.set_cons_succ, i64_w, i32_w]
    rfl
  refine pure_ (i := 10) (N := some 19) (v := ?_) (a' := ?_) #[true, true, true, true, true, true, true, true, true, false, true, false, false] rfl rfl (any_of HT_.out (by kernel_rfl)) (fun _ _ _ h => h) (Or.inl ⟨by rfl, ?_⟩) ?_ ?_
  rotate_left
  · intro w'
    go_simp
    with_reducible rfl
  rotate_left
  · simp only [Act.put, List.setIfInBounds_toArray, List.set_cons_zero, List.set_cons_succ, i64_w, i32_w]
    rfl
  refine pure_ (i := 11) (N := some 20) (v := ?_) (a' := ?_) #[true, true, true, true, true, true, true, true, true, false, true, true, false] rfl rfl (any_of HT_.out (by kernel_rfl)) (fun _ _ _ h => h) (Or.inl ⟨by rfl, ?_⟩) ?_ ?_
  rotate_left
  · intro w'
    go_simp
    with_reducible rfl
  rotate_left
  · simp only [Act.put, List.setIfInBounds_toArray, List.set_cons_zero, List.set_cons_succ, i64_w, i32_w]
    rfl
  have q3 : w4.cell? ⟨f, 3, none⟩ = some (.slice A3 x.f3.length c3) := by have := F4.out; simp [World.cell?, this]
  have q4 : w4.frozen? ⟨f, 3, none⟩ = false := by have := F4.out; simp [World.frozen?, this]
  have hgf : g4 ≠ f := fun e => Kd.R_ne R4.out F4.out (by decide) (by rw [← e]; rfl)
  have hfg : f ≠ g4 := fun e => hgf e.symm
  have hg : (Value.slice A3 x.f3.length c3).ownBlock = some g4 ∨ w.heap.size ≤ g4 := by
    rcases A4_.out with h | ⟨b, h, h2⟩
    · exact .inl h.symm
    · simp only [Value.ownBlock, Option.some.injEq] at h
      have := B3.out.size; exact .inr (by omega)
  have pg : P g4 ∨ w.heap.size ≤ g4 := hg.imp (fun h => (HU.out g4 (.inr (.inr h))).1.1) id
  have pf : P f ∨ w.heap.size ≤ f := .inl (HU.out f (.inl rfl)).1.1
  have old : ∀ k, (Value.slice A3 x.f3.length c3).ownBlock ≠ some k → k < w.heap.size → w4.heap[k]? = w.heap[k]? := fun k h1 h2 => (G4.out.block k (Nat.lt_of_lt_of_le h2 B3.out.size) (fun e => h1 e.symm)).trans (B3.out.block k h2)
  have CH4 := Lib.hid ((Ch.of_below B3.out).grown G4.out (fun i hi => .inl (HU.out i (.inr (.inr hi))).1.1))
  have HG := Lib.hid hg; have PG := Lib.hid pg; have PF := Lib.hid pf; have OLD := Lib.hid old
  clear hg pg pf old
  refine wpAnyLast_ready (rs := [9, 12]) (ready_of HT_.out (by kernel_rfl)) (by simp) (AllReadyL.cons_last rfl (by decide) (fun K hK => ?_) (AllReadyL.cons_last rfl (by decide) (fun K hK => ?_) AllReadyL.nil))
  · refine skip_ (w1 := ?_) (by rfl) rfl ?_ ?_
    rotate_left
    · go_simp
      rfl
    refine hK.out _ _ ?_
    clear hK K
    have r5 := seg3 R4.out HRL.out y.f0 y.f1 A y.f2.length cy
    have s5 : ∀ k, k ≠ g4 → (((w4.setCell ⟨g4, x.f3.length * 3, none⟩ (.int .i64 y.f0)).setCell ⟨g4, x.f3.length * 3 + 1, none⟩ (.int .i64 y.f1)).setCell ⟨g4, x.f3.length * 3 + 2, none⟩ (.slice A y.f2.length cy)).heap[k]? = w4.heap[k]? := fun k hk => (Below.heap_setCell _ _ _ k hk).trans ((Below.heap_setCell _ _ _ k hk).trans (Below.heap_setCell _ _ _ k hk))
    have ch5 := ((CH4.out.setCell (p := ⟨g4, x.f3.length * 3, none⟩) PG.out (.int .i64 y.f0)).setCell (p := ⟨g4, x.f3.length * 3 + 1, none⟩) PG.out (.int .i64 y.f1)).setCell (p := ⟨g4, x.f3.length * 3 + 2, none⟩) PG.out (.slice A y.f2.length cy)
    generalize (((w4.setCell ⟨g4, x.f3.length * 3, none⟩ (.int .i64 y.f0)).setCell ⟨g4, x.f3.length * 3 + 1, none⟩ (.int .i64 y.f1)).setCell ⟨g4, x.f3.length * 3 + 2, none⟩ (.slice A y.f2.length cy)) = w5 at *
    have f5 := (s5 f hfg).trans F4.out
    have q5 : w5.cell? ⟨f, 3, none⟩ = some (.slice A3 x.f3.length c3) := by simp [World.cell?, f5]
    have q6 : w5.frozen? ⟨f, 3, none⟩ = false := by simp [World.frozen?, f5]
    have R5 := Lib.hid r5; have S5 := Lib.hid s5; have CH5 := Lib.hid ch5; have F5 := Lib.hid f5
    clear r5 s5 ch5 f5 e0 e1 e2 e3 e4 e5 q3 q4
    refine last_ (i := 12) (N := none) #[true, true, true, true, true, true, true, true, true, true, true, true, true] rfl rfl (one_of HT_.out (by kernel_rfl)) (by decide) (fun K hK => ?_)
    refine skip_ (w1 := ?_) (by rfl) rfl ?_ ?_
    rotate_left
    · go_simp
      rfl
    refine hK.out _ _ ?_
    clear hK K
    refine done_ (done_of HT_.out (by kernel_rfl)) ?_
    go_wp2_with fail
    go_ret
    refine ⟨rfl, push_end (c4 := c4) HX.out HF.out HU.out HR.out HRL.out HFK.out HYL.out HYF.out (blk_set F5.out 3 _) ?_ (fun k h1 h2 h3 h4 => (Below.heap_setCell _ _ _ k h1).trans ((S5.out k h2).trans (OLD.out k h3 h4))) HG.out, CH5.out.setCell PF.out _⟩
    exact Kd.R_mono (Kd.R_step (Kd.R_tight rfl R5.out) (fun k hk _ => Below.heap_setCell _ _ _ k (fun e => by have e2 : k = f := e; rw [e2] at hk; injection hk with hk; exact hfg hk))) (fun _ _ => trivial)
  · refine skip_ (w1 := ?_) (by rfl) rfl ?_ ?_
    rotate_left
    · go_simp
      rfl
    refine hK.out _ _ ?_
    clear hK K
    have r5 : (Kd.raw 3).R 24 (w4.setCell ⟨f, 3, none⟩ (.slice (some ⟨g4, 0, none⟩) (x.f3.length + 1) c4)) N0 (fun _ => True) (.slice (some ⟨g4, 0, none⟩) (x.f3.length + 1) c4) (rows ++ [([.int .i64 0, .int .i64 0, .slice none 0 0] : List Value)]) := Kd.R_mono (Kd.R_step (Kd.R_tight rfl R4.out) (fun k hk _ => Below.heap_setCell _ _ _ k (fun e => by have e2 : k = f := e; rw [e2] at hk; injection hk with hk; exact hfg hk))) (fun _ _ => trivial)
    have s5 : ∀ k, k ≠ f → (w4.setCell ⟨f, 3, none⟩ (.slice (some ⟨g4, 0, none⟩) (x.f3.length + 1) c4)).heap[k]? = w4.heap[k]? := fun k hk => Below.heap_setCell _ _ _ k hk
    have ch5 := CH4.out.setCell (p := ⟨f, 3, none⟩) PF.out (.slice (some ⟨g4, 0, none⟩) (x.f3.length + 1) c4)
    have f5 := blk_set F4.out 3 (.slice (some ⟨g4, 0, none⟩) (x.f3.length + 1) c4)
    clear e0 e1 e2 e3 e4 e5 q3 q4
    generalize (w4.setCell ⟨f, 3, none⟩ (.slice (some ⟨g4, 0, none⟩) (x.f3.length + 1) c4)) = w5 at *
    obtain ⟨e0, e1, e2, e3, e4, e5⟩ := raw_last r5 HRL.out
    have R5 := Lib.hid r5; have S5 := Lib.hid s5; have CH5 := Lib.hid ch5; have F5 := Lib.hid f5
    clear r5 s5 ch5 f5
    refine last_ (i := 9) (N := none) #[true, true, true, true, true, true, true, true, true, true, true, true, true] rfl rfl (one_of HT_.out (by kernel_rfl)) (by decide) (fun K hK => ?_)
    refine skip_ (w1 := ?_) (by rfl) rfl ?_ ?_
    rotate_left
    · go_simp
      rfl
    refine hK.out _ _ ?_
    clear hK K
    refine done_ (done_of HT_.out (by kernel_rfl)) ?_
    go_wp2_with fail
    go_ret
    refine ⟨rfl, push_end (c4 := c4) HX.out HF.out HU.out HR.out HRL.out HFK.out HYL.out HYF.out ?_ (seg3 R5.out HRL.out y.f0 y.f1 A y.f2.length cy) (fun k h1 h2 h3 h4 => (Below.heap_setCell _ _ _ k h2).trans ((Below.heap_setCell _ _ _ k h2).trans ((Below.heap_setCell _ _ _ k h2).trans ((S5.out k h1).trans (OLD.out k h3 h4))))) HG.out, ((CH5.out.setCell PG.out _).setCell PG.out _).setCell PG.out _⟩
    exact (Below.heap_setCell _ _ _ f hfg).trans ((Below.heap_setCell _ _ _ f hfg).trans ((Below.heap_setCell _ _ _ f hfg).trans F5.out))
end Go.Proofs.Ytggdpeeiioibgaa.E
