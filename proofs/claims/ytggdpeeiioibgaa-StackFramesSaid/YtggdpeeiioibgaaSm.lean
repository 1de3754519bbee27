/- Marline, layer 36: calls on a stack that has frames: what is read. Conditions: as each says. -/
import Derived.Test.YtggdpeeiioibgaaSn
namespace Go.Proofs.Ytggdpeeiioibgaa.E
open Go.RowKit Go.Proofs.YtggdpeeiioibgaaW.PrintWords Go.Proofs.YtggdpeeiioibgaaW.PrintLast Go.Proofs.YtggdpeeiioibgaaW.PrintMore Go.Proofs.Ytggdpeeiioibgaa.Kinds Go.Proofs.Ytggdpeeiioibgaa.Obj
set_option linter.unusedVariables false
set_option linter.unusedSimpArgs false

/-- a new stack. -/
theorem new_is (w : World) (N0 : Nat) (hN : N0 ≤ w.heap.size) : Calls Try.prog 38 #[] w fun e w' => e = .returned (.pointer (some ⟨w.heap.size, 0, none⟩)) ∧ Stk N0 w' (fun k => k = w.heap.size) w.heap.size [] ∧ Below w.heap.size w w' := by
  have HN := Lib.hid hN
  clear hN
  go_enter Try.func38, Try.ntmps38
  go_wp2_with fail
  go_ret
  exact ⟨rfl, ⟨rfl, HN.out, .slice none 0 0, [], blk_new _ _, Kd.R_nil _ _ _ _ _, trivial⟩, below_alloc (Below.refl _ _) _⟩
/-- the innermost frame, told. -/
theorem Sx.head {N0 : Nat} {W : World} {P : Nat → Prop} {s : Nat} {A : Option Addr} {c f : Nat} {fs : List Nat} {x : S65} {l : List S65} (h : Sx N0 W P s A c (f :: fs) (x :: l)) :
    ∃ A2 c2 A3 c3, Fr N0 W f x (.slice A2 x.f2.length c2) (.slice A3 x.f3.length c3) ∧ (∀ k, Fp f (.slice A2 x.f2.length c2) (.slice A3 x.f3.length c3) k → (P k ∧ k ≠ s ∧ (Value.slice A (x :: l).length c).ownBlock ≠ some k) ∧ N0 ≤ k) ∧
      Frs N0 W (fun k => (P k ∧ k ≠ s ∧ (Value.slice A (x :: l).length c).ownBlock ≠ some k) ∧ ¬ Fp f (.slice A2 x.f2.length c2) (.slice A3 x.f3.length c3) k) fs l := by
  obtain ⟨vS, vV, hf, hu, hr⟩ := h.frs
  obtain ⟨A2, c2, rfl⟩ := Kd.N_slice hf.S
  obtain ⟨A3, c3, rfl⟩ := Kd.N_slice hf.V
  exact ⟨A2, c2, A3, c3, hf, hu, hr⟩
theorem Fr.cells {N0 : Nat} {W : World} {f : Nat} {x : S65} {vS vV : Value} (h : Fr N0 W f x vS vV) : W.cell? ⟨f, 0, none⟩ = some (.int .i64 x.f0) ∧ W.cell? ⟨f, 1, none⟩ = some (.int .i64 x.f1) ∧ W.cell? ⟨f, 2, none⟩ = some vS ∧ W.cell? ⟨f, 3, none⟩ = some vV ∧ W.frozen? ⟨f, 3, none⟩ = false := by
  have hb := h.blk
  refine ⟨?_, ?_, ?_, ?_, ?_⟩
  all_goals simp [World.cell?, World.frozen?, hb]
theorem Stk.split {N0 : Nat} {W : World} {P : Nat → Prop} {s : Nat} {x : S65} {l : List S65} (h : Stk N0 W P s (x :: l)) : ∃ A c f fs, Sx N0 W P s A c (f :: fs) (x :: l) := by
  obtain ⟨A, c, fs, hx⟩ := h.x
  have hl := hx.frs.len
  match fs, hl with
  | [], hl => simp at hl
  | f :: fs, _ => exact ⟨A, c, f, fs, hx⟩
theorem height_is {N0 : Nat} {P : Nat → Prop} {s : Nat} {x : S65} {l : List S65} (w : World) (h : Stk N0 w P s (x :: l)) : Calls Try.prog 40 #[.pointer (some ⟨s, 0, none⟩)] w fun e w' => e = .returned (.int .i64 x.f3.length) ∧ Below w.heap.size w w' := by
  obtain ⟨A, c, f, fs, hx⟩ := h.split
  have T := Lib.hid (top_cons hx)
  obtain ⟨A2, c2, A3, c3, hf, hu, hr⟩ := hx.head
  obtain ⟨k0, k1, k2, k3, _⟩ := hf.cells
  clear h hx hf hu hr
  go_enter Try.func40, Try.ntmps40
  go_wp2_with fail
  refine (T.out _ (Below.refl _ _)).mono ?_
  rintro e w2 ⟨rfl, hb⟩
  have HB := Lib.hid hb
  have k4 := pw_cell_below hb k3
  clear hb k0 k1 k2 k3
  go_wp2_with fail
  go_ret
  exact ⟨rfl, HB.out⟩
theorem fun_is {N0 : Nat} {P : Nat → Prop} {s : Nat} {x : S65} {l : List S65} (w : World) (h : Stk N0 w P s (x :: l)) : Calls Try.prog 42 #[.pointer (some ⟨s, 0, none⟩)] w fun e w' => e = .returned (.int .i64 x.f0) ∧ Below w.heap.size w w' := by
  obtain ⟨A, c, f, fs, hx⟩ := h.split
  have T := Lib.hid (top_cons hx)
  obtain ⟨A2, c2, A3, c3, hf, hu, hr⟩ := hx.head
  obtain ⟨k0, k1, k2, k3, _⟩ := hf.cells
  clear h hx hf hu hr
  go_enter Try.func42, Try.ntmps42
  go_wp2_with fail
  refine (T.out _ (Below.refl _ _)).mono ?_
  rintro e w2 ⟨rfl, hb⟩
  have HB := Lib.hid hb
  have k4 := pw_cell_below hb k0
  clear hb k0 k1 k2 k3
  go_wp2_with fail
  go_ret
  exact ⟨rfl, HB.out⟩
theorem N_ad {W : World} {N0 : Nat} {ok : Nat → Prop} {A : Option Addr} {c : Nat} {xs : List S24} (h : Kd.N k24 24 W N0 ok (.slice A xs.length c) xs) (h0 : 0 < xs.length) : (∃ g, A = some ⟨g, 0, none⟩) ∧ xs.length ≤ 9223372036854775807 := by
  obtain ⟨_, rows, hl, ⟨_, inner, ho, _⟩, _⟩ := h
  rcases ho.2 with ⟨_, hz⟩ | ⟨g, cap, cur, hv, _, _, h1, h2, _⟩
  · omega
  · injection hv with e1 e2 e3
    have h5 : maxLen = 9223372036854775807 := rfl
    exact ⟨⟨g, e1⟩, by omega⟩
theorem N_elem {W : World} {N0 g c : Nat} {ok : Nat → Prop} {xs : List S24} (h : Kd.N k24 24 W N0 ok (.slice (some ⟨g, 0, none⟩) xs.length c) xs) (hok : ∀ k, ok k → k ≠ g → k < N0) (n : Nat) (hn : n < xs.length) :
    ∃ B d, W.cell? ⟨g, n * 3, none⟩ = some (.int .i64 (rd_T24 xs n).f0) ∧ W.cell? ⟨g, n * 3 + 1, none⟩ = some (.int .i64 (rd_T24 xs n).f1) ∧ W.cell? ⟨g, n * 3 + 2, none⟩ = some (.slice B (rd_T24 xs n).f2.length d) ∧ (rd_T24 xs n).f2.length ≤ d ∧ Kd.F k24 W (fun k => k < N0) B (rd_T24 xs n).f2.length (rd_T24 xs n).f2 := by
  obtain ⟨_, rows, hl, hR, hf⟩ := h
  obtain ⟨cc, hcl, hM, hcc⟩ := Kd.R_get hR [] (n : Int) (by omega) (by omega)
  have hM : cc = rows.getD ((n : Int)).toNat [] := hM.1
  rw [Int.toNat_natCast, List.getD_eq_getElem?_getD, List.getElem?_eq_getElem (by omega)] at hM
  have h1 := hf n xs[n] rows[n] (List.getElem?_eq_getElem hn) (List.getElem?_eq_getElem (by omega))
  have h2 : rows[n] = cc := hM.symm
  rw [h2] at h1
  have e : rd_T24 xs n = xs[n] := rd_eq xs n hn
  rw [e]
  have h3 := Kd.FK_mono h1 (ok' := fun k => k < N0) (fun k hk => hok k hk.1 (fun e => hk.2 (by rw [e]; rfl)))
  obtain ⟨B, d, h4, h5, h6⟩ := k24_openF h3
  rw [h4] at hcc
  have c0 := hcc 0 _ rfl
  have c1 := hcc 1 _ rfl
  have c2 := hcc 2 _ rfl
  have e3 : ∀ j, (⟨g, 0, none⟩ : Addr).add ((n : Int).toNat * (Kd.raw k24.sz).sz + j) = ⟨g, n * 3 + j, none⟩ := fun j => by
    rw [adr0, Int.toNat_natCast]; rfl
  rw [e3] at c0 c1 c2
  exact ⟨B, d, c0, c1, c2, h5, h6⟩
set_option maxHeartbeats 4000000 in
set_option maxRecDepth 100000 in
theorem slot_yes {N0 : Nat} {P : Nat → Prop} {s f c c2 c3 g n : Nat} {A A3 : Option Addr} {fs : List Nat} {x : S65} {l : List S65} (w : World) (h : Sx N0 w P s A c (f :: fs) (x :: l)) (hf : Fr N0 w f x (.slice (some ⟨g, 0, none⟩) x.f2.length c2) (.slice A3 x.f3.length c3)) (hn : n < x.f2.length) :
    Calls Try.prog 77 #[.pointer (some ⟨s, 0, none⟩), .int .i64 n] w fun e w' => e = .returned (.pointer (some ⟨g, n * 3, none⟩)) ∧ Below w.heap.size w w' := by
  have T := Lib.hid (top_cons h)
  obtain ⟨k0, k1, k2, k3, _⟩ := hf.cells
  obtain ⟨i0, hi, hz0, hz1, hz2⟩ := info_parts info24
  have p1 : decide ((n : Int) < 0) = false := decide_eq_false (by omega)
  have p2 : decide ((x.f2.length : Int) ≤ (n : Int)) = false := decide_eq_false (by omega)
  have e3 : (⟨g, 0, none⟩ : Addr).add (n * 3) = ⟨g, n * 3, none⟩ := adr0 g _
  clear h hf
  go_enter Try.func77, Try.ntmps77
  go_wp2_with fail
  refine (T.out _ (Below.refl _ _)).mono ?_
  rintro e w2 ⟨rfl, hb⟩
  have HB := Lib.hid hb
  have k4 := pw_cell_below hb k2
  clear hb k0 k1 k2 k3
  go_wp2_with fail
  go_ret
  exact ⟨rfl, HB.out⟩
set_option maxHeartbeats 4000000 in
set_option maxRecDepth 100000 in
theorem slot_out {N0 : Nat} {P : Nat → Prop} {s : Nat} {x : S65} {l : List S65} (w : World) (h : Stk N0 w P s (x :: l)) (n : Int) (hn : n < 0 ∨ (x.f2.length : Int) ≤ n) :
    Calls Try.prog 77 #[.pointer (some ⟨s, 0, none⟩), .int .i64 n] w fun e w' => e = .returned (.pointer none) ∧ Below w.heap.size w w' := by
  obtain ⟨A, c, f, fs, hx⟩ := h.split
  have T := Lib.hid (top_cons hx)
  obtain ⟨A2, c2, A3, c3, hf, hu, hr⟩ := hx.head
  obtain ⟨k0, k1, k2, k3, _⟩ := hf.cells
  clear h hx hf hu hr
  by_cases h0 : n < 0
  · have p1 : decide (n < 0) = true := decide_eq_true h0
    go_enter Try.func77, Try.ntmps77
    go_wp2_with fail
    refine (T.out _ (Below.refl _ _)).mono ?_
    rintro e w2 ⟨rfl, hb⟩
    have HB := Lib.hid hb
    have k4 := pw_cell_below hb k2
    clear hb k0 k1 k2 k3
    go_wp2_with fail
    go_ret
    exact ⟨rfl, HB.out⟩
  · have p1 : decide (n < 0) = false := decide_eq_false h0
    have p2 : decide ((x.f2.length : Int) ≤ n) = true := decide_eq_true (by omega)
    go_enter Try.func77, Try.ntmps77
    go_wp2_with fail
    refine (T.out _ (Below.refl _ _)).mono ?_
    rintro e w2 ⟨rfl, hb⟩
    have HB := Lib.hid hb
    have k4 := pw_cell_below hb k2
    clear hb k0 k1 k2 k3
    go_wp2_with fail
    go_ret
    exact ⟨rfl, HB.out⟩
theorem Sx.okS {N0 : Nat} {W : World} {f : Nat} {x : S65} {g c2 : Nat} {vV : Value} (hf : Fr N0 W f x (.slice (some ⟨g, 0, none⟩) x.f2.length c2) vV) : ∀ k, (k < N0 ∨ (Value.slice (some ⟨g, 0, none⟩) x.f2.length c2).ownBlock = some k) → k ≠ g → k < N0 := by
  intro k hk hne
  rcases hk with hk | hk
  · exact hk
  · exact absurd (by simpa [Value.ownBlock] using hk : g = k).symm hne
/-- what a slot holds. -/
def LoadP (N0 : Nat) (w : World) (y : S24) (e : Ending) (w' : World) : Prop := ∃ B d, e = .returned (.tuple #[v24 y.f0 y.f1 B y.f2.length d, .bool true]) ∧ y.f2.length ≤ d ∧ Kd.F k24 w' (fun k => k < N0) B y.f2.length y.f2 ∧ Below w.heap.size w w'
set_option maxHeartbeats 4000000 in
set_option maxRecDepth 100000 in
theorem load_yes {N0 : Nat} {P : Nat → Prop} {s : Nat} {x : S65} {l : List S65} (w : World) (h : Stk N0 w P s (x :: l)) (n : Nat) (hn : n < x.f2.length) :
    Calls Try.prog 49 #[.pointer (some ⟨s, 0, none⟩), .int .i64 n] w (LoadP N0 w (rd_T24 x.f2 n)) := by
  have hu24 := Try.underlying24
  obtain ⟨A, c, f, fs, hx⟩ := h.split
  obtain ⟨A2, c2, A3, c3, hf, hu, hr⟩ := hx.head
  obtain ⟨⟨g, rfl⟩, _⟩ := N_ad hf.S (by omega)
  obtain ⟨B, d, e0, e1, e2, e3, e4⟩ := N_elem hf.S (Sx.okS hf) n hn
  obtain ⟨y, hy⟩ : ∃ y, rd_T24 x.f2 n = y := ⟨_, rfl⟩
  rw [hy] at e0 e1 e2 e3 e4 ⊢
  obtain ⟨ga, hga⟩ : ∃ ga, w.heap.size = ga := ⟨_, rfl⟩
  have G : Hid (∃ w1 : World, w.alloc (.cells #[.int .i64 0, .int .i64 0, .slice none 0 0] 24) = w1 ∧ Var w1 ga z24 none 0 ∧ Below w.heap.size w w1) :=
    Lib.hid ⟨_, rfl, by rw [← hga]; exact blk_new _ _, below_alloc (Below.refl _ _) _⟩
  have wga : w.heap.size ≤ ga := by omega
  have GA := Lib.hid hga
  have SY := Lib.hid (fun w1 (hb : Below w.heap.size w w1) => slot_yes (n := n) w1 (hx.below hb) (hf.step (fun k _ hk => hb.block k hk)) hn)
  have E3 := Lib.hid e3; have E4 := Lib.hid e4
  have E5 := Lib.hid (show g < w.heap.size from World.block_lt_of_cell? w _ e0)
  clear h hx hf hu hr hga hy e3 e4 hn
  go_enter Try.func49, Try.ntmps49
  go_upto_region 1 with (fail)
  rw [GA.out]
  obtain ⟨w1, hw1, v1, b1⟩ := G.out
  rw [hw1]
  have V1 := Lib.hid v1; have B1 := Lib.hid b1
  have q0 := pw_cell_below b1 e0
  have q1 := pw_cell_below b1 e1
  have q2 := pw_cell_below b1 e2
  clear G hw1 v1 b1 e0 e1 e2
  go_wp2_with fail
  refine (SY.out w1 B1.out).mono ?_
  rintro e w2 ⟨rfl, hb⟩
  have B2 := Lib.hid (B1.out.trans (hb.mono B1.out.size))
  have V2 := Lib.hid (Var.below V1.out hb)
  have x0 := pw_cell_below hb q0
  have x1 := pw_cell_below hb q1
  have x2 := pw_cell_below hb q2
  clear hb V1 B1 q0 q1 q2
  obtain ⟨m0, m1, m2, t0, t1, t2⟩ := V2.out.cells
  simp only [z24] at m0 m1 m2
  simp only [List.length_nil] at m2
  go_wp2_with fail
  refine bodyPost_ret (results_ct rfl _ _ ga 24 #[.int .i64 y.f0, .int .i64 y.f1, .slice B y.f2.length d] (0, 0) _ rfl (V2.out.set y B d) Try.underlying24 rfl (by kernel_rfl)) rfl ?_
  exact ⟨B, d, rfl, E3.out, Kd.F_below E4.out (Below.mono (below3 B2.out wga) (Nat.le_refl _)), below3 B2.out wga⟩
end Go.Proofs.Ytggdpeeiioibgaa.E
