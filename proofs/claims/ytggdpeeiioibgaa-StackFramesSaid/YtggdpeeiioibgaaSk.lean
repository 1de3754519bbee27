/- Marline, layer 36: a stack in memory. Conditions: as each says. -/
import Derived.Test.YtggdpeeiioibgaaKq
namespace Go.Proofs.Ytggdpeeiioibgaa.E
open Go.RowKit Go.Proofs.YtggdpeeiioibgaaW.PrintWords Go.Proofs.YtggdpeeiioibgaaW.PrintLast Go.Proofs.YtggdpeeiioibgaaW.PrintMore Go.Proofs.Ytggdpeeiioibgaa.Kinds Go.Proofs.Ytggdpeeiioibgaa.Obj
set_option linter.unusedVariables false
set_option linter.unusedSimpArgs false

/-- pointers to frames. -/
def kp : Kd Nat := Kd.scalar (fun f => .pointer (some ⟨f, 0, none⟩)) (fun _ => rfl)
/-- a frame in memory. -/
structure Fr (N0 : Nat) (W : World) (f : Nat) (x : S65) (vS vV : Value) : Prop where
  blk : W.heap[f]? = some (.cells #[.int .i64 x.f0, .int .i64 x.f1, vS, vV] 118 (0, 0))
  S : Kd.N k24 24 W N0 (fun k => k < N0 ∨ vS.ownBlock = some k) vS x.f2
  V : Kd.N k24 24 W N0 (fun k => k < N0 ∨ vV.ownBlock = some k) vV x.f3
  ap : ∀ k, vS.ownBlock = some k → vV.ownBlock ≠ some k
/-- the blocks of it. -/
def Fp (f : Nat) (vS vV : Value) (k : Nat) : Prop := k = f ∨ vS.ownBlock = some k ∨ vV.ownBlock = some k
/-- frames, the innermost first, all apart, in U. -/
def Frs (N0 : Nat) (W : World) : (Nat → Prop) → List Nat → List S65 → Prop
  | _, [], [] => True
  | U, f :: fs, x :: l => ∃ vS vV, Fr N0 W f x vS vV ∧ (∀ k, Fp f vS vV k → U k ∧ N0 ≤ k) ∧ Frs N0 W (fun k => U k ∧ ¬ Fp f vS vV k) fs l
  | _, [], _ :: _ => False
  | _, _ :: _, [] => False
section
variable {N0 : Nat} {W W' : World} {f : Nat} {x : S65} {vS vV : Value}
theorem Fr.step (h : Fr N0 W f x vS vV) (hm : ∀ k, Fp f vS vV k ∨ k < N0 → k < W.heap.size → W'.heap[k]? = W.heap[k]?) : Fr N0 W' f x vS vV :=
  ⟨(hm f (.inl (.inl rfl)) (blk_lt h.blk)).trans h.blk, Kd.N_step h.S (fun k hk hlt => hm k (hk.elim .inr (fun e => .inl (.inr (.inl e)))) hlt),
    Kd.N_step h.V (fun k hk hlt => hm k (hk.elim .inr (fun e => .inl (.inr (.inr e)))) hlt), h.ap⟩
theorem Fr.lt (h : Fr N0 W f x vS vV) {k : Nat} (hk : Fp f vS vV k) : k < W.heap.size := by
  rcases hk with rfl | hk | hk
  · exact blk_lt h.blk
  · exact Kd.N_lt h.S k hk
  · exact Kd.N_lt h.V k hk
theorem Frs.step {hU : True} : ∀ {fs : List Nat} {l : List S65} {U : Nat → Prop}, Frs N0 W U fs l → (∀ k, U k ∨ k < N0 → k < W.heap.size → W'.heap[k]? = W.heap[k]?) → Frs N0 W' U fs l
  | [], [], _, _, _ => trivial
  | f :: fs, x :: l, U, ⟨vS, vV, h, hu, hr⟩, hm =>
    ⟨vS, vV, h.step (fun k hk hlt => hm k (hk.elim (fun e => .inl (hu k e).1) .inr) hlt), hu, Frs.step (hU := trivial) hr (fun k hk hlt => hm k (hk.elim (fun e => .inl e.1) .inr) hlt)⟩
theorem Frs.mono : ∀ {fs : List Nat} {l : List S65} {U U' : Nat → Prop}, Frs N0 W U fs l → (∀ k, U k → k < W.heap.size → U' k) → Frs N0 W U' fs l
  | [], [], _, _, _, _ => trivial
  | f :: fs, x :: l, U, U', ⟨vS, vV, h, hu, hr⟩, hm =>
    ⟨vS, vV, h, fun k hk => ⟨hm k (hu k hk).1 (h.lt hk), (hu k hk).2⟩, Frs.mono hr (fun k hk hlt => ⟨hm k hk.1 hlt, hk.2⟩)⟩
theorem Frs.len : ∀ {fs : List Nat} {l : List S65} {U : Nat → Prop}, Frs N0 W U fs l → fs.length = l.length
  | [], [], _, _ => rfl
  | f :: fs, x :: l, U, ⟨vS, vV, h, hu, hr⟩ => by simp [Frs.len hr]
end
/-- a stack in memory, its frames, the innermost first; P: its blocks. -/
structure Stk (N0 : Nat) (W : World) (P : Nat → Prop) (s : Nat) (l : List S65) : Prop where
  ps : P s
  ge : N0 ≤ s
  ex : ∃ vF fs, W.heap[s]? = some (.cells #[vF] 111 (0, 0)) ∧ Kd.R kp 115 W N0 P vF fs.reverse ∧ Frs N0 W (fun k => P k ∧ k ≠ s ∧ vF.ownBlock ≠ some k) fs l
/-- what a call on a stack does to the rest: nothing. -/
structure Did (N0 : Nat) (P : Nat → Prop) (w w' : World) : Prop where
  ch : Ch P w w'
abbrev P' (P : Nat → Prop) (w : World) (k : Nat) : Prop := P k ∨ w.heap.size ≤ k
theorem Stk.step {N0 : Nat} {W W' : World} {P : Nat → Prop} {s : Nat} {l : List S65} (h : Stk N0 W P s l) (hm : ∀ k, P k ∨ k < N0 → k < W.heap.size → W'.heap[k]? = W.heap[k]?) : Stk N0 W' P s l := by
  obtain ⟨hp, hg, vF, fs, hb, hR, hF⟩ := h
  exact ⟨hp, hg, vF, fs, (hm s (.inl hp) (blk_lt hb)).trans hb, Kd.R_step hR (fun k hk hlt => hm k (.inl hk) hlt), Frs.step (hU := trivial) hF (fun k hk hlt => hm k (hk.elim (fun e => .inl e.1) .inr) hlt)⟩
theorem Stk.mono {N0 : Nat} {W : World} {P Q : Nat → Prop} {s : Nat} {l : List S65} (h : Stk N0 W P s l) (hm : ∀ k, P k → Q k) : Stk N0 W Q s l := by
  obtain ⟨hp, hg, vF, fs, hb, hR, hF⟩ := h
  exact ⟨hm _ hp, hg, vF, fs, hb, Kd.R_mono hR hm, hF.mono (fun k hk _ => ⟨hm k hk.1, hk.2⟩)⟩
theorem Stk.below {N0 : Nat} {W W' : World} {P : Nat → Prop} {s : Nat} {l : List S65} (h : Stk N0 W P s l) (hb : Below W.heap.size W W') : Stk N0 W' P s l := h.step (fun k _ hk => hb.block k hk)

/-- no stack has no depth. -/
theorem depth_nil (w : World) : Calls Try.prog 41 #[.pointer none] w fun e w' => e = .returned (.int .i64 0) ∧ Below w.heap.size w w' := by
  go_enter Try.func41, Try.ntmps41
  go_wp2_with fail
  go_ret
  exact ⟨rfl, Below.refl _ _⟩
theorem depth_is {N0 : Nat} {P : Nat → Prop} {s : Nat} {l : List S65} (w : World) (h : Stk N0 w P s l) : Calls Try.prog 41 #[.pointer (some ⟨s, 0, none⟩)] w fun e w' => e = .returned (.int .i64 l.length) ∧ Below w.heap.size w w' := by
  obtain ⟨hp, hg, vF, fs, hb, hR, hF⟩ := h
  obtain ⟨A, c, rfl⟩ := Kd.R_slice hR
  have hl := hF.len
  rw [← hl]
  have k0 : w.cell? ⟨s, 0, none⟩ = some (.slice A fs.reverse.length c) := by simp [World.cell?, hb]
  have f0 : w.frozen? ⟨s, 0, none⟩ = false := by simp [World.frozen?, hb]
  clear hF hR hb
  go_enter Try.func41, Try.ntmps41
  go_wp2_with fail
  go_ret
  exact ⟨by rw [hl]; rfl, Below.refl _ _⟩
/-- what the innermost frame is. -/
def TopIs (p : Option Addr) (w : World) (o : Option Addr) : Prop := ∀ W, Below w.heap.size w W → Calls Try.prog 75 #[.pointer p] W fun e w' => e = .returned (.pointer o) ∧ Below W.heap.size W w'
theorem top_nil (w : World) : TopIs none w none := by
  intro W hW
  have D := Lib.hid (depth_nil W)
  go_enter Try.func75, Try.ntmps75
  go_wp2_with fail
  refine D.out.mono ?_
  rintro e w2 ⟨rfl, hb⟩
  have HB := Lib.hid hb
  clear hb
  go_wp2_with fail
  go_ret
  exact ⟨rfl, HB.out⟩
theorem top_empty {N0 : Nat} {P : Nat → Prop} {s : Nat} {w : World} (h : Stk N0 w P s []) : TopIs (some ⟨s, 0, none⟩) w none := by
  intro W hW
  have D := Lib.hid (depth_is W (h.below hW))
  clear h
  go_enter Try.func75, Try.ntmps75
  go_wp2_with fail
  refine D.out.mono ?_
  rintro e w2 ⟨rfl, hb⟩
  have HB := Lib.hid hb
  clear hb
  go_wp2_with fail
  go_ret
  exact ⟨rfl, HB.out⟩
/-- a stack in memory, told. -/
structure Sx (N0 : Nat) (W : World) (P : Nat → Prop) (s : Nat) (A : Option Addr) (c : Nat) (fs : List Nat) (l : List S65) : Prop where
  ps : P s
  ge : N0 ≤ s
  blk : W.heap[s]? = some (.cells #[.slice A l.length c] 111 (0, 0))
  row : Kd.R kp 115 W N0 P (.slice A l.length c) fs.reverse
  frs : Frs N0 W (fun k => P k ∧ k ≠ s ∧ (Value.slice A l.length c).ownBlock ≠ some k) fs l
theorem Stk.x {N0 : Nat} {W : World} {P : Nat → Prop} {s : Nat} {l : List S65} (h : Stk N0 W P s l) : ∃ A c fs, Sx N0 W P s A c fs l := by
  obtain ⟨hp, hg, vF, fs, hb, hR, hF⟩ := h
  obtain ⟨A, c, rfl⟩ := Kd.R_slice hR
  have hl := hF.len
  rw [List.length_reverse, hl] at hb hR hF
  exact ⟨A, c, fs, hp, hg, hb, hR, hF⟩
theorem Sx.stk {N0 : Nat} {W : World} {P : Nat → Prop} {s : Nat} {A : Option Addr} {c : Nat} {fs : List Nat} {l : List S65} (h : Sx N0 W P s A c fs l) : Stk N0 W P s l := ⟨h.ps, h.ge, _, fs, h.blk, h.row, h.frs⟩
theorem Sx.below {N0 : Nat} {W W' : World} {P : Nat → Prop} {s : Nat} {A : Option Addr} {c : Nat} {fs : List Nat} {l : List S65} (h : Sx N0 W P s A c fs l) (hb : Below W.heap.size W W') : Sx N0 W' P s A c fs l :=
  ⟨h.ps, h.ge, (hb.block s (blk_lt h.blk)).trans h.blk, Kd.R_below h.row hb, Frs.step (hU := trivial) h.frs (fun k _ hk => hb.block k hk)⟩
theorem Sx.cell {N0 : Nat} {W : World} {P : Nat → Prop} {s : Nat} {A : Option Addr} {c : Nat} {fs : List Nat} {l : List S65} (h : Sx N0 W P s A c fs l) : W.cell? ⟨s, 0, none⟩ = some (.slice A l.length c) ∧ W.frozen? ⟨s, 0, none⟩ = false := by
  have hb := h.blk
  constructor
  · simp [World.cell?, hb]
  · simp [World.frozen?, hb]
/-- where the innermost frame stands. -/
theorem Sx.top {N0 : Nat} {W : World} {P : Nat → Prop} {s : Nat} {A : Option Addr} {c f : Nat} {fs : List Nat} {l : List S65} (h : Sx N0 W P s A c (f :: fs) l) : ∃ g, A = some ⟨g, 0, none⟩ ∧ W.cell? ⟨g, l.length - 1, none⟩ = some (.pointer (some ⟨f, 0, none⟩)) ∧ l.length ≤ 9223372036854775807 := by
  have hl := h.frs.len
  simp only [List.length_cons] at hl
  obtain ⟨_, inner, ho, _⟩ := h.row
  rcases ho.2 with ⟨hv, h0⟩ | ⟨g, cap, cur, hv, _, hc, h1, h2, _⟩
  · simp at h0
  · injection hv with e1 e2 e3
    subst e1 e3
    obtain ⟨cc, hcl, hM, hcc⟩ := Kd.R_get h.row 0 ((l.length - 1 : Nat) : Int) (by omega) (by omega)
    have hM : cc = [.pointer (some ⟨(f :: fs).reverse.getD ((l.length - 1 : Nat) : Int).toNat 0, 0, none⟩)] := hM
    have hg : (f :: fs).reverse.getD ((l.length - 1 : Nat) : Int).toNat 0 = f := by
      rw [Int.toNat_natCast, ← hl, List.reverse_cons, List.getD_eq_getElem?_getD]
      simp
    rw [hg] at hM
    have h3 := hcc 0 _ (by rw [hM]; rfl)
    refine ⟨g, rfl, ?_, ?_⟩
    · have h4 : (⟨g, 0, none⟩ : Addr).add (((l.length - 1 : Nat) : Int).toNat * kp.sz + 0) = ⟨g, l.length - 1, none⟩ := by
        simp [Addr.add, kp, Kd.scalar]
        omega
      rw [h4] at h3
      exact h3
    · have h5 : maxLen = 9223372036854775807 := rfl
      have h6 : fs.length + 1 ≤ c := by simpa using h1
      omega
theorem top_cons {N0 : Nat} {P : Nat → Prop} {s : Nat} {w : World} {A : Option Addr} {c f : Nat} {fs : List Nat} {l : List S65} (h : Sx N0 w P s A c (f :: fs) l) : TopIs (some ⟨s, 0, none⟩) w (some ⟨f, 0, none⟩) := by
  intro W hW
  have D := Lib.hid (depth_is W (h.below hW).stk)
  have hl := h.frs.len
  simp only [List.length_cons] at hl
  obtain ⟨g, rfl, t0, hnb⟩ := (h.below hW).top
  obtain ⟨k0, _⟩ := (h.below hW).cell
  obtain ⟨n, hn⟩ : ∃ n, l.length = n + 1 := ⟨_, hl.symm⟩
  rw [hn] at D t0 k0 hnb
  rw [Nat.add_sub_cancel] at t0
  clear h hl hn
  go_enter Try.func75, Try.ntmps75
  go_wp2_with fail
  refine D.out.mono ?_
  rintro e w2 ⟨rfl, hb⟩
  have HB := Lib.hid hb
  have t2 := pw_cell_below hb t0
  have k2 := pw_cell_below hb k0
  clear hb
  go_wp2_with fail
  have e1 : wrap64 (((n + 1 : Nat) : Int) - 1) = n := by unfold wrap64; omega
  go_quiet (fail)
  go_wp2_with fail
  go_ret
  exact ⟨rfl, Below.trans HB.out (pw_below_drewN (Below.refl _ _) _)⟩
theorem height_no {p : Option Addr} {w : World} (ht : TopIs p w none) : Calls Try.prog 40 #[.pointer p] w fun e w' => e = .returned (.int .i64 0) ∧ Below w.heap.size w w' := by
  have T := Lib.hid ht
  have hu24 := Try.underlying24
  clear ht
  go_enter Try.func40, Try.ntmps40
  go_wp2_with fail
  refine (T.out _ (Below.refl _ _)).mono ?_
  rintro e w2 ⟨rfl, hb⟩
  have HB := Lib.hid hb
  clear hb
  go_wp2_with fail
  go_ret
  exact ⟨rfl, HB.out⟩
theorem fun_no {p : Option Addr} {w : World} (ht : TopIs p w none) : Calls Try.prog 42 #[.pointer p] w fun e w' => e = .returned (.int .i64 (-1)) ∧ Below w.heap.size w w' := by
  have T := Lib.hid ht
  have hu24 := Try.underlying24
  clear ht
  go_enter Try.func42, Try.ntmps42
  go_wp2_with fail
  refine (T.out _ (Below.refl _ _)).mono ?_
  rintro e w2 ⟨rfl, hb⟩
  have HB := Lib.hid hb
  clear hb
  go_wp2_with fail
  go_ret
  exact ⟨rfl, HB.out⟩
theorem leave_no {p : Option Addr} {w : World} (ht : TopIs p w none) : Calls Try.prog 47 #[.pointer p] w fun e w' => e = .returned (.tuple #[.int .i64 0, .bool false]) ∧ Below w.heap.size w w' := by
  have T := Lib.hid ht
  have hu24 := Try.underlying24
  clear ht
  go_enter Try.func47, Try.ntmps47
  go_wp2_with fail
  refine (T.out _ (Below.refl _ _)).mono ?_
  rintro e w2 ⟨rfl, hb⟩
  have HB := Lib.hid hb
  clear hb
  go_wp2_with fail
  go_ret2
  exact ⟨rfl, HB.out⟩
theorem slot_no {p : Option Addr} {w : World} (ht : TopIs p w none) (n : Int) : Calls Try.prog 77 #[.pointer p, .int .i64 n] w fun e w' => e = .returned (.pointer none) ∧ Below w.heap.size w w' := by
  have T := Lib.hid ht
  have hu24 := Try.underlying24
  clear ht
  go_enter Try.func77, Try.ntmps77
  go_wp2_with fail
  refine (T.out _ (Below.refl _ _)).mono ?_
  rintro e w2 ⟨rfl, hb⟩
  have HB := Lib.hid hb
  clear hb
  go_wp2_with fail
  go_ret
  exact ⟨rfl, HB.out⟩
theorem take_no {p : Option Addr} {w : World} (ht : TopIs p w none) (n : Int) : Calls Try.prog 48 #[.pointer p, .int .i64 n] w fun e w' => e = .returned (.tuple #[.slice none 0 0, .bool false]) ∧ Below w.heap.size w w' := by
  have T := Lib.hid ht
  have hu24 := Try.underlying24
  clear ht
  go_enter Try.func48, Try.ntmps48
  go_wp2_with fail
  refine (T.out _ (Below.refl _ _)).mono ?_
  rintro e w2 ⟨rfl, hb⟩
  have HB := Lib.hid hb
  clear hb
  go_wp2_with fail
  go_ret2
  exact ⟨rfl, HB.out⟩
end Go.Proofs.Ytggdpeeiioibgaa.E
