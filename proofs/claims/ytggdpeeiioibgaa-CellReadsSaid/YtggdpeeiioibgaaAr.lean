/- Marline, values: where steps lead, by the reference. Conditions: as each says. -/
import Derived.Test.YtggdpeeiioibgaaAt
namespace Go.Proofs.Ytggdpeeiioibgaa.E
open Go.RowKit Go.Proofs.YtggdpeeiioibgaaW.PrintWords Go.Proofs.YtggdpeeiioibgaaW.PrintLast Go.Proofs.YtggdpeeiioibgaaW.PrintMore Go.Proofs.Ytggdpeeiioibgaa.Kinds Go.Proofs.Ytggdpeeiioibgaa.Obj
set_option linter.unusedVariables false
set_option linter.unusedSimpArgs false

/-- how a step leads nowhere, test by test. -/
theorem leads_cases (a b : Int) (k : List S24) (f : Bool) (n : Int) : (leads ⟨a, b, k⟩ ⟨f, n⟩ = true ∧ (f = true ∧ a = 3 ∨ f = false ∧ a = 2) ∧ 0 ≤ n ∧ n < (k.length : Int)) ∨
    (leads ⟨a, b, k⟩ ⟨f, n⟩ = false ∧ ((f = true ∧ a ≠ 3) ∨ (f = false ∧ a ≠ 2) ∨ ((f = true ∧ a = 3 ∨ f = false ∧ a = 2) ∧ n < 0) ∨ ((f = true ∧ a = 3 ∨ f = false ∧ a = 2) ∧ 0 ≤ n ∧ (k.length : Int) ≤ n))) := by
  simp only [leads]
  cases f <;> simp <;> omega

theorem info38 : (Try.prog.info? 38).map (fun i => (i.zero, i.size, i.bytes)) = some (some (.agg #[(.bool false), (.int .i64 0)]), 2, 16) := by kernel_rfl
theorem info24 : (Try.prog.info? 24).map (fun i => (i.zero, i.size, i.bytes)) = some (some (.agg #[(.int .i64 0), (.int .i64 0), (.slice none 0 0)]), 3, 40) := by kernel_rfl
/-- the rest of a list of steps, as the walk cuts it. -/
theorem cut38 (w : World) (A : Option Addr) (c : Nat) (z : S38) (l : List S38) (hc : l.length + 1 ≤ c) (hr : Kd.C k38 w A (l.length + 1) (z :: l)) :
    ∃ A2 : Option Addr, (∀ W : World, (Instr.slice 25 (.slice A (l.length + 1) c) (some (.int .i64 1)) none none).run Try.prog W = .ok (.slice A2 l.length (c - 1)) W) ∧ Kd.C k38 w A2 l.length l := by
  obtain ⟨i0, hi, hz0, hz1, hz2⟩ := info_parts info38
  have h1 := cut_from (P := Try.prog) 25 38 .i64 Try.underlying25 hi 2 hz1 A (l.length + 1) c 1 (by omega) (by omega)
  have h2 := Kd.C_drop (m := 1) (c := c) (xs := z :: l) hr (by simp) (by simpa using hc)
  refine ⟨_, fun W => ?_, h2⟩
  have h3 := h1 W
  have e : k38.sz = 2 := rfl
  rw [e]
  simpa using h3
theorem far1 {w : World} {p a : Addr} {u v : Value} (h : w.cell? a = some v) (hn : a.block ≠ p.block) : (w.setCell p u).cell? a = some v := by
  have e := Below.heap_setCell w p u a.block hn
  simpa [World.cell?, e] using h
theorem far3 {w : World} {q : Nat} {u0 u1 u2 v : Value} {a : Addr} (h : w.cell? a = some v) (hn : a.block ≠ q) : (((w.setCell ⟨q, 0, none⟩ u0).setCell ⟨q, 1, none⟩ u1).setCell ⟨q, 2, none⟩ u2).cell? a = some v := far1 (far1 (far1 h hn) hn) hn
set_option maxHeartbeats 8000000 in
set_option maxRecDepth 100000 in
theorem refAt_in (P : Nat → Prop) (w0 : World) : ∀ (l : List S38) (x : S24) (A : Option Addr) (c : Nat) (A1 : Option Addr) (c1 : Nat) (w : World), Below w0.heap.size w0 w → x.f2.length ≤ c → Kd.F k24 w0 P A x.f2.length x.f2 → l.length ≤ c1 → Kd.C k38 w A1 l.length l →
    Calls Try.prog 19 #[v24 x.f0 x.f1 A x.f2.length c, .slice A1 l.length c1] w fun e w' => ∃ B d, e = .returned (.tuple #[v24 (at_ x l).1.f0 (at_ x l).1.f1 B (at_ x l).1.f2.length d, .int .i64 (at_ x l).2]) ∧ (at_ x l).1.f2.length ≤ d ∧ Kd.F k24 w0 P B (at_ x l).1.f2.length (at_ x l).1.f2 ∧ Below w.heap.size w w' := by
  intro l
  induction l with
  | nil =>
    intro x A c A1 c1 w hw0 hc hF hc1 hr1
    have W0 := Lib.hid hw0
    clear hw0
    have hu24 := Try.underlying24
    have hu38 := Try.underlying38
    have HF := Lib.hid hF; have HC := Lib.hid hc
    clear hF hc hr1 hc1
    simp only [at_, List.length_nil]
    obtain ⟨g, hg⟩ : ∃ g, w.heap.size = g := ⟨_, rfl⟩
    obtain ⟨q, hq⟩ : ∃ q, w.heap.size + 1 = q := ⟨_, rfl⟩
    have V2 : Hid (Var ((w.alloc (.cells #[.int .i64 x.f0, .int .i64 x.f1, .slice A x.f2.length c] 24)).alloc (.cells #[.int .i64 x.f0, .int .i64 x.f1, .slice A x.f2.length c] 24)) q x A c) := by
      rw [← hq, ← size_al w (.cells #[.int .i64 x.f0, .int .i64 x.f1, .slice A x.f2.length c] 24)]; exact Lib.hid (blk_new _ _)
    have HQ := Lib.hid hq
    clear hg hq
    go_enter Try.func19, Try.ntmps19
    go_wp2_with fail
    rw [HQ.out]
    refine bodyPost_ret (results_ct rfl _ _ q 24 #[.int .i64 x.f0, .int .i64 x.f1, .slice A x.f2.length c] (0, 0) _ rfl V2.out Try.underlying24 rfl (by kernel_rfl)) rfl ?_
    exact ⟨A, c, rfl, HC.out, HF.out, below_alloc (below_alloc (Below.refl w.heap.size w) _) _⟩
  | cons z l ih =>
    intro x A c A1 c1 w hw0 hc hF hc1 hr1
    have W0 := Lib.hid hw0
    clear hw0
    have hu24 := Try.underlying24
    have hu38 := Try.underlying38
    obtain ⟨a, b, k⟩ := x
    obtain ⟨f, n⟩ := z
    simp only at hc hF
    have m1 := hr1.2.1
    rw [List.length_cons] at m1 hc1 hr1
    obtain ⟨ad, ea, s0, s1⟩ := at_T38 hr1 0 (Int.le_refl 0) (by omega)
    cases ea
    have ez : rd_T38 (⟨f, n⟩ :: l) 0 = ⟨f, n⟩ := rfl
    rw [ez] at s0 s1
    have s0' : w.cell? ad = some (.bool f) := s0
    have s1' : w.cell? ⟨ad.block, ad.off + 1, none⟩ = some (.int .i64 n) := s1
    obtain ⟨A2, hcut, hr2⟩ := cut38 w (some ad) c1 ⟨f, n⟩ l hc1 hr1
    have HR2 := Lib.hid hr2
    have HF := Lib.hid hF; have HC := Lib.hid hc; have HC1 := Lib.hid hc1
    have n0 : ((l.length : Int) + 1 == 0) = false := by simp; omega
    have n0' : (0 : Int) < (l.length : Int) + 1 := by omega
    clear hr1 hr2 hF hc ez s0 s1
    unfold v24
    simp only [List.length_cons]
    obtain ⟨g, hg⟩ : ∃ g, w.heap.size = g := ⟨_, rfl⟩
    obtain ⟨q, hq⟩ : ∃ q, w.heap.size + 1 = q := ⟨_, rfl⟩
    have V2 : Hid (Var ((w.alloc (.cells #[.int .i64 a, .int .i64 b, .slice A k.length c] 24)).alloc (.cells #[.int .i64 0, .int .i64 0, .slice none 0 0] 24)) g ⟨a, b, k⟩ A c) := by
      rw [← hg]; exact Lib.hid (blk_alloc (blk_new _ _) _)
    have V4 : Hid (Var ((w.alloc (.cells #[.int .i64 a, .int .i64 b, .slice A k.length c] 24)).alloc (.cells #[.int .i64 0, .int .i64 0, .slice none 0 0] 24)) q z24 none 0) := by
      rw [← hq, ← size_al w (.cells #[.int .i64 a, .int .i64 b, .slice A k.length c] 24)]; exact Lib.hid (blk_new _ _)
    have B0 := Lib.hid (below_alloc (below_alloc (Below.refl w.heap.size w) (.cells #[.int .i64 a, .int .i64 b, .slice A k.length c] 24)) (.cells #[.int .i64 0, .int .i64 0, .slice none 0 0] 24))
    have HG := Lib.hid hg
    have HQ := Lib.hid hq
    have wq : w.heap.size ≤ q := by omega
    have wg : w.heap.size ≤ g := by omega
    have gq : g ≠ q := by omega
    clear hq hg
    go_enter Try.func19, Try.ntmps19
    go_upto_region 3 with (fail)
    rw [HQ.out, HG.out]
    generalize (w.alloc (Obj.cells #[.int .i64 a, .int .i64 b, .slice A k.length c] 24)).alloc (Obj.cells #[.int .i64 0, .int .i64 0, .slice none 0 0] 24) = w2 at *
    replace s0' := at_later B0.out s0'; replace s1' := at_later B0.out s1'
    go_upto_region 4 with (fail)
    obtain ⟨o, ho⟩ : ∃ o, w2.heap.size = o := ⟨_, rfl⟩
    have O6 := Lib.hid (show (w2.alloc (Obj.cells #[.bool f, .int .i64 n] 38)).heap[o]? = some (.cells #[.bool f, .int .i64 n] 38 (0, 0)) by rw [← ho]; exact blk_new w2 _)
    have W2 := Lib.hid (V2.out.alloc (Obj.cells #[.bool f, .int .i64 n] 38))
    have W4 := Lib.hid (V4.out.alloc (Obj.cells #[.bool f, .int .i64 n] 38))
    have B1 := Lib.hid (below_alloc B0.out (Obj.cells #[.bool f, .int .i64 n] 38))
    rw [ho]
    clear s0' s1' ho V2 V4 B0
    generalize w2.alloc (Obj.cells #[.bool f, .int .i64 n] 38) = w3 at *
    obtain ⟨k0, k1, k2, f0, f1, f2⟩ := W2.out.cells
    obtain ⟨m0, m1', m2, t0, t1, t2⟩ := W4.out.cells
    dsimp only at k0 k1 k2
    have s0 : w3.cell? ⟨o, 0, none⟩ = some (.bool f) := (blk_cell O6.out 0).trans rfl
    have s1 : w3.cell? ⟨o, 1, none⟩ = some (.int .i64 n) := (blk_cell O6.out 1).trans rfl
    have oq : o ≠ q := fun e => by have h1 := O6.out; have h2 := W4.out; unfold Var at h2; rw [e, h2] at h1; injection h1 with h1; injection h1 with _ h1; exact absurd h1 (by decide)
    rcases leads_cases a b k f n with ⟨hl, hkind, hn0, hn1⟩ | ⟨hl, hbad⟩
    · have e9 : at_ ⟨a, b, k⟩ (⟨f, n⟩ :: l) = at_ (rd_T24 k n) l := by rw [at_, if_pos hl]
      obtain ⟨ad', B', d', ea', x0, x1, x2, xl, xr⟩ := F_kid HF.out n hn0 hn1
      cases ea'
      obtain ⟨y, ey⟩ : ∃ y', rd_T24 k n = y' := ⟨_, rfl⟩
      rw [ey] at x0 x1 x2 xl xr e9
      have xq : (ad'.add (n.toNat * 3)).block ≠ q := by have := World.block_lt_of_cell? w0 _ x0; have := W0.out.size; omega
      replace x0 := at_later W0.out x0; replace x1 := at_later W0.out x1; replace x2 := at_later W0.out x2
      replace x0 := at_later B1.out x0; replace x1 := at_later B1.out x1; replace x2 := at_later B1.out x2
      have pz := eq_true hn0
      have qz := eq_true hn1
      have g1 : decide (n < 0) = false := decide_eq_false (by omega)
      have g2 : decide ((k.length : Int) ≤ n) = false := decide_eq_false (by omega)
      have XL := Lib.hid xl; have XR := Lib.hid xr; have E9 := Lib.hid e9
      have IH := Lib.hid (fun W (hW : Below w.heap.size w W) => ih y B' d' A2 (c1 - 1) W (W0.out.trans (hW.mono W0.out.size)) xl xr (by have := HC1.out; omega) (Kd.C_below HR2.out hW))
      clear hl e9 ey xl xr ih
      have hkd : (f = true ∧ (a == 3) = true ∧ (a != 3) = false) ∨ (f = false ∧ (a == 2) = true ∧ (a != 2) = false) := by
        rcases hkind with ⟨h1, h2⟩ | ⟨h1, h2⟩
        · exact .inl ⟨h1, by simp [h2], by simp [h2]⟩
        · exact .inr ⟨h1, by simp [h2], by simp [h2]⟩
      clear hkind
      rcases hkd with ⟨hf, h2, h3⟩ | ⟨hf, h2, h3⟩
      all_goals
        subst hf
        go_wp2_with fail
        go_region_held3 (fun w' => w'.cell? ⟨g, 2, none⟩ = some (.slice (some ad') k.length c) ∧ w'.cell? ⟨o, 1, none⟩ = some (.int .i64 n) ∧ w'.cell? (ad'.add (n.toNat * 3)) = some (.int .i64 y.f0) ∧ w'.cell? ⟨(ad'.add (n.toNat * 3)).block, (ad'.add (n.toNat * 3)).off + 1, none⟩ = some (.int .i64 y.f1) ∧ w'.cell? ⟨(ad'.add (n.toNat * 3)).block, (ad'.add (n.toNat * 3)).off + 2, none⟩ = some (.slice B' y.f2.length d')) (first | exact ⟨k2, s1, x0, x1, x2⟩ | exact ⟨q0, q1, q2, q3, q4⟩ | exact ⟨far3 q0 gq, far3 q1 oq, far3 q2 xq, far3 q3 xq, far3 q4 xq⟩)
          (first | (go_at_call 19; refine (IH.out _ (by exact below_drew B1.out)).mono ?_; rintro e w4 ⟨B4, d4, rfl, l4, F4, b4⟩; have q0 := at_later b4 (show w3.drew.cell? _ = _ from k2); have q1 := at_later b4 (show w3.drew.cell? _ = _ from s1); have q2 := at_later b4 (show w3.drew.cell? _ = _ from x0); have q3 := at_later b4 (show w3.drew.cell? _ = _ from x1); have q4 := at_later b4 (show w3.drew.cell? _ = _ from x2); have V9 := Lib.hid (Var.below (w := w3.drew) (by exact W4.out) b4); obtain ⟨p0, p1, p2, p3, p4, p5⟩ := V9.out.cells; have L4 := Lib.hid l4; have G4 := Lib.hid F4; have HB4 := Lib.hid (Below.trans (below_drew B1.out) (Below.mono b4 (by exact B1.out.size))); clear l4 F4 b4))
        all_goals go_wp2
        all_goals
          rw [E9.out]
          refine bodyPost_ret (results_ct rfl _ _ q 24 #[.int .i64 (at_ y l).1.f0, .int .i64 (at_ y l).1.f1, .slice B4 (at_ y l).1.f2.length d4] (0, 0) _ rfl (V9.out.set _ _ _) Try.underlying24 rfl (by kernel_rfl)) rfl ?_
          exact ⟨B4, d4, rfl, L4.out, G4.out, below3 HB4.out wq⟩
    · have e9 : at_ ⟨a, b, k⟩ (⟨f, n⟩ :: l) = (z24, 3) := by rw [at_, if_neg (by rw [hl]; decide)]
      have E9 := Lib.hid e9
      have V9 := Lib.hid (W4.out.set z24 none 0)
      have hx : ((f = true ∧ (a == 3) = false ∧ (a != 3) = true) ∨ (f = false ∧ (a == 2) = false ∧ (a != 2) = true)) ∨
          (((f = true ∧ (a == 3) = true ∧ (a != 3) = false) ∨ (f = false ∧ (a == 2) = true ∧ (a != 2) = false)) ∧ (decide (n < 0) = true ∨ (decide (n < 0) = false ∧ decide ((k.length : Int) ≤ n) = true))) := by
        rcases hbad with ⟨h1, h2⟩ | ⟨h1, h2⟩ | ⟨h1, h2⟩ | ⟨h1, h2, h3⟩
        · exact .inl (.inl ⟨h1, by simp [h2], by simp [h2]⟩)
        · exact .inl (.inr ⟨h1, by simp [h2], by simp [h2]⟩)
        · refine .inr ⟨?_, .inl (decide_eq_true h2)⟩
          rcases h1 with ⟨h1, h4⟩ | ⟨h1, h4⟩
          · exact .inl ⟨h1, by simp [h4], by simp [h4]⟩
          · exact .inr ⟨h1, by simp [h4], by simp [h4]⟩
        · refine .inr ⟨?_, .inr ⟨decide_eq_false (by omega), decide_eq_true h3⟩⟩
          rcases h1 with ⟨h1, h4⟩ | ⟨h1, h4⟩
          · exact .inl ⟨h1, by simp [h4], by simp [h4]⟩
          · exact .inr ⟨h1, by simp [h4], by simp [h4]⟩
      clear hl hbad e9 ih hcut
      rcases hx with (⟨hf, h2, h3⟩ | ⟨hf, h2, h3⟩) | ⟨⟨hf, h2, h3⟩ | ⟨hf, h2, h3⟩, h4 | ⟨h4, h5⟩⟩
      all_goals
        subst hf
        go_wp2_with fail
        rw [E9.out]
        refine bodyPost_ret (results_ct rfl _ _ q 24 #[.int .i64 0, .int .i64 0, .slice none 0 0] (0, 0) _ rfl V9.out Try.underlying24 rfl (by kernel_rfl)) rfl ?_
        exact ⟨none, 0, rfl, Nat.le_refl _, Kd.F_nil k24 w0 P, below3 B1.out wq⟩
theorem refAt_is (P : Nat → Prop) (x : S24) (A : Option Addr) (c : Nat) (l : List S38) (A1 : Option Addr) (c1 : Nat) (w : World) (hc : x.f2.length ≤ c) (hF : Kd.F k24 w P A x.f2.length x.f2) (hc1 : l.length ≤ c1) (hr1 : Kd.C k38 w A1 l.length l) :
    Calls Try.prog 19 #[v24 x.f0 x.f1 A x.f2.length c, .slice A1 l.length c1] w fun e w' => ∃ B d, e = .returned (.tuple #[v24 (at_ x l).1.f0 (at_ x l).1.f1 B (at_ x l).1.f2.length d, .int .i64 (at_ x l).2]) ∧ (at_ x l).1.f2.length ≤ d ∧ Kd.F k24 w P B (at_ x l).1.f2.length (at_ x l).1.f2 ∧ Below w.heap.size w w' :=
  refAt_in P w l x A c A1 c1 w (Below.refl _ _) hc hF hc1 hr1
end Go.Proofs.Ytggdpeeiioibgaa.E
