/- Marline, values: contracts, as printed functions are told. Conditions: as each says. -/
import Derived.Test.YtggdpeeiioibgaaE2
import Derived.Lib.SliceRun
import Derived.Lib.Walk
namespace Go.Proofs.Ytggdpeeiioibgaa.E
open Go.RowKit Go.Proofs.YtggdpeeiioibgaaW.PrintWords Go.Proofs.YtggdpeeiioibgaaW.PrintLast Go.Proofs.YtggdpeeiioibgaaW.PrintMore Go.Proofs.Ytggdpeeiioibgaa.Kinds Go.Proofs.Ytggdpeeiioibgaa.Obj
set_option linter.unusedVariables false
set_option linter.unusedSimpArgs false

/-- does a step lead anywhere. -/
def leads (x : S24) (y : S38) : Bool := decide (x.f0 = (if y.f0 then 3 else 2)) && (decide (0 ≤ y.f1) && decide (y.f1 < x.f2.length))
/-- where steps lead, or a trap. -/
def at_ : S24 → List S38 → S24 × Int
  | x, [] => (x, 0)
  | x, y :: l => if leads x y then at_ (rd_T24 x.f2 y.f1) l else (z24, 3)

abbrev v38 (y : S38) : Value := .agg #[.bool y.f0, .int .i64 y.f1]
set_option maxHeartbeats 4000000 in
set_option maxRecDepth 100000 in
theorem leads_is (x : S24) (A : Option Addr) (c : Nat) (y : S38) (w : World) :
    Calls Try.prog 60 #[v24 x.f0 x.f1 A x.f2.length c, v38 y] w fun e w' => e = .returned (.bool (leads x y)) ∧ Below w.heap.size w w' := by
  have hu24 := Try.underlying24
  have hu38 := Try.underlying38
  obtain ⟨a, b, l⟩ := x
  obtain ⟨f, n⟩ := y
  unfold v24 v38
  simp only [leads]
  have hB := Lib.hid (below_alloc (below_alloc (Below.refl w.heap.size w) (.cells #[.int .i64 a, .int .i64 b, .slice A l.length c] 24)) (.cells #[.bool f, .int .i64 n] 38))
  obtain ⟨k, hk⟩ : ∃ k : Int, (if f = true then (3 : Int) else 2) = k := ⟨_, rfl⟩
  rw [hk]
  by_cases h1 : a = k
  · have g1 : (a == k) = true := beq_iff_eq.2 h1
    by_cases h2 : 0 ≤ n
    · have g2 := decide_eq_true h2
      by_cases h3 : n < (l.length : Int)
      · have g3 := decide_eq_true h3
        have E := Lib.hid (show (decide (a = k) && (decide (0 ≤ n) && decide (n < (l.length : Int)))) = true by simp [h1, h2, h3])
        rw [E.out]
        clear h1
        cases f <;> simp at hk <;> subst hk
        all_goals
          go_enter Try.func60, Try.ntmps60
          go_wp2_with fail
          go_ret
          exact ⟨rfl, hB.out⟩
      · have g3 := decide_eq_false h3
        have E := Lib.hid (show (decide (a = k) && (decide (0 ≤ n) && decide (n < (l.length : Int)))) = false by simp [h3])
        rw [E.out]
        clear h1
        cases f <;> simp at hk <;> subst hk
        all_goals
          go_enter Try.func60, Try.ntmps60
          go_wp2_with fail
          go_ret
          exact ⟨rfl, hB.out⟩
    · have g2 := decide_eq_false h2
      have E := Lib.hid (show (decide (a = k) && (decide (0 ≤ n) && decide (n < (l.length : Int)))) = false by simp [h2])
      rw [E.out]
      clear h1
      cases f <;> simp at hk <;> subst hk
      all_goals
        go_enter Try.func60, Try.ntmps60
        go_wp2_with fail
        go_ret
        exact ⟨rfl, hB.out⟩
  · have g1 : (a == k) = false := beq_eq_false_iff_ne.2 h1
    have E := Lib.hid (show (decide (a = k) && (decide (0 ≤ n) && decide (n < (l.length : Int)))) = false by simp [h1])
    rw [E.out]
    clear h1
    cases f <;> simp at hk <;> subst hk
    all_goals
      go_enter Try.func60, Try.ntmps60
      go_wp2_with fail
      go_ret
      exact ⟨rfl, hB.out⟩

theorem size_al (w : World) (o : Obj) : (w.alloc o).heap.size = w.heap.size + 1 := by simp [World.alloc_eq]
/-- A row that is read, somewhere in P: an element's kids. -/
theorem F_kid {P : Nat → Prop} {w : World} {A : Option Addr} {l : List S24} (h : Kd.F k24 w P A l.length l) (i : Int) (h0 : 0 ≤ i) (h1 : i < l.length) :
    ∃ ad B d, A = some ad ∧ w.cell? (ad.add (i.toNat * 3)) = some (.int .i64 (rd_T24 l i).f0) ∧ w.cell? ⟨(ad.add (i.toNat * 3)).block, (ad.add (i.toNat * 3)).off + 1, none⟩ = some (.int .i64 (rd_T24 l i).f1) ∧ w.cell? ⟨(ad.add (i.toNat * 3)).block, (ad.add (i.toNat * 3)).off + 2, none⟩ = some (.slice B (rd_T24 l i).f2.length d) ∧ (rd_T24 l i).f2.length ≤ d ∧ Kd.F k24 w P B (rd_T24 l i).f2.length (rd_T24 l i).f2 := by
  obtain ⟨ad, c, e, _, hK, hc0, _⟩ := Kd.F_get h z24 i h0 h1
  have hc : ∀ j u, c[j]? = some u → w.cell? (ad.add (i.toNat * 3 + j)) = some u := hc0
  obtain ⟨A2, c2, rfl, l2, g2⟩ := k24_openF hK
  exact ⟨ad, A2, c2, e, hc 0 _ rfl, by rw [← add_field _ _ 1 (by omega)]; exact hc 1 _ rfl, by rw [← add_field _ _ 2 (by omega)]; exact hc 2 _ rfl, l2, g2⟩
/-- a value in a variable of its own. -/
def Var (w : World) (g : Nat) (x : S24) (B : Option Addr) (d : Nat) : Prop := w.heap[g]? = some (.cells #[.int .i64 x.f0, .int .i64 x.f1, .slice B x.f2.length d] 24 (0, 0))
theorem Var.cells {w : World} {g : Nat} {x : S24} {B : Option Addr} {d : Nat} (h : Var w g x B d) : w.cell? ⟨g, 0, none⟩ = some (.int .i64 x.f0) ∧ w.cell? ⟨g, 1, none⟩ = some (.int .i64 x.f1) ∧ w.cell? ⟨g, 2, none⟩ = some (.slice B x.f2.length d) ∧ w.frozen? ⟨g, 0, none⟩ = false ∧ w.frozen? ⟨g, 1, none⟩ = false ∧ w.frozen? ⟨g, 2, none⟩ = false :=
  ⟨(blk_cell h 0).trans rfl, (blk_cell h 1).trans rfl, (blk_cell h 2).trans rfl, blk_frozen h 0, blk_frozen h 1, blk_frozen h 2⟩
theorem Var.set {w : World} {g : Nat} {x : S24} {B : Option Addr} {d : Nat} (h : Var w g x B d) (y : S24) (B' : Option Addr) (d' : Nat) :
    Var (((w.setCell ⟨g, 0, none⟩ (.int .i64 y.f0)).setCell ⟨g, 1, none⟩ (.int .i64 y.f1)).setCell ⟨g, 2, none⟩ (.slice B' y.f2.length d')) g y B' d' := by
  have h1 := blk_set (blk_set (blk_set h 0 (.int .i64 y.f0)) 1 (.int .i64 y.f1)) 2 (.slice B' y.f2.length d')
  unfold Var
  simpa using h1
theorem Var.far {w : World} {g : Nat} {x : S24} {B : Option Addr} {d : Nat} (h : Var w g x B d) {p : Addr} (hp : g ≠ p.block) (u : Value) : Var (w.setCell p u) g x B d := blk_far h hp u
theorem Var.alloc {w : World} {g : Nat} {x : S24} {B : Option Addr} {d : Nat} (h : Var w g x B d) (o : Obj) : Var (w.alloc o) g x B d := blk_alloc h o
theorem Var.below {w w' : World} {g : Nat} {x : S24} {B : Option Addr} {d : Nat} (h : Var w g x B d) (hb : Below w.heap.size w w') : Var w' g x B d := blk_below h hb
theorem below3 {w W : World} {g : Nat} {u0 u1 u2 : Value} (h : Below w.heap.size w W) (hg : w.heap.size ≤ g) : Below w.heap.size w (((W.setCell ⟨g, 0, none⟩ u0).setCell ⟨g, 1, none⟩ u1).setCell ⟨g, 2, none⟩ u2) := below_set (below_set (below_set h hg) hg) hg

set_option maxHeartbeats 8000000 in
set_option maxRecDepth 100000 in
theorem at_is (P : Nat → Prop) (x : S24) (A : Option Addr) (c : Nat) (l : List S38) (A1 : Option Addr) (c1 : Nat) (w : World) (hc : x.f2.length ≤ c) (hF : Kd.F k24 w P A x.f2.length x.f2) (hc1 : l.length ≤ c1) (hr1 : Kd.C k38 w A1 l.length l) :
    Calls Try.prog 18 #[v24 x.f0 x.f1 A x.f2.length c, .slice A1 l.length c1] w fun e w' => ∃ B d, e = .returned (.tuple #[v24 (at_ x l).1.f0 (at_ x l).1.f1 B (at_ x l).1.f2.length d, .int .i64 (at_ x l).2]) ∧ (at_ x l).1.f2.length ≤ d ∧ Kd.F k24 w P B (at_ x l).1.f2.length (at_ x l).1.f2 ∧ Below w.heap.size w w' := by
  have hu24 := Try.underlying24
  have hu38 := Try.underlying38
  have HF := Lib.hid hF; have HC := Lib.hid hc; have HR := Lib.hid hr1
  obtain ⟨L, hL⟩ : ∃ L, l.length = L := ⟨_, rfl⟩
  have m1 : L ≤ 9223372036854775807 := by rw [← hL]; exact hr1.2.1
  rw [hL] at HR ⊢
  have EL := Lib.hid hL
  clear hF hc hr1 hc1 hL
  obtain ⟨g, hg⟩ : ∃ g, w.heap.size = g := ⟨_, rfl⟩
  obtain ⟨q, hq⟩ : ∃ q, w.heap.size + 1 = q := ⟨_, rfl⟩
  have V2 : Hid (Var ((w.alloc (.cells #[.int .i64 x.f0, .int .i64 x.f1, .slice A x.f2.length c] 24)).alloc (.cells #[.int .i64 0, .int .i64 0, .slice none 0 0] 24)) g x A c) := by
    rw [← hg]; exact Lib.hid (Var.alloc (blk_new _ _) _)
  have V4 : Hid (Var ((w.alloc (.cells #[.int .i64 x.f0, .int .i64 x.f1, .slice A x.f2.length c] 24)).alloc (.cells #[.int .i64 0, .int .i64 0, .slice none 0 0] 24)) q z24 none 0) := by
    rw [← hq, ← size_al w (.cells #[.int .i64 x.f0, .int .i64 x.f1, .slice A x.f2.length c] 24)]; exact Lib.hid (blk_new _ _)
  have B0 := Lib.hid (below_alloc (below_alloc (Below.refl w.heap.size w) (.cells #[.int .i64 x.f0, .int .i64 x.f1, .slice A x.f2.length c] 24)) (.cells #[.int .i64 0, .int .i64 0, .slice none 0 0] 24))
  have gq : g ≠ q := by omega
  have wg : w.heap.size ≤ g := by omega
  have wq : w.heap.size ≤ q := by omega
  have HG := Lib.hid hg; have HQ := Lib.hid hq
  clear hg hq
  go_enter Try.func18, Try.ntmps18
  go_wp2_with fail
  rw [HQ.out, HG.out]
  generalize (w.alloc (Obj.cells #[.int .i64 x.f0, .int .i64 x.f1, .slice A x.f2.length c] 24)).alloc (Obj.cells #[.int .i64 0, .int .i64 0, .slice none 0 0] 24) = w2 at *
  go_loopw [10] (fun i wr => ∃ (n : Nat) (y : S24) (B : Option Addr) (d : Nat), i = .int .i64 n ∧ n ≤ L ∧ Hid (at_ x l = at_ y (l.drop n)) ∧ Hid (Var wr g y B d) ∧ Hid (Var wr q z24 none 0) ∧ Hid (y.f2.length ≤ d) ∧ Hid (Kd.F k24 w P B y.f2.length y.f2) ∧ Hid (Below w.heap.size w wr)) (fun i _ => L - (intOf i).toNat)
  case atStart => exact ⟨0, x, A, c, rfl, by omega, Lib.hid rfl, V2, V4, HC, HF, B0⟩
  case round =>
    clear V2 V4 B0 HC HF
    obtain ⟨n, y, B, d, rfl, hn, HS, V2, V4, HC, HF, HB⟩ := hrel
    obtain ⟨k0, k1, k2, f0, f1, f2⟩ := V2.out.cells
    obtain ⟨m0, m1', m2, t0, t1, t2⟩ := V4.out.cells
    by_cases hx : (n : Int) < (L : Int)
    · have hx1 := decide_eq_true hx
      have hlt : n < L := by omega
      obtain ⟨ad, ea, s0, s1⟩ := at_T38 HR.out (n : Int) (by omega) hx
      cases ea
      obtain ⟨z, ez⟩ : ∃ z, rd_T38 l n = z := ⟨_, rfl⟩
      rw [ez] at s0 s1
      have hd : l.drop n = z :: l.drop (n + 1) := by
        rw [List.drop_eq_getElem_cons (by rw [EL.out]; exact hlt), ← ez]
        unfold rd_T38
        rw [Int.toNat_natCast, List.getD_eq_getElem?_getD, List.getElem?_eq_getElem (by rw [EL.out]; exact hlt)]
        rfl
      replace s0 := at_later HB.out s0; replace s1 := at_later HB.out s1
      rw [Int.toNat_natCast] at s0 s1
      have pn := eq_true hx
      have qn := eq_true (show (0 : Int) ≤ (n : Int) by omega)
      have e1 : IntKind.i64.wrap ((n : Int) + 1) = (n : Int) + 1 := IntWalk.i64_in _ (by omega)
      have HD := Lib.hid hd
      have lg := blk_lt V2.out
      have lq := blk_lt V4.out
      have ng : ¬ g = wr.heap.size := by omega
      have nq : ¬ q = wr.heap.size := by omega
      clear hd ez
      go_wp2_with fail
      refine (leads_is y B d z _).mono ?_
      rintro e w4 ⟨rfl, b4⟩
      obtain ⟨o, ho⟩ : ∃ o, wr.heap.size = o := ⟨_, rfl⟩
      have V6 := Lib.hid (Var.below (Var.alloc V2.out _) b4)
      have V8 := Lib.hid (Var.below (Var.alloc V4.out _) b4)
      have O6 : Hid (w4.heap[o]? = some (.cells #[.bool z.f0, .int .i64 z.f1] 38 (0, 0))) := Lib.hid (blk_below (by rw [← ho]; exact blk_new wr _) b4)
      have HB6 := Lib.hid (HB.out.trans (Below.mono (Below.trans (below_alloc (Below.refl wr.heap.size wr) _) (Below.mono b4 (by simp))) HB.out.size))
      rw [ho]
      clear b4 V2 V4 k0 k1 k2 f0 f1 f2 m0 m1' m2 t0 t1 t2 s0 s1 HB
      obtain ⟨k0, k1, k2, f0, f1, f2⟩ := V6.out.cells
      obtain ⟨m0, m1', m2, t0, t1, t2⟩ := V8.out.cells
      have s0 : w4.cell? ⟨o, 0, none⟩ = some (.bool z.f0) := (blk_cell O6.out 0).trans rfl
      have s1 : w4.cell? ⟨o, 1, none⟩ = some (.int .i64 z.f1) := (blk_cell O6.out 1).trans rfl
      have HO := Lib.hid ho
      clear ho
      by_cases hlead : leads y z = true
      · have hz : 0 ≤ z.f1 ∧ z.f1 < (y.f2.length : Int) := by
          simp [leads] at hlead
          exact ⟨hlead.2.1, hlead.2.2⟩
        obtain ⟨ad', B', d', ea', x0, x1, x2, xl, xr⟩ := F_kid HF.out z.f1 hz.1 hz.2
        cases ea'
        obtain ⟨y', ey⟩ : ∃ y', rd_T24 y.f2 z.f1 = y' := ⟨_, rfl⟩
        rw [ey] at x0 x1 x2 xl xr
        replace x0 := at_later HB6.out x0; replace x1 := at_later HB6.out x1; replace x2 := at_later HB6.out x2
        have pz := eq_true hz.1
        have qz := eq_true hz.2
        have e9 : at_ y (l.drop n) = at_ y' (l.drop (n + 1)) := by rw [HD.out, at_, if_pos hlead, ey]
        have E9 := Lib.hid e9
        have XL := Lib.hid xl; have XR := Lib.hid xr
        rw [hlead]
        have V7 := Lib.hid (V6.out.set y' B' d')
        clear hlead ey e9 xl xr
        go_wp2_with fail
        go_roundw
        case rel => exact ⟨n + 1, y', B', d', by push_cast; rfl, by omega, Lib.hid (HS.out.trans E9.out), V7, Lib.hid (Var.far (Var.far (Var.far V8.out (Ne.symm gq) _) (Ne.symm gq) _) (Ne.symm gq) _), XL, XR, Lib.hid (below3 HB6.out wg)⟩
        case measure => simp [intOf]; omega
      · have hl' : leads y z = false := by simpa using hlead
        have e9 : at_ x l = (z24, 3) := by rw [HS.out, HD.out, at_, if_neg hlead]
        have E9 := Lib.hid e9
        rw [hl']
        have V9 := Lib.hid (V8.out.set z24 none 0)
        clear hlead hl' e9
        go_wp2_with fail
        rw [E9.out]
        refine bodyPost_ret (results_ct rfl _ _ q 24 #[.int .i64 0, .int .i64 0, .slice none 0 0] (0, 0) _ rfl V9.out Try.underlying24 rfl (by kernel_rfl)) rfl ?_
        exact ⟨none, 0, rfl, Nat.le_refl _, Kd.F_nil k24 w P, below3 HB6.out wq⟩
    · have hx1 := decide_eq_false hx
      have hne : n = L := by omega
      have HNE := Lib.hid hne
      clear hne
      have V5 := Lib.hid (V4.out.set y B d)
      have e5 : at_ x l = (y, 0) := by rw [HS.out, List.drop_of_length_le (by rw [EL.out, HNE.out]; exact Nat.le_refl _)]; rfl
      have E5 := Lib.hid e5
      clear e5
      go_wp2_with fail
      rw [E5.out]
      refine bodyPost_ret (results_ct rfl _ _ q 24 #[.int .i64 y.f0, .int .i64 y.f1, .slice B y.f2.length d] (0, 0) _ rfl V5.out Try.underlying24 rfl (by kernel_rfl)) rfl ?_
      exact ⟨B, d, rfl, HC.out, HF.out, below3 HB.out wq⟩
end Go.Proofs.Ytggdpeeiioibgaa.E
namespace Go.Proofs.Ytggdpeeiioibgaa.E
open Go.RowKit Go.Proofs.YtggdpeeiioibgaaW.PrintWords Go.Proofs.YtggdpeeiioibgaaW.PrintLast Go.Proofs.YtggdpeeiioibgaaW.PrintMore Go.Proofs.Ytggdpeeiioibgaa.Kinds Go.Proofs.Ytggdpeeiioibgaa.Obj
set_option linter.unusedVariables false
set_option linter.unusedSimpArgs false

/-- how a step leads nowhere, test by test. -/
theorem leads_cases (a b : Int) (k : List S24) (f : Bool) (n : Int) : (leads ⟨a, b, k⟩ ⟨f, n⟩ = true ∧ (f = true ∧ a = 3 ∨ f = false ∧ a = 2) ∧ 0 ≤ n ∧ n < (k.length : Int)) ∨
    (leads ⟨a, b, k⟩ ⟨f, n⟩ = false ∧ ((f = true ∧ a ≠ 3) ∨ (f = false ∧ a ≠ 2) ∨ ((f = true ∧ a = 3 ∨ f = false ∧ a = 2) ∧ n < 0) ∨ ((f = true ∧ a = 3 ∨ f = false ∧ a = 2) ∧ 0 ≤ n ∧ (k.length : Int) ≤ n))) := by
  simp only [leads]
  cases f <;> simp <;> omega

theorem info38 : (Try.prog.info? 38).map (fun i => (i.zero, i.size, i.bytes)) = some (some (.agg #[(.bool false), (.int .i64 0)]), 2, 16) := by kernel_rfl
theorem info24 : (Try.prog.info? 24).map (fun i => (i.zero, i.size, i.bytes)) = some (some (.agg #[(.int .i64 0), (.int .i64 0), (.slice none 0 0)]), 3, 40) := by kernel_rfl
/-- the rest of a list of steps, as the walk cuts it. -/
theorem cut38 (w : World) (A : Option Addr) (c : Nat) (z : S38) (l : List S38) (hc : l.length + 1 ≤ c) (hr : Kd.C k38 w A (l.length + 1) (z :: l)) :
    ∃ A2 : Option Addr, (∀ W : World, (Instr.slice 25 (.slice A (l.length + 1) c) (some (.int .i64 1)) none none).run Try.prog W = .ok (.slice A2 l.length (c - 1)) W) ∧ Kd.C k38 w A2 l.length l := by
  obtain ⟨i0, hi, hz0, hz1, hz2⟩ := info_parts info38
  have h1 := cut_from (P := Try.prog) 25 38 .i64 Try.underlying25 hi 2 hz1 A (l.length + 1) c 1 (by omega) (by omega)
  have h2 := Kd.C_drop (m := 1) (c := c) (xs := z :: l) hr (by simp) (by simpa using hc)
  refine ⟨_, fun W => ?_, h2⟩
  have h3 := h1 W
  have e : k38.sz = 2 := rfl
  rw [e]
  simpa using h3
theorem far1 {w : World} {p a : Addr} {u v : Value} (h : w.cell? a = some v) (hn : a.block ≠ p.block) : (w.setCell p u).cell? a = some v := by
  have e := Below.heap_setCell w p u a.block hn
  simpa [World.cell?, e] using h
theorem far3 {w : World} {q : Nat} {u0 u1 u2 v : Value} {a : Addr} (h : w.cell? a = some v) (hn : a.block ≠ q) : (((w.setCell ⟨q, 0, none⟩ u0).setCell ⟨q, 1, none⟩ u1).setCell ⟨q, 2, none⟩ u2).cell? a = some v := far1 (far1 (far1 h hn) hn) hn
set_option maxHeartbeats 8000000 in
set_option maxRecDepth 100000 in
theorem refAt_in (P : Nat → Prop) (w0 : World) : ∀ (l : List S38) (x : S24) (A : Option Addr) (c : Nat) (A1 : Option Addr) (c1 : Nat) (w : World), Below w0.heap.size w0 w → x.f2.length ≤ c → Kd.F k24 w0 P A x.f2.length x.f2 → l.length ≤ c1 → Kd.C k38 w A1 l.length l →
    Calls Try.prog 19 #[v24 x.f0 x.f1 A x.f2.length c, .slice A1 l.length c1] w fun e w' => ∃ B d, e = .returned (.tuple #[v24 (at_ x l).1.f0 (at_ x l).1.f1 B (at_ x l).1.f2.length d, .int .i64 (at_ x l).2]) ∧ (at_ x l).1.f2.length ≤ d ∧ Kd.F k24 w0 P B (at_ x l).1.f2.length (at_ x l).1.f2 ∧ Below w.heap.size w w' := by
  intro l
  induction l with
  | nil =>
    intro x A c A1 c1 w hw0 hc hF hc1 hr1
    have W0 := Lib.hid hw0
    clear hw0
    have hu24 := Try.underlying24
    have hu38 := Try.underlying38
    have HF := Lib.hid hF; have HC := Lib.hid hc
    clear hF hc hr1 hc1
    simp only [at_, List.length_nil]
    obtain ⟨g, hg⟩ : ∃ g, w.heap.size = g := ⟨_, rfl⟩
    obtain ⟨q, hq⟩ : ∃ q, w.heap.size + 1 = q := ⟨_, rfl⟩
    have V2 : Hid (Var ((w.alloc (.cells #[.int .i64 x.f0, .int .i64 x.f1, .slice A x.f2.length c] 24)).alloc (.cells #[.int .i64 x.f0, .int .i64 x.f1, .slice A x.f2.length c] 24)) q x A c) := by
      rw [← hq, ← size_al w (.cells #[.int .i64 x.f0, .int .i64 x.f1, .slice A x.f2.length c] 24)]; exact Lib.hid (blk_new _ _)
    have HQ := Lib.hid hq
    clear hg hq
    go_enter Try.func19, Try.ntmps19
    go_wp2_with fail
    rw [HQ.out]
    refine bodyPost_ret (results_ct rfl _ _ q 24 #[.int .i64 x.f0, .int .i64 x.f1, .slice A x.f2.length c] (0, 0) _ rfl V2.out Try.underlying24 rfl (by kernel_rfl)) rfl ?_
    exact ⟨A, c, rfl, HC.out, HF.out, below_alloc (below_alloc (Below.refl w.heap.size w) _) _⟩
  | cons z l ih =>
    intro x A c A1 c1 w hw0 hc hF hc1 hr1
    have W0 := Lib.hid hw0
    clear hw0
    have hu24 := Try.underlying24
    have hu38 := Try.underlying38
    obtain ⟨a, b, k⟩ := x
    obtain ⟨f, n⟩ := z
    simp only at hc hF
    have m1 := hr1.2.1
    rw [List.length_cons] at m1 hc1 hr1
    obtain ⟨ad, ea, s0, s1⟩ := at_T38 hr1 0 (Int.le_refl 0) (by omega)
    cases ea
    have ez : rd_T38 (⟨f, n⟩ :: l) 0 = ⟨f, n⟩ := rfl
    rw [ez] at s0 s1
    have s0' : w.cell? ad = some (.bool f) := s0
    have s1' : w.cell? ⟨ad.block, ad.off + 1, none⟩ = some (.int .i64 n) := s1
    obtain ⟨A2, hcut, hr2⟩ := cut38 w (some ad) c1 ⟨f, n⟩ l hc1 hr1
    have HR2 := Lib.hid hr2
    have HF := Lib.hid hF; have HC := Lib.hid hc; have HC1 := Lib.hid hc1
    have n0 : ((l.length : Int) + 1 == 0) = false := by simp; omega
    have n0' : (0 : Int) < (l.length : Int) + 1 := by omega
    clear hr1 hr2 hF hc ez s0 s1
    unfold v24
    simp only [List.length_cons]
    obtain ⟨g, hg⟩ : ∃ g, w.heap.size = g := ⟨_, rfl⟩
    obtain ⟨q, hq⟩ : ∃ q, w.heap.size + 1 = q := ⟨_, rfl⟩
    have V2 : Hid (Var ((w.alloc (.cells #[.int .i64 a, .int .i64 b, .slice A k.length c] 24)).alloc (.cells #[.int .i64 0, .int .i64 0, .slice none 0 0] 24)) g ⟨a, b, k⟩ A c) := by
      rw [← hg]; exact Lib.hid (blk_alloc (blk_new _ _) _)
    have V4 : Hid (Var ((w.alloc (.cells #[.int .i64 a, .int .i64 b, .slice A k.length c] 24)).alloc (.cells #[.int .i64 0, .int .i64 0, .slice none 0 0] 24)) q z24 none 0) := by
      rw [← hq, ← size_al w (.cells #[.int .i64 a, .int .i64 b, .slice A k.length c] 24)]; exact Lib.hid (blk_new _ _)
    have B0 := Lib.hid (below_alloc (below_alloc (Below.refl w.heap.size w) (.cells #[.int .i64 a, .int .i64 b, .slice A k.length c] 24)) (.cells #[.int .i64 0, .int .i64 0, .slice none 0 0] 24))
    have HG := Lib.hid hg
    have HQ := Lib.hid hq
    have wq : w.heap.size ≤ q := by omega
    have wg : w.heap.size ≤ g := by omega
    have gq : g ≠ q := by omega
    clear hq hg
    go_enter Try.func19, Try.ntmps19
    go_upto_region 3 with (fail)
    rw [HQ.out, HG.out]
    generalize (w.alloc (Obj.cells #[.int .i64 a, .int .i64 b, .slice A k.length c] 24)).alloc (Obj.cells #[.int .i64 0, .int .i64 0, .slice none 0 0] 24) = w2 at *
    replace s0' := at_later B0.out s0'; replace s1' := at_later B0.out s1'
    go_upto_region 4 with (fail)
    obtain ⟨o, ho⟩ : ∃ o, w2.heap.size = o := ⟨_, rfl⟩
    have O6 := Lib.hid (show (w2.alloc (Obj.cells #[.bool f, .int .i64 n] 38)).heap[o]? = some (.cells #[.bool f, .int .i64 n] 38 (0, 0)) by rw [← ho]; exact blk_new w2 _)
    have W2 := Lib.hid (V2.out.alloc (Obj.cells #[.bool f, .int .i64 n] 38))
    have W4 := Lib.hid (V4.out.alloc (Obj.cells #[.bool f, .int .i64 n] 38))
    have B1 := Lib.hid (below_alloc B0.out (Obj.cells #[.bool f, .int .i64 n] 38))
    rw [ho]
    clear s0' s1' ho V2 V4 B0
    generalize w2.alloc (Obj.cells #[.bool f, .int .i64 n] 38) = w3 at *
    obtain ⟨k0, k1, k2, f0, f1, f2⟩ := W2.out.cells
    obtain ⟨m0, m1', m2, t0, t1, t2⟩ := W4.out.cells
    dsimp only at k0 k1 k2
    have s0 : w3.cell? ⟨o, 0, none⟩ = some (.bool f) := (blk_cell O6.out 0).trans rfl
    have s1 : w3.cell? ⟨o, 1, none⟩ = some (.int .i64 n) := (blk_cell O6.out 1).trans rfl
    have oq : o ≠ q := fun e => by have h1 := O6.out; have h2 := W4.out; unfold Var at h2; rw [e, h2] at h1; injection h1 with h1; injection h1 with _ h1; exact absurd h1 (by decide)
    rcases leads_cases a b k f n with ⟨hl, hkind, hn0, hn1⟩ | ⟨hl, hbad⟩
    · have e9 : at_ ⟨a, b, k⟩ (⟨f, n⟩ :: l) = at_ (rd_T24 k n) l := by rw [at_, if_pos hl]
      obtain ⟨ad', B', d', ea', x0, x1, x2, xl, xr⟩ := F_kid HF.out n hn0 hn1
      cases ea'
      obtain ⟨y, ey⟩ : ∃ y', rd_T24 k n = y' := ⟨_, rfl⟩
      rw [ey] at x0 x1 x2 xl xr e9
      have xq : (ad'.add (n.toNat * 3)).block ≠ q := by have := World.block_lt_of_cell? w0 _ x0; have := W0.out.size; omega
      replace x0 := at_later W0.out x0; replace x1 := at_later W0.out x1; replace x2 := at_later W0.out x2
      replace x0 := at_later B1.out x0; replace x1 := at_later B1.out x1; replace x2 := at_later B1.out x2
      have pz := eq_true hn0
      have qz := eq_true hn1
      have g1 : decide (n < 0) = false := decide_eq_false (by omega)
      have g2 : decide ((k.length : Int) ≤ n) = false := decide_eq_false (by omega)
      have XL := Lib.hid xl; have XR := Lib.hid xr; have E9 := Lib.hid e9
      have IH := Lib.hid (fun W (hW : Below w.heap.size w W) => ih y B' d' A2 (c1 - 1) W (W0.out.trans (hW.mono W0.out.size)) xl xr (by have := HC1.out; omega) (Kd.C_below HR2.out hW))
      clear hl e9 ey xl xr ih
      have hkd : (f = true ∧ (a == 3) = true ∧ (a != 3) = false) ∨ (f = false ∧ (a == 2) = true ∧ (a != 2) = false) := by
        rcases hkind with ⟨h1, h2⟩ | ⟨h1, h2⟩
        · exact .inl ⟨h1, by simp [h2], by simp [h2]⟩
        · exact .inr ⟨h1, by simp [h2], by simp [h2]⟩
      clear hkind
      rcases hkd with ⟨hf, h2, h3⟩ | ⟨hf, h2, h3⟩
      all_goals
        subst hf
        go_wp2_with fail
        go_region_held3 (fun w' => w'.cell? ⟨g, 2, none⟩ = some (.slice (some ad') k.length c) ∧ w'.cell? ⟨o, 1, none⟩ = some (.int .i64 n) ∧ w'.cell? (ad'.add (n.toNat * 3)) = some (.int .i64 y.f0) ∧ w'.cell? ⟨(ad'.add (n.toNat * 3)).block, (ad'.add (n.toNat * 3)).off + 1, none⟩ = some (.int .i64 y.f1) ∧ w'.cell? ⟨(ad'.add (n.toNat * 3)).block, (ad'.add (n.toNat * 3)).off + 2, none⟩ = some (.slice B' y.f2.length d')) (first | exact ⟨k2, s1, x0, x1, x2⟩ | exact ⟨q0, q1, q2, q3, q4⟩ | exact ⟨far3 q0 gq, far3 q1 oq, far3 q2 xq, far3 q3 xq, far3 q4 xq⟩)
          (first | (go_at_call 19; refine (IH.out _ (by exact below_drew B1.out)).mono ?_; rintro e w4 ⟨B4, d4, rfl, l4, F4, b4⟩; have q0 := at_later b4 (show w3.drew.cell? _ = _ from k2); have q1 := at_later b4 (show w3.drew.cell? _ = _ from s1); have q2 := at_later b4 (show w3.drew.cell? _ = _ from x0); have q3 := at_later b4 (show w3.drew.cell? _ = _ from x1); have q4 := at_later b4 (show w3.drew.cell? _ = _ from x2); have V9 := Lib.hid (Var.below (w := w3.drew) (by exact W4.out) b4); obtain ⟨p0, p1, p2, p3, p4, p5⟩ := V9.out.cells; have L4 := Lib.hid l4; have G4 := Lib.hid F4; have HB4 := Lib.hid (Below.trans (below_drew B1.out) (Below.mono b4 (by exact B1.out.size))); clear l4 F4 b4))
        all_goals go_wp2
        all_goals
          rw [E9.out]
          refine bodyPost_ret (results_ct rfl _ _ q 24 #[.int .i64 (at_ y l).1.f0, .int .i64 (at_ y l).1.f1, .slice B4 (at_ y l).1.f2.length d4] (0, 0) _ rfl (V9.out.set _ _ _) Try.underlying24 rfl (by kernel_rfl)) rfl ?_
          exact ⟨B4, d4, rfl, L4.out, G4.out, below3 HB4.out wq⟩
    · have e9 : at_ ⟨a, b, k⟩ (⟨f, n⟩ :: l) = (z24, 3) := by rw [at_, if_neg (by rw [hl]; decide)]
      have E9 := Lib.hid e9
      have V9 := Lib.hid (W4.out.set z24 none 0)
      have hx : ((f = true ∧ (a == 3) = false ∧ (a != 3) = true) ∨ (f = false ∧ (a == 2) = false ∧ (a != 2) = true)) ∨
          (((f = true ∧ (a == 3) = true ∧ (a != 3) = false) ∨ (f = false ∧ (a == 2) = true ∧ (a != 2) = false)) ∧ (decide (n < 0) = true ∨ (decide (n < 0) = false ∧ decide ((k.length : Int) ≤ n) = true))) := by
        rcases hbad with ⟨h1, h2⟩ | ⟨h1, h2⟩ | ⟨h1, h2⟩ | ⟨h1, h2, h3⟩
        · exact .inl (.inl ⟨h1, by simp [h2], by simp [h2]⟩)
        · exact .inl (.inr ⟨h1, by simp [h2], by simp [h2]⟩)
        · refine .inr ⟨?_, .inl (decide_eq_true h2)⟩
          rcases h1 with ⟨h1, h4⟩ | ⟨h1, h4⟩
          · exact .inl ⟨h1, by simp [h4], by simp [h4]⟩
          · exact .inr ⟨h1, by simp [h4], by simp [h4]⟩
        · refine .inr ⟨?_, .inr ⟨decide_eq_false (by omega), decide_eq_true h3⟩⟩
          rcases h1 with ⟨h1, h4⟩ | ⟨h1, h4⟩
          · exact .inl ⟨h1, by simp [h4], by simp [h4]⟩
          · exact .inr ⟨h1, by simp [h4], by simp [h4]⟩
      clear hl hbad e9 ih hcut
      rcases hx with (⟨hf, h2, h3⟩ | ⟨hf, h2, h3⟩) | ⟨⟨hf, h2, h3⟩ | ⟨hf, h2, h3⟩, h4 | ⟨h4, h5⟩⟩
      all_goals
        subst hf
        go_wp2_with fail
        rw [E9.out]
        refine bodyPost_ret (results_ct rfl _ _ q 24 #[.int .i64 0, .int .i64 0, .slice none 0 0] (0, 0) _ rfl V9.out Try.underlying24 rfl (by kernel_rfl)) rfl ?_
        exact ⟨none, 0, rfl, Nat.le_refl _, Kd.F_nil k24 w0 P, below3 B1.out wq⟩
theorem refAt_is (P : Nat → Prop) (x : S24) (A : Option Addr) (c : Nat) (l : List S38) (A1 : Option Addr) (c1 : Nat) (w : World) (hc : x.f2.length ≤ c) (hF : Kd.F k24 w P A x.f2.length x.f2) (hc1 : l.length ≤ c1) (hr1 : Kd.C k38 w A1 l.length l) :
    Calls Try.prog 19 #[v24 x.f0 x.f1 A x.f2.length c, .slice A1 l.length c1] w fun e w' => ∃ B d, e = .returned (.tuple #[v24 (at_ x l).1.f0 (at_ x l).1.f1 B (at_ x l).1.f2.length d, .int .i64 (at_ x l).2]) ∧ (at_ x l).1.f2.length ≤ d ∧ Kd.F k24 w P B (at_ x l).1.f2.length (at_ x l).1.f2 ∧ Below w.heap.size w w' :=
  refAt_in P w l x A c A1 c1 w (Below.refl _ _) hc hF hc1 hr1
end Go.Proofs.Ytggdpeeiioibgaa.E
namespace Go.Proofs.Ytggdpeeiioibgaa.E
open Go.RowKit Go.Proofs.YtggdpeeiioibgaaW.PrintWords Go.Proofs.YtggdpeeiioibgaaW.PrintLast Go.Proofs.YtggdpeeiioibgaaW.PrintMore Go.Proofs.Ytggdpeeiioibgaa.Kinds Go.Proofs.Ytggdpeeiioibgaa.Obj
set_option linter.unusedVariables false
set_option linter.unusedSimpArgs false

theorem R_made (w : World) (ok : Nat → Prop) (hok : ok w.heap.size) : Kd.R k24 24 (w.alloc (.cells #[] 24)) w.heap.size ok (.slice (some ⟨w.heap.size, 0, none⟩) 0 0) [] :=
  ⟨fun k hk => by simp [Value.ownBlock] at hk; exact hk ▸ hok, [], World.ownsRow_made w #[] 0 (Nat.le_refl _) (Nat.zero_le _) (by simp), Reps.none _ _⟩
set_option maxHeartbeats 4000000 in
set_option maxRecDepth 100000 in
theorem clone_is (P : Nat → Prop) (A : Option Addr) (c : Nat) (l : List S24) (w : World) (hc : l.length ≤ c) (hF : Kd.F k24 w P A l.length l) (hbig : l.length * 40 ≤ 140737488355328) :
    Calls Try.prog 67 #[.slice A l.length c] w fun e w' => ∃ v, e = .returned v ∧ Kd.N k24 24 w' w.heap.size (fun k => (P k ∧ k < w.heap.size) ∨ w.heap.size ≤ k) v l ∧ Below w.heap.size w w' := by
  have q22 : ∀ (w : World) (a : Option Addr) (n c n' c' : Nat), (binOp .eql 22 (.slice a n c) (.slice none n' c')).run Try.prog w = .ok (.bool a.isNone) w := fun w a n c n' c' => Lib.run_eql_slice_nil w _ _ a n c n' c' Try.underlying22
  have hFF := hF
  have HF := Lib.hid hF
  clear hF
  cases A with
  | none =>
    have hl : l = [] := by
      rcases Nat.eq_zero_or_pos l.length with h | h
      · exact List.length_eq_zero_iff.1 h
      · obtain ⟨ad, he, _⟩ := (Kd.F_now hFF).2.2 h
        cases he
    clear hFF
    subst hl
    go_enter Try.func67, Try.ntmps67
    go_wp2_with fail
    go_ret
    exact ⟨_, rfl, Kd.N_nil _ _ _ _ _, Below.refl _ _⟩
  | some ad =>
    clear hFF
    have HF2 := Lib.hid (Kd.F_alloc (Kd.F_bound HF.out) (.cells #[] 24))
    have HN := Lib.hid (Kd.R_N (R_made w (fun k => (P k ∧ k < w.heap.size) ∨ w.heap.size ≤ k) (.inr (Nat.le_refl _))))
    have HB := Lib.hid (below_alloc (Below.refl w.heap.size w) (.cells #[] 24))
    go_enter Try.func67, Try.ntmps67
    go_wp2_with (at_builtin; refine Kd.N_append_rows k24 (w0 := w) w.heap.size rfl (.tmp 5) (.tmp 6) 22 24 (.agg #[(.int .i64 0), (.int .i64 0), (.slice none 0 0)]) 40 rfl Try.underlying22 info24 rfl (by decide) (by decide) (.slice (some ⟨w.heap.size, 0, none⟩) 0 0) [] l (some ad) l.length c (fun k => (P k ∧ k < w.heap.size) ∨ w.heap.size ≤ k) (fun k => P k ∧ k < w.heap.size) rfl rfl ?h1 ?h2 ?h3 ?h4 ?h5 ?h6 ?h7 ?_; (case h1 => exact HN.out); (case h2 => exact HF2.out); (case h3 => intro k hk; exact ⟨.inl hk, by simp [Value.ownBlock]; omega⟩); (case h4 => intro k hk; simp at hk; right; omega); (case h5 => exact HB.out); (case h6 => simp); (case h7 => simpa using hbig); intro v1 w1 hn hb hg hat; have HN1 := Lib.hid hn; have HB1 := Lib.hid hb; clear hn hb hg hat)
    go_ret
    exact ⟨_, rfl, HN1.out, HB1.out⟩
end Go.Proofs.Ytggdpeeiioibgaa.E
namespace Go.Proofs.Ytggdpeeiioibgaa.E
open Go.RowKit Go.Proofs.YtggdpeeiioibgaaW.PrintWords Go.Proofs.YtggdpeeiioibgaaW.PrintLast Go.Proofs.YtggdpeeiioibgaaW.PrintMore Go.Proofs.Ytggdpeeiioibgaa.Kinds Go.Proofs.Ytggdpeeiioibgaa.Obj
set_option linter.unusedVariables false

def At.f (a b : Int) (l : List S24) (m : List S38) : Option (Int × Int × List S24 × Int) := some ((at_ ⟨a, b, l⟩ m).1.f0, (at_ ⟨a, b, l⟩ m).1.f1, (at_ ⟨a, b, l⟩ m).1.f2, (at_ ⟨a, b, l⟩ m).2)
theorem At.calls (a0_0 a0_1 : Int) (P0_2_ : Nat → Prop) (A0_2 : Option Addr) (c0_2 : Nat) (l0_2 : List S24) (A1 : Option Addr) (c1 : Nat) (l1 : List S38) (r1 r2 : Int) (r3 : List S24) (r4 : Int) (w : World) (hs0_2 : Kd.V k24 24 w w.heap.size (fun k_ => P0_2_ k_) (.slice A0_2 l0_2.length c0_2) l0_2) (hr1 : Kd.C k38 w A1 l1.length l1) (hc1 : l1.length ≤ c1) (h : At.f a0_0 a0_1 l0_2 l1 = some (r1, r2, r3, r4)) :
    Calls Try.prog 18 #[.agg #[.int .i64 a0_0, .int .i64 a0_1, .slice A0_2 l0_2.length c0_2], .slice A1 l1.length c1] w fun e w' => ∃ v2_ : Value, e = .returned (.tuple #[.agg #[.int .i64 r1, .int .i64 r2, v2_], .int .i64 r4]) ∧ Kd.V k24 24 w' w.heap.size (fun k_ => (P0_2_ k_ ∨ w.heap.size ≤ k_)) v2_ r3 ∧ Below w.heap.size w w' := by
  obtain ⟨_, h2, h3⟩ := Kd.V_at hs0_2
  simp only [At.f, Option.some.injEq, Prod.mk.injEq] at h
  obtain ⟨rfl, rfl, rfl, rfl⟩ := h
  refine (at_is P0_2_ ⟨a0_0, a0_1, l0_2⟩ A0_2 c0_2 l1 A1 c1 w h2 h3 hc1 hr1).mono ?_
  rintro e w' ⟨B, d, rfl, g1, g2, g3⟩
  exact ⟨_, rfl, Kd.V_mk g1 (Kd.F_mono (Kd.F_below g2 g3) (fun k hk => .inl hk)), g3⟩
def RefAt.f (a b : Int) (l : List S24) (m : List S38) : Option (Int × Int × List S24 × Int) := some ((at_ ⟨a, b, l⟩ m).1.f0, (at_ ⟨a, b, l⟩ m).1.f1, (at_ ⟨a, b, l⟩ m).1.f2, (at_ ⟨a, b, l⟩ m).2)
theorem RefAt.calls (a0_0 a0_1 : Int) (P0_2_ : Nat → Prop) (A0_2 : Option Addr) (c0_2 : Nat) (l0_2 : List S24) (A1 : Option Addr) (c1 : Nat) (l1 : List S38) (r1 r2 : Int) (r3 : List S24) (r4 : Int) (w : World) (hs0_2 : Kd.V k24 24 w w.heap.size (fun k_ => P0_2_ k_) (.slice A0_2 l0_2.length c0_2) l0_2) (hr1 : Kd.C k38 w A1 l1.length l1) (hc1 : l1.length ≤ c1) (h : RefAt.f a0_0 a0_1 l0_2 l1 = some (r1, r2, r3, r4)) :
    Calls Try.prog 19 #[.agg #[.int .i64 a0_0, .int .i64 a0_1, .slice A0_2 l0_2.length c0_2], .slice A1 l1.length c1] w fun e w' => ∃ v2_ : Value, e = .returned (.tuple #[.agg #[.int .i64 r1, .int .i64 r2, v2_], .int .i64 r4]) ∧ Kd.V k24 24 w' w.heap.size (fun k_ => (P0_2_ k_ ∨ w.heap.size ≤ k_)) v2_ r3 ∧ Below w.heap.size w w' := by
  obtain ⟨_, h2, h3⟩ := Kd.V_at hs0_2
  simp only [RefAt.f, Option.some.injEq, Prod.mk.injEq] at h
  obtain ⟨rfl, rfl, rfl, rfl⟩ := h
  refine (refAt_is P0_2_ ⟨a0_0, a0_1, l0_2⟩ A0_2 c0_2 l1 A1 c1 w h2 h3 hc1 hr1).mono ?_
  rintro e w' ⟨B, d, rfl, g1, g2, g3⟩
  exact ⟨_, rfl, Kd.V_mk g1 (Kd.F_mono (Kd.F_below g2 g3) (fun k hk => .inl hk)), g3⟩
def Clone.f (l : List S24) : Option (List S24) := if l.length * 40 ≤ 140737488355328 then some l else none
theorem Clone.calls (P0_ : Nat → Prop) (A0 : Option Addr) (c0 : Nat) (l0 : List S24) (r : List S24) (w : World) (hs0 : Kd.V k24 24 w w.heap.size (fun k_ => P0_ k_) (.slice A0 l0.length c0) l0) (h : Clone.f l0 = some r) :
    Calls Try.prog 67 #[.slice A0 l0.length c0] w fun e w' => ∃ v0_ : Value, e = .returned (v0_) ∧ Kd.N k24 24 w' w.heap.size (fun k_ => (P0_ k_ ∨ w.heap.size ≤ k_)) v0_ r ∧ Below w.heap.size w w' := by
  obtain ⟨_, h2, h3⟩ := Kd.V_at hs0
  unfold Clone.f at h
  split at h
  · rename_i hb
    obtain rfl := Option.some.inj h
    refine (clone_is P0_ A0 c0 l0 w h2 h3 hb).mono ?_
    rintro e w' ⟨v, rfl, g1, g2⟩
    exact ⟨v, rfl, Kd.N_mono g1 (fun k hk => hk.imp (fun q => q.1) id), g2⟩
  · cases h

/-- Fill, of less than none. -/
theorem fill_no (n : Int) (x : S24) (A : Option Addr) (c : Nat) (w : World) (hn : n < 0) :
    Calls Try.prog 23 #[.int .i64 n, v24 x.f0 x.f1 A x.f2.length c] w fun e w' => e = .returned (.tuple #[.agg #[.int .i64 0, .int .i64 0, .slice none 0 0], .int .i64 3]) ∧ Below w.heap.size w w' := by
  have hu24 := Try.underlying24
  have h1 := decide_eq_true hn
  obtain ⟨q, hq⟩ : ∃ q, w.heap.size + 1 = q := ⟨_, rfl⟩
  have V4 : Hid (Var ((w.alloc (.cells #[.int .i64 x.f0, .int .i64 x.f1, .slice A x.f2.length c] 24)).alloc (.cells #[.int .i64 0, .int .i64 0, .slice none 0 0] 24)) q z24 none 0) := by
    rw [← hq, ← size_al w (.cells #[.int .i64 x.f0, .int .i64 x.f1, .slice A x.f2.length c] 24)]; exact Lib.hid (blk_new _ _)
  have HQ := Lib.hid hq
  clear hq
  go_enter Try.func23, Try.ntmps23
  go_wp2_with fail
  rw [HQ.out]
  refine bodyPost_ret (results_ct rfl _ _ q 24 #[.int .i64 0, .int .i64 0, .slice none 0 0] (0, 0) _ rfl V4.out Try.underlying24 rfl (by kernel_rfl)) rfl ?_
  exact ⟨rfl, below_alloc (below_alloc (Below.refl w.heap.size w) _) _⟩
def Fill.f (n : Int) (a b : Int) (l : List S24) : Option (Int × Int × List S24 × Int) := if n < 0 then some (0, 0, [], 3) else none
theorem Fill.calls (a0 : Int) (a1_0 a1_1 : Int) (P1_2_ : Nat → Prop) (A1_2 : Option Addr) (c1_2 : Nat) (l1_2 : List S24) (r1 r2 : Int) (r3 : List S24) (r4 : Int) (w : World) (hs1_2 : Kd.V k24 24 w w.heap.size (fun k_ => P1_2_ k_) (.slice A1_2 l1_2.length c1_2) l1_2) (h : Fill.f a0 a1_0 a1_1 l1_2 = some (r1, r2, r3, r4)) :
    Calls Try.prog 23 #[.int .i64 a0, .agg #[.int .i64 a1_0, .int .i64 a1_1, .slice A1_2 l1_2.length c1_2]] w fun e w' => ∃ v2_ : Value, e = .returned (.tuple #[.agg #[.int .i64 r1, .int .i64 r2, v2_], .int .i64 r4]) ∧ Kd.V k24 24 w' w.heap.size (fun k_ => (P1_2_ k_ ∨ w.heap.size ≤ k_)) v2_ r3 ∧ Below w.heap.size w w' := by
  unfold Fill.f at h
  split at h
  · rename_i hb
    simp only [Option.some.injEq, Prod.mk.injEq] at h
    obtain ⟨rfl, rfl, rfl, rfl⟩ := h
    refine (fill_no a0 ⟨a1_0, a1_1, l1_2⟩ A1_2 c1_2 w hb).mono ?_
    rintro e w' ⟨rfl, g⟩
    exact ⟨_, rfl, Kd.V_nil _ _ _ _ _, g⟩
  · cases h
end Go.Proofs.Ytggdpeeiioibgaa.E
