/- Marline, values: where steps lead, by the program. Conditions: as each says. -/
import Derived.Test.YtggdpeeiioibgaaE2
namespace Go.Proofs.Ytggdpeeiioibgaa.E
open Go.RowKit Go.Proofs.YtggdpeeiioibgaaW.PrintWords Go.Proofs.YtggdpeeiioibgaaW.PrintLast Go.Proofs.YtggdpeeiioibgaaW.PrintMore Go.Proofs.Ytggdpeeiioibgaa.Kinds Go.Proofs.Ytggdpeeiioibgaa.Obj
set_option linter.unusedVariables false
set_option linter.unusedSimpArgs false

/-- does a step lead anywhere. -/
def leads (x : S24) (y : S38) : Bool := decide (x.f0 = (if y.f0 then 3 else 2)) && (decide (0 ≤ y.f1) && decide (y.f1 < x.f2.length))
/-- where steps lead, or a trap. -/
def at_ : S24 → List S38 → S24 × Int
  | x, [] => (x, 0)
  | x, y :: l => if leads x y then at_ (rd_T24 x.f2 y.f1) l else (z24, 3)

abbrev v38 (y : S38) : Value := .agg #[.bool y.f0, .int .i64 y.f1]
set_option maxHeartbeats 4000000 in
set_option maxRecDepth 100000 in
theorem leads_is (x : S24) (A : Option Addr) (c : Nat) (y : S38) (w : World) :
    Calls Try.prog 60 #[v24 x.f0 x.f1 A x.f2.length c, v38 y] w fun e w' => e = .returned (.bool (leads x y)) ∧ Below w.heap.size w w' := by
  have hu24 := Try.underlying24
  have hu38 := Try.underlying38
  obtain ⟨a, b, l⟩ := x
  obtain ⟨f, n⟩ := y
  unfold v24 v38
  simp only [leads]
  have hB := Lib.hid (below_alloc (below_alloc (Below.refl w.heap.size w) (.cells #[.int .i64 a, .int .i64 b, .slice A l.length c] 24)) (.cells #[.bool f, .int .i64 n] 38))
  obtain ⟨k, hk⟩ : ∃ k : Int, (if f = true then (3 : Int) else 2) = k := ⟨_, rfl⟩
  rw [hk]
  by_cases h1 : a = k
  · have g1 : (a == k) = true := beq_iff_eq.2 h1
    by_cases h2 : 0 ≤ n
    · have g2 := decide_eq_true h2
      by_cases h3 : n < (l.length : Int)
      · have g3 := decide_eq_true h3
        have E := Lib.hid (show (decide (a = k) && (decide (0 ≤ n) && decide (n < (l.length : Int)))) = true by simp [h1, h2, h3])
        rw [E.out]
        clear h1
        cases f <;> simp at hk <;> subst hk
        all_goals
          go_enter Try.func60, Try.ntmps60
          go_wp2_with fail
          go_ret
          exact ⟨rfl, hB.out⟩
      · have g3 := decide_eq_false h3
        have E := Lib.hid (show (decide (a = k) && (decide (0 ≤ n) && decide (n < (l.length : Int)))) = false by simp [h3])
        rw [E.out]
        clear h1
        cases f <;> simp at hk <;> subst hk
        all_goals
          go_enter Try.func60, Try.ntmps60
          go_wp2_with fail
          go_ret
          exact ⟨rfl, hB.out⟩
    · have g2 := decide_eq_false h2
      have E := Lib.hid (show (decide (a = k) && (decide (0 ≤ n) && decide (n < (l.length : Int)))) = false by simp [h2])
      rw [E.out]
      clear h1
      cases f <;> simp at hk <;> subst hk
      all_goals
        go_enter Try.func60, Try.ntmps60
        go_wp2_with fail
        go_ret
        exact ⟨rfl, hB.out⟩
  · have g1 : (a == k) = false := beq_eq_false_iff_ne.2 h1
    have E := Lib.hid (show (decide (a = k) && (decide (0 ≤ n) && decide (n < (l.length : Int)))) = false by simp [h1])
    rw [E.out]
    clear h1
    cases f <;> simp at hk <;> subst hk
    all_goals
      go_enter Try.func60, Try.ntmps60
      go_wp2_with fail
      go_ret
      exact ⟨rfl, hB.out⟩

theorem size_al (w : World) (o : Obj) : (w.alloc o).heap.size = w.heap.size + 1 := by simp [World.alloc_eq]
/-- A row that is read, somewhere in P: an element's kids. -/
theorem F_kid {P : Nat → Prop} {w : World} {A : Option Addr} {l : List S24} (h : Kd.F k24 w P A l.length l) (i : Int) (h0 : 0 ≤ i) (h1 : i < l.length) :
    ∃ ad B d, A = some ad ∧ w.cell? (ad.add (i.toNat * 3)) = some (.int .i64 (rd_T24 l i).f0) ∧ w.cell? ⟨(ad.add (i.toNat * 3)).block, (ad.add (i.toNat * 3)).off + 1, none⟩ = some (.int .i64 (rd_T24 l i).f1) ∧ w.cell? ⟨(ad.add (i.toNat * 3)).block, (ad.add (i.toNat * 3)).off + 2, none⟩ = some (.slice B (rd_T24 l i).f2.length d) ∧ (rd_T24 l i).f2.length ≤ d ∧ Kd.F k24 w P B (rd_T24 l i).f2.length (rd_T24 l i).f2 := by
  obtain ⟨ad, c, e, _, hK, hc0, _⟩ := Kd.F_get h z24 i h0 h1
  have hc : ∀ j u, c[j]? = some u → w.cell? (ad.add (i.toNat * 3 + j)) = some u := hc0
  obtain ⟨A2, c2, rfl, l2, g2⟩ := k24_openF hK
  exact ⟨ad, A2, c2, e, hc 0 _ rfl, by rw [← add_field _ _ 1 (by omega)]; exact hc 1 _ rfl, by rw [← add_field _ _ 2 (by omega)]; exact hc 2 _ rfl, l2, g2⟩
/-- a value in a variable of its own. -/
def Var (w : World) (g : Nat) (x : S24) (B : Option Addr) (d : Nat) : Prop := w.heap[g]? = some (.cells #[.int .i64 x.f0, .int .i64 x.f1, .slice B x.f2.length d] 24 (0, 0))
theorem Var.cells {w : World} {g : Nat} {x : S24} {B : Option Addr} {d : Nat} (h : Var w g x B d) : w.cell? ⟨g, 0, none⟩ = some (.int .i64 x.f0) ∧ w.cell? ⟨g, 1, none⟩ = some (.int .i64 x.f1) ∧ w.cell? ⟨g, 2, none⟩ = some (.slice B x.f2.length d) ∧ w.frozen? ⟨g, 0, none⟩ = false ∧ w.frozen? ⟨g, 1, none⟩ = false ∧ w.frozen? ⟨g, 2, none⟩ = false :=
  ⟨(blk_cell h 0).trans rfl, (blk_cell h 1).trans rfl, (blk_cell h 2).trans rfl, blk_frozen h 0, blk_frozen h 1, blk_frozen h 2⟩
theorem Var.set {w : World} {g : Nat} {x : S24} {B : Option Addr} {d : Nat} (h : Var w g x B d) (y : S24) (B' : Option Addr) (d' : Nat) :
    Var (((w.setCell ⟨g, 0, none⟩ (.int .i64 y.f0)).setCell ⟨g, 1, none⟩ (.int .i64 y.f1)).setCell ⟨g, 2, none⟩ (.slice B' y.f2.length d')) g y B' d' := by
  have h1 := blk_set (blk_set (blk_set h 0 (.int .i64 y.f0)) 1 (.int .i64 y.f1)) 2 (.slice B' y.f2.length d')
  unfold Var
  simpa using h1
theorem Var.far {w : World} {g : Nat} {x : S24} {B : Option Addr} {d : Nat} (h : Var w g x B d) {p : Addr} (hp : g ≠ p.block) (u : Value) : Var (w.setCell p u) g x B d := blk_far h hp u
theorem Var.alloc {w : World} {g : Nat} {x : S24} {B : Option Addr} {d : Nat} (h : Var w g x B d) (o : Obj) : Var (w.alloc o) g x B d := blk_alloc h o
theorem Var.below {w w' : World} {g : Nat} {x : S24} {B : Option Addr} {d : Nat} (h : Var w g x B d) (hb : Below w.heap.size w w') : Var w' g x B d := blk_below h hb
theorem below3 {w W : World} {g : Nat} {u0 u1 u2 : Value} (h : Below w.heap.size w W) (hg : w.heap.size ≤ g) : Below w.heap.size w (((W.setCell ⟨g, 0, none⟩ u0).setCell ⟨g, 1, none⟩ u1).setCell ⟨g, 2, none⟩ u2) := below_set (below_set (below_set h hg) hg) hg

set_option maxHeartbeats 8000000 in
set_option maxRecDepth 100000 in
theorem at_is (P : Nat → Prop) (x : S24) (A : Option Addr) (c : Nat) (l : List S38) (A1 : Option Addr) (c1 : Nat) (w : World) (hc : x.f2.length ≤ c) (hF : Kd.F k24 w P A x.f2.length x.f2) (hc1 : l.length ≤ c1) (hr1 : Kd.C k38 w A1 l.length l) :
    Calls Try.prog 18 #[v24 x.f0 x.f1 A x.f2.length c, .slice A1 l.length c1] w fun e w' => ∃ B d, e = .returned (.tuple #[v24 (at_ x l).1.f0 (at_ x l).1.f1 B (at_ x l).1.f2.length d, .int .i64 (at_ x l).2]) ∧ (at_ x l).1.f2.length ≤ d ∧ Kd.F k24 w P B (at_ x l).1.f2.length (at_ x l).1.f2 ∧ Below w.heap.size w w' := by
  have hu24 := Try.underlying24
  have hu38 := Try.underlying38
  have HF := Lib.hid hF; have HC := Lib.hid hc; have HR := Lib.hid hr1
  obtain ⟨L, hL⟩ : ∃ L, l.length = L := ⟨_, rfl⟩
  have m1 : L ≤ 9223372036854775807 := by rw [← hL]; exact hr1.2.1
  rw [hL] at HR ⊢
  have EL := Lib.hid hL
  clear hF hc hr1 hc1 hL
  obtain ⟨g, hg⟩ : ∃ g, w.heap.size = g := ⟨_, rfl⟩
  obtain ⟨q, hq⟩ : ∃ q, w.heap.size + 1 = q := ⟨_, rfl⟩
  have V2 : Hid (Var ((w.alloc (.cells #[.int .i64 x.f0, .int .i64 x.f1, .slice A x.f2.length c] 24)).alloc (.cells #[.int .i64 0, .int .i64 0, .slice none 0 0] 24)) g x A c) := by
    rw [← hg]; exact Lib.hid (Var.alloc (blk_new _ _) _)
  have V4 : Hid (Var ((w.alloc (.cells #[.int .i64 x.f0, .int .i64 x.f1, .slice A x.f2.length c] 24)).alloc (.cells #[.int .i64 0, .int .i64 0, .slice none 0 0] 24)) q z24 none 0) := by
    rw [← hq, ← size_al w (.cells #[.int .i64 x.f0, .int .i64 x.f1, .slice A x.f2.length c] 24)]; exact Lib.hid (blk_new _ _)
  have B0 := Lib.hid (below_alloc (below_alloc (Below.refl w.heap.size w) (.cells #[.int .i64 x.f0, .int .i64 x.f1, .slice A x.f2.length c] 24)) (.cells #[.int .i64 0, .int .i64 0, .slice none 0 0] 24))
  have gq : g ≠ q := by omega
  have wg : w.heap.size ≤ g := by omega
  have wq : w.heap.size ≤ q := by omega
  have HG := Lib.hid hg; have HQ := Lib.hid hq
  clear hg hq
  go_enter Try.func18, Try.ntmps18
  go_wp2_with fail
  rw [HQ.out, HG.out]
  generalize (w.alloc (Obj.cells #[.int .i64 x.f0, .int .i64 x.f1, .slice A x.f2.length c] 24)).alloc (Obj.cells #[.int .i64 0, .int .i64 0, .slice none 0 0] 24) = w2 at *
  go_loopw [10] (fun i wr => ∃ (n : Nat) (y : S24) (B : Option Addr) (d : Nat), i = .int .i64 n ∧ n ≤ L ∧ Hid (at_ x l = at_ y (l.drop n)) ∧ Hid (Var wr g y B d) ∧ Hid (Var wr q z24 none 0) ∧ Hid (y.f2.length ≤ d) ∧ Hid (Kd.F k24 w P B y.f2.length y.f2) ∧ Hid (Below w.heap.size w wr)) (fun i _ => L - (intOf i).toNat)
  case atStart => exact ⟨0, x, A, c, rfl, by omega, Lib.hid rfl, V2, V4, HC, HF, B0⟩
  case round =>
    clear V2 V4 B0 HC HF
    obtain ⟨n, y, B, d, rfl, hn, HS, V2, V4, HC, HF, HB⟩ := hrel
    obtain ⟨k0, k1, k2, f0, f1, f2⟩ := V2.out.cells
    obtain ⟨m0, m1', m2, t0, t1, t2⟩ := V4.out.cells
    by_cases hx : (n : Int) < (L : Int)
    · have hx1 := decide_eq_true hx
      have hlt : n < L := by omega
      obtain ⟨ad, ea, s0, s1⟩ := at_T38 HR.out (n : Int) (by omega) hx
      cases ea
      obtain ⟨z, ez⟩ : ∃ z, rd_T38 l n = z := ⟨_, rfl⟩
      rw [ez] at s0 s1
      have hd : l.drop n = z :: l.drop (n + 1) := by
        rw [List.drop_eq_getElem_cons (by rw [EL.out]; exact hlt), ← ez]
        unfold rd_T38
        rw [Int.toNat_natCast, List.getD_eq_getElem?_getD, List.getElem?_eq_getElem (by rw [EL.out]; exact hlt)]
        rfl
      replace s0 := at_later HB.out s0; replace s1 := at_later HB.out s1
      rw [Int.toNat_natCast] at s0 s1
      have pn := eq_true hx
      have qn := eq_true (show (0 : Int) ≤ (n : Int) by omega)
      have e1 : IntKind.i64.wrap ((n : Int) + 1) = (n : Int) + 1 := IntWalk.i64_in _ (by omega)
      have HD := Lib.hid hd
      have lg := blk_lt V2.out
      have lq := blk_lt V4.out
      have ng : ¬ g = wr.heap.size := by omega
      have nq : ¬ q = wr.heap.size := by omega
      clear hd ez
      go_wp2_with fail
      refine (leads_is y B d z _).mono ?_
      rintro e w4 ⟨rfl, b4⟩
      obtain ⟨o, ho⟩ : ∃ o, wr.heap.size = o := ⟨_, rfl⟩
      have V6 := Lib.hid (Var.below (Var.alloc V2.out _) b4)
      have V8 := Lib.hid (Var.below (Var.alloc V4.out _) b4)
      have O6 : Hid (w4.heap[o]? = some (.cells #[.bool z.f0, .int .i64 z.f1] 38 (0, 0))) := Lib.hid (blk_below (by rw [← ho]; exact blk_new wr _) b4)
      have HB6 := Lib.hid (HB.out.trans (Below.mono (Below.trans (below_alloc (Below.refl wr.heap.size wr) _) (Below.mono b4 (by simp))) HB.out.size))
      rw [ho]
      clear b4 V2 V4 k0 k1 k2 f0 f1 f2 m0 m1' m2 t0 t1 t2 s0 s1 HB
      obtain ⟨k0, k1, k2, f0, f1, f2⟩ := V6.out.cells
      obtain ⟨m0, m1', m2, t0, t1, t2⟩ := V8.out.cells
      have s0 : w4.cell? ⟨o, 0, none⟩ = some (.bool z.f0) := (blk_cell O6.out 0).trans rfl
      have s1 : w4.cell? ⟨o, 1, none⟩ = some (.int .i64 z.f1) := (blk_cell O6.out 1).trans rfl
      have HO := Lib.hid ho
      clear ho
      by_cases hlead : leads y z = true
      · have hz : 0 ≤ z.f1 ∧ z.f1 < (y.f2.length : Int) := by
          simp [leads] at hlead
          exact ⟨hlead.2.1, hlead.2.2⟩
        obtain ⟨ad', B', d', ea', x0, x1, x2, xl, xr⟩ := F_kid HF.out z.f1 hz.1 hz.2
        cases ea'
        obtain ⟨y', ey⟩ : ∃ y', rd_T24 y.f2 z.f1 = y' := ⟨_, rfl⟩
        rw [ey] at x0 x1 x2 xl xr
        replace x0 := at_later HB6.out x0; replace x1 := at_later HB6.out x1; replace x2 := at_later HB6.out x2
        have pz := eq_true hz.1
        have qz := eq_true hz.2
        have e9 : at_ y (l.drop n) = at_ y' (l.drop (n + 1)) := by rw [HD.out, at_, if_pos hlead, ey]
        have E9 := Lib.hid e9
        have XL := Lib.hid xl; have XR := Lib.hid xr
        rw [hlead]
        have V7 := Lib.hid (V6.out.set y' B' d')
        clear hlead ey e9 xl xr
        go_wp2_with fail
        go_roundw
        case rel => exact ⟨n + 1, y', B', d', by push_cast; rfl, by omega, Lib.hid (HS.out.trans E9.out), V7, Lib.hid (Var.far (Var.far (Var.far V8.out (Ne.symm gq) _) (Ne.symm gq) _) (Ne.symm gq) _), XL, XR, Lib.hid (below3 HB6.out wg)⟩
        case measure => simp [intOf]; omega
      · have hl' : leads y z = false := by simpa using hlead
        have e9 : at_ x l = (z24, 3) := by rw [HS.out, HD.out, at_, if_neg hlead]
        have E9 := Lib.hid e9
        rw [hl']
        have V9 := Lib.hid (V8.out.set z24 none 0)
        clear hlead hl' e9
        go_wp2_with fail
        rw [E9.out]
        refine bodyPost_ret (results_ct rfl _ _ q 24 #[.int .i64 0, .int .i64 0, .slice none 0 0] (0, 0) _ rfl V9.out Try.underlying24 rfl (by kernel_rfl)) rfl ?_
        exact ⟨none, 0, rfl, Nat.le_refl _, Kd.F_nil k24 w P, below3 HB6.out wq⟩
    · have hx1 := decide_eq_false hx
      have hne : n = L := by omega
      have HNE := Lib.hid hne
      clear hne
      have V5 := Lib.hid (V4.out.set y B d)
      have e5 : at_ x l = (y, 0) := by rw [HS.out, List.drop_of_length_le (by rw [EL.out, HNE.out]; exact Nat.le_refl _)]; rfl
      have E5 := Lib.hid e5
      clear e5
      go_wp2_with fail
      rw [E5.out]
      refine bodyPost_ret (results_ct rfl _ _ q 24 #[.int .i64 y.f0, .int .i64 y.f1, .slice B y.f2.length d] (0, 0) _ rfl V5.out Try.underlying24 rfl (by kernel_rfl)) rfl ?_
      exact ⟨B, d, rfl, HC.out, HF.out, below3 HB.out wq⟩
end Go.Proofs.Ytggdpeeiioibgaa.E
