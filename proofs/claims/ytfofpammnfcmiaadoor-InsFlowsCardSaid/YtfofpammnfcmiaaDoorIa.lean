/- Marline, layer 26: the program's table of ops in memory; what it says of an op: its name, how many numbers it has, how many values it takes and lays. Condition: the table is laid. -/
import Derived.Test.YtfofpammnfcmiaaDoorInp
import Derived.Test.YtfofpammnfcmiaaDoorSf
--NC
import Derived.Lib.SmallJoins
import Derived.Laws.Rows
namespace Go.Proofs.YtfofpammnfcmiaaDoor.Ip
open Go.RowKit Go.Proofs.YtfofpammnfcmiaaDoorW.PrintWords Go.Proofs.YtfofpammnfcmiaaDoorW.PrintLast Go.Proofs.YtfofpammnfcmiaaDoorW.PrintMore Go.Proofs.YtfofpammnfcmiaaDoor.Kinds Go.Proofs.YtfofpammnfcmiaaDoor.Obj Go.Proofs.YtfofpammnfcmiaaDoor.Sp Go.Proofs.YtfofpammnfcmiaaDoor.E
set_option linter.unusedVariables false
set_option linter.unusedSimpArgs false
set_option maxRecDepth 100000

def tkl : List Nat := [0, 0, 0, 0, 1, 1, 2, 1, 1, 2, 2, 0, 1, 0, 0, 2, 1, 2, 1, 2, 0, 1, 1, 2, 0, 0, 1, 0, 1, 1, 1, 0, 0, 0]
def lyl : List Nat := [0, 1, 1, 1, 0, 0, 1, 1, 1, 1, 1, 0, 0, 1, 1, 1, 1, 1, 1, 1, 1, 1, 0, 0, 0, 0, 0, 1, 0, 0, 1, 1, 0, 0]
def tkn (n : Nat) : Nat := tkl.getD n 0
def lyn (n : Nat) : Nat := lyl.getD n 0
def takesI (op : Int) : Nat := if op < 0 ∨ 34 ≤ op then 0 else tkn op.toNat
def laysI (op : Int) : Nat := if op < 0 ∨ 34 ≤ op then 0 else lyn op.toNat
def opZ (n : Nat) : List UInt8 × Int × Int × Int := (nm n, ag n, tkn n, lyn n)
def cellsZ (z : List UInt8 × Int × Int × Int) : List Value := [.string ⟨z.1.toArray⟩, .int .i64 z.2.1, .int .i64 z.2.2.1, .int .i64 z.2.2.2]
def opsL : List (List UInt8 × Int × Int × Int) := (List.range 34).map opZ
def opsV : Array Value := (opsL.flatMap cellsZ).toArray
theorem take_drop4 {α β : Type} {f : α → List β} (hf : ∀ z, (f z).length = 4) : ∀ (zs : List α) (cs : List β), cs.length = zs.length * 4 → (∀ i z, zs[i]? = some z → (cs.drop (i * 4)).take 4 = f z) → cs = zs.flatMap f
  | [], cs, h, _ => by simpa using h
  | z :: r, cs, h, hh => by
    have h0 : cs.take 4 = f z := by simpa using hh 0 z rfl
    have h1 : cs.drop 4 = r.flatMap f := take_drop4 hf r (cs.drop 4) (by simp at h ⊢; omega) (fun i y hy => by
      have := hh (i + 1) y (by simpa using hy)
      rw [List.drop_drop, show 4 + i * 4 = (i + 1) * 4 by omega]; exact this)
    rw [List.flatMap_cons, ← h0, ← h1, List.take_append_drop]
/-- an array of ops that reads as these. -/
theorem cells_of_ops {H : Type} {enc : TypeId × Value → H} {P : Program} {w : World} {base : Nat} {sp : Nat → Bool} {held : Bool} {fuel : Nat} {t e : TypeId} {f0 f1 f2 f3 : Field} {n : Nat} {cs : List Value} {zs : List (List UInt8 × Int × Int × Int)} {p : List MemPlace}
    (ht : P.underlying t = some (.array n e)) (he : P.underlying e = some (.struct #[f0, f1, f2, f3])) (hce : P.cellsOf e = 4) (hct : P.cellsOf t = n * 4)
    (o0 : f0.offset = 0 ∧ f1.offset = 1 ∧ f2.offset = 2 ∧ f3.offset = 3) (c0 : P.cellsOf f0.type = 1 ∧ P.cellsOf f1.type = 1 ∧ P.cellsOf f2.type = 1 ∧ P.cellsOf f3.type = 1)
    (u0 : P.underlying f0.type = some .string) (u1 : P.underlying f1.type = some (.int .i64)) (u2 : P.underlying f2.type = some (.int .i64)) (u3 : P.underlying f3.type = some (.int .i64))
    (h : DataW.trod enc P w base sp held fuel t cs = some (.agg (zs.map fun z => .agg [.lit (.string z.1), .lit (.int .i64 z.2.1), .lit (.int .i64 z.2.2.1), .lit (.int .i64 z.2.2.2)]), p)) : cs = zs.flatMap cellsZ := by
  cases fuel with
  | zero => simp [DataW.trod] at h
  | succ fuel =>
    simp only [DataW.trod, ht, hce, hct] at h
    split at h
    · rename_i hl
      obtain ⟨xs, hm, hx⟩ := Option.map_eq_some_iff.1 h
      have hxs : xs.map (·.1) = zs.map fun z => (DataW.agg [.lit (.string z.1), .lit (.int .i64 z.2.1), .lit (.int .i64 z.2.2.1), .lit (.int .i64 z.2.2.2)] : DataW H) := by
        have := congrArg Prod.fst hx
        simpa using this
      have hxl : xs.length = n := by simpa using Lib.mapM_length hm
      have hzl : zs.length = n := by
        have := congrArg List.length hxs
        simp at this
        omega
      refine take_drop4 (fun _ => rfl) zs cs (by rw [hzl]; exact hl) ?_
      intro i z hz
      have hi : i < n := by have := (List.getElem?_eq_some_iff.1 hz).1; omega
      obtain ⟨b, hb, hf⟩ := Lib.mapM_at hm i i (by simp [hi])
      have h2 : (xs.map (·.1))[i]? = some b.1 := by simp [hb]
      rw [hxs, List.getElem?_map, hz] at h2
      simp only [Option.map_some, Option.some.injEq] at h2
      obtain ⟨y0, y1, y2, y3, m, rfl, hlen, g0, g1, g2, g3⟩ := Go.Joins.trod_struct4 he hf
      obtain ⟨o0, o1, o2, o3⟩ := o0
      obtain ⟨c0, c1, c2, c3⟩ := c0
      rw [o0, c0] at g0; rw [o1, c1] at g1; rw [o2, c2] at g2; rw [o3, c3] at g3
      obtain ⟨s, e0, rfl, _⟩ := DataW.trod_string u0 g0
      obtain ⟨a, e1, rfl, _⟩ := DataW.trod_int u1 g1
      obtain ⟨b2, e2, rfl, _⟩ := DataW.trod_int u2 g2
      obtain ⟨c, e3, rfl, _⟩ := DataW.trod_int u3 g3
      simp only [DataW.agg.injEq, List.cons.injEq, DataW.lit.injEq, Lit.string.injEq, Lit.int.injEq, and_true, true_and] at h2
      obtain ⟨q0, q1, q2, q3⟩ := h2
      obtain ⟨seg, hseg⟩ : ∃ seg, (cs.drop (i * 4)).take 4 = seg := ⟨_, rfl⟩
      rw [hseg] at e0 e1 e2 e3 hlen ⊢
      rw [hce] at hlen
      match seg, hlen, e0, e1, e2, e3 with
      | [v0, v1, v2, v3], _, e0, e1, e2, e3 =>
        simp at e0 e1 e2 e3
        unfold cellsZ
        rw [e0, e1, e2, e3, q0, q1, q2, q3]
    · cases h
/-- the table is laid. -/
structure Ops (w : World) : Prop where
  blk : ∃ t fr, w.heap[0]? = some (.cells opsV t fr)
theorem Ops.below {w w' : World} (h : Ops w) (hb : Below w.heap.size w w') : Ops w' := by
  obtain ⟨t, fr, h⟩ := h.blk
  exact ⟨t, fr, (hb.block 0 (blk_lt h)).trans h⟩
theorem opsV_at : ∀ n : Fin 34, opsV[n.val * 4]? = some (.string ⟨(nm n.val).toArray⟩) ∧ opsV[n.val * 4 + 1]? = some (.int .i64 (ag n.val)) ∧ opsV[n.val * 4 + 2]? = some (.int .i64 (tkn n.val)) ∧ opsV[n.val * 4 + 3]? = some (.int .i64 (lyn n.val)) := by
  intro n
  match n with
  | ⟨0, _⟩ => exact ⟨rfl, rfl, rfl, rfl⟩
  | ⟨1, _⟩ => exact ⟨rfl, rfl, rfl, rfl⟩
  | ⟨2, _⟩ => exact ⟨rfl, rfl, rfl, rfl⟩
  | ⟨3, _⟩ => exact ⟨rfl, rfl, rfl, rfl⟩
  | ⟨4, _⟩ => exact ⟨rfl, rfl, rfl, rfl⟩
  | ⟨5, _⟩ => exact ⟨rfl, rfl, rfl, rfl⟩
  | ⟨6, _⟩ => exact ⟨rfl, rfl, rfl, rfl⟩
  | ⟨7, _⟩ => exact ⟨rfl, rfl, rfl, rfl⟩
  | ⟨8, _⟩ => exact ⟨rfl, rfl, rfl, rfl⟩
  | ⟨9, _⟩ => exact ⟨rfl, rfl, rfl, rfl⟩
  | ⟨10, _⟩ => exact ⟨rfl, rfl, rfl, rfl⟩
  | ⟨11, _⟩ => exact ⟨rfl, rfl, rfl, rfl⟩
  | ⟨12, _⟩ => exact ⟨rfl, rfl, rfl, rfl⟩
  | ⟨13, _⟩ => exact ⟨rfl, rfl, rfl, rfl⟩
  | ⟨14, _⟩ => exact ⟨rfl, rfl, rfl, rfl⟩
  | ⟨15, _⟩ => exact ⟨rfl, rfl, rfl, rfl⟩
  | ⟨16, _⟩ => exact ⟨rfl, rfl, rfl, rfl⟩
  | ⟨17, _⟩ => exact ⟨rfl, rfl, rfl, rfl⟩
  | ⟨18, _⟩ => exact ⟨rfl, rfl, rfl, rfl⟩
  | ⟨19, _⟩ => exact ⟨rfl, rfl, rfl, rfl⟩
  | ⟨20, _⟩ => exact ⟨rfl, rfl, rfl, rfl⟩
  | ⟨21, _⟩ => exact ⟨rfl, rfl, rfl, rfl⟩
  | ⟨22, _⟩ => exact ⟨rfl, rfl, rfl, rfl⟩
  | ⟨23, _⟩ => exact ⟨rfl, rfl, rfl, rfl⟩
  | ⟨24, _⟩ => exact ⟨rfl, rfl, rfl, rfl⟩
  | ⟨25, _⟩ => exact ⟨rfl, rfl, rfl, rfl⟩
  | ⟨26, _⟩ => exact ⟨rfl, rfl, rfl, rfl⟩
  | ⟨27, _⟩ => exact ⟨rfl, rfl, rfl, rfl⟩
  | ⟨28, _⟩ => exact ⟨rfl, rfl, rfl, rfl⟩
  | ⟨29, _⟩ => exact ⟨rfl, rfl, rfl, rfl⟩
  | ⟨30, _⟩ => exact ⟨rfl, rfl, rfl, rfl⟩
  | ⟨31, _⟩ => exact ⟨rfl, rfl, rfl, rfl⟩
  | ⟨32, _⟩ => exact ⟨rfl, rfl, rfl, rfl⟩
  | ⟨33, _⟩ => exact ⟨rfl, rfl, rfl, rfl⟩
  | ⟨k + 34, h⟩ => exact absurd h (by omega)
theorem Ops.cell {w : World} (h : Ops w) (n : Nat) (hn : n < 34) : w.cell? ⟨0, n * 4, none⟩ = some (.string ⟨(nm n).toArray⟩) ∧ w.cell? ⟨0, n * 4 + 1, none⟩ = some (.int .i64 (ag n)) ∧ w.cell? ⟨0, n * 4 + 2, none⟩ = some (.int .i64 (tkn n)) ∧ w.cell? ⟨0, n * 4 + 3, none⟩ = some (.int .i64 (lyn n)) := by
  obtain ⟨t, fr, h⟩ := h.blk
  obtain ⟨h0, h1, h2, h3⟩ := opsV_at ⟨n, hn⟩
  refine ⟨?_, ?_, ?_, ?_⟩ <;> simp [World.cell?, h, h0, h1, h2, h3]
theorem ops_of_laid {ps : List (String × DataW Unit)} {W : World} (h : laidMet Tryd.prog (("marline/ins.ops", Rows.laid_marline_ins_ops) :: ps) W) : Ops W := by
  obtain ⟨qs, ⟨g0, t0, cs0, f0, p0, q0, hg0, ht0, hv0, hd0, _, _⟩, _⟩ := h
  have hg : Tryd.prog.globalNamed "marline/ins.ops" = some 0 := by kernel_rfl
  have hty : (Tryd.prog.globals[0]?).map (·.type) = some 97 := by kernel_rfl
  obtain rfl := Option.some.inj (hg.symm.trans hg0)
  obtain rfl := Option.some.inj (hty.symm.trans ht0)
  have e : (Rows.laid_marline_ins_ops : DataW Unit) = .agg (opsL.map fun z => .agg [.lit (.string z.1), .lit (.int .i64 z.2.1), .lit (.int .i64 z.2.2.1), .lit (.int .i64 z.2.2.2)]) := rfl
  rw [e] at hd0
  have hc := cells_of_ops (e := 94) (n := 34) Tryd.underlying97 Tryd.underlying94 (by kernel_rfl) (by kernel_rfl) ⟨rfl, rfl, rfl, rfl⟩ ⟨by kernel_rfl, by kernel_rfl, by kernel_rfl, by kernel_rfl⟩ Tryd.underlying9 Tryd.underlying3 Tryd.underlying3 Tryd.underlying3 hd0
  have hc2 : cs0 = opsV := by obtain ⟨l⟩ := cs0; have hc : l = _ := hc; rw [hc]; rfl
  rw [hc2] at hv0
  unfold World.var? at hv0
  rw [hg] at hv0
  simp only [Option.bind_some] at hv0
  split at hv0
  · rename_i cs t fr hb
    injection hv0 with hv0
    exact ⟨t, fr, by rw [hb, hv0]⟩
  · cases hv0
/-- what of comes to. -/
def opV (n : Int) : Value := .agg #[.string ⟨(nameI n).toArray⟩, .int .i64 (argsI n : Nat), .int .i64 (takesI n : Nat), .int .i64 (laysI n : Nat)]
/-- a variable of four cells. -/
def Q4 (w : World) (g : Nat) (t : TypeId) (v0 v1 v2 v3 : Value) : Prop := w.heap[g]? = some (.cells #[v0, v1, v2, v3] t (0, 0))
theorem Q4.cells {w : World} {g : Nat} {t : TypeId} {v0 v1 v2 v3 : Value} (h : Q4 w g t v0 v1 v2 v3) : w.cell? ⟨g, 0, none⟩ = some v0 ∧ w.cell? ⟨g, 1, none⟩ = some v1 ∧ w.cell? ⟨g, 2, none⟩ = some v2 ∧ w.cell? ⟨g, 3, none⟩ = some v3 ∧ w.frozen? ⟨g, 0, none⟩ = false ∧ w.frozen? ⟨g, 1, none⟩ = false ∧ w.frozen? ⟨g, 2, none⟩ = false ∧ w.frozen? ⟨g, 3, none⟩ = false :=
  ⟨(blk_cell h 0).trans rfl, (blk_cell h 1).trans rfl, (blk_cell h 2).trans rfl, (blk_cell h 3).trans rfl, blk_frozen h 0, blk_frozen h 1, blk_frozen h 2, blk_frozen h 3⟩
theorem Q4.set {w : World} {g : Nat} {t : TypeId} {v0 v1 v2 v3 : Value} (h : Q4 w g t v0 v1 v2 v3) (u0 u1 u2 u3 : Value) :
    Q4 ((((w.setCell ⟨g, 0, none⟩ u0).setCell ⟨g, 1, none⟩ u1).setCell ⟨g, 2, none⟩ u2).setCell ⟨g, 3, none⟩ u3) g t u0 u1 u2 u3 := by
  have h1 := blk_set (blk_set (blk_set (blk_set h 0 u0) 1 u1) 2 u2) 3 u3
  unfold Q4
  simpa using h1
theorem Q4.far {w : World} {g : Nat} {t : TypeId} {v0 v1 v2 v3 : Value} (h : Q4 w g t v0 v1 v2 v3) {p : Addr} (hp : g ≠ p.block) (u : Value) : Q4 (w.setCell p u) g t v0 v1 v2 v3 := blk_far h hp u
theorem Q4.alloc {w : World} {g : Nat} {t : TypeId} {v0 v1 v2 v3 : Value} (h : Q4 w g t v0 v1 v2 v3) (o : Obj) : Q4 (w.alloc o) g t v0 v1 v2 v3 := blk_alloc h o
theorem Q4.below {w w' : World} {g : Nat} {t : TypeId} {v0 v1 v2 v3 : Value} (h : Q4 w g t v0 v1 v2 v3) (hb : Below w.heap.size w w') : Q4 w' g t v0 v1 v2 v3 := blk_below h hb
theorem Q4.drewN {w : World} {g : Nat} {t : TypeId} {v0 v1 v2 v3 : Value} (h : Q4 w g t v0 v1 v2 v3) (n : Nat) : Q4 (w.drewN n) g t v0 v1 v2 v3 := blk_drewN h n
theorem Q4.lt {w : World} {g : Nat} {t : TypeId} {v0 v1 v2 v3 : Value} (h : Q4 w g t v0 v1 v2 v3) : g < w.heap.size := blk_lt h
theorem below4 {w W : World} {g : Nat} {u0 u1 u2 u3 : Value} (h : Below w.heap.size w W) (hg : w.heap.size ≤ g) : Below w.heap.size w ((((W.setCell ⟨g, 0, none⟩ u0).setCell ⟨g, 1, none⟩ u1).setCell ⟨g, 2, none⟩ u2).setCell ⟨g, 3, none⟩ u3) := below_set (below_set (below_set (below_set h hg) hg) hg) hg
theorem opV_out {n : Int} (h : n < 0 ∨ 34 ≤ n) : opV n = .agg #[.string ⟨#[]⟩, .int .i64 0, .int .i64 0, .int .i64 0] := by
  unfold opV nameI argsI takesI laysI; rw [if_pos h, if_pos h, if_pos h, if_pos h]; rfl
theorem opV_in {n : Nat} (h : n < 34) : opV (n : Int) = .agg #[.string ⟨(nm n).toArray⟩, .int .i64 (ag n : Nat), .int .i64 (tkn n : Nat), .int .i64 (lyn n : Nat)] := by
  unfold opV nameI argsI takesI laysI; rw [if_neg (by omega), if_neg (by omega), if_neg (by omega), if_neg (by omega)]; rfl
set_option maxHeartbeats 4000000 in
theorem of_calls (n : Int) (w : World) (h : Ops w) : Calls Tryd.prog 69 #[.int .i64 n] w fun e w' => e = .returned (opV n) ∧ Below w.heap.size w w' := by
  have hu94 := Tryd.underlying94
  have hu97 := Tryd.underlying97
  obtain ⟨g, hg⟩ : ∃ g, w.heap.size = g := ⟨_, rfl⟩
  have G : Hid (∃ w1 : World, w.alloc (.cells #[.string ⟨#[]⟩, .int .i64 0, .int .i64 0, .int .i64 0] 94) = w1 ∧ Q4 w1 g 94 (.string ⟨#[]⟩) (.int .i64 0) (.int .i64 0) (.int .i64 0) ∧ Below w.heap.size w w1) :=
    Lib.hid ⟨_, rfl, by rw [← hg]; exact blk_new _ _, below_alloc (Below.refl _ _) _⟩
  have WG := Lib.hid (show w.heap.size ≤ g by omega); have E1 := Lib.hid hg; have HO := Lib.hid h
  clear hg h
  by_cases hx : n < 0 ∨ 34 ≤ n
  · rw [opV_out hx]
    have p1 : decide (n < 0) = true ∨ (decide (n < 0) = false ∧ decide (34 ≤ n) = true) := by
      by_cases h0 : n < 0
      · exact .inl (decide_eq_true h0)
      · exact .inr ⟨decide_eq_false h0, decide_eq_true (by omega)⟩
    clear hx
    rcases p1 with p1 | ⟨p1, p2⟩
    all_goals
      go_enter Tryd.func69, Tryd.ntmps69
      go_upto_region 1 with (fail)
      rw [E1.out]
      obtain ⟨w1, hw1, v1, b1⟩ := G.out
      rw [hw1]
      have V1 := Lib.hid v1; have B1 := Lib.hid b1
      obtain ⟨m0, m1, m2, m3, t0, t1, t2, t3⟩ := v1.cells
      clear G v1 b1 hw1
      go_wp2_with fail
      refine bodyPost_ret (results_cell_row rfl _ _ g 94 #[.string ⟨#[]⟩, .int .i64 0, .int .i64 0, .int .i64 0] (0, 0) _ rfl (V1.out.set _ _ _ _) Tryd.underlying94 rfl (by kernel_rfl)) rfl ?_
      exact ⟨rfl, below4 B1.out WG.out⟩
  · obtain ⟨m, rfl⟩ : ∃ m : Nat, n = m := ⟨n.toNat, by omega⟩
    have hm : m < 34 := by omega
    have p1 : decide ((m : Int) < 0) = false := decide_eq_false (by omega)
    have p2 : decide (34 ≤ (m : Int)) = false := decide_eq_false (by omega)
    have p3 : (0 : Int) ≤ (m : Int) := by omega
    have p4 : (m : Int) < 34 := by omega
    rw [opV_in hm]
    obtain ⟨s, hs⟩ : ∃ s : ByteArray, ⟨(nm m).toArray⟩ = s := ⟨_, rfl⟩
    obtain ⟨a, ha⟩ : ∃ a : Int, ((ag m : Nat) : Int) = a := ⟨_, rfl⟩
    obtain ⟨b, hb⟩ : ∃ b : Int, ((tkn m : Nat) : Int) = b := ⟨_, rfl⟩
    obtain ⟨c, hc⟩ : ∃ c : Int, ((lyn m : Nat) : Int) = c := ⟨_, rfl⟩
    have K := fun (W : World) (hW : Ops W) => hW.cell m hm
    rw [hs, ha, hb, hc] at K ⊢
    have K := Lib.hid K
    clear hx hm hs ha hb hc
    go_enter Tryd.func69, Tryd.ntmps69
    go_upto_region 1 with (fail)
    rw [E1.out]
    obtain ⟨w1, hw1, v1, b1⟩ := G.out
    rw [hw1]
    have V1 := Lib.hid v1; have B1 := Lib.hid b1
    obtain ⟨k0, k1, k2, k3⟩ := K.out w1 (HO.out.below b1)
    obtain ⟨m0, m1, m2, m3, t0, t1, t2, t3⟩ := v1.cells
    clear G v1 b1 hw1
    go_wp2_with fail
    refine bodyPost_ret (results_cell_row rfl _ _ g 94 #[.string s, .int .i64 a, .int .i64 b, .int .i64 c] (0, 0) _ rfl (V1.out.set _ _ _ _) Tryd.underlying94 rfl (by kernel_rfl)) rfl ?_
    exact ⟨rfl, below4 B1.out WG.out⟩
end Go.Proofs.YtfofpammnfcmiaaDoor.Ip
