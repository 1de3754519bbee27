/- Marline, layer 27: the contracts of Clone and End, and of all methods at a nil assembly. Conditions: as each says. -/
import Derived.Test.YtchmcmbglaffdaaN
import Derived.WalkSpells
namespace Go.Proofs.Ytchmcmbglaffdaa.M
open Go.RowKit Go.Proofs.YtchmcmbglaffdaaW.PrintWords Go.Proofs.YtchmcmbglaffdaaW.PrintLast Go.Proofs.YtchmcmbglaffdaaW.PrintMore Go.Proofs.Ytchmcmbglaffdaa.Kinds Go.Proofs.Ytchmcmbglaffdaa.Obj
set_option linter.unusedVariables false
set_option linter.unusedSimpArgs false

set_option maxHeartbeats 2000000 in
theorem clone_is (A : Option Addr) (c : Nat) (L : List S36) (w : World) (hC : Kd.C k36 w A L.length L) (hl : L.length * 32 ≤ 140737488355328) :
    Calls Try.prog 16 #[.slice A L.length c] w fun e w' => ∃ v, e = .returned v ∧ Row k36 36 w' v L ∧ Below w.heap.size w w' ∧ ∀ k, v.ownBlock = some k → w.heap.size ≤ k := by
  cases A with
  | none =>
    have hL : L = [] := by
      cases L with
      | nil => rfl
      | cons x xs => obtain ⟨ad, h, _⟩ := hC.2.2 (by simp); cases h
    subst hL
    have hq := fun w => Lib.run_eql_slice_nil w 26 36 none 0 c 0 0 Try.underlying26
    show Calls Try.prog 16 #[.slice none 0 c] _ _
    go_enter Try.func16, Try.ntmps16
    go_wp2
    go_ret
    exact ⟨_, rfl, Kd.R_nil _ _ _ _ _, Below.refl _ _, fun k hk => by simp [Value.ownBlock] at hk⟩
  | some ad =>
    have hq := fun w => Lib.run_eql_slice_nil w 26 36 (some ad) L.length c 0 0 Try.underlying26
    have hE : Row k36 36 (w.alloc (Obj.cells #[] 36)) (.slice (some ⟨w.heap.size, 0, none⟩) 0 0) ([] : List S36) := by
      refine ⟨fun _ _ => trivial, [], ⟨by simp, .inr ⟨w.heap.size, 0, #[], rfl, Nat.zero_le _, blk_new w _, ?_⟩⟩, Reps.none _ _⟩
      simp
    have HE := Lib.hid hE
    have HC := Lib.hid (Kd.C_alloc hC (Obj.cells #[] 36)); have hl' := Lib.hid hl
    clear hC hl hE
    go_enter Try.func16, Try.ntmps16
    go_wp2_with ((with_reducible refine gate_builtin (b := .append) (xs := #[.tmp 5, .tmp 6]) rfl ?_); at_builtin; go_must (refine Kd.R_append_rows k36 (Rr := fun x cs => cs = [.int .i64 x.f0, .int .i64 x.f1, .int .i64 x.f2, .int .i64 x.f3]) (w0 := w) 0 rfl (.tmp 5) (.tmp 6) 26 36 (.agg #[(.int .i64 0), (.int .i64 0), (.int .i64 0), (.int .i64 0)]) 32 rfl Try.underlying26 info36 rfl (by decide) (by omega) (.slice (some ⟨w.heap.size, 0, none⟩) 0 0) [] L (some ad) L.length c (fun _ => True) (fun _ => False) rfl rfl HE.out ?hR (fun x cs h => by rw [h]; exact k36_mkM _ _ _ x) (fun _ h => h.elim) (fun _ _ => trivial) (below_alloc (Below.refl _ _) _ |>.mono (Nat.zero_le _)) (Nat.zero_le _) (by have := hl'.out; simp; omega) ?_; (case hR => exact HC.out.imp_ (Below.refl _ _) (fun x cs h => k36_open h)); intro v1 w1 ho hb hg hat; have HO := Lib.hid ho; have HG := Lib.hid hg; have HAT := Lib.hid hat; clear ho hb hg hat))
    go_ret
    refine ⟨v1, rfl, HO.out, ?_, fun k hk => ?_⟩
    · exact (below_alloc (Below.refl _ _) _).trans ⟨HG.out.os, HG.out.tape, HG.out.output, HG.out.size, fun i hi => HG.out.block i (by simp; omega) (fun e => by simp [Value.ownBlock] at e; omega)⟩
    · rcases HAT.out with e | ⟨b, e, hle⟩
      · rw [e] at hk; simp [Value.ownBlock] at hk; omega
      · rw [e] at hk; injection hk with hk; simp at hle; omega

/-! ### End -/
/-- the instructions with what the jumps lead to; none: a label is not marked. -/
def endL (lb : List Int) : List S49 → List S36 → Option (List S36)
  | [], out => some out
  | j :: js, out => if rd lb j.f1 = -1 then none else endL lb js (out.set j.f0.toNat ⟨(rd_T36 out j.f0).f0, rd lb j.f1, (rd_T36 out j.f0).f2, (rd_T36 out j.f0).f3⟩)
theorem As.below {w w' : World} {g : Nat} {L : List S36} {lb : List Int} {J : List S49} (h : As w g L lb J) (hb : Below w.heap.size w w') : As w' g L lb J := by
  obtain ⟨v0, v1, v2, hk, h0, h1, h2⟩ := h
  exact ⟨v0, v1, v2, blk_below hk hb, Kd.R_below h0 hb, Kd.R_below h1 hb, Kd.R_below h2 hb⟩
theorem drop49 (l : List S49) (x : Int) (h0 : 0 ≤ x) (h : x < l.length) : l.drop x.toNat = rd_T49 l x :: l.drop (x + 1).toNat := by
  rw [List.drop_eq_getElem_cons (show x.toNat < l.length by omega), show (x + 1).toNat = x.toNat + 1 by omega]
  congr 1
  unfold rd_T49
  rw [List.getD_eq_getElem?_getD, List.getElem?_eq_getElem (show x.toNat < l.length by omega)]; rfl

set_option maxHeartbeats 8000000 in
set_option maxRecDepth 100000 in
theorem end_is (g : Nat) (L : List S36) (lb : List Int) (J : List S49) (w : World) (h : As w g L lb J) (hl : L.length * 32 ≤ 140737488355328)
    (hJ : ∀ j ∈ J, 0 ≤ j.f0 ∧ j.f0 < L.length ∧ 0 ≤ j.f1 ∧ j.f1 < lb.length) :
    Calls Try.prog 12 #[.pointer (some ⟨g, 0, none⟩)] w fun e w' => Below w.heap.size w w' ∧
      ((endL lb J L = none ∧ e = .returned (.tuple #[.slice none 0 0, .int .i64 12])) ∨ ∃ v out, endL lb J L = some out ∧ e = .returned (.tuple #[v, .int .i64 0]) ∧ Row k36 36 w' v out ∧ ∀ k, v.ownBlock = some k → w.heap.size ≤ k) := by
  have hu47 := Try.underlying47
  have hu49 := Try.underlying49
  have hu36 := Try.underlying36
  have H := Lib.hid h
  obtain ⟨v0, v1, v2, hb, h0, h1, h2⟩ := h
  obtain ⟨A0, c0, rfl⟩ := Kd.R_slice h0
  obtain ⟨A1, c1, rfl⟩ := Kd.R_slice h1
  obtain ⟨A2, c2, rfl⟩ := Kd.R_slice h2
  obtain ⟨k0, k1, k2⟩ := cells3 hb
  have jm : J.length ≤ 9223372036854775807 := Kd.C_max (Kd.R_reads' h2).2.2
  have HB := Lib.hid hb; have H0 := Lib.hid h0; have H1 := Lib.hid h1; have H2 := Lib.hid h2; have hl' := Lib.hid hl; have hJ' := Lib.hid hJ
  clear hb h0 h1 h2 hl hJ
  go_enter Try.func12, Try.ntmps12
  go_wp2_with fail
  refine (clone_is A0 c0 L _ (Kd.R_reads' H0.out).2.2 hl'.out).mono ?_
  rintro e w1 ⟨v, rfl, hR, hbel, hnew⟩
  have HB1 := Lib.hid (blk_below HB.out hbel)
  obtain ⟨m0, m1, m2⟩ := cells3 HB1.out
  obtain ⟨Av, cv, rfl⟩ := Kd.R_slice hR
  have V := Lib.hid hR; have BB := Lib.hid hbel; have NN := Lib.hid hnew
  clear hR hbel hnew
  go_wp2_with fail
  go_loopw [20] (fun i wr => ∃ (x : Int) (out : List S36), i = .int .i64 x ∧ 0 ≤ x ∧ x ≤ J.length ∧ Hid (Row k36 36 wr (.slice Av L.length cv) out) ∧ Hid (endL lb (J.drop x.toNat) out = endL lb J L) ∧ Hid (Below w.heap.size w wr)) (fun i _ => J.length - (intOf i).toNat)
  case atStart => exact ⟨0, L, rfl, by omega, by omega, V, Lib.hid rfl, BB⟩
  case round =>
    clear BB V HB1 m0 m1 m2
    obtain ⟨x, out, rfl, x0, xl, V, HE, BB⟩ := hrel
    by_cases hx : x < (J.length : Int)
    · have hx1 := decide_eq_true hx
      have hd := drop49 J x x0 hx
      have hjm : rd_T49 J x ∈ J := by
        have : rd_T49 J x ∈ J.drop x.toNat := by rw [hd]; exact List.mem_cons_self
        exact List.mem_of_mem_drop this
      obtain ⟨p0, p1, q0, q1⟩ := hJ'.out _ hjm
      have he := HE.out
      rw [hd, endL] at he
      obtain ⟨ad, e, hx_0, hx_1⟩ := at_T49 (Kd.C_below (Kd.R_reads' H2.out).2.2 BB.out) x x0 hx
      cases e
      generalize (rd_T49 J x).f0 = p at *
      generalize (rd_T49 J x).f1 = q at *
      obtain ⟨ad1, e1, hy⟩ := Kd.at_int (Kd.C_below (Kd.R_reads' H1.out).2.2 BB.out) q q0 q1
      cases e1
      obtain ⟨n0, n1, n2⟩ := cells3 (blk_below HB.out BB.out)
      have he' := Lib.hid he
      have hol : L.length = out.length := (Kd.R_reads' V.out).1
      have hol' := Lib.hid hol
      clear hd hjm he hol
      have px := eq_true x0
      have qx := eq_true hx
      have pq := eq_true q0
      have qq := eq_true q1
      have n1' := (World.cell?_alloc_lt wr (Obj.cells #[.int .i64 p, .int .i64 q] 49) _ (World.block_lt_of_cell? _ _ n1)).trans n1
      have hy' := (World.cell?_alloc_lt wr (Obj.cells #[.int .i64 p, .int .i64 q] 49) _ (World.block_lt_of_cell? _ _ hy)).trans hy
      have e2 : IntKind.i64.wrap (x + 1) = x + 1 := IntWalk.i64_in _ (by omega)
      by_cases hm : rd lb q = -1
      · have hmb : (rd lb q == -1) = true := beq_iff_eq.2 hm
        have hm' := Lib.hid hm
        clear hm
        go_wp2_with fail
        go_quiet (fail)
        go_wp2_with fail
        go_ret2
        refine ⟨?_, .inl ⟨?_, rfl⟩⟩
        · exact pw_below_drewN (below_alloc BB.out _) _
        · have := he'.out
          rw [if_pos hm'.out] at this
          exact this.symm
      · have hmb : (rd lb q == -1) = false := beq_eq_false_iff_ne.2 hm
        have hm' := Lib.hid hm
        clear hm
        have W := Lib.hid (show Row k36 36 (wr.alloc (Obj.cells #[.int .i64 p, .int .i64 q] 49)) (.slice Av L.length cv) out from Kd.R_alloc V.out _)
        obtain ⟨b, hAv⟩ := row_some V.out (by have := hol'.out; omega)
        subst hAv
        obtain ⟨cur, hcur⟩ := Kd.R_typed W.out b rfl
        have fz := blk_frozen hcur (p.toNat * 4 + 1)
        obtain ⟨ad2, e, z0, z1, z2, z3⟩ := at_T36 (Kd.R_reads' W.out).2.2 p p0 (by have := hol'.out; omega)
        cases e
        simp only [add_plain] at z0 z1 z2 z3
        have px2 := eq_true p0
        have qx2 := eq_true p1
        have p0' := decide_eq_true p0
        have p1' := decide_eq_true p1
        have hcur' := Lib.hid hcur
        have Z := Lib.hid (And.intro z0 (And.intro z2 z3))
        clear hcur z0 z2 z3
        go_wp2_with fail
        go_quiet (fail)
        go_wp2_with fail
        go_roundw
        case rel =>
          refine ⟨x + 1, out.set p.toNat ⟨(rd_T36 out p).f0, rd lb q, (rd_T36 out p).f2, (rd_T36 out p).f3⟩, rfl, by omega, by omega, ?_, ?_, ?_⟩
          · exact Lib.hid (Kd.R_seg (c := [.int .i64 (rd_T36 out p).f0, .int .i64 (rd_T36 out p).f1, .int .i64 (rd_T36 out p).f2, .int .i64 (rd_T36 out p).f3]) (seg := [.int .i64 (rd lb q)]) (j := 1) (okp := fun _ => False) (Kd.R_drewN W.out _) p p0 p1 rfl (fun j u hu => by
              obtain ⟨y0, y2, y3⟩ := Z.out
              match j, hu with
              | 0, hu => injection hu with hu; subst hu; exact y0
              | 1, hu => injection hu with hu; subst hu; exact z1
              | 2, hu => injection hu with hu; subst hu; exact y2
              | 3, hu => injection hu with hu; subst hu; exact y3) (show 1 + 1 ≤ 4 by decide) (k36_mkM _ _ _ (⟨(rd_T36 out p).f0, rd lb q, (rd_T36 out p).f2, (rd_T36 out p).f3⟩ : S36)) (fun _ h => h.elim)).1
          · have := he'.out
            rw [if_neg hm'.out] at this
            exact Lib.hid this
          · exact Lib.hid ((pw_below_drewN (below_alloc BB.out _) _).setCell (NN.out b rfl) _)
        case measure => simp [intOf]; omega
    · have hx1 := decide_eq_false hx
      have hxe : x = J.length := by omega
      have hxe' := Lib.hid hxe
      clear hxe
      go_wp2_with fail
      go_ret2
      refine ⟨BB.out, .inr ⟨_, out, ?_, rfl, V.out, NN.out⟩⟩
      have := HE.out
      rw [List.drop_eq_nil_of_le (by have := hxe'.out; omega), endL] at this
      exact this.symm
end Go.Proofs.Ytchmcmbglaffdaa.M
