/- Marline, layer 08: values are read out of bytes, one behind the other, by the program. Conditions: as each says. -/
import Derived.Test.YtggdpeeiioibgaaRv
namespace Go.Proofs.Ytggdpeeiioibgaa.E
open Go.RowKit Go.Proofs.YtggdpeeiioibgaaW.PrintWords Go.Proofs.YtggdpeeiioibgaaW.PrintLast Go.Proofs.YtggdpeeiioibgaaW.PrintMore Go.Proofs.Ytggdpeeiioibgaa.Kinds Go.Proofs.Ytggdpeeiioibgaa.Obj
set_option linter.unusedVariables false
set_option linter.unusedSimpArgs false

/-- what is known in the midst of kids: the value in block gb, the result in ga. -/
structure Kst (b : List Int) (w0 w : World) (g gb ga : Nat) (c : Int) (W : World) (q : Nat) (l : List S24) (B : Option Addr) (d : Nat) : Prop where
  r : Rst b w0 w g W q
  v : Var W gb ⟨c, 0, l⟩ B d
  a : Var W ga z24 none 0
  n : Kd.N k24 24 W w0.heap.size (fun k => w.heap.size ≤ k ∧ k ≠ gb ∧ k ≠ ga) (.slice B l.length d) l
section
variable {b : List Int} {w0 w W W' : World} {g gb ga q q' : Nat} {c : Int} {l : List S24} {B : Option Addr} {d : Nat}
theorem Kst.later (h : Kst b w0 w g gb ga c W q l B d) (hb : Below W.heap.size W W') : Kst b w0 w g gb ga c W' q l B d := ⟨h.r.later hb, h.v.below hb, h.a.below hb, Kd.N_below h.n hb⟩
theorem Kst.call (h : Kst b w0 w g gb ga c W q l B d) (hg : w.heap.size ≤ g ∨ g < w.heap.size) (k : Rst b w0 W g W' q') (hN : ∀ k, w.heap.size ≤ k ∧ k ≠ gb ∧ k ≠ ga → k ≠ g) : Kst b w0 w g gb ga c W' q' l B d :=
  ⟨h.r.call k, k.var h.v (h.r.ne h.v), k.var h.a (h.r.ne h.a), Kd.N_keep h.n k.keep hN⟩
end
set_option maxHeartbeats 8000000 in
set_option maxRecDepth 100000 in
theorem kids_of (b : List Int) (hb : Bytes b) (hl : b.length ≤ 1000000000000) (f : List Int → Option (S24 × List Int)) (c : Int) (hc : c = 2 ∨ c = 3) (w0 w : World) (g p : Nat) (h : PC.IsS107 w0 w g b (p : Int)) (hB : Below w0.heap.size w0 w) (hp : p ≤ b.length)
    (ih : ∀ (W : World) (q : Nat), p < q → PC.IsS107 w0 W g b (q : Int) → Below w0.heap.size w0 W → q ≤ b.length →
      Calls Try.prog 71 #[.pointer (some ⟨g, 0, none⟩)] W (ValP b w0 W g q (f (b.drop q)))) :
    Calls Try.prog 92 #[.pointer (some ⟨g, 0, none⟩), .agg #[.int .i64 c, .int .i64 0, .slice none 0 0]] w (ValP b w0 w g p (dvK f c (b.drop p))) := by
  have hu24 := Try.underlying24
  have HI := Lib.hid h; have HB := Lib.hid hB; have IH := Lib.hid ih; have HBY := Lib.hid hb
  have glt : g < w.heap.size := h.lt
  obtain ⟨gb, hgb⟩ : ∃ ga, w.heap.size = ga := ⟨_, rfl⟩
  obtain ⟨ga, hga⟩ : ∃ ga, w.heap.size + 1 = ga := ⟨_, rfl⟩
  have G : Hid (∃ w1 : World, (w.alloc (.cells #[.int .i64 c, .int .i64 0, .slice none 0 0] 24)).alloc (.cells #[.int .i64 0, .int .i64 0, .slice none 0 0] 24) = w1 ∧ Kst b w0 w g gb ga c w1 p [] none 0) := by
    refine Lib.hid ⟨_, rfl, (Rst.start h hB hp).later (below_alloc (below_alloc (Below.refl _ _) _) _), ?_, ?_, Kd.N_nil _ _ _ _ _⟩
    · rw [← hgb]; exact blk_alloc (blk_new _ _) _
    · rw [← hga, ← size_al w (.cells #[.int .i64 c, .int .i64 0, .slice none 0 0] 24)]; exact blk_new _ _
  have wga : w.heap.size ≤ ga := by omega
  have wgb : w.heap.size ≤ gb := by omega
  have nab : ga ≠ gb := by omega
  have GA := Lib.hid hga; have GB := Lib.hid hgb; have NAB := Lib.hid nab
  obtain ⟨o, ho⟩ : ∃ o, dvK f c (b.drop p) = o := ⟨_, rfl⟩
  rw [ho]
  have HO := Lib.hid (show (match num (b.drop p) with
    | none => none
    | some (m, r) => if m < 0 ∨ (r.length : Int) < m then none else match dvL f m.toNat r with | none => none | some (l, r2) => some (⟨c, 0, l⟩, r2)) = o by
    rw [← ho]
    unfold dvK
    rcases hc with rfl | rfl <;> rw [if_neg (by decide), if_neg (by decide), if_pos (by decide)] <;> rfl)
  clear h hB ih hb hga hgb nab ho hc
  go_enter Try.func92, Try.ntmps92
  go_upto_region 1 with (fail)
  rw [GA.out, GB.out]
  obtain ⟨w1, hw1, s1⟩ := G.out
  rw [hw1]
  have S1 := Lib.hid s1
  clear G hw1 s1
  go_wp2_with fail
  refine (number_is b w0 w1 g p HBY.out (by omega) S1.out.r.is S1.out.r.below hp).mono ?_
  rintro e w2 ⟨r1, r2, q, rfl, s2, hpq, hm⟩
  have S2 := Lib.hid (S1.out.call (.inr glt) s2 (fun k hk => by omega))
  have hqb := s2.le
  clear s2 S1
  obtain ⟨A0, c0, hcell, hgw, hrd⟩ := S2.out.r.is
  have x0 := PC.cellS107_0 hcell
  have x1 := PC.cellS107_1 hcell
  have HRD := Lib.hid hrd
  clear hcell hgw hrd
  have ho := HO.out
  clear HO
  cases hnn : num (b.drop p) with
  | none =>
    rw [hnn] at hm ho
    obtain rfl : r2 = false := hm
    have HQ := Lib.hid (show o = none from ho.symm)
    clear ho hnn
    go_upto_region 2 with (fail)
    go_quiet (fail)
    have H3 : ∃ w3 : World, w2.drewN nq = w3 ∧ Kst b w0 w g gb ga c w3 q [] none 0 := ⟨_, rfl, S2.out.later (pw_below_drewN (Below.refl _ _) _)⟩
    obtain ⟨w3, hw3, s3⟩ := H3
    rw [hw3]
    have S3 := Lib.hid s3
    obtain ⟨k0, k1, k2, f0, f1, f2⟩ := s3.v.cells
    obtain ⟨m0, m1, m2, t0, t1, t2⟩ := s3.a.cells
    simp only [List.length_nil] at k2
    clear s3 hw3 x0 x1
    go_wp2_with fail
    refine bodyPost_ret (results_ct rfl _ _ ga 24 #[.int .i64 c, .int .i64 0, .slice none 0 0] (0, 0) _ rfl (S3.out.a.set ⟨c, 0, []⟩ none 0) Try.underlying24 rfl (by kernel_rfl)) rfl ?_
    refine ⟨⟨c, 0, []⟩, .slice none 0 0, false, q, rfl, ((S3.out.r.set wga (S3.out.r.ne S3.out.a) (Nat.le_trans HB.out.size wga) _).set wga (S3.out.r.ne S3.out.a) (Nat.le_trans HB.out.size wga) _).set wga (S3.out.r.ne S3.out.a) (Nat.le_trans HB.out.size wga) _, by omega, Kd.N_nil _ _ _ _ _, ?_⟩
    rw [HQ.out]
  | some mr =>
    obtain ⟨m, r⟩ := mr
    rw [hnn] at hm ho
    obtain ⟨rfl, rfl, hr, hpq2⟩ := hm
    have hrl : r.length = b.length - q := by rw [← hr, List.length_drop]
    have e1 : IntKind.i64.wrap ((b.length : Int) - (q : Int)) = (b.length : Int) - (q : Int) := IntWalk.i64_in _ (by omega)
    simp only at ho
    by_cases hneg : r1 < 0
    · rw [if_pos (.inl hneg)] at ho
      have HQ := Lib.hid (show o = none from ho.symm)
      have p1 : decide (r1 < 0) = true := decide_eq_true hneg
      have PQ := Lib.hid hpq2
      clear ho hnn hr hneg hrl e1 hpq2
      go_upto_region 2 with (fail)
      go_quiet (fail)
      have H3 : ∃ w3 : World, w2.drewN nq = w3 ∧ Kst b w0 w g gb ga c w3 q [] none 0 := ⟨_, rfl, S2.out.later (pw_below_drewN (Below.refl _ _) _)⟩
      obtain ⟨w3, hw3, s3⟩ := H3
      rw [hw3]
      have S3 := Lib.hid s3
      obtain ⟨k0, k1, k2, f0, f1, f2⟩ := s3.v.cells
      obtain ⟨m0, m1, m2, t0, t1, t2⟩ := s3.a.cells
      simp only [List.length_nil] at k2
      clear s3 hw3 x0 x1
      go_wp2_with fail
      refine bodyPost_ret (results_ct rfl _ _ ga 24 #[.int .i64 c, .int .i64 0, .slice none 0 0] (0, 0) _ rfl (S3.out.a.set ⟨c, 0, []⟩ none 0) Try.underlying24 rfl (by kernel_rfl)) rfl ?_
      refine ⟨⟨c, 0, []⟩, .slice none 0 0, false, q, rfl, ((S3.out.r.set wga (S3.out.r.ne S3.out.a) (Nat.le_trans HB.out.size wga) _).set wga (S3.out.r.ne S3.out.a) (Nat.le_trans HB.out.size wga) _).set wga (S3.out.r.ne S3.out.a) (Nat.le_trans HB.out.size wga) _, by omega, Kd.N_nil _ _ _ _ _, ?_⟩
      rw [HQ.out]
    · have p1 : decide (r1 < 0) = false := decide_eq_false hneg
      obtain ⟨m, rfl⟩ : ∃ m : Nat, r1 = m := ⟨r1.toNat, by omega⟩
      by_cases hbig : (b.length : Int) - (q : Int) < (m : Int)
      · rw [if_pos (.inr (by omega))] at ho
        have HQ := Lib.hid (show o = none from ho.symm)
        have p2 : decide ((b.length : Int) - (q : Int) < (m : Int)) = true := decide_eq_true hbig
        clear ho hnn hr hneg hrl hbig
        go_upto_region 2 with (fail)
        go_quiet (fail)
        have H3 : ∃ w3 : World, w2.drewN nq = w3 ∧ Kst b w0 w g gb ga c w3 q [] none 0 := ⟨_, rfl, S2.out.later (pw_below_drewN (Below.refl _ _) _)⟩
        obtain ⟨w3, hw3, s3⟩ := H3
        rw [hw3]
        have S3 := Lib.hid s3
        obtain ⟨k0, k1, k2, f0, f1, f2⟩ := s3.v.cells
        obtain ⟨m0, m1, m2, t0, t1, t2⟩ := s3.a.cells
        simp only [List.length_nil] at k2
        clear s3 hw3 x0 x1 e1 p2
        go_wp2_with fail
        refine bodyPost_ret (results_ct rfl _ _ ga 24 #[.int .i64 c, .int .i64 0, .slice none 0 0] (0, 0) _ rfl (S3.out.a.set ⟨c, 0, []⟩ none 0) Try.underlying24 rfl (by kernel_rfl)) rfl ?_
        refine ⟨⟨c, 0, []⟩, .slice none 0 0, false, q, rfl, ((S3.out.r.set wga (S3.out.r.ne S3.out.a) (Nat.le_trans HB.out.size wga) _).set wga (S3.out.r.ne S3.out.a) (Nat.le_trans HB.out.size wga) _).set wga (S3.out.r.ne S3.out.a) (Nat.le_trans HB.out.size wga) _, by omega, Kd.N_nil _ _ _ _ _, ?_⟩
        rw [HQ.out]
      · rw [if_neg (by omega)] at ho
        have p2 : decide ((b.length : Int) - (q : Int) < (m : Int)) = false := decide_eq_false hbig
        have hmb : m + q ≤ b.length := by omega
        have HO := Lib.hid ho
        have HR := Lib.hid hr
        clear ho hnn hr hneg hrl hbig
        go_upto_region 2 with (fail)
        go_quiet (fail)
        have H3 : ∃ w3 : World, w2.drewN nq = w3 ∧ Kst b w0 w g gb ga c w3 q [] none 0 := ⟨_, rfl, S2.out.later (pw_below_drewN (Below.refl _ _) _)⟩
        obtain ⟨w3, hw3, s3⟩ := H3
        rw [hw3]
        have S3 := Lib.hid s3
        clear s3 hw3 x0 x1 e1 p2 S2
        go_wp2_with fail
        go_loopw [37] (fun i wr => ∃ (j q2 : Nat) (l : List S24) (B : Option Addr) (d : Nat), i = .int .i64 j ∧ j ≤ m ∧ l.length = j ∧ p < q2 ∧ Hid (Kst b w0 w g gb ga c wr q2 l B d) ∧
          Hid (dvL f m r = match dvL f (m - j) (b.drop q2) with | none => none | some (l2, r2) => some (l ++ l2, r2))) (fun i _ => m - (intOf i).toNat)
        case atStart => exact ⟨0, q, [], none, 0, rfl, by omega, rfl, hpq2, S3, Lib.hid (by rw [Nat.sub_zero, HR.out]; cases dvL f m r with | none => rfl | some z => rfl)⟩
        case round =>
          clear S3
          obtain ⟨j, q2, l, B, d, rfl, hj, hll, hpq3, S4, HD⟩ := hrel
          have q2b := S4.out.r.le
          by_cases hx : (j : Int) < (m : Int)
          · have hx1 := decide_eq_true hx
            have hlt : j < m := by omega
            have e1 : IntKind.i64.wrap ((j : Int) + 1) = (j : Int) + 1 := IntWalk.i64_in _ (by omega)
            have CALL := Lib.hid (IH.out wr q2 hpq3 S4.out.r.is S4.out.r.below q2b)
            have hst : dvL f (m - j) (b.drop q2) = match f (b.drop q2) with
              | none => none
              | some (x, r) => match dvL f (m - (j + 1)) r with
                | none => none
                | some (l, r2) => some (x :: l, r2) := by
              rw [show m - j = (m - (j + 1)) + 1 by omega]; rfl
            have HST := Lib.hid hst
            have HLL := Lib.hid hll
            clear hst hll
            go_wp2_with fail
            refine CALL.out.mono ?_
            rintro e w4 ⟨y, v, ok, q4, rfl, s4, hq4, hN, hm⟩
            obtain ⟨B', d', rfl⟩ := Kd.N_slice hN
            obtain ⟨_, q5, q6⟩ := Kd.N_reads' hN
            have S5 := Lib.hid (S4.out.call (.inr glt) s4 (fun k hk => by omega))
            have N5 := Lib.hid (Kd.N_bound hN)
            have HLT := Lib.hid (Kd.N_lt S4.out.n)
            have HM := Lib.hid hm; have HQ4 := Lib.hid hq4
            have wr4 : w.heap.size ≤ wr.heap.size := S4.out.r.keep.1
            have gbl : gb < wr.heap.size := blk_lt S4.out.v
            have gal : ga < wr.heap.size := blk_lt S4.out.a
            clear hm hN s4 S4 CALL hq4 q6
            go_upto_region 7 with (fail)
            obtain ⟨gk, hgk⟩ : ∃ g, w4.heap.size = g := ⟨_, rfl⟩
            have H6 : ∃ w6 : World, w4.alloc (.cells #[.int .i64 y.f0, .int .i64 y.f1, .slice B' y.f2.length d'] 24) = w6 ∧ Var w6 gk y B' d' ∧ Kst b w0 w g gb ga c w6 q4 l B d ∧ Kd.N k24 24 w6 w0.heap.size (fun k => wr.heap.size ≤ k ∧ k < w4.heap.size) (.slice B' y.f2.length d') y.f2 :=
              ⟨_, rfl, by rw [← hgk]; exact blk_new w4 _, S5.out.later (below_alloc (Below.refl _ _) _), Kd.N_alloc N5.out _⟩
            rw [hgk]
            obtain ⟨w6, hw6, v6, s6, n6⟩ := H6
            rw [hw6]
            have V6 := Lib.hid v6; have S6 := Lib.hid s6; have N6 := Lib.hid n6; have GK := Lib.hid hgk
            clear hgk hw6 v6 s6 n6 N5 S5
            obtain ⟨k0, k1, k2, f0, f1, f2⟩ := S6.out.v.cells
            cases ok with
            | false =>
              obtain ⟨m0, m1, m2, t0, t1, t2⟩ := S6.out.a.cells
              have HQ := Lib.hid (show o = none by
                have h1 := HM.out
                have h2 := HST.out
                have h3 := HD.out
                have h4 := HO.out
                cases hf : f (b.drop q2) with
                | none => rw [hf] at h2; rw [h2] at h3; rw [Int.toNat_natCast, h3] at h4; exact h4.symm
                | some z => rw [hf] at h1; exact absurd h1.1 (by decide))
              go_wp2_with fail
              refine bodyPost_ret (results_ct rfl _ _ ga 24 #[.int .i64 c, .int .i64 0, .slice B l.length d] (0, 0) _ rfl (S6.out.a.set ⟨c, 0, l⟩ B d) Try.underlying24 rfl (by kernel_rfl)) rfl ?_
              refine ⟨⟨c, 0, l⟩, .slice B l.length d, false, q4, rfl, ((S6.out.r.set wga (S6.out.r.ne S6.out.a) (Nat.le_trans HB.out.size wga) _).set wga (S6.out.r.ne S6.out.a) (Nat.le_trans HB.out.size wga) _).set wga (S6.out.r.ne S6.out.a) (Nat.le_trans HB.out.size wga) _, by have := HQ4.out; omega, ?_, ?_⟩
              · exact Kd.N_mono (Kd.N_far (Kd.N_far (Kd.N_far S6.out.n (fun _ hk => hk.2.2) _) (fun _ hk => hk.2.2) _) (fun _ hk => hk.2.2) _) (fun _ hk => hk.1)
              · rw [HQ.out]
            | true =>
              obtain ⟨y0, y1, y2, _⟩ := V6.out.cells
              go_upto_region 9 with (fail)
              have bw := S6.out.r.below
              have bz := bw.size
              have BW := Lib.hid bw; have BZ := Lib.hid bz
              have hl40 : (l.length + 1) * 40 ≤ 140737488355328 := by have := HLL.out; omega
              have HFK := Lib.hid (k24_mkF w6 (fun k => wr.heap.size ≤ k ∧ k < w4.heap.size) y q5 (Kd.N_F N6.out))
              have HOK : Hid (∀ k, wr.heap.size ≤ k ∧ k < w4.heap.size → (w.heap.size ≤ k ∧ k ≠ gb ∧ k ≠ ga) ∧ some k ≠ (Value.slice B l.length d).ownBlock) := Lib.hid (fun k hk => ⟨⟨by omega, by omega, by omega⟩, fun he => by
                have := HLT.out k he.symm
                omega⟩)
              have HFR : Hid (∀ k, w6.heap.size ≤ k → w.heap.size ≤ k ∧ k ≠ gb ∧ k ≠ ga) := Lib.hid (fun k hk => by
                have h1 := blk_lt S6.out.v
                have h2 := blk_lt S6.out.a
                have h3 := S6.out.r.keep.1
                exact ⟨by omega, by omega, by omega⟩)
              have NGB := Lib.hid (Kd.N_away (g := gb) S6.out.n (fun k hk => hk.2.1))
              have NGA := Lib.hid (Kd.N_away (g := ga) S6.out.n (fun k hk => hk.2.2))
              have NG := Lib.hid (Kd.N_away (g := g) S6.out.n (fun k hk => by omega))
              go_wp2_with ((with_reducible refine gate_builtin (b := .append) (xs := #[.tmp 48, .tmp 50]) rfl ?_); at_builtin; refine Kd.N_append k24 (w0 := w0) w0.heap.size rfl (.tmp 48) (.tmp 50) 22 24 (.agg #[(.int .i64 0), (.int .i64 0), (.slice none 0 0)]) 40 rfl Try.underlying22 info24 rfl (by decide) (by decide) (.slice B l.length d) l y [.int .i64 y.f0, .int .i64 y.f1, .slice B' y.f2.length d'] (fun k => w.heap.size ≤ k ∧ k ≠ gb ∧ k ≠ ga) (fun k => wr.heap.size ≤ k ∧ k < w4.heap.size) rfl rfl HFK.out HOK.out HFR.out S6.out.n BW.out BZ.out hl40 ?_; intro v7 w7 h1 h2 h3 h4; obtain ⟨B7, d7, rfl⟩ := Kd.N_slice h1; have v7 : Var w7 gb ⟨c, 0, l⟩ B d := blk_grown S6.out.v h3 NGB.out; obtain ⟨y0, y1, y2, y3, y4, y5⟩ := Var.cells v7; have V7 := Lib.hid v7; have N7 := Lib.hid h1; have B7_ := Lib.hid h2; have G7 := Lib.hid h3; have A7 := Lib.hid h4; clear v7 h1 h2 h3 h4)
              go_roundw
              case rel =>
                refine ⟨j + 1, q4, l ++ [y], B7, d7, by push_cast; rfl, by omega, by rw [List.length_append, HLL.out]; rfl, by have := HQ4.out; omega, Lib.hid ⟨?_, by have h := Var.set2 V7.out (l ++ [y]) B7 d7; simpa using h, Var.far (blk_grown S6.out.a G7.out NGA.out) NAB.out _, Kd.N_far N7.out (fun _ hk => hk.2.1) _⟩, Lib.hid ?_⟩
                · have r7 : Rst b w0 w g w7 q4 := ⟨S6.out.r.is.grown G7.out NG.out, B7_.out, S6.out.r.keep.trans (KeepBut.of_grown G7.out g) (by
                    rcases ho : (Value.slice B l.length d).ownBlock with _ | k
                    · exact .inl rfl
                    · exact .inr ⟨k, rfl, (S6.out.n.1 k ho).1⟩), S6.out.r.le⟩
                  exact r7.set wgb (r7.ne V7.out) (Nat.le_trans HB.out.size wgb) _
                · have h1 := HM.out
                  have h2 := HST.out
                  have h3 := HD.out
                  cases hf : f (b.drop q2) with
                  | none => rw [hf] at h1; exact absurd (show true = false from h1) (by decide)
                  | some z =>
                    obtain ⟨z1, z2⟩ := z
                    rw [hf] at h1 h2
                    obtain ⟨_, rfl, h5, _⟩ := h1
                    rw [h3, h2, h5]
                    simp only
                    cases dvL f (m - (j + 1)) z2 with
                    | none => rfl
                    | some z => simp
              case measure => simp [intOf]; omega
          · have hx1 := decide_eq_false hx
            have hne : j = m := by omega
            have HNE := Lib.hid hne
            have HLL := Lib.hid hll
            clear hne hll
            obtain ⟨k0, k1, k2, f0, f1, f2⟩ := S4.out.v.cells
            obtain ⟨m0, m1, m2, t0, t1, t2⟩ := S4.out.a.cells
            go_wp2_with fail
            refine bodyPost_ret (results_ct rfl _ _ ga 24 #[.int .i64 c, .int .i64 0, .slice B l.length d] (0, 0) _ rfl (S4.out.a.set ⟨c, 0, l⟩ B d) Try.underlying24 rfl (by kernel_rfl)) rfl ?_
            refine ⟨⟨c, 0, l⟩, .slice B l.length d, true, q2, rfl, ((S4.out.r.set wga (S4.out.r.ne S4.out.a) (Nat.le_trans HB.out.size wga) _).set wga (S4.out.r.ne S4.out.a) (Nat.le_trans HB.out.size wga) _).set wga (S4.out.r.ne S4.out.a) (Nat.le_trans HB.out.size wga) _, by omega, ?_, ?_⟩
            · exact Kd.N_mono (Kd.N_far (Kd.N_far (Kd.N_far S4.out.n (fun _ hk => hk.2.2) _) (fun _ hk => hk.2.2) _) (fun _ hk => hk.2.2) _) (fun _ hk => hk.1)
            · have h3 := HD.out
              have h4 := HO.out
              rw [HNE.out, Nat.sub_self] at h3
              simp only [dvL, List.append_nil] at h3
              rw [Int.toNat_natCast, h3] at h4
              rw [← h4]
              exact ⟨rfl, rfl, rfl, hpq3⟩
theorem value_n (b : List Int) (hb : Bytes b) (hl : b.length ≤ 1000000000000) : ∀ (n : Nat) (w0 w : World) (g p : Nat), b.length - p < n → PC.IsS107 w0 w g b (p : Int) → Below w0.heap.size w0 w → p ≤ b.length →
    Calls Try.prog 71 #[.pointer (some ⟨g, 0, none⟩)] w (ValP b w0 w g p (dv n (b.drop p))) := by
  intro n
  induction n with
  | zero => intro w0 w g p h; omega
  | succ n ih =>
    intro w0 w g p h hI hB hp
    have h1 := value_of b hb (by omega) (dv n) w0 w g p hI hB hp (fun c W q hq hc hI2 hB2 hq2 => kids_of b hb hl (dv n) c hc w0 W g q hI2 hB2 hq2 (fun W2 q2 hq3 hI3 hB3 hq4 => ih w0 W2 g q2 (by omega) hI3 hB3 hq4))
    revert h1
    cases b.drop p with
    | nil => exact fun h1 => h1
    | cons c s => exact fun h1 => h1
end Go.Proofs.Ytggdpeeiioibgaa.E
namespace Go.Proofs.Ytggdpeeiioibgaa.E
open Go.RowKit Go.Proofs.YtggdpeeiioibgaaW.PrintWords Go.Proofs.YtggdpeeiioibgaaW.PrintLast Go.Proofs.YtggdpeeiioibgaaW.PrintMore Go.Proofs.Ytggdpeeiioibgaa.Kinds Go.Proofs.Ytggdpeeiioibgaa.Obj
set_option linter.unusedVariables false
set_option linter.unusedSimpArgs false

/-- the value of some bytes, or why there is none. -/
def read (b : List Int) : S24 × Int := match dv (b.length + 1) b with | some (x, []) => (x, 0) | _ => (z24, 1)
set_option maxHeartbeats 8000000 in
set_option maxRecDepth 100000 in
theorem read_is (b : List Int) (hb : Bytes b) (hl : b.length ≤ 1000000000000) (A : Option Addr) (c : Nat) (w : World) (hc : b.length ≤ c) (hr : Kd.C (Kd.int .u8) w A b.length b) :
    Calls Try.prog 32 #[.slice A b.length c] w fun e w' => ∃ v, e = .returned (.tuple #[.agg #[.int .i64 (read b).1.f0, .int .i64 (read b).1.f1, v], .int .i64 (read b).2]) ∧ Kd.N k24 24 w' w.heap.size (fun k => w.heap.size ≤ k) v (read b).1.f2 ∧ Below w.heap.size w w' := by
  have hu24 := Try.underlying24
  have hu107 := Try.underlying107
  obtain ⟨ga, hga⟩ : ∃ ga, w.heap.size = ga := ⟨_, rfl⟩
  obtain ⟨g, hg⟩ : ∃ ga, w.heap.size + 1 = ga := ⟨_, rfl⟩
  have G : Hid (∃ w1 : World, (w.alloc (.cells #[.int .i64 0, .int .i64 0, .slice none 0 0] 24)).alloc (.cells #[.slice A b.length c, .int .i64 0] 107) = w1 ∧ Var w1 ga z24 none 0 ∧ PC.IsS107 w w1 g b ((0 : Nat) : Int) ∧ Below w.heap.size w w1) := by
    refine Lib.hid ⟨_, rfl, ?_, ?_, below_alloc (below_alloc (Below.refl _ _) _) _⟩
    · rw [← hga]; exact blk_alloc (blk_new _ _) _
    · rw [← hg, ← size_al w (.cells #[.int .i64 0, .int .i64 0, .slice none 0 0] 24)]; exact PC.IsS107.new w _ A c b 0 (below_alloc (Below.refl _ _) _) hr
  have wga : w.heap.size ≤ ga := by omega
  have nga : g ≠ ga := by omega
  have GA := Lib.hid hga; have GG := Lib.hid hg; have HBY := Lib.hid hb; have NGA := Lib.hid nga
  have ho : read b = match dv (b.length + 1) b with | some (x, []) => (x, 0) | _ => (z24, 1) := rfl
  obtain ⟨o, ho2⟩ : ∃ o, read b = o := ⟨_, rfl⟩
  rw [ho2] at ho ⊢
  have HO := Lib.hid ho
  clear hr hb hga hg ho ho2 nga
  go_enter Try.func32, Try.ntmps32
  go_upto_region 2 with (fail)
  rw [GG.out, GA.out]
  obtain ⟨w1, hw1, v1, s1, b1⟩ := G.out
  rw [hw1]
  have V1 := Lib.hid v1; have S1 := Lib.hid s1; have B1 := Lib.hid b1
  clear G hw1 v1 s1 b1
  go_wp2_with fail
  refine (value_n b HBY.out hl (b.length + 1) w w1 g 0 (by omega) S1.out B1.out (Nat.zero_le _)).mono ?_
  rintro e w2 ⟨x, v, ok, q, rfl, s2, hpq, hN, hm⟩
  obtain ⟨B, d, rfl⟩ := Kd.N_slice hN
  have V2 := Lib.hid (s2.var V1.out NGA.out)
  have S2 := Lib.hid s2
  have N2 := Lib.hid (Kd.N_mono (Kd.N_bound hN) (ok' := fun k => w.heap.size ≤ k ∧ k ≠ ga ∧ k < w2.heap.size) (fun k hk => ⟨Nat.le_trans B1.out.size hk.1, by have := blk_lt V1.out; omega, hk.2⟩))
  have hqb := s2.le
  rw [List.drop_zero] at hm
  have HM := Lib.hid hm
  clear hN hm s2 S1 V1 hpq
  go_upto_region 3 with (fail)
  obtain ⟨gx, hgx⟩ : ∃ g, w2.heap.size = g := ⟨_, rfl⟩
  have H3 : ∃ w3 : World, w2.alloc (.cells #[.int .i64 x.f0, .int .i64 x.f1, .slice B x.f2.length d] 24) = w3 ∧ Var w3 ga z24 none 0 ∧ Var w3 gx x B d ∧ Rst b w w1 g w3 q ∧ Kd.N k24 24 w3 w.heap.size (fun k => w.heap.size ≤ k ∧ k ≠ ga ∧ k < w2.heap.size) (.slice B x.f2.length d) x.f2 :=
    ⟨_, rfl, V2.out.alloc _, by rw [← hgx]; exact blk_new w2 _, S2.out.later (below_alloc (Below.refl _ _) _), Kd.N_alloc N2.out _⟩
  rw [hgx]
  obtain ⟨w3, hw3, v3, x3, s3, n3⟩ := H3
  rw [hw3]
  have V3 := Lib.hid v3; have S3 := Lib.hid s3; have N3 := Lib.hid n3
  obtain ⟨k0, k1, k2, f0, f1, f2⟩ := x3.cells
  obtain ⟨m0, m1, m2, t0, t1, t2⟩ := v3.cells
  obtain ⟨A0, c0, hcell, hgw, hrd⟩ := s3.is
  have x1 := PC.cellS107_1 hcell
  clear hcell hgw hrd
  clear hgx hw3 v3 x3 s3 n3 V2 S2 N2
  cases ok with
  | false =>
    have HQ := Lib.hid (show o = (z24, 1) by
      have h1 := HM.out
      have h2 := HO.out
      cases hd : dv (b.length + 1) b with
      | none => rw [hd] at h2; exact h2
      | some z => rw [hd] at h1; exact absurd h1.1 (by decide))
    go_wp2_with fail
    rw [HQ.out]
    refine bodyPost_ret (results_ct rfl _ _ ga 24 #[.int .i64 0, .int .i64 0, .slice none 0 0] (0, 0) _ rfl (V3.out.set z24 none 0) Try.underlying24 rfl (by kernel_rfl)) rfl ?_
    exact ⟨_, rfl, Kd.N_nil _ _ _ _ _, below3 S3.out.below wga⟩
  | true =>
    by_cases hq : q = b.length
    · have HQ := Lib.hid (show o = (x, 0) by
        have h1 := HM.out
        have h2 := HO.out
        cases hd : dv (b.length + 1) b with
        | none => rw [hd] at h1; exact absurd (show true = false from h1) (by decide)
        | some z =>
          obtain ⟨z1, z2⟩ := z
          rw [hd] at h1 h2
          obtain ⟨_, rfl, h5, _⟩ := h1
          rw [hq, List.drop_length] at h5
          subst h5
          exact h2)
      have p1 : ((q : Int) == (b.length : Int)) = true := by rw [beq_iff_eq, hq]
      have p2 : ((q : Int) != (b.length : Int)) = false := by rw [hq]; simp
      clear hq
      go_wp2_with fail
      rw [HQ.out]
      refine bodyPost_ret (results_ct rfl _ _ ga 24 #[.int .i64 x.f0, .int .i64 x.f1, .slice B x.f2.length d] (0, 0) _ rfl (V3.out.set x B d) Try.underlying24 rfl (by kernel_rfl)) rfl ?_
      exact ⟨_, rfl, Kd.N_mono (Kd.N_far (Kd.N_far (Kd.N_far N3.out (fun _ hk => hk.2.1) _) (fun _ hk => hk.2.1) _) (fun _ hk => hk.2.1) _) (fun _ hk => hk.1), below3 S3.out.below wga⟩
    · have HQ := Lib.hid (show o = (z24, 1) by
        have h1 := HM.out
        have h2 := HO.out
        cases hd : dv (b.length + 1) b with
        | none => rw [hd] at h2; exact h2
        | some z =>
          obtain ⟨z1, z2⟩ := z
          rw [hd] at h1 h2
          obtain ⟨_, rfl, h5, _⟩ := h1
          have h6 : z2 ≠ [] := by
            rw [← h5]; intro he
            have := congrArg List.length he
            rw [List.length_drop] at this
            simp at this
            omega
          cases z2 with
          | nil => exact absurd rfl h6
          | cons _ _ => exact h2)
      have p1 : ((q : Int) == (b.length : Int)) = false := by rw [beq_eq_false_iff_ne]; omega
      have p2 : ((q : Int) != (b.length : Int)) = true := by rw [bne_iff_ne]; omega
      clear hq
      go_wp2_with fail
      rw [HQ.out]
      refine bodyPost_ret (results_ct rfl _ _ ga 24 #[.int .i64 0, .int .i64 0, .slice none 0 0] (0, 0) _ rfl (V3.out.set z24 none 0) Try.underlying24 rfl (by kernel_rfl)) rfl ?_
      exact ⟨_, rfl, Kd.N_nil _ _ _ _ _, below3 S3.out.below wga⟩
end Go.Proofs.Ytggdpeeiioibgaa.E
namespace Go.Proofs.Ytggdpeeiioibgaa.E
open Go.RowKit Go.Proofs.YtggdpeeiioibgaaW.PrintWords Go.Proofs.YtggdpeeiioibgaaW.PrintLast Go.Proofs.YtggdpeeiioibgaaW.PrintMore Go.Proofs.Ytggdpeeiioibgaa.Kinds Go.Proofs.Ytggdpeeiioibgaa.Obj
set_option linter.unusedVariables false
set_option linter.unusedSimpArgs false

/-- values, one behind the other; N: how deep each may be. -/
def upk (N : Nat) : Nat → List Int → Option (List S24)
  | 0, _ => none
  | _ + 1, [] => some []
  | n + 1, c :: s => match dv N (c :: s) with
    | none => none
    | some (x, r) => match upk N n r with
      | none => none
      | some l => some (x :: l)
/-- the values of some bytes, or why there are none. -/
def unpack (b : List Int) : List S24 × Int := match upk (b.length + 1) (b.length + 1) b with | some l => (l, 0) | none => ([], 1)
set_option maxHeartbeats 8000000 in
set_option maxRecDepth 100000 in
theorem unpack_is (b : List Int) (hb : Bytes b) (hl : b.length ≤ 1000000000000) (A : Option Addr) (c : Nat) (w : World) (hc : b.length ≤ c) (hr : Kd.C (Kd.int .u8) w A b.length b) :
    Calls Try.prog 35 #[.slice A b.length c] w fun e w' => ∃ v, e = .returned (.tuple #[v, .int .i64 (unpack b).2]) ∧ Kd.N k24 24 w' w.heap.size (fun k => w.heap.size ≤ k) v (unpack b).1 ∧ Below w.heap.size w w' := by
  have hu24 := Try.underlying24
  have hu107 := Try.underlying107
  obtain ⟨g, hg⟩ : ∃ ga, w.heap.size = ga := ⟨_, rfl⟩
  have G : Hid (∃ w1 : World, w.alloc (.cells #[.slice A b.length c, .int .i64 0] 107) = w1 ∧ PC.IsS107 w w1 g b ((0 : Nat) : Int) ∧ Below w.heap.size w w1 ∧ w1.heap.size = g + 1) :=
    Lib.hid ⟨_, rfl, by rw [← hg]; exact PC.IsS107.new w _ A c b 0 (Below.refl _ _) hr, below_alloc (Below.refl _ _) _, by rw [← hg, size_al]⟩
  have GG := Lib.hid hg; have HBY := Lib.hid hb
  have ho : unpack b = match upk (b.length + 1) (b.length + 1) b with | some l => (l, 0) | none => ([], 1) := rfl
  obtain ⟨o, ho2⟩ : ∃ o, unpack b = o := ⟨_, rfl⟩
  rw [ho2] at ho ⊢
  have HO := Lib.hid ho
  clear hr hb hg ho ho2
  go_enter Try.func35, Try.ntmps35
  go_upto_region 2 with (fail)
  rw [GG.out]
  obtain ⟨w1, hw1, s1, b1, z1⟩ := G.out
  have Z1 := Lib.hid z1
  rw [hw1]
  have S1 := Lib.hid (Rst.start s1 b1 (Nat.zero_le _)); have B1 := Lib.hid b1
  clear G hw1 s1 b1 z1
  go_wp2_with fail
  go_loopg [5] (b.length + 1) (fun n v wr => ∃ (q : Nat) (l : List S24), b.length < q + n ∧ Hid (l.length ≤ q) ∧ Hid (Kd.N k24 24 wr w.heap.size (fun k => w.heap.size ≤ k ∧ k ≠ g) v l) ∧ Hid (Rst b w w1 g wr q) ∧
    Hid (upk (b.length + 1) (b.length + 1) b = match upk (b.length + 1) n (b.drop q) with | none => none | some l2 => some (l ++ l2)))
  case atStart => exact ⟨0, [], by omega, Lib.hid (Nat.le_refl _), Lib.hid (Kd.N_nil _ _ _ _ _), S1, Lib.hid (by rw [List.drop_zero]; cases upk (b.length + 1) (b.length + 1) b with | none => rfl | some z => rfl)⟩
  case round =>
    clear S1
    obtain ⟨q, l, hqn, HLQ, HN, S2, HD⟩ := hrel
    have hqb := S2.out.le
    cases gk with
    | zero => exact absurd hqn (by omega)
    | succ n =>
      obtain ⟨A0, c0, hcell, hgw, hrd⟩ := S2.out.is
      have x1 := PC.cellS107_1 hcell
      clear hcell hgw hrd
      by_cases hx : (q : Int) < (b.length : Int)
      · have hx1 := decide_eq_true hx
        have CALL := Lib.hid (value_n b HBY.out hl (b.length + 1) w wr g q (by omega) S2.out.is S2.out.below hqb)
        have hd := List.drop_eq_getElem_cons (show q < b.length by omega)
        have hst : upk (b.length + 1) (n + 1) (b.drop q) = match dv (b.length + 1) (b.drop q) with
            | none => none
            | some (x, r) => match upk (b.length + 1) n r with
              | none => none
              | some l => some (x :: l) := by
          rw [hd]; rfl
        have HST := Lib.hid hst
        clear hst hd
        go_wp2_with fail
        refine CALL.out.mono ?_
        rintro e w3 ⟨x, v, ok, q3, rfl, s3, hq3, hN, hm⟩
        obtain ⟨B, d, rfl⟩ := Kd.N_slice hN
        obtain ⟨_, q5, _⟩ := Kd.N_reads' hN
        have N3 := Lib.hid (Kd.N_bound hN)
        have L3 := Lib.hid (Kd.N_keep HN.out s3.keep (fun k hk => hk.2))
        have HLT := Lib.hid (Kd.N_lt HN.out)
        have S3 := Lib.hid (S2.out.call s3)
        have HM := Lib.hid hm
        have glt : g < wr.heap.size := S2.out.is.lt
        have wwr : w.heap.size ≤ wr.heap.size := S2.out.below.size
        clear hN hm s3 S2 HN CALL x1
        go_upto_region 5 with (fail)
        obtain ⟨gk, hgk⟩ : ∃ g, w3.heap.size = g := ⟨_, rfl⟩
        have H4 : ∃ w4 : World, w3.alloc (.cells #[.int .i64 x.f0, .int .i64 x.f1, .slice B x.f2.length d] 24) = w4 ∧ Var w4 gk x B d ∧ Rst b w w1 g w4 q3 ∧ Kd.N k24 24 w4 w.heap.size (fun k => wr.heap.size ≤ k ∧ k < w3.heap.size) (.slice B x.f2.length d) x.f2 ∧ Kd.N k24 24 w4 w.heap.size (fun k => w.heap.size ≤ k ∧ k ≠ g) u5 l :=
          ⟨_, rfl, by rw [← hgk]; exact blk_new w3 _, S3.out.later (below_alloc (Below.refl _ _) _), Kd.N_alloc N3.out _, Kd.N_alloc L3.out _⟩
        rw [hgk]
        obtain ⟨w4, hw4, v4, s4, n4, l4⟩ := H4
        rw [hw4]
        have V4 := Lib.hid v4; have S4 := Lib.hid s4; have N4 := Lib.hid n4; have L4 := Lib.hid l4
        obtain ⟨k0, k1, k2, _⟩ := v4.cells
        clear hgk hw4 v4 s4 n4 l4 N3 L3 S3
        cases ok with
        | false =>
          have HQ := Lib.hid (show o = ([], 1) by
            have h1 := HM.out
            have h2 := HST.out
            have h3 := HD.out
            have h4 := HO.out
            cases hf : dv (b.length + 1) (b.drop q) with
            | none => rw [hf] at h2; rw [h2] at h3; rw [h3] at h4; exact h4
            | some z => rw [hf] at h1; exact absurd h1.1 (by decide))
          go_wp2_with fail
          rw [HQ.out]
          go_ret2
          exact ⟨_, rfl, Kd.N_nil _ _ _ _ _, S4.out.below⟩
        | true =>
          have bw := S4.out.below
          have bz := bw.size
          have BW := Lib.hid bw; have BZ := Lib.hid bz
          have hl40 : (l.length + 1) * 40 ≤ 140737488355328 := by have := HLQ.out; omega
          have HFK := Lib.hid (k24_mkF w4 (fun k => wr.heap.size ≤ k ∧ k < w3.heap.size) x q5 (Kd.N_F N4.out))
          have HOK : Hid (∀ k, wr.heap.size ≤ k ∧ k < w3.heap.size → (w.heap.size ≤ k ∧ k ≠ g) ∧ some k ≠ u5.ownBlock) := Lib.hid (fun k hk => ⟨⟨by omega, by omega⟩, fun he => by
            have := HLT.out k he.symm
            omega⟩)
          have HFR : Hid (∀ k, w4.heap.size ≤ k → w.heap.size ≤ k ∧ k ≠ g) := Lib.hid (fun k hk => by
            have h1 := S4.out.is.lt
            exact ⟨by omega, by omega⟩)
          have NG := Lib.hid (Kd.N_away (g := g) L4.out (fun k hk => hk.2))
          go_wp2_with ((with_reducible refine gate_builtin (b := .append) (xs := #[.tmp 21, .tmp 23]) rfl ?_); at_builtin; refine Kd.N_append k24 (w0 := w) w.heap.size rfl (.tmp 21) (.tmp 23) 22 24 (.agg #[(.int .i64 0), (.int .i64 0), (.slice none 0 0)]) 40 rfl Try.underlying22 info24 rfl (by decide) (by decide) u5 l x [.int .i64 x.f0, .int .i64 x.f1, .slice B x.f2.length d] (fun k => w.heap.size ≤ k ∧ k ≠ g) (fun k => wr.heap.size ≤ k ∧ k < w3.heap.size) rfl rfl HFK.out HOK.out HFR.out L4.out BW.out BZ.out hl40 ?_; intro v7 w7 h1 h2 h3 h4; have N7 := Lib.hid h1; have B7_ := Lib.hid h2; have G7 := Lib.hid h3; clear h1 h2 h3 h4)
          go_roundg n
          case measure => omega
          case rel =>
            have h1 := HM.out
            have h2 := HST.out
            have h3 := HD.out
            cases hf : dv (b.length + 1) (b.drop q) with
            | none => rw [hf] at h1; exact absurd (show true = false from h1) (by decide)
            | some z =>
              obtain ⟨z1, z2⟩ := z
              rw [hf] at h1 h2
              obtain ⟨_, rfl, h5, h6⟩ := h1
              refine ⟨q3, l ++ [x], by omega, Lib.hid (by have := HLQ.out; rw [List.length_append]; simp; omega), N7, Lib.hid ⟨S4.out.is.grown G7.out NG.out, B7_.out, S4.out.keep.trans (KeepBut.of_grown G7.out g) (by
                    rcases ho : u5.ownBlock with _ | k
                    · exact .inl rfl
                    · have h8 := L4.out.1 k ho
                      exact .inr ⟨k, rfl, by have := Z1.out; have := GG.out; omega⟩), S4.out.le⟩, Lib.hid ?_⟩
              rw [h3, h2, h5]
              simp only
              cases upk (b.length + 1) n z2 with
              | none => rfl
              | some z => simp
      · have hx1 := decide_eq_false hx
        have hne : q = b.length := by omega
        have HQ := Lib.hid (show o = (l, 0) by
          have h3 := HD.out
          have h4 := HO.out
          rw [hne, List.drop_length] at h3
          simp only [upk, List.append_nil] at h3
          rw [h3] at h4
          exact h4)
        clear hne
        go_wp2_with fail
        rw [HQ.out]
        go_ret2
        exact ⟨_, rfl, Kd.N_mono HN.out (fun _ hk => hk.1), S2.out.below⟩
end Go.Proofs.Ytggdpeeiioibgaa.E
