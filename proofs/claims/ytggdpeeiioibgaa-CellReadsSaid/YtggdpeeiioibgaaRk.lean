/- Marline, layer 08: the parts of values are read out of bytes, by the program. Conditions: as each says. -/
import Derived.Test.YtggdpeeiioibgaaRv
namespace Go.Proofs.Ytggdpeeiioibgaa.E
open Go.RowKit Go.Proofs.YtggdpeeiioibgaaW.PrintWords Go.Proofs.YtggdpeeiioibgaaW.PrintLast Go.Proofs.YtggdpeeiioibgaaW.PrintMore Go.Proofs.Ytggdpeeiioibgaa.Kinds Go.Proofs.Ytggdpeeiioibgaa.Obj
set_option linter.unusedVariables false
set_option linter.unusedSimpArgs false

/-- what is known in the midst of kids: the value in block gb, the result in ga. -/
structure Kst (b : List Int) (w0 w : World) (g gb ga : Nat) (c : Int) (W : World) (q : Nat) (l : List S24) (B : Option Addr) (d : Nat) : Prop where
  r : Rst b w0 w g W q
  v : Var W gb ⟨c, 0, l⟩ B d
  a : Var W ga z24 none 0
  n : Kd.N k24 24 W w0.heap.size (fun k => w.heap.size ≤ k ∧ k ≠ gb ∧ k ≠ ga) (.slice B l.length d) l
section
variable {b : List Int} {w0 w W W' : World} {g gb ga q q' : Nat} {c : Int} {l : List S24} {B : Option Addr} {d : Nat}
theorem Kst.later (h : Kst b w0 w g gb ga c W q l B d) (hb : Below W.heap.size W W') : Kst b w0 w g gb ga c W' q l B d := ⟨h.r.later hb, h.v.below hb, h.a.below hb, Kd.N_below h.n hb⟩
theorem Kst.call (h : Kst b w0 w g gb ga c W q l B d) (hg : w.heap.size ≤ g ∨ g < w.heap.size) (k : Rst b w0 W g W' q') (hN : ∀ k, w.heap.size ≤ k ∧ k ≠ gb ∧ k ≠ ga → k ≠ g) : Kst b w0 w g gb ga c W' q' l B d :=
  ⟨h.r.call k, k.var h.v (h.r.ne h.v), k.var h.a (h.r.ne h.a), Kd.N_keep h.n k.keep hN⟩
end
set_option maxHeartbeats 8000000 in
set_option maxRecDepth 100000 in
theorem kids_of (b : List Int) (hb : Bytes b) (hl : b.length ≤ 1000000000000) (f : List Int → Option (S24 × List Int)) (c : Int) (hc : c = 2 ∨ c = 3) (w0 w : World) (g p : Nat) (h : PC.IsS107 w0 w g b (p : Int)) (hB : Below w0.heap.size w0 w) (hp : p ≤ b.length)
    (ih : ∀ (W : World) (q : Nat), p < q → PC.IsS107 w0 W g b (q : Int) → Below w0.heap.size w0 W → q ≤ b.length →
      Calls Try.prog 71 #[.pointer (some ⟨g, 0, none⟩)] W (ValP b w0 W g q (f (b.drop q)))) :
    Calls Try.prog 92 #[.pointer (some ⟨g, 0, none⟩), .agg #[.int .i64 c, .int .i64 0, .slice none 0 0]] w (ValP b w0 w g p (dvK f c (b.drop p))) := by
  have hu24 := Try.underlying24
  have HI := Lib.hid h; have HB := Lib.hid hB; have IH := Lib.hid ih; have HBY := Lib.hid hb
  have glt : g < w.heap.size := h.lt
  obtain ⟨gb, hgb⟩ : ∃ ga, w.heap.size = ga := ⟨_, rfl⟩
  obtain ⟨ga, hga⟩ : ∃ ga, w.heap.size + 1 = ga := ⟨_, rfl⟩
  have G : Hid (∃ w1 : World, (w.alloc (.cells #[.int .i64 c, .int .i64 0, .slice none 0 0] 24)).alloc (.cells #[.int .i64 0, .int .i64 0, .slice none 0 0] 24) = w1 ∧ Kst b w0 w g gb ga c w1 p [] none 0) := by
    refine Lib.hid ⟨_, rfl, (Rst.start h hB hp).later (below_alloc (below_alloc (Below.refl _ _) _) _), ?_, ?_, Kd.N_nil _ _ _ _ _⟩
    · rw [← hgb]; exact blk_alloc (blk_new _ _) _
    · rw [← hga, ← size_al w (.cells #[.int .i64 c, .int .i64 0, .slice none 0 0] 24)]; exact blk_new _ _
  have wga : w.heap.size ≤ ga := by omega
  have wgb : w.heap.size ≤ gb := by omega
  have nab : ga ≠ gb := by omega
  have GA := Lib.hid hga; have GB := Lib.hid hgb; have NAB := Lib.hid nab
  obtain ⟨o, ho⟩ : ∃ o, dvK f c (b.drop p) = o := ⟨_, rfl⟩
  rw [ho]
  have HO := Lib.hid (show (match num (b.drop p) with
    | none => none
    | some (m, r) => if m < 0 ∨ (r.length : Int) < m then none else match dvL f m.toNat r with | none => none | some (l, r2) => some (⟨c, 0, l⟩, r2)) = o by
    rw [← ho]
    unfold dvK
    rcases hc with rfl | rfl <;> rw [if_neg (by decide), if_neg (by decide), if_pos (by decide)] <;> rfl)
  clear h hB ih hb hga hgb nab ho hc
  go_enter Try.func92, Try.ntmps92
  go_upto_region 1 with (fail)
  rw [GA.out, GB.out]
  obtain ⟨w1, hw1, s1⟩ := G.out
  rw [hw1]
  have S1 := Lib.hid s1
  clear G hw1 s1
  go_wp2_with fail
  refine (number_is b w0 w1 g p HBY.out (by omega) S1.out.r.is S1.out.r.below hp).mono ?_
  rintro e w2 ⟨r1, r2, q, rfl, s2, hpq, hm⟩
  have S2 := Lib.hid (S1.out.call (.inr glt) s2 (fun k hk => by omega))
  have hqb := s2.le
  clear s2 S1
  obtain ⟨A0, c0, hcell, hgw, hrd⟩ := S2.out.r.is
  have x0 := PC.cellS107_0 hcell
  have x1 := PC.cellS107_1 hcell
  have HRD := Lib.hid hrd
  clear hcell hgw hrd
  have ho := HO.out
  clear HO
  cases hnn : num (b.drop p) with
  | none =>
    rw [hnn] at hm ho
    obtain rfl : r2 = false := hm
    have HQ := Lib.hid (show o = none from ho.symm)
    clear ho hnn
    go_upto_region 2 with (fail)
    go_quiet (fail)
    have H3 : ∃ w3 : World, w2.drewN nq = w3 ∧ Kst b w0 w g gb ga c w3 q [] none 0 := ⟨_, rfl, S2.out.later (pw_below_drewN (Below.refl _ _) _)⟩
    obtain ⟨w3, hw3, s3⟩ := H3
    rw [hw3]
    have S3 := Lib.hid s3
    obtain ⟨k0, k1, k2, f0, f1, f2⟩ := s3.v.cells
    obtain ⟨m0, m1, m2, t0, t1, t2⟩ := s3.a.cells
    simp only [List.length_nil] at k2
    clear s3 hw3 x0 x1
    go_wp2_with fail
    refine bodyPost_ret (results_ct rfl _ _ ga 24 #[.int .i64 c, .int .i64 0, .slice none 0 0] (0, 0) _ rfl (S3.out.a.set ⟨c, 0, []⟩ none 0) Try.underlying24 rfl (by kernel_rfl)) rfl ?_
    refine ⟨⟨c, 0, []⟩, .slice none 0 0, false, q, rfl, ((S3.out.r.set wga (S3.out.r.ne S3.out.a) (Nat.le_trans HB.out.size wga) _).set wga (S3.out.r.ne S3.out.a) (Nat.le_trans HB.out.size wga) _).set wga (S3.out.r.ne S3.out.a) (Nat.le_trans HB.out.size wga) _, by omega, Kd.N_nil _ _ _ _ _, ?_⟩
    rw [HQ.out]
  | some mr =>
    obtain ⟨m, r⟩ := mr
    rw [hnn] at hm ho
    obtain ⟨rfl, rfl, hr, hpq2⟩ := hm
    have hrl : r.length = b.length - q := by rw [← hr, List.length_drop]
    have e1 : IntKind.i64.wrap ((b.length : Int) - (q : Int)) = (b.length : Int) - (q : Int) := IntWalk.i64_in _ (by omega)
    simp only at ho
    by_cases hneg : r1 < 0
    · rw [if_pos (.inl hneg)] at ho
      have HQ := Lib.hid (show o = none from ho.symm)
      have p1 : decide (r1 < 0) = true := decide_eq_true hneg
      have PQ := Lib.hid hpq2
      clear ho hnn hr hneg hrl e1 hpq2
      go_upto_region 2 with (fail)
      go_quiet (fail)
      have H3 : ∃ w3 : World, w2.drewN nq = w3 ∧ Kst b w0 w g gb ga c w3 q [] none 0 := ⟨_, rfl, S2.out.later (pw_below_drewN (Below.refl _ _) _)⟩
      obtain ⟨w3, hw3, s3⟩ := H3
      rw [hw3]
      have S3 := Lib.hid s3
      obtain ⟨k0, k1, k2, f0, f1, f2⟩ := s3.v.cells
      obtain ⟨m0, m1, m2, t0, t1, t2⟩ := s3.a.cells
      simp only [List.length_nil] at k2
      clear s3 hw3 x0 x1
      go_wp2_with fail
      refine bodyPost_ret (results_ct rfl _ _ ga 24 #[.int .i64 c, .int .i64 0, .slice none 0 0] (0, 0) _ rfl (S3.out.a.set ⟨c, 0, []⟩ none 0) Try.underlying24 rfl (by kernel_rfl)) rfl ?_
      refine ⟨⟨c, 0, []⟩, .slice none 0 0, false, q, rfl, ((S3.out.r.set wga (S3.out.r.ne S3.out.a) (Nat.le_trans HB.out.size wga) _).set wga (S3.out.r.ne S3.out.a) (Nat.le_trans HB.out.size wga) _).set wga (S3.out.r.ne S3.out.a) (Nat.le_trans HB.out.size wga) _, by omega, Kd.N_nil _ _ _ _ _, ?_⟩
      rw [HQ.out]
    · have p1 : decide (r1 < 0) = false := decide_eq_false hneg
      obtain ⟨m, rfl⟩ : ∃ m : Nat, r1 = m := ⟨r1.toNat, by omega⟩
      by_cases hbig : (b.length : Int) - (q : Int) < (m : Int)
      · rw [if_pos (.inr (by omega))] at ho
        have HQ := Lib.hid (show o = none from ho.symm)
        have p2 : decide ((b.length : Int) - (q : Int) < (m : Int)) = true := decide_eq_true hbig
        clear ho hnn hr hneg hrl hbig
        go_upto_region 2 with (fail)
        go_quiet (fail)
        have H3 : ∃ w3 : World, w2.drewN nq = w3 ∧ Kst b w0 w g gb ga c w3 q [] none 0 := ⟨_, rfl, S2.out.later (pw_below_drewN (Below.refl _ _) _)⟩
        obtain ⟨w3, hw3, s3⟩ := H3
        rw [hw3]
        have S3 := Lib.hid s3
        obtain ⟨k0, k1, k2, f0, f1, f2⟩ := s3.v.cells
        obtain ⟨m0, m1, m2, t0, t1, t2⟩ := s3.a.cells
        simp only [List.length_nil] at k2
        clear s3 hw3 x0 x1 e1 p2
        go_wp2_with fail
        refine bodyPost_ret (results_ct rfl _ _ ga 24 #[.int .i64 c, .int .i64 0, .slice none 0 0] (0, 0) _ rfl (S3.out.a.set ⟨c, 0, []⟩ none 0) Try.underlying24 rfl (by kernel_rfl)) rfl ?_
        refine ⟨⟨c, 0, []⟩, .slice none 0 0, false, q, rfl, ((S3.out.r.set wga (S3.out.r.ne S3.out.a) (Nat.le_trans HB.out.size wga) _).set wga (S3.out.r.ne S3.out.a) (Nat.le_trans HB.out.size wga) _).set wga (S3.out.r.ne S3.out.a) (Nat.le_trans HB.out.size wga) _, by omega, Kd.N_nil _ _ _ _ _, ?_⟩
        rw [HQ.out]
      · rw [if_neg (by omega)] at ho
        have p2 : decide ((b.length : Int) - (q : Int) < (m : Int)) = false := decide_eq_false hbig
        have hmb : m + q ≤ b.length := by omega
        have HO := Lib.hid ho
        have HR := Lib.hid hr
        clear ho hnn hr hneg hrl hbig
        go_upto_region 2 with (fail)
        go_quiet (fail)
        have H3 : ∃ w3 : World, w2.drewN nq = w3 ∧ Kst b w0 w g gb ga c w3 q [] none 0 := ⟨_, rfl, S2.out.later (pw_below_drewN (Below.refl _ _) _)⟩
        obtain ⟨w3, hw3, s3⟩ := H3
        rw [hw3]
        have S3 := Lib.hid s3
        clear s3 hw3 x0 x1 e1 p2 S2
        go_wp2_with fail
        go_loopw [37] (fun i wr => ∃ (j q2 : Nat) (l : List S24) (B : Option Addr) (d : Nat), i = .int .i64 j ∧ j ≤ m ∧ l.length = j ∧ p < q2 ∧ Hid (Kst b w0 w g gb ga c wr q2 l B d) ∧
          Hid (dvL f m r = match dvL f (m - j) (b.drop q2) with | none => none | some (l2, r2) => some (l ++ l2, r2))) (fun i _ => m - (intOf i).toNat)
        case atStart => exact ⟨0, q, [], none, 0, rfl, by omega, rfl, hpq2, S3, Lib.hid (by rw [Nat.sub_zero, HR.out]; cases dvL f m r with | none => rfl | some z => rfl)⟩
        case round =>
          clear S3
          obtain ⟨j, q2, l, B, d, rfl, hj, hll, hpq3, S4, HD⟩ := hrel
          have q2b := S4.out.r.le
          by_cases hx : (j : Int) < (m : Int)
          · have hx1 := decide_eq_true hx
            have hlt : j < m := by omega
            have e1 : IntKind.i64.wrap ((j : Int) + 1) = (j : Int) + 1 := IntWalk.i64_in _ (by omega)
            have CALL := Lib.hid (IH.out wr q2 hpq3 S4.out.r.is S4.out.r.below q2b)
            have hst : dvL f (m - j) (b.drop q2) = match f (b.drop q2) with
              | none => none
              | some (x, r) => match dvL f (m - (j + 1)) r with
                | none => none
                | some (l, r2) => some (x :: l, r2) := by
              rw [show m - j = (m - (j + 1)) + 1 by omega]; rfl
            have HST := Lib.hid hst
            have HLL := Lib.hid hll
            clear hst hll
            go_wp2_with fail
            refine CALL.out.mono ?_
            rintro e w4 ⟨y, v, ok, q4, rfl, s4, hq4, hN, hm⟩
            obtain ⟨B', d', rfl⟩ := Kd.N_slice hN
            obtain ⟨_, q5, q6⟩ := Kd.N_reads' hN
            have S5 := Lib.hid (S4.out.call (.inr glt) s4 (fun k hk => by omega))
            have N5 := Lib.hid (Kd.N_bound hN)
            have HLT := Lib.hid (Kd.N_lt S4.out.n)
            have HM := Lib.hid hm; have HQ4 := Lib.hid hq4
            have wr4 : w.heap.size ≤ wr.heap.size := S4.out.r.keep.1
            have gbl : gb < wr.heap.size := blk_lt S4.out.v
            have gal : ga < wr.heap.size := blk_lt S4.out.a
            clear hm hN s4 S4 CALL hq4 q6
            go_upto_region 7 with (fail)
            obtain ⟨gk, hgk⟩ : ∃ g, w4.heap.size = g := ⟨_, rfl⟩
            have H6 : ∃ w6 : World, w4.alloc (.cells #[.int .i64 y.f0, .int .i64 y.f1, .slice B' y.f2.length d'] 24) = w6 ∧ Var w6 gk y B' d' ∧ Kst b w0 w g gb ga c w6 q4 l B d ∧ Kd.N k24 24 w6 w0.heap.size (fun k => wr.heap.size ≤ k ∧ k < w4.heap.size) (.slice B' y.f2.length d') y.f2 :=
              ⟨_, rfl, by rw [← hgk]; exact blk_new w4 _, S5.out.later (below_alloc (Below.refl _ _) _), Kd.N_alloc N5.out _⟩
            rw [hgk]
            obtain ⟨w6, hw6, v6, s6, n6⟩ := H6
            rw [hw6]
            have V6 := Lib.hid v6; have S6 := Lib.hid s6; have N6 := Lib.hid n6; have GK := Lib.hid hgk
            clear hgk hw6 v6 s6 n6 N5 S5
            obtain ⟨k0, k1, k2, f0, f1, f2⟩ := S6.out.v.cells
            cases ok with
            | false =>
              obtain ⟨m0, m1, m2, t0, t1, t2⟩ := S6.out.a.cells
              have HQ := Lib.hid (show o = none by
                have h1 := HM.out
                have h2 := HST.out
                have h3 := HD.out
                have h4 := HO.out
                cases hf : f (b.drop q2) with
                | none => rw [hf] at h2; rw [h2] at h3; rw [Int.toNat_natCast, h3] at h4; exact h4.symm
                | some z => rw [hf] at h1; exact absurd h1.1 (by decide))
              go_wp2_with fail
              refine bodyPost_ret (results_ct rfl _ _ ga 24 #[.int .i64 c, .int .i64 0, .slice B l.length d] (0, 0) _ rfl (S6.out.a.set ⟨c, 0, l⟩ B d) Try.underlying24 rfl (by kernel_rfl)) rfl ?_
              refine ⟨⟨c, 0, l⟩, .slice B l.length d, false, q4, rfl, ((S6.out.r.set wga (S6.out.r.ne S6.out.a) (Nat.le_trans HB.out.size wga) _).set wga (S6.out.r.ne S6.out.a) (Nat.le_trans HB.out.size wga) _).set wga (S6.out.r.ne S6.out.a) (Nat.le_trans HB.out.size wga) _, by have := HQ4.out; omega, ?_, ?_⟩
              · exact Kd.N_mono (Kd.N_far (Kd.N_far (Kd.N_far S6.out.n (fun _ hk => hk.2.2) _) (fun _ hk => hk.2.2) _) (fun _ hk => hk.2.2) _) (fun _ hk => hk.1)
              · rw [HQ.out]
            | true =>
              obtain ⟨y0, y1, y2, _⟩ := V6.out.cells
              go_upto_region 9 with (fail)
              have bw := S6.out.r.below
              have bz := bw.size
              have BW := Lib.hid bw; have BZ := Lib.hid bz
              have hl40 : (l.length + 1) * 40 ≤ 140737488355328 := by have := HLL.out; omega
              have HFK := Lib.hid (k24_mkF w6 (fun k => wr.heap.size ≤ k ∧ k < w4.heap.size) y q5 (Kd.N_F N6.out))
              have HOK : Hid (∀ k, wr.heap.size ≤ k ∧ k < w4.heap.size → (w.heap.size ≤ k ∧ k ≠ gb ∧ k ≠ ga) ∧ some k ≠ (Value.slice B l.length d).ownBlock) := Lib.hid (fun k hk => ⟨⟨by omega, by omega, by omega⟩, fun he => by
                have := HLT.out k he.symm
                omega⟩)
              have HFR : Hid (∀ k, w6.heap.size ≤ k → w.heap.size ≤ k ∧ k ≠ gb ∧ k ≠ ga) := Lib.hid (fun k hk => by
                have h1 := blk_lt S6.out.v
                have h2 := blk_lt S6.out.a
                have h3 := S6.out.r.keep.1
                exact ⟨by omega, by omega, by omega⟩)
              have NGB := Lib.hid (Kd.N_away (g := gb) S6.out.n (fun k hk => hk.2.1))
              have NGA := Lib.hid (Kd.N_away (g := ga) S6.out.n (fun k hk => hk.2.2))
              have NG := Lib.hid (Kd.N_away (g := g) S6.out.n (fun k hk => by omega))
              go_wp2_with ((with_reducible refine gate_builtin (b := .append) (xs := #[.tmp 48, .tmp 50]) rfl ?_); at_builtin; refine Kd.N_append k24 (w0 := w0) w0.heap.size rfl (.tmp 48) (.tmp 50) 22 24 (.agg #[(.int .i64 0), (.int .i64 0), (.slice none 0 0)]) 40 rfl Try.underlying22 info24 rfl (by decide) (by decide) (.slice B l.length d) l y [.int .i64 y.f0, .int .i64 y.f1, .slice B' y.f2.length d'] (fun k => w.heap.size ≤ k ∧ k ≠ gb ∧ k ≠ ga) (fun k => wr.heap.size ≤ k ∧ k < w4.heap.size) rfl rfl HFK.out HOK.out HFR.out S6.out.n BW.out BZ.out hl40 ?_; intro v7 w7 h1 h2 h3 h4; obtain ⟨B7, d7, rfl⟩ := Kd.N_slice h1; have v7 : Var w7 gb ⟨c, 0, l⟩ B d := blk_grown S6.out.v h3 NGB.out; obtain ⟨y0, y1, y2, y3, y4, y5⟩ := Var.cells v7; have V7 := Lib.hid v7; have N7 := Lib.hid h1; have B7_ := Lib.hid h2; have G7 := Lib.hid h3; have A7 := Lib.hid h4; clear v7 h1 h2 h3 h4)
              go_roundw
              case rel =>
                refine ⟨j + 1, q4, l ++ [y], B7, d7, by push_cast; rfl, by omega, by rw [List.length_append, HLL.out]; rfl, by have := HQ4.out; omega, Lib.hid ⟨?_, by have h := Var.set2 V7.out (l ++ [y]) B7 d7; simpa using h, Var.far (blk_grown S6.out.a G7.out NGA.out) NAB.out _, Kd.N_far N7.out (fun _ hk => hk.2.1) _⟩, Lib.hid ?_⟩
                · have r7 : Rst b w0 w g w7 q4 := ⟨S6.out.r.is.grown G7.out NG.out, B7_.out, S6.out.r.keep.trans (KeepBut.of_grown G7.out g) (by
                    rcases ho : (Value.slice B l.length d).ownBlock with _ | k
                    · exact .inl rfl
                    · exact .inr ⟨k, rfl, (S6.out.n.1 k ho).1⟩), S6.out.r.le⟩
                  exact r7.set wgb (r7.ne V7.out) (Nat.le_trans HB.out.size wgb) _
                · have h1 := HM.out
                  have h2 := HST.out
                  have h3 := HD.out
                  cases hf : f (b.drop q2) with
                  | none => rw [hf] at h1; exact absurd (show true = false from h1) (by decide)
                  | some z =>
                    obtain ⟨z1, z2⟩ := z
                    rw [hf] at h1 h2
                    obtain ⟨_, rfl, h5, _⟩ := h1
                    rw [h3, h2, h5]
                    simp only
                    cases dvL f (m - (j + 1)) z2 with
                    | none => rfl
                    | some z => simp
              case measure => simp [intOf]; omega
          · have hx1 := decide_eq_false hx
            have hne : j = m := by omega
            have HNE := Lib.hid hne
            have HLL := Lib.hid hll
            clear hne hll
            obtain ⟨k0, k1, k2, f0, f1, f2⟩ := S4.out.v.cells
            obtain ⟨m0, m1, m2, t0, t1, t2⟩ := S4.out.a.cells
            go_wp2_with fail
            refine bodyPost_ret (results_ct rfl _ _ ga 24 #[.int .i64 c, .int .i64 0, .slice B l.length d] (0, 0) _ rfl (S4.out.a.set ⟨c, 0, l⟩ B d) Try.underlying24 rfl (by kernel_rfl)) rfl ?_
            refine ⟨⟨c, 0, l⟩, .slice B l.length d, true, q2, rfl, ((S4.out.r.set wga (S4.out.r.ne S4.out.a) (Nat.le_trans HB.out.size wga) _).set wga (S4.out.r.ne S4.out.a) (Nat.le_trans HB.out.size wga) _).set wga (S4.out.r.ne S4.out.a) (Nat.le_trans HB.out.size wga) _, by omega, ?_, ?_⟩
            · exact Kd.N_mono (Kd.N_far (Kd.N_far (Kd.N_far S4.out.n (fun _ hk => hk.2.2) _) (fun _ hk => hk.2.2) _) (fun _ hk => hk.2.2) _) (fun _ hk => hk.1)
            · have h3 := HD.out
              have h4 := HO.out
              rw [HNE.out, Nat.sub_self] at h3
              simp only [dvL, List.append_nil] at h3
              rw [Int.toNat_natCast, h3] at h4
              rw [← h4]
              exact ⟨rfl, rfl, rfl, hpq3⟩
theorem value_n (b : List Int) (hb : Bytes b) (hl : b.length ≤ 1000000000000) : ∀ (n : Nat) (w0 w : World) (g p : Nat), b.length - p < n → PC.IsS107 w0 w g b (p : Int) → Below w0.heap.size w0 w → p ≤ b.length →
    Calls Try.prog 71 #[.pointer (some ⟨g, 0, none⟩)] w (ValP b w0 w g p (dv n (b.drop p))) := by
  intro n
  induction n with
  | zero => intro w0 w g p h; omega
  | succ n ih =>
    intro w0 w g p h hI hB hp
    have h1 := value_of b hb (by omega) (dv n) w0 w g p hI hB hp (fun c W q hq hc hI2 hB2 hq2 => kids_of b hb hl (dv n) c hc w0 W g q hI2 hB2 hq2 (fun W2 q2 hq3 hI3 hB3 hq4 => ih w0 W2 g q2 (by omega) hI3 hB3 hq4))
    revert h1
    cases b.drop p with
    | nil => exact fun h1 => h1
    | cons c s => exact fun h1 => h1
end Go.Proofs.Ytggdpeeiioibgaa.E
