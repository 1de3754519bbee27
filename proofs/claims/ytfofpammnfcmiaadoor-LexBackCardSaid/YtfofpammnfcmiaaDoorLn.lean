/- Marline, layer 10: the tokens of a source, by the program. Conditions: as each says. -/
import Derived.Test.YtfofpammnfcmiaaDoorLl
import Derived.Test.YtfofpammnfcmiaaDoorLm
namespace Go.Proofs.YtfofpammnfcmiaaDoor.Lx
open Go.RowKit Go.Proofs.YtfofpammnfcmiaaDoorW.PrintWords Go.Proofs.YtfofpammnfcmiaaDoorW.PrintLast Go.Proofs.YtfofpammnfcmiaaDoorW.PrintMore Go.Proofs.YtfofpammnfcmiaaDoor.Obj Go.Proofs.YtfofpammnfcmiaaDoor.Kinds Go.Proofs.YtfofpammnfcmiaaDoor.E
set_option linter.unusedVariables false
set_option linter.unusedSimpArgs false
set_option maxRecDepth 100000
/-- the next token, at any place. -/
theorem next_calls (s : ByteArray) (p g : Nat) (w : World) (hv : Lv w g s p) (hp : p ≤ s.size) (hs : s.size ≤ 1000000) (ht : Tabs w) :
    Calls Tryd.prog 66 #[.pointer (some ⟨g, 0, none⟩)] w fun e w' => e = .returned (.tuple #[tokV (tok1 W0 (s.data.toList.drop p) p).1, .int .i64 (tok1 W0 (s.data.toList.drop p) p).2]) ∧ Lv w' g s (p + (tok1 W0 (s.data.toList.drop p) p).1.text.length) ∧ Ch (fun i => i = g) w w' := by
  by_cases h : p = s.size
  · have h1 : s.data.toList.drop p = [] := List.drop_eq_nil_of_le (by rw [h]; exact Nat.le_refl _)
    rw [h1]
    exact next_end s p g w hv h
  · cases hl : letterB (s.data.toList.getD p 0) with
    | true => exact next_name s p g w hv (by omega) hs ht hl
    | false =>
      cases hd : digitB (s.data.toList.getD p 0) with
      | true => exact next_num s p g w hv (by omega) hs ht hl hd
      | false => exact next_mark s p g w hv (by omega) hs ht hl hd
theorem info44 : (Tryd.prog.info? 44).map (fun i => (i.zero, i.size, i.bytes)) = some (some (.agg #[.int .i64 0, .int .i64 0, .int .i64 0, .string ⟨#[]⟩]), 4, 40) := by kernel_rfl
/-- the tokens told; none at an error. -/
def toksOf (x : Except (Nat × Int) (List Tok)) : List Tok := match x with | .ok ts => ts | .error _ => []
def atOf (x : Except (Nat × Int) (List Tok)) : Int := match x with | .ok _ => 0 | .error e => (e.1 : Int)
def errOf (x : Except (Nat × Int) (List Tok)) : Int := match x with | .ok _ => 0 | .error e => e.2
theorem all_end (f : Nat) (l : List UInt8) (p q : Nat) (hq : q = p + skipM false l) (h : l.drop (skipM false l) = []) : allF W0 (f + 1) l p = .ok [⟨0, q, 0, []⟩] := by
  rw [allF, if_pos h, hq]
theorem all_tok (f : Nat) (l r : List UInt8) (p q : Nat) (hq : q = p + skipM false l) (hr : l.drop (skipM false l) = r) (h0 : r ≠ []) (h : (tok1 W0 r q).2 = 0) :
    allF W0 (f + 1) l p = (allF W0 f (r.drop (tok1 W0 r q).1.text.length) (q + (tok1 W0 r q).1.text.length)).map ((tok1 W0 r q).1 :: ·) := by
  subst hq hr
  rw [allF, if_neg h0, if_pos h]
theorem all_bad (f : Nat) (l r : List UInt8) (p q : Nat) (hq : q = p + skipM false l) (hr : l.drop (skipM false l) = r) (h0 : r ≠ []) (h : (tok1 W0 r q).2 ≠ 0) :
    allF W0 (f + 1) l p = .error (q, (tok1 W0 r q).2) := by
  subst hq hr
  rw [allF, if_neg h0, if_neg h]
theorem tok_at (r : List UInt8) (q : Nat) : (tok1 W0 r q).1.at_ = q := by
  unfold tok1
  cases r with
  | nil => rfl
  | cons c r => simp only; split
                · rfl
                · split <;> rfl
theorem exc_map_app (x : Except (Nat × Int) (List Tok)) (D : List Tok) (t : Tok) : (x.map (t :: ·)).map (D ++ ·) = x.map ((D ++ [t]) ++ ·) := by
  cases x with
  | error e => rfl
  | ok ts => show Except.ok _ = Except.ok _; simp
set_option maxHeartbeats 8000000 in
/-- a source that is too long. -/
theorem all_long (s : ByteArray) (w : World) (hs : 16384 < s.size) :
    Calls Tryd.prog 24 #[.string s] w fun e w' => e = .returned (.tuple #[.slice none 0 0, .int .i64 16384, .int .i64 3]) ∧ Below w.heap.size w w' := by
  have h1 : decide ((16384 : Int) < (s.size : Int)) = true := decide_eq_true (by omega)
  clear hs
  go_enter Tryd.func24, Tryd.ntmps24
  go_wp2_with fail
  go_ret3
  exact ⟨rfl, Below.refl _ _⟩
set_option maxHeartbeats 8000000 in
theorem all_calls10 (s : ByteArray) (w : World) (hs : s.size ≤ 16384) (ht : Tabs w) :
    Calls Tryd.prog 24 #[.string s] w fun e w' => ∃ v, e = .returned (.tuple #[v, .int .i64 (atOf (allF W0 (s.size + 1) s.data.toList 0)), .int .i64 (errOf (allF W0 (s.size + 1) s.data.toList 0))]) ∧ Kd.R k44 44 w' w.heap.size (fun _ => True) v ((toksOf (allF W0 (s.size + 1) s.data.toList 0)).map enc) ∧ Below w.heap.size w w' := by
  have hu88 := Tryd.underlying88
  have hu44 := Tryd.underlying44
  have h1 : decide ((16384 : Int) < (s.size : Int)) = false := decide_eq_false (by omega)
  obtain ⟨X, hX⟩ : ∃ X, allF W0 (s.size + 1) s.data.toList 0 = X := ⟨_, rfl⟩
  rw [hX]
  obtain ⟨g, hg⟩ : ∃ g, w.heap.size = g := ⟨_, rfl⟩
  have G := Lib.hid (show ∃ w1 : World, w.alloc (.cells #[.string s, .int .i64 0] 88) = w1 ∧ Lv w1 g s 0 ∧ Below w.heap.size w w1 from
    ⟨_, rfl, by rw [← hg]; exact blk_new w _, below_alloc (Below.refl _ _) _⟩)
  have HG := Lib.hid hg; have HX := Lib.hid hX; have HS := Lib.hid hs; have HT := Lib.hid ht
  clear hX hs ht hg
  go_enter Tryd.func24, Tryd.ntmps24
  go_wp2_with fail
  rw [HG.out]
  obtain ⟨w1, hw1, v1, b1⟩ := G.out
  rw [hw1]
  have V1 := Lib.hid v1; have B1 := Lib.hid b1
  clear G hw1 v1 b1
  go_loopw [6] (fun out w' => ∃ (q f : Nat) (D : List Tok) (L : List S44), q ≤ s.size ∧ Hid (s.size < q + f ∧ L = D.map enc ∧ L.length ≤ q) ∧ Hid ((allF W0 f (s.data.toList.drop q) q).map (D ++ ·) = X) ∧ Hid (Lv w' g s q) ∧ Hid (Kd.R k44 44 w' w.heap.size (fun k => k ≠ g) out L) ∧ Hid (Below w.heap.size w w')) (fun _ w' => s.size - posOf w' g)
  case atStart => exact ⟨0, s.size + 1, [], [], Nat.zero_le _, Lib.hid ⟨by omega, rfl, Nat.le_refl _⟩, Lib.hid (by rw [List.drop_zero, HX.out]; cases X <;> rfl), V1, Lib.hid (Kd.R_nil _ _ _ _ _), B1⟩
  case round =>
    obtain ⟨q, f, D, L, hq, HF, HM, HV, HR, HB⟩ := hrel
    obtain ⟨A, c, rfl⟩ := Kd.R_slice HR.out
    have POS := Lib.hid (HV.out.pos)
    have hlen : s.data.toList.length = s.size := rfl
    obtain ⟨f', hf⟩ : ∃ f', f = f' + 1 := ⟨f - 1, by have := HF.out.1; omega⟩
    subst hf
    obtain ⟨q2, hq2⟩ : ∃ q2, q + skipM false (s.data.toList.drop q) = q2 := ⟨_, rfl⟩
    have hsk := skip_le (s.data.toList.drop q) false
    rw [List.length_drop, hlen] at hsk
    have HQ2 := Lib.hid (show q2 ≤ s.size by omega)
    have HQ3 := Lib.hid (show q ≤ q2 by omega)
    have hd : (s.data.toList.drop q).drop (skipM false (s.data.toList.drop q)) = s.data.toList.drop q2 := by rw [List.drop_drop, hq2]
    have HSK := Lib.hid (skip_calls s q g wr HV.out hq (by have := HS.out; omega))
    rw [hq2] at HSK
    obtain ⟨r, hr⟩ : ∃ r, s.data.toList.drop q2 = r := ⟨_, rfl⟩
    have HRR := Lib.hid hr
    rw [hr] at hd
    have HNX := Lib.hid (fun W h1 h2 => next_calls s q2 g W h1 HQ2.out (by have := HS.out; omega) h2)
    rw [hr] at HNX
    have AT := tok_at r q2
    obtain ⟨y, er, hyt⟩ : ∃ y er, tok1 W0 r q2 = (y, er) := ⟨_, _, rfl⟩
    have cases3 : (r = [] ∧ er = 0 ∧ y.kind = 0 ∧ X = .ok (D ++ [y])) ∨ (er ≠ 0 ∧ X = .error (q2, er)) ∨ (er = 0 ∧ y.kind ≠ 0 ∧ q2 + y.text.length ≤ s.size ∧ 1 ≤ y.text.length ∧ (allF W0 f' (s.data.toList.drop (q2 + y.text.length)) (q2 + y.text.length)).map ((D ++ [y]) ++ ·) = X) := by
      by_cases h0 : r = []
      · have e0 : (y, er) = (⟨0, q2, 0, []⟩, 0) := by rw [← hyt, h0]; rfl
        injection e0 with e1 e2
        refine .inl ⟨h0, e2, by rw [e1], ?_⟩
        rw [← HM.out, all_end f' _ q q2 hq2.symm (by rw [hd, h0]), e1]; rfl
      · by_cases h1 : er = 0
        · have t2 : (tok1 W0 r q2).2 = 0 := by rw [hyt]; exact h1
          obtain ⟨k1, k2, _⟩ := tok_pre w0_ok h0 t2
          have k3 : (tok1 W0 r q2).1.kind ≠ 0 := tok_kind h0
          rw [hyt] at k1 k2 k3
          have l1 := congrArg List.length k1
          rw [List.length_append, ← hr, List.length_drop, hlen] at l1
          have l2 : y.text.length ≠ 0 := fun h => k2 (List.length_eq_zero_iff.1 h)
          refine .inr (.inr ⟨h1, k3, ?_, by omega, ?_⟩)
          · have l3 : y.text.length ≤ r.length := by rw [k1, List.length_append]; exact Nat.le_add_right _ _
            rw [← hr, List.length_drop, hlen] at l3; have := HQ2.out; omega
          · rw [← HM.out, all_tok f' _ r q q2 hq2.symm hd h0 t2, exc_map_app, hyt, ← hr, List.drop_drop]
        · refine .inr (.inl ⟨h1, ?_⟩)
          have t2 : (tok1 W0 r q2).2 ≠ 0 := by rw [hyt]; exact h1
          rw [← HM.out, all_bad f' _ r q q2 hq2.symm hd h0 t2, hyt]; rfl
    rw [hyt] at HNX AT
    have HAT := Lib.hid (show y.at_ = q2 from AT)
    have HC3 := Lib.hid cases3
    clear AT cases3 hyt hr hd hsk hq2 hq
    go_wp2_with fail
    refine HSK.out.mono ?_
    rintro e w2 ⟨rfl, v2, c2⟩
    have HV2 := Lib.hid v2
    have HR2 := Lib.hid (Kd.R_step HR.out (fun k hk hlt => c2.block k hlt hk))
    have HB2 := Lib.hid (Ch.to_below HB.out c2 (fun i hi => by rw [hi, ← HG.out]; exact Nat.le_refl _))
    clear v2 c2 HSK HV HR HB
    go_wp2_with fail
    refine (HNX.out w2 HV2.out (HT.out.below HB2.out)).mono ?_
    rintro e w3 ⟨rfl, v3, c3⟩
    have HV3 := Lib.hid v3
    have HR3 := Lib.hid (Kd.R_step HR2.out (fun k hk hlt => c3.block k hlt hk))
    have HB3 := Lib.hid (Ch.to_below HB2.out c3 (fun i hi => by rw [hi, ← HG.out]; exact Nat.le_refl _))
    clear v3 c3 HNX HV2 HR2 HB2
    obtain ⟨z, hz⟩ : ∃ z, enc y = z := ⟨_, rfl⟩
    have e8 : tokV y = .agg #[.int .i64 (enc y).f0, .int .i64 (enc y).f1, .int .i64 (enc y).f2, .string (enc y).f3] := rfl
    simp only [e8]
    rw [hz]
    have HZ := Lib.hid hz
    clear e8 hz
    go_upto_region 7 with (fail)
    obtain ⟨g4, hg4⟩ : ∃ g4, w3.heap.size = g4 := ⟨_, rfl⟩
    have H4 : ∃ w4 : World, w3.alloc (.cells #[.int .i64 z.f0, .int .i64 z.f1, .int .i64 z.f2, .string z.f3] 44) = w4 ∧ Tv w4 g4 z.f0 z.f1 z.f2 z.f3 ∧ Lv w4 g s (q2 + y.text.length) ∧ Kd.R k44 44 w4 w.heap.size (fun k => k ≠ g) (.slice A L.length c) L ∧ Kd.R k44 44 w4 w.heap.size (fun k => k ≠ g ∧ k ≠ g4) (.slice A L.length c) L ∧ Below w.heap.size w w4 :=
      ⟨_, rfl, by rw [← hg4]; exact blk_new w3 _, blk_alloc HV3.out _, Kd.R_alloc HR3.out _, Kd.R_alloc (Kd.R_mono (Kd.R_bound HR3.out) (fun k hk => ⟨hk.1, by have := hk.2.2; omega⟩)) _, below_alloc HB3.out _⟩
    rw [hg4]
    obtain ⟨w4, hw4, q4, v4, r4, o4, b4⟩ := H4
    rw [hw4]
    have Q4 := Lib.hid q4; have V4 := Lib.hid v4; have R4 := Lib.hid r4; have OFF := Lib.hid o4; have B4 := Lib.hid b4
    obtain ⟨m0, m1, m2, m3, f0, f1, f2, f3⟩ := q4.cells
    have SZ := Lib.hid (show g < w4.heap.size from V4.out.lt)
    clear hw4 q4 v4 r4 o4 b4 HV3 HR3 HB3 hg4
    rcases HC3.out with ⟨h1, h2, h3, h4⟩ | ⟨h1, h2⟩ | ⟨h1, h2, h3, h4, h5⟩
    · have p1 : (er == 0) = true := by rw [beq_iff_eq]; exact h2
      have HXE := Lib.hid h4; have HE0 := Lib.hid h2
      have hf0 : z.f0 = y.kind := by rw [← HZ.out]; rfl
      have BS := Lib.hid (show w.heap.size ≤ w4.heap.size from B4.out.size)
      have HL40 := Lib.hid (show (L.length + 1) * 40 ≤ 140737488355328 by have := HF.out.2.2; have := HQ3.out; have := HQ2.out; have := HS.out; omega)
      have p2 : (z.f0 == 0) = true := by rw [beq_iff_eq, hf0]; exact h3
      clear h1 h2 h3 h4 HC3 hf0
      go_wp2_with ((with_reducible refine gate_builtin (b := .append) (xs := #[.tmp 24, .tmp 26]) rfl ?_); at_builtin; refine Kd.R_append k44 (w0 := w) w.heap.size rfl (.tmp 24) (.tmp 26) 38 44 (.agg #[.int .i64 0, .int .i64 0, .int .i64 0, .string ⟨#[]⟩]) 40 rfl Tryd.underlying38 info44 rfl (by decide) (by decide) (.slice A L.length c) L z [.int .i64 z.f0, .int .i64 z.f1, .int .i64 z.f2, .string z.f3] (fun k => k ≠ g) (fun _ => False) rfl rfl (k44_mkM _ _ _ z) (fun _ hk => hk.elim) (fun k hk => by have := SZ.out; omega) R4.out B4.out BS.out HL40.out ?_; intro v5 w5 ho hb5 hg5 hat; have HO := Lib.hid ho; have HB5 := Lib.hid hb5; have HV5 := Lib.hid (show Lv w5 g s (q2 + y.text.length) from blk_grown V4.out hg5 (Kd.R_away R4.out (fun k hk => hk))); have HQ5 := Lib.hid (show Tv w5 g4 z.f0 z.f1 z.f2 z.f3 from blk_grown Q4.out hg5 (Kd.R_away OFF.out (fun k hk => hk.2))); obtain ⟨m0, m1, m2, m3, f0, f1, f2, f3⟩ := HQ5.out.cells; clear ho hb5 hg5 hat)
      go_ret3
      rw [HXE.out]
      refine ⟨_, rfl, ?_, HB5.out⟩
      have e9 : (toksOf (Except.ok (D ++ [y]))).map enc = L ++ [z] := by
        show (D ++ [y]).map enc = _
        rw [List.map_append, ← HF.out.2.1, List.map_cons, List.map_nil, HZ.out]
      rw [e9]
      exact Kd.R_mono HO.out (fun _ _ => trivial)
    · have p1 : (er == 0) = false := by rw [beq_eq_false_iff_ne]; exact h1
      have HXE := Lib.hid h2
      clear h1 h2 HC3
      go_upto_region 8 with (fail)
      go_region
      all_goals
        go_wp2_with fail
        go_ret3
        rw [HXE.out]
        have h5 : z.f1 = (q2 : Int) := by rw [← HZ.out, ← HAT.out]; rfl
        rw [h5]
        exact ⟨_, rfl, Kd.R_nil _ _ _ _ _, Below.trans B4.out (below_drew1 (Below.refl _ _))⟩
    · have p1 : (er == 0) = true := by rw [beq_iff_eq]; exact h1
      have HXE := Lib.hid h5; have HT3 := Lib.hid h3; have HT4 := Lib.hid h4
      have hf0 : z.f0 = y.kind := by rw [← HZ.out]; rfl
      have BS := Lib.hid (show w.heap.size ≤ w4.heap.size from B4.out.size)
      have HL40 := Lib.hid (show (L.length + 1) * 40 ≤ 140737488355328 by have := HF.out.2.2; have := HQ3.out; have := HQ2.out; have := HS.out; omega)
      have p2 : (z.f0 == 0) = false := by rw [beq_eq_false_iff_ne, hf0]; exact h2
      clear h1 h2 h3 h4 h5 HC3 hf0
      go_wp2_with ((with_reducible refine gate_builtin (b := .append) (xs := #[.tmp 24, .tmp 26]) rfl ?_); at_builtin; refine Kd.R_append k44 (w0 := w) w.heap.size rfl (.tmp 24) (.tmp 26) 38 44 (.agg #[.int .i64 0, .int .i64 0, .int .i64 0, .string ⟨#[]⟩]) 40 rfl Tryd.underlying38 info44 rfl (by decide) (by decide) (.slice A L.length c) L z [.int .i64 z.f0, .int .i64 z.f1, .int .i64 z.f2, .string z.f3] (fun k => k ≠ g) (fun _ => False) rfl rfl (k44_mkM _ _ _ z) (fun _ hk => hk.elim) (fun k hk => by have := SZ.out; omega) R4.out B4.out BS.out HL40.out ?_; intro v5 w5 ho hb5 hg5 hat; have HO := Lib.hid ho; have HB5 := Lib.hid hb5; have HV5 := Lib.hid (show Lv w5 g s (q2 + y.text.length) from blk_grown V4.out hg5 (Kd.R_away R4.out (fun k hk => hk))); have HQ5 := Lib.hid (show Tv w5 g4 z.f0 z.f1 z.f2 z.f3 from blk_grown Q4.out hg5 (Kd.R_away OFF.out (fun k hk => hk.2))); obtain ⟨m0, m1, m2, m3, f0, f1, f2, f3⟩ := HQ5.out.cells; clear ho hb5 hg5 hat)
      go_roundw
      case rel =>
        refine ⟨q2 + y.text.length, f', D ++ [y], L ++ [z], by have := HT3.out; omega, Lib.hid ⟨by have := HF.out.1; have := HQ3.out; have := HT4.out; omega, by rw [List.map_append, ← HF.out.2.1, List.map_cons, List.map_nil, HZ.out], by rw [List.length_append]; have := HF.out.2.2; have := HQ3.out; have := HT4.out; simp only [List.length_cons, List.length_nil]; omega⟩, HXE, HV5, Lib.hid HO.out, HB5⟩
      case measure =>
        rw [HV5.out.pos, POS.out]; have := HQ3.out; have := HT4.out; have := HT3.out; omega
end Go.Proofs.YtfofpammnfcmiaaDoor.Lx
