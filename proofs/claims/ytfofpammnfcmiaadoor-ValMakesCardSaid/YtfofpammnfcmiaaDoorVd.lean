/- Marline, values: a list is copied; what arrays and records are made of; the contracts of the rest. Conditions: as each says. -/
import Derived.Test.YtfofpammnfcmiaaDoorVb
import Derived.Test.YtfofpammnfcmiaaDoorV9
import Derived.Lib.SliceRun
namespace Go.Proofs.YtfofpammnfcmiaaDoor.Vl
open Go.RowKit Go.Proofs.YtfofpammnfcmiaaDoorW.PrintWords Go.Proofs.YtfofpammnfcmiaaDoorW.PrintLast Go.Proofs.YtfofpammnfcmiaaDoorW.PrintMore Go.Proofs.YtfofpammnfcmiaaDoor.Kinds Go.Proofs.YtfofpammnfcmiaaDoor.Obj
set_option linter.unusedVariables false
set_option linter.unusedSimpArgs false
set_option maxRecDepth 100000
open Go.Proofs.YtfofpammnfcmiaaDoor.E
open PV (IsS107 info67)
theorem vs_all (W0 : World) (g : Nat) (s : ByteArray) (hs : s.size ≤ 1048576) (hP : Pow W0) (hE : Errs W0) : ∀ n m, m < n → VS W0 g s m := by
  intro n
  induction n with
  | zero => intro m h; omega
  | succ n ih =>
    intro m hm
    cases m with
    | zero => intro l w h; omega
    | succ m => exact value_of W0 g s hs hP hE m (fun j hj => ih j (by omega))
/-- what 'Read' comes to. -/
def ReadE (w : World) (x : S67) (n : Int) (e : Ending) (w' : World) : Prop := ∃ u, e = .returned (.tuple #[.agg #[.int .i64 x.f0, .int .i64 x.f1, u], .int .i64 n]) ∧ Kd.R k67 67 w' w.heap.size (fun _ => True) u x.f2 ∧ Below w.heap.size w w'
theorem drop_size (l : List UInt8) (s : ByteArray) (p : Nat) (h : p + l.length = s.size) : (l = []) ↔ ((p : Int) = (s.size : Int)) := by
  rw [← List.length_eq_zero_iff]; omega
set_option maxHeartbeats 16000000 in
theorem read_calls (s : ByteArray) (w : World) (hs : s.size ≤ 1048576) (hP : Pow w) (hE : Errs w) :
    Calls Tryd.prog 42 #[.string s] w (ReadE w (readS s.data.toList).1 (readS s.data.toList).2) := by
  have hu67 := Tryd.underlying67
  have hu107 := Tryd.underlying107
  obtain ⟨g6, hg6⟩ : ∃ g6, w.heap.size = g6 := ⟨_, rfl⟩
  have G := Lib.hid (show ∃ w1 : World, (w.alloc (.cells #[.int .i64 0, .int .i64 0, .slice none 0 0] 67)).alloc (.cells #[.string s, .int .i64 0] 107) = w1 ∧ Bx w1 g6 0 0 (.slice none 0 0) ∧ Rdr w w1 (g6 + 1) s s.data.toList ∧ Below w.heap.size w w1 from by
    have h1 : Bx (w.alloc (.cells #[.int .i64 0, .int .i64 0, .slice none 0 0] 67)) g6 0 0 (.slice none 0 0) := by rw [← hg6]; exact blk_new w _
    have h2 : Below w.heap.size w (w.alloc (.cells #[.int .i64 0, .int .i64 0, .slice none 0 0] 67)) := below_alloc (Below.refl _ _) _
    refine ⟨_, rfl, h1.alloc _, ⟨0, ?_, ?_, rfl⟩, below_alloc h2 _⟩
    · have := IsS107.new w (w.alloc (.cells #[.int .i64 0, .int .i64 0, .slice none 0 0] 67)) s 0 h2
      rw [show (w.alloc (.cells #[.int .i64 0, .int .i64 0, .slice none 0 0] 67)).heap.size = w.heap.size + 1 by simp, hg6] at this
      exact this
    · rw [Nat.zero_add]; rfl)
  have VV := Lib.hid (fun (W : World) (hR : Rdr w W (g6 + 1) s s.data.toList) (hB : Below w.heap.size w W) => vs_all w (g6 + 1) s hs hP hE (2 * s.data.toList.length + 2) (2 * s.data.toList.length + 1) (by omega) s.data.toList W (Nat.le_refl _) hR hB)
  obtain ⟨⟨x, ok, l1⟩, hx⟩ : ∃ r, rv (2 * s.data.toList.length + 1) s.data.toList = r := ⟨_, rfl⟩
  have ER := Lib.hid (show readS s.data.toList = if ok = true ∧ l1 = [] then (x, 0) else (⟨0, 0, []⟩, 1) by unfold readS; rw [hx])
  rw [hx] at VV
  have HG6 := Lib.hid hg6
  clear hx hs hP hE hg6
  go_enter Tryd.func42, Tryd.ntmps42
  go_upto_region 2 with (fail)
  rw [HG6.out]
  obtain ⟨w1, hw1, x1, d1, b1⟩ := G.out
  rw [hw1]
  obtain ⟨g, hg⟩ : ∃ g, g6 + 1 = g := ⟨_, rfl⟩
  rw [hg] at d1 VV ⊢
  have N1 := Lib.hid (show g6 ≠ g by omega)
  have X1 := Lib.hid x1; have D1 := Lib.hid d1; have B1 := Lib.hid b1
  have VC := Lib.hid (VV.out w1 d1 b1)
  clear G hw1 x1 d1 b1 hg VV
  go_wp2_with fail
  refine VC.out.mono ?_
  rintro e w3 ⟨u, rfl, ru, d3, b3, k3⟩
  obtain ⟨A, cc, rfl⟩ := Kd.R_slice ru
  have X3 := Lib.hid (X1.out.keep k3 N1.out); have D3 := Lib.hid d3; have B3 := Lib.hid b3
  have RU3 := Lib.hid (r_off ru X1.out.lt B1.out.size)
  clear ru d3 b3 k3 X1 D1 B1 VC
  go_upto_region 3 with (fail)
  obtain ⟨g9, hg9⟩ : ∃ g9, w3.heap.size = g9 := ⟨_, rfl⟩
  obtain ⟨w4, hw4, x4, v4, d4, b4, r4⟩ : ∃ w4 : World, w3.alloc (.cells #[.int .i64 x.f0, .int .i64 x.f1, .slice A x.f2.length cc] 67) = w4 ∧ Bx w4 g6 0 0 (.slice none 0 0) ∧ Bx w4 g9 x.f0 x.f1 (.slice A x.f2.length cc) ∧ Rdr w w4 g s l1 ∧ Below w.heap.size w w4 ∧ Kd.R k67 67 w4 w.heap.size (fun k => k ≠ g6) (.slice A x.f2.length cc) x.f2 :=
    ⟨_, rfl, X3.out.alloc _, by rw [← hg9]; exact blk_new w3 _, D3.out.alloc _, below_alloc B3.out _, Kd.R_alloc RU3.out _⟩
  rw [hg9, hw4]
  have X4 := Lib.hid x4; have V4 := Lib.hid v4; have D4 := Lib.hid d4; have B4 := Lib.hid b4; have RU := Lib.hid r4
  clear hw4 hg9 x4 v4 d4 b4 r4 X3 D3 B3 RU3
  obtain ⟨p, r2, hpl, hpd⟩ := D4.out
  have HPL := Lib.hid (drop_size l1 s p hpl)
  cases ok with
  | false =>
    have ES := Lib.hid (show readS s.data.toList = (⟨0, 0, []⟩, 1) by rw [ER.out, if_neg (by simp)])
    clear r2 hpl hpd ER
    obtain ⟨m0, m1, m2, f0, f1, f2⟩ := X4.out.cells
    go_wp2_with fail
    refine bodyPost_ret (results_ct rfl _ _ g6 67 #[.int .i64 0, .int .i64 0, (.slice none 0 0)] (0, 0) _ rfl (X4.out.set3 0 0 (.slice none 0 0)) Tryd.underlying67 rfl (by kernel_rfl)) rfl ?_
    rw [ES.out]
    exact ⟨_, rfl, Kd.R_nil _ _ _ _ _, below_set (below_set (below_set B4.out (Nat.le_of_eq HG6.out)) (Nat.le_of_eq HG6.out)) (Nat.le_of_eq HG6.out)⟩

  | true =>
    obtain ⟨m0, m1, t0, t1⟩ := rcells r2
    by_cases he : l1 = []
    · have hpe := HPL.out.1 he
      have ES := Lib.hid (show readS s.data.toList = (x, 0) by rw [ER.out, if_pos ⟨rfl, he⟩])
      rw [hpe] at m1
      obtain ⟨a0, a1, a2, c0, c1, c2⟩ := X4.out.cells
      obtain ⟨v0, v1, v2, e0, e1, e2⟩ := V4.out.cells
      clear r2 hpl hpd ER he hpe
      go_wp2_with fail
      refine bodyPost_ret (results_ct rfl _ _ g6 67 #[.int .i64 x.f0, .int .i64 x.f1, (.slice A x.f2.length cc)] (0, 0) _ rfl (X4.out.set3 x.f0 x.f1 (.slice A x.f2.length cc)) Tryd.underlying67 rfl (by kernel_rfl)) rfl ?_
      rw [ES.out]
      exact ⟨_, rfl, Kd.R_mono (Kd.R_far (p := ⟨g6, 2, none⟩) (Kd.R_far (p := ⟨g6, 1, none⟩) (Kd.R_far (p := ⟨g6, 0, none⟩) RU.out (fun k hk => hk) _) (fun k hk => hk) _) (fun k hk => hk) _) (fun _ _ => trivial), below_set (below_set (below_set B4.out (Nat.le_of_eq HG6.out)) (Nat.le_of_eq HG6.out)) (Nat.le_of_eq HG6.out)⟩

    · have hpe : ((p : Int) == (s.size : Int)) = false := by
        rw [beq_eq_false_iff_ne]; exact fun h => he (HPL.out.2 h)
      have hpn : ¬ p = s.size := fun h => he (HPL.out.2 (by rw [h]))
      have ES := Lib.hid (show readS s.data.toList = (⟨0, 0, []⟩, 1) by rw [ER.out, if_neg (fun h => he h.2)])
      clear r2 hpl hpd ER he
      obtain ⟨m0, m1, m2, f0, f1, f2⟩ := X4.out.cells
      go_wp2_with fail
      refine bodyPost_ret (results_ct rfl _ _ g6 67 #[.int .i64 0, .int .i64 0, (.slice none 0 0)] (0, 0) _ rfl (X4.out.set3 0 0 (.slice none 0 0)) Tryd.underlying67 rfl (by kernel_rfl)) rfl ?_
      rw [ES.out]
      exact ⟨_, rfl, Kd.R_nil _ _ _ _ _, below_set (below_set (below_set B4.out (Nat.le_of_eq HG6.out)) (Nat.le_of_eq HG6.out)) (Nat.le_of_eq HG6.out)⟩

end Go.Proofs.YtfofpammnfcmiaaDoor.Vl
namespace Go.Proofs.YtfofpammnfcmiaaDoor.Vl
open Go.RowKit Go.Proofs.YtfofpammnfcmiaaDoorW.PrintWords Go.Proofs.YtfofpammnfcmiaaDoorW.PrintLast Go.Proofs.YtfofpammnfcmiaaDoorW.PrintMore Go.Proofs.YtfofpammnfcmiaaDoor.Kinds Go.Proofs.YtfofpammnfcmiaaDoor.Obj
set_option linter.unusedVariables false
set_option linter.unusedSimpArgs false
set_option maxRecDepth 100000
open Go.Proofs.YtfofpammnfcmiaaDoor.E
open PV (IsS107 info67)
/-- a value that was made. -/
def VE (w : World) (x : S67) (e : Ending) (w' : World) : Prop := ∃ A c, e = .returned (.agg #[.int .i64 x.f0, .int .i64 x.f1, .slice A x.f2.length c]) ∧ x.f2.length ≤ c ∧ Kd.C k67 w' A x.f2.length x.f2 ∧ Below w.heap.size w w'
theorem c_later {w w' : World} {A : Option Addr} {l : List S67} (h : Kd.C k67 w A l.length l) (hb : Below w.heap.size w w') : Kd.C k67 w' A l.length l := Kd.C_below h hb
theorem r_reads {w : World} {base : Nat} {ok : Nat → Prop} {u : Value} {l : List S67} (h : Kd.R k67 67 w base ok u l) : ∃ A c, u = .slice A l.length c ∧ l.length ≤ c ∧ Kd.C k67 w A l.length l := by
  obtain ⟨A, c, rfl⟩ := Kd.R_slice h
  exact ⟨A, c, rfl, (Kd.R_reads' h).2.1, (Kd.R_reads' h).2.2⟩
theorem R_made (w : World) (ok : Nat → Prop) (hok : ok w.heap.size) : Kd.R k67 67 (w.alloc (.cells #[] 67)) w.heap.size ok (.slice (some ⟨w.heap.size, 0, none⟩) 0 0) [] :=
  ⟨fun k hk => by simp [Value.ownBlock] at hk; exact hk ▸ hok, [], World.ownsRow_made w #[] 0 (Nat.le_refl _) (Nat.zero_le _) (by simp), Reps.none _ _⟩
set_option maxHeartbeats 4000000 in
theorem clone_calls (P : Nat → Prop) (A : Option Addr) (c : Nat) (l : List S67) (w : World) (hc : l.length ≤ c) (hF : Kd.F k67 w P A l.length l) (hbig : l.length ≤ 1048576) :
    Calls Tryd.prog 77 #[.slice A l.length c] w fun e w' => ∃ A' c', e = .returned (.slice A' l.length c') ∧ l.length ≤ c' ∧ Kd.F k67 w' (fun k => (P k ∧ k < w.heap.size) ∨ w.heap.size ≤ k) A' l.length l ∧ Below w.heap.size w w' := by
  have q65 : ∀ (w : World) (a : Option Addr) (n c n' c' : Nat), (binOp .eql 65 (.slice a n c) (.slice none n' c')).run Tryd.prog w = .ok (.bool a.isNone) w := fun w a n c n' c' => Lib.run_eql_slice_nil w _ _ a n c n' c' Tryd.underlying65
  have HL := Lib.hid hbig
  have hCC := Kd.F_now hF
  have HC := Lib.hid hF
  clear hF
  cases A with
  | none =>
    have hl : l = [] := by
      rcases Nat.eq_zero_or_pos l.length with h | h
      · exact List.length_eq_zero_iff.1 h
      · obtain ⟨ad, he, _⟩ := hCC.2.2 h
        cases he
    clear hCC
    subst hl
    go_enter Tryd.func77, Tryd.ntmps77
    go_wp2_with fail
    go_ret
    exact ⟨none, 0, rfl, Nat.le_refl _, Kd.F_nil _ _ _, Below.refl _ _⟩
  | some ad =>
    clear hCC
    have HF := Lib.hid (Kd.F_alloc (Kd.F_bound HC.out) (.cells #[] 67))
    have HE := Lib.hid (Kd.R_N (R_made w (fun k => (P k ∧ k < w.heap.size) ∨ w.heap.size ≤ k) (.inr (Nat.le_refl _))))
    have HB := Lib.hid (below_alloc (Below.refl w.heap.size w) (.cells #[] 67))
    go_enter Tryd.func77, Tryd.ntmps77
    go_wp2_with ((with_reducible refine gate_builtin (b := .append) (xs := #[.tmp 5, .tmp 6]) rfl ?_); at_builtin; refine Kd.N_append_rows k67 (w0 := w) w.heap.size rfl (.tmp 5) (.tmp 6) 65 67 (.agg #[(.int .i64 0), (.int .i64 0), (.slice none 0 0)]) 40 rfl Tryd.underlying65 info67 rfl (by decide) (by decide) (.slice (some ⟨w.heap.size, 0, none⟩) 0 0) [] l (some ad) l.length c (fun k => (P k ∧ k < w.heap.size) ∨ w.heap.size ≤ k) (fun k => P k ∧ k < w.heap.size) rfl rfl HE.out HF.out (fun k hk => ⟨.inl hk, by simp [Value.ownBlock]; omega⟩) (fun k hk => by simp at hk; exact .inr (by omega)) HB.out HB.out.size (by have := HL.out; simp; omega) ?_; intro v1 w1 ho hb hg hat; have HN1 := Lib.hid ho; have HB1 := Lib.hid hb; clear ho hb hg hat)
    go_ret
    have hn1 := HN1.out
    obtain ⟨A', c', rfl, h1, h2⟩ := Kd.N_reads hn1
    exact ⟨A', c', rfl, h1, Kd.N_F hn1, HB1.out⟩
set_option maxHeartbeats 8000000 in
/-- an array of a list. -/
theorem arr_calls (A : Option Addr) (c : Nat) (l : List S67) (w : World) (hc : l.length ≤ c) (hC : Kd.C k67 w A l.length l) (hbig : l.length ≤ 1048576) :
    Calls Tryd.prog 47 #[.slice A l.length c] w (VE w ⟨2, 0, l⟩) := by
  have hu67 := Tryd.underlying67
  obtain ⟨g6, hg6⟩ : ∃ g6, w.heap.size = g6 := ⟨_, rfl⟩
  have G := Lib.hid (show ∃ w1 : World, w.alloc (.cells #[.int .i64 0, .int .i64 0, .slice none 0 0] 67) = w1 ∧ Bx w1 g6 0 0 (.slice none 0 0) ∧ Below w.heap.size w w1 from
    ⟨_, rfl, by rw [← hg6]; exact blk_new w _, below_alloc (Below.refl _ _) _⟩)
  have HC := Lib.hid hC; have HL := Lib.hid hc; have HBG := Lib.hid hbig; have HG6 := Lib.hid hg6
  clear hC hc hbig hg6
  go_enter Tryd.func47, Tryd.ntmps47
  go_upto_region 1 with (fail)
  rw [HG6.out]
  obtain ⟨w1, hw1, x1, b1⟩ := G.out
  rw [hw1]
  have X1 := Lib.hid x1; have B1 := Lib.hid b1
  clear G hw1 x1 b1
  go_wp2_with fail
  refine (clone_calls (fun k => k < g6) A c l w1 HL.out (by rw [← HG6.out]; exact Kd.F_below (Kd.C_F k67_heap HC.out) B1.out) HBG.out).mono ?_
  rintro e w3 ⟨A', c', rfl, l3, h3, b3⟩
  have X3 := Lib.hid (X1.out.below b3); have B3 := Lib.hid (B1.out.trans (b3.mono B1.out.size)); have L3 := Lib.hid l3
  have F3 := Lib.hid (Kd.F_mono h3 (ok' := fun k => k ≠ g6) (fun k hk => by have := X1.out.lt; omega))
  clear b3 l3 h3 X1 B1
  obtain ⟨m0, m1, m2, f0, f1, f2⟩ := X3.out.cells
  go_wp2_with fail
  refine bodyPost_ret (results_cell_row rfl _ _ g6 67 #[.int .i64 2, .int .i64 0, .slice A' l.length c'] (0, 0) _ rfl (X3.out.set3 2 0 (.slice A' l.length c')) Tryd.underlying67 rfl (by kernel_rfl)) rfl ?_
  exact ⟨A', c', rfl, L3.out, Kd.F_now (Kd.F_far (p := ⟨g6, 2, none⟩) (Kd.F_far (p := ⟨g6, 1, none⟩) (Kd.F_far (p := ⟨g6, 0, none⟩) F3.out (fun k hk => hk) _) (fun k hk => hk) _) (fun k hk => hk) _), below_set (below_set (below_set B3.out (Nat.le_of_eq HG6.out)) (Nat.le_of_eq HG6.out)) (Nat.le_of_eq HG6.out)⟩
set_option maxHeartbeats 8000000 in
/-- a record of a list. -/
theorem rec_calls (A : Option Addr) (c : Nat) (l : List S67) (w : World) (hc : l.length ≤ c) (hC : Kd.C k67 w A l.length l) (hbig : l.length ≤ 1048576) :
    Calls Tryd.prog 48 #[.slice A l.length c] w (VE w ⟨3, 0, l⟩) := by
  have hu67 := Tryd.underlying67
  obtain ⟨g6, hg6⟩ : ∃ g6, w.heap.size = g6 := ⟨_, rfl⟩
  have G := Lib.hid (show ∃ w1 : World, w.alloc (.cells #[.int .i64 0, .int .i64 0, .slice none 0 0] 67) = w1 ∧ Bx w1 g6 0 0 (.slice none 0 0) ∧ Below w.heap.size w w1 from
    ⟨_, rfl, by rw [← hg6]; exact blk_new w _, below_alloc (Below.refl _ _) _⟩)
  have HC := Lib.hid hC; have HL := Lib.hid hc; have HBG := Lib.hid hbig; have HG6 := Lib.hid hg6
  clear hC hc hbig hg6
  go_enter Tryd.func48, Tryd.ntmps48
  go_upto_region 1 with (fail)
  rw [HG6.out]
  obtain ⟨w1, hw1, x1, b1⟩ := G.out
  rw [hw1]
  have X1 := Lib.hid x1; have B1 := Lib.hid b1
  clear G hw1 x1 b1
  go_wp2_with fail
  refine (clone_calls (fun k => k < g6) A c l w1 HL.out (by rw [← HG6.out]; exact Kd.F_below (Kd.C_F k67_heap HC.out) B1.out) HBG.out).mono ?_
  rintro e w3 ⟨A', c', rfl, l3, h3, b3⟩
  have X3 := Lib.hid (X1.out.below b3); have B3 := Lib.hid (B1.out.trans (b3.mono B1.out.size)); have L3 := Lib.hid l3
  have F3 := Lib.hid (Kd.F_mono h3 (ok' := fun k => k ≠ g6) (fun k hk => by have := X1.out.lt; omega))
  clear b3 l3 h3 X1 B1
  obtain ⟨m0, m1, m2, f0, f1, f2⟩ := X3.out.cells
  go_wp2_with fail
  refine bodyPost_ret (results_cell_row rfl _ _ g6 67 #[.int .i64 3, .int .i64 0, .slice A' l.length c'] (0, 0) _ rfl (X3.out.set3 3 0 (.slice A' l.length c')) Tryd.underlying67 rfl (by kernel_rfl)) rfl ?_
  exact ⟨A', c', rfl, L3.out, Kd.F_now (Kd.F_far (p := ⟨g6, 2, none⟩) (Kd.F_far (p := ⟨g6, 1, none⟩) (Kd.F_far (p := ⟨g6, 0, none⟩) F3.out (fun k hk => hk) _) (fun k hk => hk) _) (fun k hk => hk) _), below_set (below_set (below_set B3.out (Nat.le_of_eq HG6.out)) (Nat.le_of_eq HG6.out)) (Nat.le_of_eq HG6.out)⟩
theorem size_calls (x : S67) (A : Option Addr) (c : Nat) (w : World) (hz : sz x ≤ 1048576) (h1 : x.f2.length ≤ c) (h2 : Kd.C k67 w A x.f2.length x.f2) :
    Calls Tryd.prog 54 #[v67 x.f0 x.f1 A x.f2.length c] w fun e w' => e = .returned (.int .i64 (sz x : Int)) ∧ Below w.heap.size w w' :=
  PV.val_Size.calls (2 * sz x) x.f0 x.f1 A c x.f2 _ w h2 h1 (size_is _ x (Nat.le_refl _) hz _ (Nat.le_refl _)).1
theorem rsize_calls (x : S67) (A : Option Addr) (c : Nat) (w : World) (hz : sz x ≤ 1048576) (h1 : x.f2.length ≤ c) (h2 : Kd.C k67 w A x.f2.length x.f2) :
    Calls Tryd.prog 55 #[v67 x.f0 x.f1 A x.f2.length c] w fun e w' => e = .returned (.int .i64 (sz x : Int)) ∧ Below w.heap.size w w' :=
  PV.marlineref06_Size.calls (2 * sz x) x.f0 x.f1 A c x.f2 _ w h2 h1 (size_is _ x (Nat.le_refl _) hz _ (Nat.le_refl _)).2
theorem deep_calls (x : S67) (A : Option Addr) (c : Nat) (w : World) (hz : sz x ≤ 1048576) (h1 : x.f2.length ≤ c) (h2 : Kd.C k67 w A x.f2.length x.f2) :
    Calls Tryd.prog 56 #[v67 x.f0 x.f1 A x.f2.length c] w fun e w' => e = .returned (.int .i64 (dp x : Int)) ∧ Below w.heap.size w w' :=
  PV.val_Deep.calls (2 * sz x) x.f0 x.f1 A c x.f2 _ w h2 h1 (deep_is _ x (Nat.le_refl _) hz _ (Nat.le_refl _)).1
theorem rdeep_calls (x : S67) (A : Option Addr) (c : Nat) (w : World) (hz : sz x ≤ 1048576) (h1 : x.f2.length ≤ c) (h2 : Kd.C k67 w A x.f2.length x.f2) :
    Calls Tryd.prog 57 #[v67 x.f0 x.f1 A x.f2.length c] w fun e w' => e = .returned (.int .i64 (dp x : Int)) ∧ Below w.heap.size w w' :=
  PV.marlineref06_Deep.calls (2 * sz x) x.f0 x.f1 A c x.f2 _ w h2 h1 (deep_is _ x (Nat.le_refl _) hz _ (Nat.le_refl _)).2
theorem small_calls (x : S67) (A : Option Addr) (c : Nat) (w : World) (hz : sz x ≤ 1048576) (h1 : x.f2.length ≤ c) (h2 : Kd.C k67 w A x.f2.length x.f2) :
    Calls Tryd.prog 41 #[v67 x.f0 x.f1 A x.f2.length c] w fun e w' => e = .returned (.int .i64 (if sz x > 300 then 0 else 1)) ∧ Below w.heap.size w w' :=
  PV.marlinelaw06_Small.calls (2 * sz x) x.f0 x.f1 A c x.f2 _ w h2 h1 (small_is x hz)
theorem rright_calls (x : S67) (A : Option Addr) (c : Nat) (w : World) (hz : sz x ≤ 1048576) (h1 : x.f2.length ≤ c) (h2 : Kd.C k67 w A x.f2.length x.f2) :
    Calls Tryd.prog 43 #[v67 x.f0 x.f1 A x.f2.length c] w fun e w' => e = .returned (.bool (right x)) ∧ Below w.heap.size w w' :=
  PV.marlineref06_Right.calls (4 * sz x) x.f0 x.f1 A c x.f2 _ w h2 h1 (refright_is _ x (Nat.le_refl _) hz _ (Nat.le_refl _))
theorem rtext_calls (x : S67) (A : Option Addr) (c : Nat) (w : World) (hz : sz x ≤ 1048576) (hw : Wv x) (hr : right x = true) (h1 : x.f2.length ≤ c) (h2 : Kd.C k67 w A x.f2.length x.f2) :
    Calls Tryd.prog 44 #[v67 x.f0 x.f1 A x.f2.length c] w fun e w' => e = .returned (.string (ba (txt x))) ∧ Below w.heap.size w w' :=
  PV.marlineref06_Text.calls (2 * sz x + 1) x.f0 x.f1 A c x.f2 _ w h2 h1 (reftxt_is _ x (Nat.le_refl _) hz hw hr _ (Nat.le_refl _))
theorem rsame_calls (x y : S67) (A : Option Addr) (c : Nat) (A' : Option Addr) (c' : Nat) (w : World) (h1 : x.f2.length ≤ c) (h2 : Kd.C k67 w A x.f2.length x.f2) (h3 : y.f2.length ≤ c') (h4 : Kd.C k67 w A' y.f2.length y.f2) :
    Calls Tryd.prog 45 #[v67 x.f0 x.f1 A x.f2.length c, v67 y.f0 y.f1 A' y.f2.length c'] w fun e w' => e = .returned (.bool (same x y)) ∧ Below w.heap.size w w' :=
  Same.calls x.f0 x.f1 A c x.f2 y.f0 y.f1 A' c' y.f2 _ w h2 h1 h4 h3 (by show some (same ⟨x.f0, x.f1, x.f2⟩ ⟨y.f0, y.f1, y.f2⟩) = _; rw [eta67, eta67])
theorem vclone_calls (x : S67) (A : Option Addr) (c : Nat) (w : World) (hz : sz x ≤ 1048576) (h1 : x.f2.length ≤ c) (h2 : Kd.C k67 w A x.f2.length x.f2) :
    Calls Tryd.prog 53 #[v67 x.f0 x.f1 A x.f2.length c] w fun e w' => ∃ u, e = .returned (.agg #[.int .i64 x.f0, .int .i64 x.f1, u]) ∧ Kd.R k67 67 w' w.heap.size (fun _ => True) u x.f2 ∧ Below w.heap.size w w' :=
  PV.val_Clone.calls (2 * sz x) x.f0 x.f1 A c x.f2 _ _ _ w h2 h1 (clone_is _ x (Nat.le_refl _) hz _ (Nat.le_refl _))
theorem vtext_calls (x : S67) (A : Option Addr) (c : Nat) (w : World) (hz : sz x ≤ 1048576) (hw : Wv x) (h1 : x.f2.length ≤ c) (h2 : Kd.C k67 w A x.f2.length x.f2) (hP : Pow w) :
    Calls Tryd.prog 46 #[v67 x.f0 x.f1 A x.f2.length c] w fun e w' => e = .returned (.string (ba (textV x))) ∧ Below w.heap.size w w' :=
  textv_calls x A c w hz hw h1 h2 (by have := txt_len _ x (Nat.le_refl _) hw; omega) hP

end Go.Proofs.YtfofpammnfcmiaaDoor.Vl
