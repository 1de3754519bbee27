/- Marline, layer 26: the instruction of a text. Conditions: as each says. -/
import Derived.Test.YtfofpammnfcmiaaDoorIe
namespace Go.Proofs.YtfofpammnfcmiaaDoor.Ip
open Go.RowKit Go.Proofs.YtfofpammnfcmiaaDoorW.PrintWords Go.Proofs.YtfofpammnfcmiaaDoorW.PrintLast Go.Proofs.YtfofpammnfcmiaaDoorW.PrintMore Go.Proofs.YtfofpammnfcmiaaDoor.Kinds Go.Proofs.YtfofpammnfcmiaaDoor.Obj Go.Proofs.YtfofpammnfcmiaaDoor.Sp Go.Proofs.YtfofpammnfcmiaaDoor.E
set_option linter.unusedVariables false
set_option linter.unusedSimpArgs false
set_option maxRecDepth 100000
def insO (o : Option (Int × Int × Int)) : Value := match o with | none => insV 0 0 0 0 | some x => insV x.1 x.2.1 x.2.2 0
def errO (o : Option (Int × Int × Int)) : Int := if o.isSome then 0 else 1
theorem range_drop (n : Nat) (h : n < 34) : (List.range 34).drop n = n :: (List.range 34).drop (n + 1) := by
  rw [List.drop_eq_getElem_cons (by simpa using h)]; simp
theorem scan_skip {Q : List (List UInt8)} {n : Nat} (h : n < 34) (hc : n = 0 ∨ nm n ≠ Q.headD [] ∨ Q.length ≠ ag n + 1) : scan Q ((List.range 34).drop n) = scan Q ((List.range 34).drop (n + 1)) := by
  rw [range_drop n h]; conv => lhs; unfold scan
  rw [if_pos hc]
theorem scan_bad {Q : List (List UInt8)} {n : Nat} (h : n < 34) (hc : ¬ (n = 0 ∨ nm n ≠ Q.headD [] ∨ Q.length ≠ ag n + 1)) (hx : numsS Q.tail = none) : scan Q ((List.range 34).drop n) = none := by
  rw [range_drop n h]; unfold scan
  rw [if_neg hc, hx]
theorem scan_yes {Q : List (List UInt8)} {n : Nat} {xs : List Int} (h : n < 34) (hc : ¬ (n = 0 ∨ nm n ≠ Q.headD [] ∨ Q.length ≠ ag n + 1)) (hx : numsS Q.tail = some xs) (hr : rightS n (xs.getD 0 0) (xs.getD 1 0) = true) : scan Q ((List.range 34).drop n) = some ((n : Int), xs.getD 0 0, xs.getD 1 0) := by
  rw [range_drop n h]; unfold scan
  rw [if_neg hc, hx]
  simp only
  rw [if_pos hr]
theorem scan_no {Q : List (List UInt8)} {n : Nat} {xs : List Int} (h : n < 34) (hc : ¬ (n = 0 ∨ nm n ≠ Q.headD [] ∨ Q.length ≠ ag n + 1)) (hx : numsS Q.tail = some xs) (hr : rightS n (xs.getD 0 0) (xs.getD 1 0) = false) : scan Q ((List.range 34).drop n) = scan Q ((List.range 34).drop (n + 1)) := by
  rw [range_drop n h]; conv => lhs; unfold scan
  rw [if_neg hc, hx]
  simp only
  rw [hr]; rfl
theorem nums_drop (Q : List (List UInt8)) (k : Nat) (h : k < Q.length) : numsS (Q.drop k) = if (signedS (Q.getD k [])).2 = 0 then (numsS (Q.drop (k + 1))).map ((signedS (Q.getD k [])).1 :: ·) else none := by
  have e : Q.drop k = Q.getD k [] :: Q.drop (k + 1) := by
    rw [List.drop_eq_getElem_cons h]; simp [List.getD, List.getElem?_eq_getElem h]
  rw [e, numsS]
/-- the table's op of a number. -/
theorem ops_index (k : Nat) (hk : k < 34) (W : World) : (Instr.index 97 (.agg opsV) (.int .i64 (k : Int))).run Tryd.prog W = .ok (.agg #[.string ⟨(nm k).toArray⟩, .int .i64 (ag k : Nat), .int .i64 (tkn k : Nat), .int .i64 (lyn k : Nat)]) W := by
  have h : k = 0 ∨ k = 1 ∨ k = 2 ∨ k = 3 ∨ k = 4 ∨ k = 5 ∨ k = 6 ∨ k = 7 ∨ k = 8 ∨ k = 9 ∨ k = 10 ∨ k = 11 ∨ k = 12 ∨ k = 13 ∨ k = 14 ∨ k = 15 ∨ k = 16 ∨ k = 17 ∨ k = 18 ∨ k = 19 ∨ k = 20 ∨ k = 21 ∨ k = 22 ∨ k = 23 ∨ k = 24 ∨ k = 25 ∨ k = 26 ∨ k = 27 ∨ k = 28 ∨ k = 29 ∨ k = 30 ∨ k = 31 ∨ k = 32 ∨ k = 33 := by omega
  rcases h with rfl | rfl | rfl | rfl | rfl | rfl | rfl | rfl | rfl | rfl | rfl | rfl | rfl | rfl | rfl | rfl | rfl | rfl | rfl | rfl | rfl | rfl | rfl | rfl | rfl | rfl | rfl | rfl | rfl | rfl | rfl | rfl | rfl | rfl <;> rfl
/-- two numbers in a variable. -/
def N2 (w : World) (g : Nat) (a b : Int) : Prop := w.heap[g]? = some (.cells #[.int .i64 a, .int .i64 b] 98 (0, 0))
theorem N2.cells {w : World} {g : Nat} {a b : Int} (h : N2 w g a b) : w.cell? ⟨g, 0, none⟩ = some (.int .i64 a) ∧ w.cell? ⟨g, 1, none⟩ = some (.int .i64 b) ∧ w.frozen? ⟨g, 0, none⟩ = false ∧ w.frozen? ⟨g, 1, none⟩ = false :=
  ⟨(blk_cell h 0).trans rfl, (blk_cell h 1).trans rfl, blk_frozen h 0, blk_frozen h 1⟩
/-- the next number is laid. -/
theorem N2.put {w : World} {g : Nat} {xs : List Int} (h : N2 w g (xs.getD 0 0) (xs.getD 1 0)) (hl : xs.length < 2) (v : Int) : N2 (w.setCell ⟨g, xs.length, none⟩ (.int .i64 v)) g ((xs ++ [v]).getD 0 0) ((xs ++ [v]).getD 1 0) := by
  match xs, hl with
  | [], _ =>
    have h1 := blk_set h 0 (.int .i64 v)
    unfold N2; simpa using h1
  | [x], _ =>
    have h1 := blk_set h 1 (.int .i64 v)
    unfold N2; simpa using h1
theorem N2.open {w : World} {g : Nat} {a b : Int} (h : N2 w g a b) (k : Nat) (hk : k < 2) : (∃ v, w.cell? ⟨g, k, none⟩ = some v) ∧ w.frozen? ⟨g, k, none⟩ = false := by
  have h2 : k = 0 ∨ k = 1 := by omega
  rcases h2 with rfl | rfl
  · exact ⟨⟨_, h.cells.1⟩, h.cells.2.2.1⟩
  · exact ⟨⟨_, h.cells.2.1⟩, h.cells.2.2.2⟩
theorem cut_one (n : Nat) (h1 : 1 ≤ n) (h3 : n ≤ 3) (b : Nat) : ∃ A : Addr, (1 < n → A = ⟨b, 1, none⟩) ∧ ∀ W : World, (Instr.sliceAt 81 (.slice (some ⟨b, 0, none⟩) n n) (some (.int .i64 1)) none none).run Tryd.prog W = .ok (.slice (some A) (n - 1) (n - 1)) W := by
  have h : n = 1 ∨ n = 2 ∨ n = 3 := by omega
  rcases h with rfl | rfl | rfl
  · exact ⟨⟨b, 0, none⟩, by omega, fun W => rfl⟩
  · exact ⟨⟨b, 1, none⟩, fun _ => rfl, fun W => rfl⟩
  · exact ⟨⟨b, 1, none⟩, fun _ => rfl, fun W => rfl⟩
theorem piece_len : ∀ (l p : List UInt8), p ∈ pieces 32 l → p.length ≤ l.length := by
  intro l
  induction l with
  | nil => intro p hp; simp [pieces] at hp; subst hp; simp
  | cons c r ih =>
    intro p hp
    unfold pieces at hp
    split at hp
    · rcases List.mem_cons.1 hp with hp | hp
      · subst hp; simp
      · have := ih p hp; simp; omega
    · split at hp
      · simp at hp; subst hp; simp
      · rename_i q qs hq
        rcases List.mem_cons.1 hp with hp | hp
        · subst hp; have := ih q (by rw [hq]; exact List.mem_cons_self); simp; omega
        · have := ih p (by rw [hq]; exact List.mem_cons_of_mem _ hp); simp; omega

set_option maxHeartbeats 8000000 in
theorem iparse_calls (s : ByteArray) (w : World) (hs : s.size ≤ 1000000000) (h : Li w) : Calls Tryd.prog 36 #[.string s] w fun e w' => e = .returned (.tuple #[insO (parseS s.data.toList), .int .i64 (errO (parseS s.data.toList))]) ∧ Below w.heap.size w w' := by
  have hu48 := Tryd.underlying48
  have hu94 := Tryd.underlying94
  have hu97 := Tryd.underlying97
  have hu98 := Tryd.underlying98
  obtain ⟨o, ho⟩ : ∃ o, parseS s.data.toList = o := ⟨_, rfl⟩
  rw [ho]
  unfold parseS at ho
  obtain ⟨g, hg⟩ : ∃ g, w.heap.size = g := ⟨_, rfl⟩
  have G : Hid (∃ w1 : World, w.alloc (.cells #[.int .i64 0, .int .i64 0, .int .i64 0, .int .i64 0] 48) = w1 ∧ Q4 w1 g 48 (.int .i64 0) (.int .i64 0) (.int .i64 0) (.int .i64 0) ∧ Below w.heap.size w w1) :=
    Lib.hid ⟨_, rfl, by rw [← hg]; exact blk_new _ _, below_alloc (Below.refl _ _) _⟩
  have WG := Lib.hid (show w.heap.size ≤ g by omega)
  have C0 := fun m w hm => Tryd.strings_Split s ⟨#[32]⟩ m w (by omega) hm (by decide)
  obtain ⟨P, hP⟩ : ∃ P, Lib.splitB ⟨#[32]⟩ 0 (Lib.countB s ⟨#[32]⟩) s = P := ⟨_, rfl⟩
  have hPd := splitB_pieces 32 s
  have hPl := Lib.splitB_all ⟨#[32]⟩ (by decide) 0 _ s rfl
  have hcl := Lib.countB_le ⟨#[32]⟩ (by decide) _ s (Nat.le_refl _)
  rw [hP] at C0 hPd hPl
  rw [← hPd] at ho
  rw [← hPl] at C0
  have C1 := Lib.hid C0
  clear C0
  have hPs : P.length ≤ 1000000001 := by omega
  have hP1 : 1 ≤ P.length := by omega
  obtain ⟨Q, hQ⟩ : ∃ Q : List (List UInt8), P.map (·.data.toList) = Q := ⟨_, rfl⟩
  have hQl : Q.length = P.length := by rw [← hQ]; simp
  have hQg : ∀ j x, P[j]? = some x → Q.getD j [] = x.data.toList := by
    intro j x hx
    rw [← hQ]; simp [List.getD, hx]
  have hxs : ∀ x, x ∈ P → x.size ≤ 1000000000 := by
    intro x hx
    have h1 : x.data.toList ∈ pieces 32 s.data.toList := by rw [← hPd]; exact List.mem_map.2 ⟨x, hx, rfl⟩
    have h2 := piece_len _ _ h1
    have h3 : s.data.toList.length = s.size := rfl
    have h4 : x.data.toList.length = x.size := rfl
    omega
  rw [hQ] at ho
  have HP := Lib.hid ho; have HQL := Lib.hid hQl; have HQG := Lib.hid hQg; have HXS := Lib.hid hxs
  have HL := Lib.hid h; have HPS := Lib.hid hPs; have HP1 := Lib.hid hP1
  obtain ⟨x0, hx0⟩ : ∃ x, P[0]? = some x := ⟨P[0], List.getElem?_eq_getElem (by omega)⟩
  have HX0 := Lib.hid hx0
  have HQ0 : Hid (Q.headD [] = x0.data.toList) := Lib.hid (by have := hQg 0 x0 hx0; cases Q with | nil => simp at hQl; omega | cons q r => exact this)
  have E1 := Lib.hid hg
  clear hg ho hP hPd hPl hcl hs hQ hQl hQg hxs h hPs hP1 hx0
  obtain ⟨V, hV⟩ : ∃ V, opsV = V := ⟨_, rfl⟩
  have IX0 := fun (k : Nat) (hk : k < 34) => ops_index k hk
  rw [hV] at IX0
  have IX := Lib.hid IX0
  clear IX0
  have HI : Hid ((Tryd.prog.info? 97).map (·.size) = some V.size) := Lib.hid (by rw [← hV]; kernel_rfl)
  have HV : Hid (∀ W, Ops W → ∃ t fr, W.heap[0]? = some (.cells V t fr)) := Lib.hid (fun W h => by rw [← hV]; exact h.blk)
  clear hV
  go_enter Tryd.func36, Tryd.ntmps36
  go_upto_region 1 with (fail)
  rw [E1.out]
  obtain ⟨w1, hw1, v1, b1⟩ := G.out
  rw [hw1]
  have V1 := Lib.hid v1; have B1 := Lib.hid b1
  clear G v1 b1 hw1
  obtain ⟨m, hm⟩ := (HL.out.below B1.out).l.m
  go_wp2_with fail
  refine (C1.out m w1 hm).mono ?_
  rintro e w2 ⟨rfl, rfl⟩
  clear C1 hm
  obtain ⟨b, hb⟩ : ∃ b, w1.heap.size = b := ⟨_, rfl⟩
  rw [hb]
  have S1 : Hid ((w1.alloc (.cells (P.map Value.string).toArray 9)).heap[b]? = some (.cells (P.map Value.string).toArray 9 (0, 0))) := Lib.hid (by rw [← hb]; exact blk_new w1 _)
  have NB := Lib.hid (show g < b by have := V1.out.lt; omega)
  have V2 : Hid (Q4 (w1.alloc (.cells (P.map Value.string).toArray 9)) g 48 (.int .i64 0) (.int .i64 0) (.int .i64 0) (.int .i64 0)) := Lib.hid (V1.out.alloc _)
  have B2 : Hid (Below w.heap.size w (w1.alloc (.cells (P.map Value.string).toArray 9))) := Lib.hid (below_alloc B1.out _)
  clear hb V1 B1
  generalize w1.alloc (.cells (P.map Value.string).toArray 9) = w2 at S1 V2 B2 ⊢
  obtain ⟨t, fr, hb0⟩ := HV.out w2 (HL.out.below B2.out).o
  have HB0 := Lib.hid hb0
  clear hb0
  go_wp2_with (refine wpList_load_row rfl 97 (.global 0) rfl 0 rfl t V fr _ HB0.out Tryd.underlying97 rfl HI.out ?_)
  clear HB0
  go_loopw [16] (fun i w' => ∃ n : Nat, i = .int .i64 n ∧ n ≤ 34 ∧ Hid (scan Q ((List.range 34).drop n) = o) ∧ Hid (Below w.heap.size w w') ∧ Hid (Q4 w' g 48 (.int .i64 0) (.int .i64 0) (.int .i64 0) (.int .i64 0)) ∧ Hid (w'.heap[b]? = some (.cells (P.map Value.string).toArray 9 (0, 0)))) (fun i _ => 34 - (intOf i).toNat)
  case atStart => exact ⟨0, rfl, Nat.zero_le _, HP, B2, V2, S1⟩
  case round =>
    obtain ⟨n, rfl, hn, HM, HB, HV4, HS⟩ := hrel
    clear B2 V2 S1
    by_cases hlt : n < 34
    · have ix := IX.out n hlt
      obtain ⟨sn, hsn⟩ : ∃ s : ByteArray, ⟨(nm n).toArray⟩ = s := ⟨_, rfl⟩
      obtain ⟨a, ha⟩ : ∃ a : Int, ((ag n : Nat) : Int) = a := ⟨_, rfl⟩
      obtain ⟨tk, htk⟩ : ∃ a : Int, ((tkn n : Nat) : Int) = a := ⟨_, rfl⟩
      obtain ⟨ly, hly⟩ : ∃ a : Int, ((lyn n : Nat) : Int) = a := ⟨_, rfl⟩
      rw [hsn, ha, htk, hly] at ix
      have p1 : decide ((n : Int) < 34) = true := decide_eq_true (by omega)
      have HSN := Lib.hid hsn; have HA := Lib.hid ha; have HN := Lib.hid hlt
      have HWJ := Lib.hid (show wrap64 ((n : Int) + 1) = ((n + 1 : Nat) : Int) by unfold wrap64; omega)
      clear hsn ha htk hly
      go_upto_region 5 with (fail)
      obtain ⟨gi, hgi⟩ : ∃ g, wr.heap.size = g := ⟨_, rfl⟩
      have H3 : ∃ w3 : World, wr.alloc (.cells #[.string sn, .int .i64 a, .int .i64 tk, .int .i64 ly] 94) = w3 ∧ Q4 w3 gi 94 (.string sn) (.int .i64 a) (.int .i64 tk) (.int .i64 ly) ∧ Q4 w3 g 48 (.int .i64 0) (.int .i64 0) (.int .i64 0) (.int .i64 0) ∧ w3.heap[b]? = some (.cells (P.map Value.string).toArray 9 (0, 0)) ∧ Below w.heap.size w w3 :=
        ⟨_, rfl, by rw [← hgi]; exact blk_new wr _, HV4.out.alloc _, blk_alloc HS.out _, below_alloc HB.out _⟩
      rw [hgi]
      obtain ⟨w3, hw3, i3, v3, s3, b3⟩ := H3
      rw [hw3]
      have I3 := Lib.hid i3; have V3 := Lib.hid v3; have S3 := Lib.hid s3; have B3 := Lib.hid b3
      obtain ⟨m0, m1, m2, m3, t0, t1, t2, t3⟩ := i3.cells
      have hc0 : w3.cell? ⟨b, 0, none⟩ = some (.string x0) := (blk_cell s3 0).trans (by simp [HX0.out])
      have hlen0 : (0 : Int) < (P.length : Int) := by have := HP1.out; omega
      clear hw3 i3 v3 s3 b3 HV4 HS HB hgi ix
      by_cases hcond : n = 0 ∨ nm n ≠ Q.headD [] ∨ Q.length ≠ ag n + 1
      · have NX := Lib.hid (show scan Q ((List.range 34).drop (n + 1)) = o by rw [← scan_skip HN.out hcond]; exact HM.out)
        have hz : ((n : Int) == 0) = true ∨ (((n : Int) == 0) = false ∧ (sn.toList == x0.toList) = false) ∨ (((n : Int) == 0) = false ∧ (sn.toList == x0.toList) = true ∧ ((P.length : Int) == wrap64 (a + 1)) = false) := by
          by_cases h0 : n = 0
          · exact .inl (by rw [h0]; rfl)
          · have h1 : ((n : Int) == 0) = false := beq_no (by omega)
            have e1 : sn.toList = nm n := by rw [ByteArray.toList_eq, ← HSN.out]
            have e2 : x0.toList = Q.headD [] := by rw [ByteArray.toList_eq, HQ0.out]
            by_cases h2 : nm n = Q.headD []
            · refine .inr (.inr ⟨h1, by rw [e1, e2, h2]; exact beq_self_eq_true _, ?_⟩)
              have h3 : Q.length ≠ ag n + 1 := (hcond.resolve_left h0).resolve_left (fun h => h h2)
              have h4 := args_two ⟨n, HN.out⟩
              simp only at h4
              have h5 := HQL.out; have h6 := HA.out
              refine beq_no ?_
              unfold wrap64; omega
            · exact .inr (.inl ⟨h1, by rw [e1, e2]; exact beq_eq_false_iff_ne.2 h2⟩)
        clear hcond
        rcases hz with z1 | ⟨z1, z2⟩ | ⟨z1, z2, z3⟩
        all_goals
          go_upto_region 5 with (fail)
          go_region
          all_goals
            go_wp2_with fail
            go_roundw
            case rel => exact ⟨n + 1, by first | rw [HWJ.out] | (push_cast; rfl), by have := HN.out; omega, NX, Lib.hid (below_drew1 B3.out), V3, S3⟩
            case measure => have := HN.out; first | (rw [HWJ.out]; simp [intOf]; omega) | (simp [intOf]; omega)
      · have HC := Lib.hid hcond
        have z1 : ((n : Int) == 0) = false := beq_no (fun h => hcond (.inl (by omega)))
        have z2 : (sn.toList == x0.toList) = true := by
          have e1 : sn.toList = nm n := by rw [ByteArray.toList_eq, ← HSN.out]
          have e2 : x0.toList = Q.headD [] := by rw [ByteArray.toList_eq, HQ0.out]
          have h2 : nm n = Q.headD [] := Classical.byContradiction fun h => hcond (.inr (.inl h))
          rw [e1, e2, h2]; exact beq_self_eq_true _
        have hPL : P.length = ag n + 1 := by
          have h3 : Q.length = ag n + 1 := Classical.byContradiction fun h => hcond (.inr (.inr h))
          rw [← HQL.out]; exact h3
        have h4 := args_two ⟨n, HN.out⟩
        simp only at h4
        have z3 : ((P.length : Int) == wrap64 (a + 1)) = true := by
          rw [hPL]
          have h6 := HA.out
          rw [beq_iff_eq]; unfold wrap64; omega
        obtain ⟨N, hN⟩ : ∃ N, P.length = N := ⟨_, rfl⟩
        obtain ⟨A1, hA1, hcut⟩ := cut_one N (by omega) (by omega) b
        have HNN := Lib.hid hN; have HPL := Lib.hid (show N = ag n + 1 by omega); have HA1 := Lib.hid hA1; have H4 := Lib.hid h4
        rw [hN] at z3 hlen0
        rw [hN]
        clear hcond hPL h4 hN hA1
        go_upto_region 5 with (fail)
        go_region
        all_goals
          go_upto_region 7 with (fail)
          obtain ⟨gn, hgn⟩ : ∃ g, w3.heap.size = g := ⟨_, rfl⟩
          have H4' : ∃ w4 : World, (w3.alloc (.cells #[.int .i64 0, .int .i64 0] 98)).drew = w4 ∧ N2 w4 gn 0 0 ∧ Q4 w4 g 48 (.int .i64 0) (.int .i64 0) (.int .i64 0) (.int .i64 0) ∧ w4.heap[b]? = some (.cells (P.map Value.string).toArray 9 (0, 0)) ∧ Below w.heap.size w w4 :=
            ⟨_, rfl, by rw [← hgn]; exact blk_new w3 _, V3.out.alloc _, blk_alloc S3.out _, below_drew1 (below_alloc B3.out _)⟩
          have NG1 := Lib.hid (show g ≠ gn by have := V3.out.lt; omega)
          have NG2 := Lib.hid (show b ≠ gn by have := blk_lt S3.out; omega)
          have WGN := Lib.hid (show w.heap.size ≤ gn by have := B3.out.size; omega)
          rw [hgn, show ((N : Int) != wrap64 (a + 1)) = false by rw [bne, z3]; rfl]
          obtain ⟨w4, hw4, n4, v4, s4, b4⟩ := H4'
          rw [hw4]
          have N4 := Lib.hid n4; have V4 := Lib.hid v4; have S4 := Lib.hid s4; have B4 := Lib.hid b4
          clear hw4 n4 v4 s4 b4 hgn m0 m1 m2 m3 t0 t1 t2 t3 hc0 hlen0 I3 V3 S3 B3 z1 z2 z3
          go_wp2_with fail
          go_loopw [42] (fun i w' => ∃ (k : Nat) (xs : List Int), i = .int .i64 k ∧ k + 1 ≤ N ∧ Hid (xs.length = k ∧ numsS Q.tail = (numsS (Q.drop (k + 1))).map (xs ++ ·)) ∧ Hid (Below w.heap.size w w') ∧ Hid (N2 w' gn (xs.getD 0 0) (xs.getD 1 0)) ∧ Hid (Q4 w' g 48 (.int .i64 0) (.int .i64 0) (.int .i64 0) (.int .i64 0)) ∧ Hid (w'.heap[b]? = some (.cells (P.map Value.string).toArray 9 (0, 0)))) (fun i _ => N - (intOf i).toNat)
          case atStart => exact ⟨0, [], rfl, by have := HPL.out; omega, Lib.hid ⟨rfl, by rw [List.drop_one]; cases numsS Q.tail <;> simp⟩, B4, N4, V4, S4⟩
          case round =>
            obtain ⟨k, xs, rfl, hk, HXS2, HBk, HNk, HVk, HSk⟩ := hrel
            clear B4 N4 V4 S4
            by_cases hkl : k + 1 < N
            · have hA := HA1.out (by omega)
              subst hA
              obtain ⟨x, hx⟩ : ∃ x, P[k + 1]? = some x := ⟨P[k + 1]'(by have := HNN.out; omega), List.getElem?_eq_getElem _⟩
              have hcell : wr.cell? ⟨b, 1 + k, none⟩ = some (.string x) := (blk_cell HSk.out (1 + k)).trans (by rw [Nat.add_comm 1 k]; simp [hx])
              have hxm := HXS.out x (List.mem_of_getElem? hx)
              have hst := nums_drop Q (k + 1) (by have := HQL.out; have := HNN.out; omega)
              rw [HQG.out (k + 1) x hx] at hst
              have C2' := signed_calls x wr (by omega) (HL.out.below HBk.out).l.p (HL.out.below HBk.out).l.e
              obtain ⟨v, bad, hvb⟩ : ∃ v bad, signedS x.data.toList = (v, bad) := ⟨_, _, rfl⟩
              rw [hvb] at C2' hst
              have C2 := Lib.hid C2'; have HST := Lib.hid hst
              have k0 : (0 : Int) ≤ (k : Int) := by omega
              have HK1 := Lib.hid (show k < 2 by have := HPL.out; have := H4.out; omega)
              have k1 : (k : Int) < ((N - 1 : Nat) : Int) := by omega
              have k2 : (k : Int) < 2 := by have := HK1.out; omega
              have HKN := Lib.hid hkl
              have HWK := Lib.hid (show wrap64 ((k : Int) + 1) = ((k + 1 : Nat) : Int) by have := HK1.out; unfold wrap64; omega)
              clear C2' hst hvb hx hxm hkl
              go_wp2_with fail
              refine C2.out.mono ?_
              rintro e w5 ⟨rfl, b5⟩
              have B5 := Lib.hid (HBk.out.trans (b5.mono HBk.out.size))
              have N5 := Lib.hid (show N2 w5 gn (xs.getD 0 0) (xs.getD 1 0) from blk_below HNk.out b5)
              have V5 := Lib.hid (HVk.out.below b5)
              have S5 := Lib.hid (blk_below HSk.out b5)
              clear b5 C2 HBk HNk HVk HSk hcell
              by_cases hbad : bad = 0
              · subst hbad
                obtain ⟨⟨v0, q0⟩, q1⟩ := N5.out.open k HK1.out
                have HNK := Lib.hid (show N2 (w5.setCell ⟨gn, k, none⟩ (.int .i64 v)) gn ((xs ++ [v]).getD 0 0) ((xs ++ [v]).getD 1 0) by have := N5.out.put (by rw [HXS2.out.1]; exact HK1.out) v; rw [HXS2.out.1] at this; exact this)
                go_wp2_with fail
                go_roundw
                case rel => exact ⟨k + 1, xs ++ [v], by first | rw [HWK.out] | (push_cast; rfl), by have := HKN.out; omega, Lib.hid ⟨by rw [List.length_append, HXS2.out.1]; rfl, by rw [HXS2.out.2, HST.out, if_pos (by trivial)]; cases numsS (Q.drop (k + 1 + 1)) <;> simp⟩, Lib.hid (below_set B5.out WGN.out), HNK, Lib.hid (V5.out.far NG1.out _), Lib.hid (blk_far S5.out NG2.out _)⟩
                case measure => have := HKN.out; have := HK1.out; first | (rw [HWK.out]; simp [intOf]; omega) | (simp [intOf]; omega)
              · have hb2 : (bad == 0) = false := beq_no hbad
                have HO := Lib.hid (show none = o by rw [← HM.out]; exact (scan_bad HN.out HC.out (by rw [HXS2.out.2, HST.out, if_neg hbad]; rfl)).symm)
                obtain ⟨m0, m1, m2, m3, t0, t1, t2, t3⟩ := V5.out.cells
                clear hbad
                go_wp2_with fail
                refine bodyPost_ret (results_ct rfl _ _ g 48 #[.int .i64 0, .int .i64 0, .int .i64 0, .int .i64 0] (0, 0) _ rfl (V5.out.set _ _ _ _) Tryd.underlying48 rfl (by kernel_rfl)) rfl ?_
                rw [← HO.out]
                exact ⟨rfl, below4 B5.out WG.out⟩
            · have hke : k + 1 = N := by omega
              have HNS := Lib.hid (show numsS Q.tail = some xs by rw [HXS2.out.2, List.drop_of_length_le (by have := HQL.out; have := HNN.out; omega)]; simp [numsS])
              have HK1 := Lib.hid (show k < 2 ∨ k = 2 by have := HPL.out; have := H4.out; omega)
              have k1 : ¬ (k : Int) < ((N - 1 : Nat) : Int) := by omega
              have k2 : decide ((k : Int) < ((N - 1 : Nat) : Int)) = false := decide_eq_false k1
              obtain ⟨u, hu⟩ : ∃ u, xs.getD 0 0 = u := ⟨_, rfl⟩
              obtain ⟨v, hv⟩ : ∃ u, xs.getD 1 0 = u := ⟨_, rfl⟩
              rw [hu, hv] at HNk
              have HU := Lib.hid hu; have HVV := Lib.hid hv
              obtain ⟨q0, q1, f0, f1⟩ := HNk.out.cells
              clear hu hv hke
              go_upto_region 16 with (fail)
              obtain ⟨gj, hgj⟩ : ∃ g, wr.heap.size = g := ⟨_, rfl⟩
              have H6 : ∃ w6 : World, wr.alloc (.cells #[.int .i64 (n : Int), .int .i64 u, .int .i64 v, .int .i64 0] 48) = w6 ∧ Q4 w6 gj 48 (.int .i64 (n : Int)) (.int .i64 u) (.int .i64 v) (.int .i64 0) ∧ Q4 w6 g 48 (.int .i64 0) (.int .i64 0) (.int .i64 0) (.int .i64 0) ∧ w6.heap[b]? = some (.cells (P.map Value.string).toArray 9 (0, 0)) ∧ Below w.heap.size w w6 :=
                ⟨_, rfl, by rw [← hgj]; exact blk_new wr _, HVk.out.alloc _, blk_alloc HSk.out _, below_alloc HBk.out _⟩
              rw [hgj]
              obtain ⟨w6, hw6, i6, v6, s6, b6⟩ := H6
              rw [hw6]
              have I6 := Lib.hid i6; have V6 := Lib.hid v6; have S6 := Lib.hid s6; have B6 := Lib.hid b6
              obtain ⟨m0, m1, m2, m3, t0, t1, t2, t3⟩ := i6.cells
              clear hw6 i6 v6 s6 b6 hgj q0 q1 f0 f1 HNk HVk HSk HBk
              obtain ⟨r, hr⟩ : ∃ r, rightS (n : Int) u v = r := ⟨_, rfl⟩
              have HR := Lib.hid hr
              have C3 := Lib.hid (right_calls (n : Int) u v 0 w6 (HL.out.below B6.out).o)
              clear hr
              go_wp2_with fail
              refine C3.out.mono ?_
              rintro e w7 ⟨rfl, b7⟩
              rw [HR.out]
              have I7 := Lib.hid (I6.out.below b7); have V7 := Lib.hid (V6.out.below b7); have S7 := Lib.hid (blk_below S6.out b7)
              have B7 := Lib.hid (B6.out.trans (b7.mono B6.out.size))
              obtain ⟨m0, m1, m2, m3, t0, t1, t2, t3⟩ := I7.out.cells
              clear b7 C3 I6 V6 S6 B6
              cases r with
              | true =>
                have HO := Lib.hid (show some ((n : Int), u, v) = o by rw [← HM.out, ← HU.out, ← HVV.out]; exact (scan_yes HN.out HC.out HNS.out (by rw [HU.out, HVV.out]; exact HR.out)).symm)
                obtain ⟨y0, y1, y2, y3, z0, z1, z2, z3⟩ := V7.out.cells
                go_wp2_with fail
                refine bodyPost_ret (results_ct rfl _ _ g 48 #[.int .i64 (n : Int), .int .i64 u, .int .i64 v, .int .i64 0] (0, 0) _ rfl (V7.out.set _ _ _ _) Tryd.underlying48 rfl (by kernel_rfl)) rfl ?_
                rw [← HO.out]
                exact ⟨rfl, below4 B7.out WG.out⟩
              | false =>
                have NX := Lib.hid (show scan Q ((List.range 34).drop (n + 1)) = o by rw [← scan_no HN.out HC.out HNS.out (by rw [HU.out, HVV.out]; exact HR.out)]; exact HM.out)
                rw [← HNN.out]
                go_wp2_with fail
                go_roundw
                case rel => exact ⟨n + 1, by first | rw [HWJ.out] | (push_cast; rfl), by have := HN.out; omega, NX, B7, V7, S7⟩
                case measure => have := HN.out; first | (rw [HWJ.out]; simp [intOf]; omega) | (simp [intOf]; omega)
    · have hje : n = 34 := by omega
      subst hje
      have HO := Lib.hid (show none = o from HM.out)
      obtain ⟨m0, m1, m2, m3, t0, t1, t2, t3⟩ := HV4.out.cells
      go_wp2_with fail
      refine bodyPost_ret (results_ct rfl _ _ g 48 #[.int .i64 0, .int .i64 0, .int .i64 0, .int .i64 0] (0, 0) _ rfl (HV4.out.set _ _ _ _) Tryd.underlying48 rfl (by kernel_rfl)) rfl ?_
      rw [← HO.out]
      exact ⟨rfl, below4 HB.out WG.out⟩
end Go.Proofs.YtfofpammnfcmiaaDoor.Ip
