/- Marline, layer 27: the walk of AsmPlays: for all lists of calls it answers true. No condition. -/
import Derived.Test.YtchmcmbglaffdaaR
import Derived.Deep.RegionHeld3
namespace Go.Proofs.Ytchmcmbglaffdaa.M
open Go.RowKit Go.Proofs.YtchmcmbglaffdaaW.PrintWords Go.Proofs.YtchmcmbglaffdaaW.PrintLast Go.Proofs.YtchmcmbglaffdaaW.PrintMore Go.Proofs.Ytchmcmbglaffdaa.Kinds Go.Proofs.Ytchmcmbglaffdaa.Obj Go.Proofs.Ytchmcmbglaffdaa.PA
set_option linter.unusedVariables false
set_option linter.unusedSimpArgs false

/-- the block of a call. -/
abbrev X31 (k p q r : Int) : Obj := Obj.cells #[.int .i64 k, .int .i64 p, .int .i64 q, .int .i64 r] 31

/-- a number of int. -/
def In64 (n : Int) : Prop := -9223372036854775808 ≤ n ∧ n ≤ 9223372036854775807
theorem rd31_mem (l : List S31) (x : Int) (h0 : 0 ≤ x) (h : x < l.length) : rd_T31 l x ∈ l := by
  unfold rd_T31
  rw [List.getD_eq_getElem?_getD, List.getElem?_eq_getElem (show x.toNat < l.length by omega)]
  exact List.getElem_mem _
theorem mark_no (g : Nat) (n : Int) (L : List S36) (lb : List Int) (J : List S49) (w : World) (h : As w g L lb J) (hn : ¬ (0 ≤ n ∧ n < lb.length ∧ rd lb n = -1)) :
    Calls Try.prog 8 #[.pointer (some ⟨g, 0, none⟩), .int .i64 n] w fun e w' => e = .returned (.bool false) ∧ w' = w := by
  by_cases h1 : 0 ≤ n ∧ n < lb.length
  · exact mark_no2 g n L lb J w h h1.1 h1.2 (fun e => hn ⟨h1.1, h1.2, e⟩)
  · exact mark_no1 g n L lb J w h h1

set_option maxHeartbeats 8000000 in
set_option maxRecDepth 100000 in
theorem plays_core (l : List S31) (A : Option Addr) (c : Nat) (w : World) (hC : Kd.C k31 w A l.length l) (hc : l.length ≤ c) (hl : l.length ≤ 150) (hwf : ∀ x ∈ l, In64 x.f3) :
    Calls Try.prog 3 #[.slice A l.length c] w fun e w' => e = .returned (.bool true) ∧ Below w.heap.size w w' := by
  have hu29 := Try.underlying29
  have hu31 := Try.underlying31
  have hu36 := Try.underlying36
  have HC0 := Lib.hid hC
  have HW0 := Lib.hid hwf
  clear hwf
  clear hC
  have hlen : decide (150 < (l.length : Int)) = false := decide_eq_false (by omega)
  have hlen2 : decide (150 < l.length) = false := decide_eq_false (by omega)
  go_enter Try.func3, Try.ntmps3
  go_wp2_with fail
  refine (works_yes _).mono ?_
  rintro e w1 ⟨rfl, hB⟩
  have B0 := Lib.hid hB; clear hB
  go_wp2_with fail
  refine (new_is _).mono ?_
  rintro e w2 ⟨rfl, hA, hB, hF⟩
  obtain ⟨g, hg⟩ : ∃ g, w1.heap.size = g := ⟨_, rfl⟩
  rw [show (⟨w1.heap.size, 0, none⟩ : Addr) = ⟨g, 0, none⟩ by rw [hg]]
  have S0 : Hid (St w (w2.alloc (Obj.cells #[.slice none 0 0, .slice none 0 0, .slice none 0 0] 29)) g w2.heap.size [] [] [] [] [] []) := by
    have b1 := below_then B0.out B0.out.size hB
    have ba := below_alloc (Below.refl w2.heap.size w2) (Obj.cells #[.slice none 0 0, .slice none 0 0, .slice none 0 0] 29)
    rw [hg] at hA hF
    have hf : ∀ k, Foot (w2.alloc (Obj.cells #[.slice none 0 0, .slice none 0 0, .slice none 0 0] 29)) w2.heap.size k → k = w2.heap.size := fun k hk => by
      rcases Foot.of (blk_new _ _) hk with rfl | ⟨v, hv, hk⟩
      · rfl
      · simp at hv
        subst hv
        simp [Value.ownBlock] at hk
    have hs : ∀ k, Foot (w2.alloc (Obj.cells #[.slice none 0 0, .slice none 0 0, .slice none 0 0] 29)) g k → Foot w2 g k := fun k hk => (Foot.same (by
      obtain ⟨v0, v1, v2, hb, _⟩ := hA
      exact ba.block g (blk_lt hb))).1 hk
    exact Lib.hid ⟨hA.below ba, ⟨_, _, _, blk_new _ _, Kd.R_nil _ _ _ _ _, Kd.R_nil _ _ _ _ _, Kd.R_nil _ _ _ _ _, by simp [Value.ownBlock]⟩, below_then b1 b1.size ba, fun k hk => by have := hF k (hs k hk); have := B0.out.size; omega, fun k hk => by rw [hf k hk]; exact b1.size, fun k hk hk' => by have := hA.lt (hs k hk); rw [hf k hk'] at this; omega⟩
  clear hA hB hF B0 hg
  go_wp2_with fail
  generalize w2.alloc (Obj.cells #[.slice none 0 0, .slice none 0 0, .slice none 0 0] 29) = w3 at *
  generalize w2.heap.size = h at *
  go_loopw [5] (fun i wr => ∃ (x : Int) (L : List S36) (To LB : List Int), i = .int .i64 x ∧ 0 ≤ x ∧ x ≤ l.length ∧ (L.length : Int) ≤ x ∧ (LB.length : Int) ≤ x ∧ Hid (Ok L To LB) ∧ Hid (∀ y ∈ L, In64 y.f3) ∧ Hid (St w wr g h L LB (jOf 0 To) L To LB)) (fun i _ => l.length - (intOf i).toNat)
  case atStart => exact ⟨0, [], [], [], rfl, by omega, by omega, by simp, by simp, Lib.hid Ok.nil, Lib.hid (by simp), S0⟩
  case round =>
    clear S0
    obtain ⟨x, L, To, LB, rfl, x0, xl, Lx, LBx, K, W3, S⟩ := hrel
    by_cases hx : x < (l.length : Int)
    · have hx1 := decide_eq_true hx
      obtain ⟨ad, e, hx_0, hx_1, hx_2, hx_3⟩ := at_T31 (Kd.C_below HC0.out S.out.b) x x0 hx
      cases e
      have hr3 := Lib.hid (HW0.out _ (rd31_mem l x x0 hx))
      generalize (rd_T31 l x).f0 = k at *
      generalize (rd_T31 l x).f1 = p at *
      generalize (rd_T31 l x).f2 = q at *
      generalize (rd_T31 l x).f3 = r at *
      have px := eq_true x0
      have qx := eq_true hx
      have S1 := Lib.hid (SO.new S.out (X31 k p q r))
      obtain ⟨v0, v1, v2, RV⟩ := S1.out.s.r
      obtain ⟨A0, c0, rfl⟩ := Kd.R_slice RV.2.1
      obtain ⟨A1, c1, rfl⟩ := Kd.R_slice RV.2.2.1
      obtain ⟨A2, c2, rfl⟩ := Kd.R_slice RV.2.2.2.1
      obtain ⟨n0, n1, n2⟩ := Rfv.cells RV
      have R1 := Lib.hid (show Rfv _ _ _ _ _ _ _ _ from RV)
      have e2 : IntKind.i64.wrap (x + 1) = x + 1 := IntWalk.i64_in _ (by omega)
      clear RV
      obtain ⟨hb, hhb⟩ : ∃ hb, decide (0 ≤ q ∧ q < (LB.length : Int)) = hb := ⟨_, rfl⟩
      have HBB := Lib.hid hhb
      clear hhb
      go_upto_region 10 with fail
      go_cut [8] (fun z wx => z = .bool hb ∧ wx = wr.alloc (X31 k p q r))
      case first => as_aux_lemma =>
        by_cases d0 : 0 ≤ q
        · have d0' := decide_eq_true d0
          by_cases d1 : q < (LB.length : Int)
          · have d1' := decide_eq_true d1
            go_wp2_with fail
            go_meet
            exact ⟨congrArg Value.bool ((decide_eq_true (p := 0 ≤ q ∧ q < (LB.length : Int)) (by omega)).symm.trans HBB.out), rfl⟩
          · have d1' := decide_eq_false d1
            go_wp2_with fail
            go_meet
            exact ⟨congrArg Value.bool ((decide_eq_false (p := 0 ≤ q ∧ q < (LB.length : Int)) (by omega)).symm.trans HBB.out), rfl⟩
        · have d0' := decide_eq_false d0
          go_wp2_with fail
          go_meet
          exact ⟨congrArg Value.bool ((decide_eq_false (p := 0 ≤ q ∧ q < (LB.length : Int)) (by omega)).symm.trans HBB.out), rfl⟩
      case rest =>
        obtain ⟨rfl, rfl⟩ := hcut
        clear hx_0 hx_1 hx_2 hx_3
        generalize wr.alloc (X31 k p q r) = wx at *
        generalize wr.heap.size = o at *
        obtain ⟨o0, o1, o2, o3⟩ := cells4 S1.out.O
        by_cases k0 : k = 0
        · as_aux_lemma =>
            subst k0
            obtain ⟨z, hz⟩ : ∃ z, LB ++ [(-1 : Int)] = z := ⟨_, rfl⟩
            have zl : z.length = LB.length + 1 := by rw [← hz]; simp
            have hl8 : (LB.length + 1) * 8 ≤ 140737488355328 := by omega
            have zx : (z.length : Int) ≤ x + 1 := by omega
            have z1 : 1 ≤ z.length := by omega
            have z2 : z.length ≤ 140737488355328 := by omega
            have hz' := Lib.hid hz; have hl' := Lib.hid hl8
            clear hz zl hl8
            go_upto_region 16 with fail
            go_cut [7] (fun zz wy => zz = .bool true ∧ Hid (SO w wy g h o (X31 0 p q r) L z (jOf 0 To) L To LB) ∧ Hid (Rfv wy h (.slice A0 L.length c0) (.slice A1 To.length c1) (.slice A2 LB.length c2) L To LB))
            case first =>
              go_region_law ((go_simp; go_at_call 7; refine (label_is g L LB (jOf 0 To) _ (by exact S1.out.s.a.drew) hl'.out).mono ?_; rintro e w4 ⟨rfl, hA, hU⟩; rw [hz'.out] at hA; have S4 := Lib.hid (S1.out.drew.asm hA hU); have R4 := Lib.hid (Rfv.ch (w' := w4) (Rfv.below R1.out (pw_below_drewN (Below.refl _ _) 1)) hU.1 (fun k hk hg => S1.out.drew.s.dis k hg hk)); obtain ⟨m0, m1, m2⟩ := Rfv.cells R4.out; clear hA hU))
              all_goals go_wp2
              all_goals go_meet
              all_goals (exact ⟨by first | rfl | go_simp, S4, R4⟩)
            case rest =>
              clear S1 R1 n0 n1 n2 o0 o1 o2 o3
              clear wx
              obtain ⟨rfl, S4, R4⟩ := hcut
              obtain ⟨m0, m1, m2⟩ := Rfv.cells R4.out
              have mf := blk_frozen R4.out.1 2
              go_upto_region 29 with ((with_reducible refine gate_builtin (b := .append) (xs := #[.tmp 90, .tmp 91]) rfl ?_); at_builtin; go_must (refine Kd.R_append (Kd.int .i64) (w0 := wc) 0 rfl (.tmp 90) (.tmp 91) 27 3 (.int .i64 0) 8 rfl Try.underlying27 info3 rfl (by decide) (by omega) (.slice A2 LB.length c2) LB (-1) [.int .i64 (-1)] (fun _ => True) (fun _ => False) rfl rfl rfl (fun _ hk => hk.elim) (fun _ _ => trivial) ?aO ?aB (Nat.zero_le _) hl'.out ?_; (case aO => exact R4.out.2.2.2.1); (case aB => exact (Below.refl 0 wc)); intro v1' w1 ho hbl hg hat; rw [hz'.out] at ho; have mb := blk_grown R4.out.1 hg (Kd.R_ne R4.out.2.2.2.1 R4.out.1 (by decide)); have mf1 := blk_frozen mb 2; obtain ⟨p0, p1, p2⟩ := cells3 mb; obtain ⟨A2', c2', rfl⟩ := Kd.R_slice ho; have HO := Lib.hid ho; have HG := Lib.hid hg; have HAT := Lib.hid hat; clear ho hg hat hbl mb))
              obtain ⟨R5, U5⟩ := Rfv.app2 R4.out HO.out HG.out HAT.out
              have S5 := Lib.hid (S4.out.ref R5.rf U5)
              clear S4 R4 HO HG HAT U5 m0 m1 m2 mf mf1 p0 p1 p2
              generalize w1.setCell ⟨h, 2, none⟩ (.slice A2' z.length c2') = w5 at *
              obtain ⟨m0, m1, m2⟩ := Rfv.cells R5
              clear R5
              go_quiet ((go_at_call 11; exact Calls.quiet_of_same (len_is g L z (jOf 0 To) _ (by exact S5.out.s.a))))
              go_wp2_with fail
              go_roundw
              case rel => exact ⟨x + 1, L, To, z, rfl, by omega, by omega, by omega, by omega, Lib.hid (hz'.out ▸ K.out.label), W3, Lib.hid (S5.out.s.drewN _)⟩
              case measure => simp [intOf]; omega
        by_cases k1 : k = 1
        · as_aux_lemma =>
            subst k1
            obtain ⟨hm, hhm⟩ : ∃ hm, decide (0 ≤ p ∧ p < (LB.length : Int) ∧ rd LB p = -1) = hm := ⟨_, rfl⟩
            have HMM := Lib.hid hhm
            clear hhm
            have sw1 : (1 : Int) = 0 ↔ False := by decide
            go_upto_region 19 with fail
            go_cut [8] (fun zz wy => zz = .bool hm ∧ wy = wx)
            case first =>
              by_cases d0 : 0 ≤ p
              · have d0' := decide_eq_true d0
                by_cases d1 : p < (LB.length : Int)
                · have d1' := decide_eq_true d1
                  obtain ⟨ad1, ea, hxx⟩ := Kd.at_int (Kd.R_reads' R1.out.2.2.2.1).2.2 p d0 d1
                  cases ea
                  have pxx := eq_true d0
                  have qxx := eq_true d1
                  have hlb := K.out.lb _ (rd_mem LB p d0 d1)
                  generalize rd LB p = u at *
                  by_cases d2 : u < 0
                  · have d2' := decide_eq_true d2
                    have hu1 : u = -1 := by omega
                    have HU1 := Lib.hid hu1
                    clear hu1 hlb
                    go_wp2_with fail
                    go_meet
                    exact ⟨congrArg Value.bool ((decide_eq_true (p := 0 ≤ p ∧ p < (LB.length : Int) ∧ u = -1) ⟨by omega, by omega, HU1.out⟩).symm.trans HMM.out), rfl⟩
                  · have d2' := decide_eq_false d2
                    clear hlb
                    go_wp2_with fail
                    go_meet
                    exact ⟨congrArg Value.bool ((decide_eq_false (p := 0 ≤ p ∧ p < (LB.length : Int) ∧ u = -1) (by omega)).symm.trans HMM.out), rfl⟩
                · have d1' := decide_eq_false d1
                  go_wp2_with fail
                  go_meet
                  exact ⟨congrArg Value.bool ((decide_eq_false (p := 0 ≤ p ∧ p < (LB.length : Int) ∧ rd LB p = -1) (fun hh => absurd hh.2.1 (by omega))).symm.trans HMM.out), rfl⟩
              · have d0' := decide_eq_false d0
                go_wp2_with fail
                go_meet
                exact ⟨congrArg Value.bool ((decide_eq_false (p := 0 ≤ p ∧ p < (LB.length : Int) ∧ rd LB p = -1) (fun hh => absurd hh.1 (by omega))).symm.trans HMM.out), rfl⟩
            case rest =>
              obtain ⟨rfl, rfl⟩ := hcut
              cases hm with
              | false =>
                have hno := of_decide_eq_false HMM.out
                have NO := Lib.hid hno
                clear hno HMM
                go_wp2_with fail
                refine (mark_no g p L LB (jOf 0 To) _ S1.out.s.a NO.out).mono ?_
                rintro e w4 ⟨rfl, rfl⟩
                go_wp2_with fail
                go_quiet ((go_at_call 11; exact Calls.quiet_of_same (len_is g L LB (jOf 0 To) _ (by exact S1.out.s.a))))
                go_wp2_with fail
                go_roundw
                case rel => exact ⟨x + 1, L, To, LB, rfl, by omega, by omega, by omega, by omega, K, W3, Lib.hid (S1.out.s.drewN _)⟩
                case measure => simp [intOf]; omega
              | true =>
                have hyes := of_decide_eq_true HMM.out
                obtain ⟨y0, y1, y2⟩ := hyes
                have Y2 := Lib.hid y2
                clear HMM y2
                go_wp2_with fail
                refine (mark_yes g p L LB (jOf 0 To) _ S1.out.s.a y0 y1 Y2.out).mono ?_
                rintro e w4 ⟨rfl, hA, hU⟩
                have S4 := Lib.hid (S1.out.asm hA hU)
                have R4 := Lib.hid (Rfv.ch (w' := w4) R1.out hU.1 (fun k hk hg => S1.out.s.dis k hg hk))
                obtain ⟨b, hA2⟩ := row_some R4.out.2.2.2.1 (by omega)
                subst hA2
                obtain ⟨m0, m1, m2⟩ := Rfv.cells R4.out
                obtain ⟨q0, q1, q2, q3⟩ := cells4 S4.out.O
                obtain ⟨hx8, hf8⟩ := Kd.R_cell (0 : Int) R4.out.2.2.2.1 p y0 y1
                rw [show Value.int .i64 (rdOf 0 LB p) = Value.int .i64 (-1) from congrArg _ Y2.out] at hx8
                have pxx := eq_true y0
                have qxx := eq_true y1
                have y0' := decide_eq_true y0
                have y1' := decide_eq_true y1
                clear hA hU S1 R1 n0 n1 n2 o0 o1 o2 o3
                go_upto_region 29 with fail
                obtain ⟨hp8, hg8⟩ := Kd.R_put R4.out.2.2.2.1 p (L.length : Int)
                obtain ⟨R5, U5⟩ := Rfv.put2 R4.out hp8 hg8
                have S5 := Lib.hid (S4.out.ref R5.rf U5)
                have zx : ((LB.set p.toNat (L.length : Int)).length : Int) ≤ x + 1 := by rw [List.length_set]; omega
                have KK := Lib.hid (K.out.mark p.toNat)
                have zl : LB.length = (LB.set p.toNat (L.length : Int)).length := by rw [List.length_set]
                clear S4 R4 U5 m0 m1 m2 q0 q1 q2 q3 hp8 hg8 hx8 hf8
                rw [zl] at R5
                obtain ⟨m0, m1, m2⟩ := Rfv.cells R5
                clear R5 zl
                generalize w4.setCell ⟨b, p.toNat, none⟩ (.int .i64 (L.length : Int)) = w5 at *
                generalize LB.set p.toNat (L.length : Int) = z at *
                go_quiet ((go_at_call 11; exact Calls.quiet_of_same (len_is g L z (jOf 0 To) _ (by exact S5.out.s.a))))
                go_wp2_with fail
                go_roundw
                case rel => exact ⟨x + 1, L, To, z, rfl, by omega, by omega, by omega, by omega, KK, W3, Lib.hid (S5.out.s.drewN _)⟩
                case measure => simp [intOf]; omega
        by_cases k2 : k = 2
        · as_aux_lemma =>
            subst k2
            obtain ⟨hm, hhm⟩ : ∃ hm, decide (0 ≤ q ∧ q < (LB.length : Int) ∧ (p = 11 ∨ p = 12)) = hm := ⟨_, rfl⟩
            have HMM := Lib.hid hhm
            clear hhm
            go_upto_region 24 with fail
            go_cut [8] (fun zz wy => zz = .bool hm ∧ wy = wx)
            case first =>
              cases hb with
              | false =>
                have hno := of_decide_eq_false HBB.out
                have hno' := Lib.hid hno
                clear hno HBB
                go_wp2_with fail
                go_meet
                exact ⟨congrArg Value.bool ((decide_eq_false (p := 0 ≤ q ∧ q < (LB.length : Int) ∧ (p = 11 ∨ p = 12)) (fun hh => hno'.out ⟨hh.1, hh.2.1⟩)).symm.trans HMM.out), rfl⟩
              | true =>
                have hyes := of_decide_eq_true HBB.out
                obtain ⟨y0, y1⟩ := hyes
                clear HBB
                by_cases p11 : p = 11
                · have b1 : (p == 11) = true := beq_iff_eq.2 p11
                  have P11 := Lib.hid p11
                  clear p11
                  go_wp2_with fail
                  go_meet
                  exact ⟨congrArg Value.bool ((decide_eq_true (p := 0 ≤ q ∧ q < (LB.length : Int) ∧ (p = 11 ∨ p = 12)) ⟨y0, y1, .inl P11.out⟩).symm.trans HMM.out), rfl⟩
                · by_cases p12 : p = 12
                  · have b1 : (p == 11) = false := beq_eq_false_iff_ne.2 p11
                    have b2 : (p == 12) = true := beq_iff_eq.2 p12
                    have P12 := Lib.hid p12
                    clear p11 p12
                    go_wp2_with fail
                    go_meet
                    exact ⟨congrArg Value.bool ((decide_eq_true (p := 0 ≤ q ∧ q < (LB.length : Int) ∧ (p = 11 ∨ p = 12)) ⟨y0, y1, .inr P12.out⟩).symm.trans HMM.out), rfl⟩
                  · have b1 : (p == 11) = false := beq_eq_false_iff_ne.2 p11
                    have b2 : (p == 12) = false := beq_eq_false_iff_ne.2 p12
                    have P11 := Lib.hid p11; have P12 := Lib.hid p12
                    clear p11 p12
                    go_wp2_with fail
                    go_meet
                    exact ⟨congrArg Value.bool ((decide_eq_false (p := 0 ≤ q ∧ q < (LB.length : Int) ∧ (p = 11 ∨ p = 12)) (fun hh => hh.2.2.elim P11.out P12.out)).symm.trans HMM.out), rfl⟩
            case rest =>
              obtain ⟨rfl, rfl⟩ := hcut
              clear HBB
              cases hm with
              | false =>
                have hno := of_decide_eq_false HMM.out
                have NO := Lib.hid hno
                clear hno HMM
                go_wp2_with fail
                refine (jump_no g p q r L LB (jOf 0 To) _ S1.out.s.a NO.out).mono ?_
                rintro e w4 ⟨rfl, rfl⟩
                go_wp2_with fail
                go_quiet ((go_at_call 11; exact Calls.quiet_of_same (len_is g L LB (jOf 0 To) _ (by exact S1.out.s.a))))
                go_wp2_with fail
                go_roundw
                case rel => exact ⟨x + 1, L, To, LB, rfl, by omega, by omega, by omega, by omega, K, W3, Lib.hid (S1.out.s.drewN _)⟩
                case measure => simp [intOf]; omega
              | true =>
                have hyes := of_decide_eq_true HMM.out
                obtain ⟨y0, y1, y2⟩ := hyes
                have Y2 := Lib.hid y2
                clear HMM y2
                obtain ⟨zL, hzL⟩ : ∃ z, L ++ [(⟨p, 0, 0, r⟩ : S36)] = z := ⟨_, rfl⟩
                obtain ⟨zT, hzT⟩ : ∃ z, To ++ [q] = z := ⟨_, rfl⟩
                obtain ⟨zJ, hzJ⟩ : ∃ z, jOf 0 To ++ [(⟨L.length, q⟩ : S49)] = z := ⟨_, rfl⟩
                have ktl := K.out.len
                have zJ' : jOf 0 zT = zJ := by rw [← hzT, ← hzJ, jOf_snoc, if_pos y0, ktl, Int.zero_add]
                have KK : Hid (Ok zL zT LB) := Lib.hid (by rw [← hzL, ← hzT]; exact K.out.emit _ _ (.inr ⟨y0, y1⟩))
                have W3' : Hid (∀ y ∈ zL, In64 y.f3) := Lib.hid (by rw [← hzL]; exact fun y hy => (List.mem_append.1 hy).elim (W3.out y) (fun e => by rw [List.mem_singleton.1 e]; exact hr3.out))
                have zl1 : (zL.length : Int) ≤ x + 1 := by rw [← hzL]; simp; omega
                have zl2 : (zT.length : Int) ≤ x + 1 := by rw [← hzT]; simp; omega
                have jl : (jOf 0 To).length ≤ To.length := jOf_len To 0
                have hlL := Lib.hid (show (L.length + 1) * 32 ≤ 140737488355328 by omega)
                have hlT := Lib.hid (show (To.length + 1) * 8 ≤ 140737488355328 by omega)
                have hlJ := Lib.hid (show ((jOf 0 To).length + 1) * 16 ≤ 140737488355328 by omega)
                have ZL := Lib.hid hzL; have ZT := Lib.hid hzT; have ZJ := Lib.hid hzJ; have ZJ' := Lib.hid zJ'
                have zLp : 1 ≤ zL.length := by rw [← hzL]; simp
                have zTp : 1 ≤ zT.length := by rw [← hzT]; simp
                have zLm : zL.length ≤ 140737488355328 := by omega
                have zTm : zT.length ≤ 140737488355328 := by omega
                clear hzL hzT hzJ zJ' ktl jl
                go_wp2_with fail
                refine (jump_yes g p q r L LB (jOf 0 To) _ S1.out.s.a y0 y1 Y2.out hlL.out hlJ.out).mono ?_
                rintro e w4 ⟨rfl, hA, hU⟩
                rw [ZL.out, ZJ.out] at hA
                have S4 := Lib.hid (S1.out.asm hA hU)
                have R4 := Lib.hid (Rfv.ch (w' := w4) R1.out hU.1 (fun k hk hg => S1.out.s.dis k hg hk))
                clear hA hU S1 R1 n0 n1 n2 o0 o1 o2 o3
                clear wc
                obtain ⟨m0, m1, m2⟩ := Rfv.cells R4.out
                obtain ⟨q0, q1, q2, q3⟩ := cells4 S4.out.O
                have mf := blk_frozen R4.out.1 0
                go_upto_region 28 with ((with_reducible refine gate_builtin (b := .append) (xs := #[.tmp 156, .tmp 162]) rfl ?_); at_builtin; go_must (refine Kd.R_append k36 (w0 := w4) 0 rfl (.tmp 156) (.tmp 162) 26 36 (.agg #[(.int .i64 0), (.int .i64 0), (.int .i64 0), (.int .i64 0)]) 32 rfl Try.underlying26 info36 rfl (by decide) (by omega) (.slice A0 L.length c0) L (⟨p, 0, 0, r⟩ : S36) [.int .i64 p, .int .i64 0, .int .i64 0, .int .i64 r] (fun _ => True) (fun _ => False) rfl rfl (k36_mkM _ _ _ (⟨p, 0, 0, r⟩ : S36)) (fun _ hk => hk.elim) (fun _ _ => trivial) ?aOL ?aBL (Nat.zero_le _) hlL.out ?_; (case aOL => exact R4.out.2.1); (case aBL => exact (Below.refl 0 _)); intro v1' w5 ho hbl hg hat; rw [ZL.out] at ho; obtain ⟨R5, U5⟩ := Rfv.app0 R4.out ho hg hat; obtain ⟨A0', c0', rfl⟩ := Kd.R_slice ho; have mb := blk_grown R4.out.1 hg (Kd.R_ne R4.out.2.1 R4.out.1 (by decide)); have mf0 := blk_frozen mb 0; obtain ⟨p0, p1, p2⟩ := cells3 mb; have S5 := Lib.hid (S4.out.ref R5.rf U5); have R5' := Lib.hid R5; obtain ⟨s0, s1, s2, s3⟩ := cells4 S5.out.O; clear ho hbl hg hat mb R5 U5))
                generalize w5.setCell ⟨h, 0, none⟩ (.slice A0' zL.length c0') = w6 at *
                clear S4 R4 m0 m1 m2 mf p0 p1 p2 mf0
                clear q0 q1 q2 q3
                skip
                obtain ⟨m0, m1, m2⟩ := Rfv.cells R5'.out
                have mf := blk_frozen R5'.out.1 1
                go_upto_region 29 with ((with_reducible refine gate_builtin (b := .append) (xs := #[.tmp 166, .tmp 169]) rfl ?_); at_builtin; go_must (refine Kd.R_append (Kd.int .i64) (w0 := w6) 0 rfl (.tmp 166) (.tmp 169) 27 3 (.int .i64 0) 8 rfl Try.underlying27 info3 rfl (by decide) (by omega) (.slice A1 To.length c1) To q [.int .i64 q] (fun _ => True) (fun _ => False) rfl rfl rfl (fun _ hk => hk.elim) (fun _ _ => trivial) ?aOT ?aBT (Nat.zero_le _) hlT.out ?_; (case aOT => exact R5'.out.2.2.1); (case aBT => exact (Below.refl 0 _)); intro v1' w7 ho hbl hg hat; rw [ZT.out] at ho; obtain ⟨R7, U7⟩ := Rfv.app1 R5'.out ho hg hat; obtain ⟨A1', c1', rfl⟩ := Kd.R_slice ho; have mb := blk_grown R5'.out.1 hg (Kd.R_ne R5'.out.2.2.1 R5'.out.1 (by decide)); have mf1 := blk_frozen mb 1; obtain ⟨p0, p1, p2⟩ := cells3 mb; have S7 := Lib.hid (S5.out.ref R7.rf U7); have R7' := Lib.hid R7; clear ho hbl hg hat mb R7 U7))
                generalize w7.setCell ⟨h, 1, none⟩ (.slice A1' zT.length c1') = w8 at *
                clear S5 R5' m0 m1 m2 mf p0 p1 p2 mf1 s0 s1 s2 s3
                obtain ⟨m0, m1, m2⟩ := Rfv.cells R7'.out
                go_quiet ((go_at_call 11; exact Calls.quiet_of_same (len_is g zL LB _ _ (by exact S7.out.s.a))))
                go_wp2_with fail
                go_roundw
                case rel => exact ⟨x + 1, zL, zT, LB, rfl, by omega, by omega, by omega, by omega, KK, W3', Lib.hid (ZJ'.out ▸ S7.out.s.drewN _)⟩
                case measure => simp [intOf]; omega
        · as_aux_lemma =>
            have kb : (k == 0) = false := beq_eq_false_iff_ne.2 k0
            have kc : (k == 1) = false := beq_eq_false_iff_ne.2 k1
            have kd : (k == 2) = false := beq_eq_false_iff_ne.2 k2
            obtain ⟨zL, hzL⟩ : ∃ z, L ++ [(⟨k, p, q, r⟩ : S36)] = z := ⟨_, rfl⟩
            obtain ⟨zT, hzT⟩ : ∃ z, To ++ [(-1 : Int)] = z := ⟨_, rfl⟩
            have ktl := K.out.len
            have zJ' : jOf 0 zT = jOf 0 To := by rw [← hzT, jOf_snoc, if_neg (by decide), List.append_nil]
            have KK : Hid (Ok zL zT LB) := Lib.hid (by rw [← hzL, ← hzT]; exact K.out.emit _ _ (.inl rfl))
            have W3' : Hid (∀ y ∈ zL, In64 y.f3) := Lib.hid (by rw [← hzL]; exact fun y hy => (List.mem_append.1 hy).elim (W3.out y) (fun e => by rw [List.mem_singleton.1 e]; exact hr3.out))
            have zl1 : (zL.length : Int) ≤ x + 1 := by rw [← hzL]; simp; omega
            have zl2 : (zT.length : Int) ≤ x + 1 := by rw [← hzT]; simp; omega
            have hlL := Lib.hid (show (L.length + 1) * 32 ≤ 140737488355328 by omega)
            have hlT := Lib.hid (show (To.length + 1) * 8 ≤ 140737488355328 by omega)
            have ZL := Lib.hid hzL; have ZT := Lib.hid hzT; have ZJ' := Lib.hid zJ'
            have zLp : 1 ≤ zL.length := by rw [← hzL]; simp
            have zTp : 1 ≤ zT.length := by rw [← hzT]; simp
            have zLm : zL.length ≤ 140737488355328 := by omega
            have zTm : zT.length ≤ 140737488355328 := by omega
            clear hzL hzT zJ' ktl
            go_upto_region 12 with fail
            go_cut [7] (fun zz wy => zz = .bool true ∧ Hid (SO w wy g h o (X31 k p q r) zL LB (jOf 0 To) L To LB) ∧ Hid (Rfv wy h (.slice A0 L.length c0) (.slice A1 To.length c1) (.slice A2 LB.length c2) L To LB))
            case first =>
              have n0' : wx.drew.cell? ⟨h, 0, none⟩ = some (.slice A0 L.length c0) := n0
              go_region_held3 (fun w' => w'.cell? ⟨o, 0, none⟩ = some (.int .i64 k) ∧ w'.cell? ⟨o, 1, none⟩ = some (.int .i64 p) ∧ w'.cell? ⟨o, 2, none⟩ = some (.int .i64 q) ∧ w'.cell? ⟨o, 3, none⟩ = some (.int .i64 r) ∧ w'.cell? ⟨h, 0, none⟩ = some (.slice A0 L.length c0)) (first | exact ⟨o0, o1, o2, o3, n0⟩ | exact ⟨q0, q1, q2, q3, m0⟩)
                (first | (go_at_call 10; refine (emit_is g _ _ _ _ L LB (jOf 0 To) _ (by exact S1.out.s.a.drew) hlL.out).mono ?_; rintro e w4 ⟨rfl, hA, hU⟩; rw [ZL.out] at hA; have S4 := Lib.hid (S1.out.drew.asm hA hU); have R4 := Lib.hid (Rfv.ch (w' := w4) (Rfv.below R1.out (pw_below_drewN (Below.refl _ _) 1)) hU.1 (fun k hk hg => S1.out.drew.s.dis k hg hk)); obtain ⟨m0, m1, m2⟩ := Rfv.cells R4.out; obtain ⟨q0, q1, q2, q3⟩ := cells4 S4.out.O; clear hA hU))
              all_goals go_wp2
              all_goals go_meet
              all_goals (exact ⟨by first | rfl | go_simp, S4, R4⟩)
            case rest =>
              clear S1 R1 n0 n1 n2 o0 o1 o2 o3
              clear wx
              obtain ⟨rfl, S4, R4⟩ := hcut
              obtain ⟨w4, hw4⟩ : ∃ w4, wc = w4 := ⟨_, rfl⟩
              subst hw4
              obtain ⟨m0, m1, m2⟩ := Rfv.cells R4.out
              obtain ⟨q0, q1, q2, q3⟩ := cells4 S4.out.O
              have mf := blk_frozen R4.out.1 0
              go_upto_region 14 with ((with_reducible refine gate_builtin (b := .append) (xs := #[.tmp 63, .tmp 73]) rfl ?_); at_builtin; go_must (refine Kd.R_append k36 (w0 := wc) 0 rfl (.tmp 63) (.tmp 73) 26 36 (.agg #[(.int .i64 0), (.int .i64 0), (.int .i64 0), (.int .i64 0)]) 32 rfl Try.underlying26 info36 rfl (by decide) (by omega) (.slice A0 L.length c0) L (⟨k, p, q, r⟩ : S36) [.int .i64 k, .int .i64 p, .int .i64 q, .int .i64 r] (fun _ => True) (fun _ => False) rfl rfl (k36_mkM _ _ _ (⟨k, p, q, r⟩ : S36)) (fun _ hk => hk.elim) (fun _ _ => trivial) ?aOL ?aBL (Nat.zero_le _) hlL.out ?_; (case aOL => exact R4.out.2.1); (case aBL => exact (Below.refl 0 _)); intro v1' w5 ho hbl hg hat; rw [ZL.out] at ho; obtain ⟨R5, U5⟩ := Rfv.app0 R4.out ho hg hat; obtain ⟨A0', c0', rfl⟩ := Kd.R_slice ho; have mb := blk_grown R4.out.1 hg (Kd.R_ne R4.out.2.1 R4.out.1 (by decide)); have mf0 := blk_frozen mb 0; obtain ⟨p0, p1, p2⟩ := cells3 mb; have S5 := Lib.hid (S4.out.ref R5.rf U5); have R5' := Lib.hid R5; obtain ⟨s0, s1, s2, s3⟩ := cells4 S5.out.O; clear ho hbl hg hat mb R5 U5))
              generalize w5.setCell ⟨h, 0, none⟩ (.slice A0' zL.length c0') = w6 at *
              clear S4 R4 m0 m1 m2 mf p0 p1 p2 mf0
              clear q0 q1 q2 q3
              skip
              obtain ⟨m0, m1, m2⟩ := Rfv.cells R5'.out
              have mf := blk_frozen R5'.out.1 1
              go_upto_region 29 with ((with_reducible refine gate_builtin (b := .append) (xs := #[.tmp 77, .tmp 78]) rfl ?_); at_builtin; go_must (refine Kd.R_append (Kd.int .i64) (w0 := w6) 0 rfl (.tmp 77) (.tmp 78) 27 3 (.int .i64 0) 8 rfl Try.underlying27 info3 rfl (by decide) (by omega) (.slice A1 To.length c1) To (-1) [.int .i64 (-1)] (fun _ => True) (fun _ => False) rfl rfl rfl (fun _ hk => hk.elim) (fun _ _ => trivial) ?aOT ?aBT (Nat.zero_le _) hlT.out ?_; (case aOT => exact R5'.out.2.2.1); (case aBT => exact (Below.refl 0 _)); intro v1' w7 ho hbl hg hat; rw [ZT.out] at ho; obtain ⟨R7, U7⟩ := Rfv.app1 R5'.out ho hg hat; obtain ⟨A1', c1', rfl⟩ := Kd.R_slice ho; have mb := blk_grown R5'.out.1 hg (Kd.R_ne R5'.out.2.2.1 R5'.out.1 (by decide)); have mf1 := blk_frozen mb 1; obtain ⟨p0, p1, p2⟩ := cells3 mb; have S7 := Lib.hid (S5.out.ref R7.rf U7); have R7' := Lib.hid R7; clear ho hbl hg hat mb R7 U7))
              generalize w7.setCell ⟨h, 1, none⟩ (.slice A1' zT.length c1') = w8 at *
              clear S5 R5' m0 m1 m2 mf p0 p1 p2 mf1 s0 s1 s2 s3
              obtain ⟨m0, m1, m2⟩ := Rfv.cells R7'.out
              go_quiet ((go_at_call 11; exact Calls.quiet_of_same (len_is g zL LB _ _ (by exact S7.out.s.a))))
              go_wp2_with fail
              go_roundw
              case rel => exact ⟨x + 1, zL, zT, LB, rfl, by omega, by omega, by omega, by omega, KK, W3', Lib.hid (ZJ'.out ▸ S7.out.s.drewN _)⟩
              case measure => simp [intOf]; omega
    · as_aux_lemma =>
        have hx1 := decide_eq_false hx
        have LL : L.length ≤ 150 := by omega
        clear HC0
        go_wp2_with fail
        refine (end_is g L LB (jOf 0 To) _ S.out.a (by omega) K.out.jumps).mono ?_
        rintro e w5 ⟨hB, ho⟩
        have B5 := Lib.hid hB
        have S5 := Lib.hid (S.out.below hB)
        obtain ⟨v0, v1, v2, RV⟩ := S5.out.r
        obtain ⟨A0, c0, rfl⟩ := Kd.R_slice RV.2.1
        obtain ⟨A1, c1, rfl⟩ := Kd.R_slice RV.2.2.1
        obtain ⟨A2, c2, rfl⟩ := Kd.R_slice RV.2.2.2.1
        obtain ⟨n0, n1, n2⟩ := Rfv.cells RV
        have R1 := Lib.hid (show Rfv _ _ _ _ _ _ _ _ from RV)
        have hR0 := Lib.hid (Kd.R_reads' RV.2.1); have hR1 := Lib.hid (Kd.R_reads' RV.2.2.1); have hR2 := Lib.hid (Kd.R_reads' RV.2.2.2.1)
        clear RV hB
        have EP := Lib.hid (end_pure L To LB K.out (by omega))
        rcases ho with ⟨hn, rfl⟩ | ⟨v, out, ho, rfl, hv, hnew⟩
        · have EP' := Lib.hid (by have h := EP.out; rw [hn] at h; exact h)
          clear EP hn
          go_wp2_with fail
          refine (marlineref27_End.calls 1002 A0 c0 L A1 c1 To A2 c2 LB [] 12 _ hR0.out.2.2 hR0.out.2.1 hR1.out.2.2 hR1.out.2.1 hR2.out.2.2 hR2.out.2.1 EP'.out).mono ?_
          rintro e w6 ⟨v, rfl, hv, hB⟩
          obtain ⟨Av, cv, rfl⟩ := Kd.R_slice hv
          have V := Lib.hid hv; have B6 := Lib.hid (below_then S5.out.b S5.out.b.size hB)
          clear hv hB
          go_wp2_with fail
          refine (marlineref27_Same.calls 1002 none 0 [] Av cv [] true _ (Kd.R_reads' (show Row k36 36 w6 (.slice none 0 0) [] from Kd.R_nil _ _ _ _ _)).2.2 (Nat.le_refl _) (Kd.R_reads' V.out).2.2 (Kd.R_reads' V.out).2.1 (same_pure [] (by simp))).mono ?_
          rintro e w7 ⟨rfl, hD⟩
          have D := Lib.hid hD; clear hD
          go_wp2_with fail
          go_ret
          exact ⟨rfl, below_then B6.out B6.out.size D.out.below⟩
        · have ho' := Lib.hid ho
          have EP' := Lib.hid (by have h := EP.out; rw [ho] at h; exact h)
          clear EP ho
          have ol := Lib.hid (endL_len LB (jOf 0 To) L out ho'.out)
          obtain ⟨Av, cv, rfl⟩ := Kd.R_slice hv
          have V5 := Lib.hid hv; have NW := Lib.hid hnew
          clear hv hnew
          go_wp2_with fail
          refine (marlineref27_End.calls 1002 A0 c0 L A1 c1 To A2 c2 LB out 0 _ hR0.out.2.2 hR0.out.2.1 hR1.out.2.2 hR1.out.2.1 hR2.out.2.2 hR2.out.2.1 EP'.out).mono ?_
          rintro e w6 ⟨u, rfl, hu, hB⟩
          obtain ⟨Au, cu, rfl⟩ := Kd.R_slice hu
          have U6 := Lib.hid hu
          have V6 := Lib.hid (Kd.R_below V5.out hB)
          have B6 := Lib.hid (below_then B5.out B5.out.size hB)
          have NB := Lib.hid (fun k (hk : (Value.slice Av out.length cv).ownBlock = some k) => V5.out.lt hk)
          clear hu hB V5 B5 S5 R1 hR0 hR1 hR2 n0 n1 n2 EP'
          have o150 : out.length ≤ 150 := by have := ol.out; omega
          by_cases hz : out.length = 0
          · have hz1 : decide (0 < (out.length : Int)) = false := decide_eq_false (by omega)
            have hz2 : decide (0 < out.length) = false := decide_eq_false (by omega)
            have HZ := Lib.hid hz
            clear hz
            go_wp2_with fail
            refine (marlineref27_Same.calls 1002 Av cv out Au cu out true _ (Kd.R_reads' V6.out).2.2 (Kd.R_reads' V6.out).2.1 (Kd.R_reads' U6.out).2.2 (Kd.R_reads' U6.out).2.1 (same_pure out (by omega))).mono ?_
            rintro e w7 ⟨rfl, hD⟩
            have D := Lib.hid hD; clear hD
            go_wp2_with fail
            go_ret
            exact ⟨rfl, below_then (below_then S.out.b S.out.b.size B6.out) (below_then S.out.b S.out.b.size B6.out).size D.out.below⟩
          · have hz1 : decide (0 < (out.length : Int)) = true := decide_eq_true (by omega)
            have hz2 : decide (0 < out.length) = true := decide_eq_true (by omega)
            have hz3 : ((0 : Int) < (out.length : Int)) = True := eq_true (by omega)
            have hz4 : (0 < out.length) = True := eq_true (by omega)
            obtain ⟨b, hAv⟩ := row_some V6.out (by omega)
            subst hAv
            obtain ⟨cur, hcur⟩ := Kd.R_typed V6.out b rfl
            have fz := blk_frozen hcur 3
            obtain ⟨ad2, e, z0, z1, z2, z3⟩ := at_T36 (Kd.R_reads' V6.out).2.2 0 (by decide) (by omega)
            cases e
            simp only [add_plain] at z0 z1 z2 z3
            have e00 : (0 : Int).toNat * 4 = 0 := rfl
            simp only [e00, Nat.zero_add] at z0 z1 z2 z3
            clear e00
            obtain ⟨a3, ha3⟩ : ∃ a3, (rd_T36 out 0).f3 = a3 := ⟨_, rfl⟩
            obtain ⟨y, hy⟩ : ∃ y, bits .xor .i64 a3 1 = y := ⟨_, rfl⟩
            have hyy : bits .xor .i64 y 1 = a3 := by
              rw [← hy]
              refine xor_twice a3 ?_
              have hm : (rd_T36 out 0).f3 ∈ out.map (fun u : S36 => u.f3) := List.mem_map_of_mem (f := fun u : S36 => u.f3) (by
                unfold rd_T36
                rw [List.getD_eq_getElem?_getD, List.getElem?_eq_getElem (show (0 : Int).toNat < out.length by show 0 < out.length; omega)]
                exact List.getElem_mem _)
              rw [endL_f3 LB _ _ _ ho'.out, ha3] at hm
              obtain ⟨u, hu, hu3⟩ := List.mem_map.1 hm
              exact hu3 ▸ W3.out u hu
            rw [ha3] at z3
            have HA3 := Lib.hid ha3; have HY := Lib.hid hy; have HYY := Lib.hid hyy
            clear hz ha3 hy hyy
            have op : 0 < out.length := of_eq_true hz4
            have UB := Lib.hid (show ∀ k, (Value.slice Au out.length cu).ownBlock = some k → ¬ k = b from fun k hk hb => by have h1 := Kd.R_base U6.out k hk; have h2 := NB.out b rfl; omega)
            have ZZ := Lib.hid (And.intro z0 (And.intro z1 z2))
            clear z0 z1 z2
            go_upto_region 35 with fail
            rw [HY.out]
            have W7 := Lib.hid (show Row k36 36 (w6.setCell ⟨b, 3, none⟩ (.int .i64 y)) (.slice (some ⟨b, 0, none⟩) out.length cv) (out.set 0 ⟨(rd_T36 out 0).f0, (rd_T36 out 0).f1, (rd_T36 out 0).f2, y⟩) from
              (Kd.R_seg (c := [.int .i64 (rd_T36 out 0).f0, .int .i64 (rd_T36 out 0).f1, .int .i64 (rd_T36 out 0).f2, .int .i64 a3]) (seg := [.int .i64 y]) (j := 3) (okp := fun _ => False) V6.out 0 (by decide) (by omega) rfl (fun j u hu => by
                obtain ⟨y0, y1, y2⟩ := ZZ.out
                match j, hu with
                | 0, hu => injection hu with hu; subst hu; exact y0
                | 1, hu => injection hu with hu; subst hu; exact y1
                | 2, hu => injection hu with hu; subst hu; exact y2
                | 3, hu => injection hu with hu; subst hu; exact z3) (show 3 + 1 ≤ 4 by decide) (k36_mkM _ _ _ (⟨(rd_T36 out 0).f0, (rd_T36 out 0).f1, (rd_T36 out 0).f2, y⟩ : S36)) (fun _ h => h.elim)).1)
            have U7 := Lib.hid (Row.ch (w' := w6.setCell ⟨b, 3, none⟩ (.int .i64 y)) (Kd.R_lower U6.out (Nat.zero_le _)) rfl ((Ch.refl (fun k => k = b) w6).setCell (.inl rfl) (.int .i64 y)) UB.out)
            have B7 := Lib.hid (B6.out.setCell (p := ⟨b, 3, none⟩) (NW.out b rfl) (.int .i64 y))
            clear z3 fz hcur V6 U6 B6 ZZ
            generalize w6.setCell ⟨b, 3, none⟩ (.int .i64 y) = w7 at *
            go_wp2_with fail
            refine (end_is g L LB (jOf 0 To) _ (S.out.a.below B7.out) (by omega) K.out.jumps).mono ?_
            rintro e w8 ⟨hB, ⟨hn, _⟩ | ⟨v2, out2, ho2, rfl, hv2, hnew2⟩⟩
            · cases (ho'.out.symm.trans hn)
            obtain rfl : out = out2 := Option.some.inj (ho'.out.symm.trans ho2)
            obtain ⟨Av2, cv2, rfl⟩ := Kd.R_slice hv2
            have hW8 := Kd.R_below W7.out hB
            have W8 := Lib.hid hW8
            have U8 := Lib.hid (Kd.R_below U7.out hB)
            have B8 := Lib.hid (below_then B7.out B7.out.size hB)
            obtain ⟨b2, hAv2⟩ := row_some hv2 op
            subst hAv2
            obtain ⟨ad3, e, x0', x1', x2', x3'⟩ := at_T36 (Kd.R_reads' hv2).2.2 0 (by decide) (by omega)
            cases e
            obtain ⟨ad4, e, y0', y1', y2', y3'⟩ := at_T36 (Kd.R_reads' hW8).2.2 0 (by decide) (by rw [List.length_set]; omega)
            cases e
            rw [rd36_set0 _ _ op] at y0' y1' y2' y3'
            rw [HA3.out] at x3'
            simp only [add_plain] at x3' y0' y1' y2' y3'
            have e00 : (0 : Int).toNat * 4 = 0 := rfl
            simp only [e00, Nat.zero_add] at x3' y0' y1' y2' y3'
            obtain ⟨cur, hcur⟩ := Kd.R_typed hW8 b rfl
            have fz := blk_frozen hcur 3
            have ZZ := Lib.hid (And.intro y0' (And.intro y1' y2'))
            clear hv2 hW8 hB hnew2 ho2 x0' x1' x2' y0' y1' y2' e00 W7 U7 B7 hcur
            have FIN := Lib.hid (show ∀ n, Row k36 36 ((w8.drewN n).setCell ⟨b, 3, none⟩ (.int .i64 a3)) (.slice (some ⟨b, 0, none⟩) out.length cv) out from fun n => by
              have h := (Kd.R_seg (c := [.int .i64 (rd_T36 out 0).f0, .int .i64 (rd_T36 out 0).f1, .int .i64 (rd_T36 out 0).f2, .int .i64 y]) (seg := [.int .i64 a3]) (j := 3) (okp := fun _ => False) (Kd.R_drewN W8.out n) 0 (by decide) (by omega) rfl (fun j u hu => by
                obtain ⟨y0, y1, y2⟩ := ZZ.out
                match j, hu with
                | 0, hu => injection hu with hu; subst hu; exact y0
                | 1, hu => injection hu with hu; subst hu; exact y1
                | 2, hu => injection hu with hu; subst hu; exact y2
                | 3, hu => injection hu with hu; subst hu; exact y3') (show 3 + 1 ≤ 4 by decide) (k36_mkM _ _ _ (⟨(rd_T36 out 0).f0, (rd_T36 out 0).f1, (rd_T36 out 0).f2, a3⟩ : S36)) (fun _ h => h.elim)).1
              have hb : ((out.set 0 (⟨(rd_T36 out 0).f0, (rd_T36 out 0).f1, (rd_T36 out 0).f2, y⟩ : S36)).set (0 : Int).toNat (⟨(rd_T36 out 0).f0, (rd_T36 out 0).f1, (rd_T36 out 0).f2, a3⟩ : S36)) = out := by
                rw [← HA3.out]
                exact set36_back out _ op
              rw [hb] at h
              exact h)
            have UFIN := Lib.hid (show ∀ n, Row k36 36 ((w8.drewN n).setCell ⟨b, 3, none⟩ (.int .i64 a3)) (.slice Au out.length cu) out from fun n => Row.ch (Kd.R_drewN U8.out n) rfl ((Ch.refl (fun k => k = b) (w8.drewN n)).setCell (p := ⟨b, 3, none⟩) (.inl rfl) (.int .i64 a3)) UB.out)
            have BFIN := Lib.hid (show ∀ n, Below w.heap.size w ((w8.drewN n).setCell ⟨b, 3, none⟩ (.int .i64 a3)) from fun n => below_then S.out.b S.out.b.size ((pw_below_drewN B8.out n).setCell (p := ⟨b, 3, none⟩) (NW.out b rfl) (.int .i64 a3)))
            clear U8 W8 B8 ZZ
            have hyy := HYY.out
            go_wp2_with fail
            go_quiet (fail)
            go_wp2_with fail
            refine (marlineref27_Same.calls 1002 (some ⟨b, 0, none⟩) cv out Au cu out true _ (Kd.R_reads' (FIN.out _)).2.2 (Kd.R_reads' (FIN.out 0)).2.1 (Kd.R_reads' (UFIN.out _)).2.2 (Kd.R_reads' (UFIN.out 0)).2.1 (same_pure out (by omega))).mono ?_
            rintro e w9 ⟨rfl, hD⟩
            have D := Lib.hid hD; clear hD
            go_wp2_with fail
            go_ret
            exact ⟨rfl, below_then (BFIN.out _) (BFIN.out _).size D.out.below⟩
end Go.Proofs.Ytchmcmbglaffdaa.M
