/- Marline, layer 19: the law of blocks and names. Conditions: as each says. -/
import Derived.Test.YtlpfgeeibbfibaaSl
namespace Go.Proofs.Ytlpfgeeibbfibaa.E
open Go.RowKit Go.Proofs.YtlpfgeeibbfibaaW.PrintWords Go.Proofs.YtlpfgeeibbfibaaW.PrintLast Go.Proofs.YtlpfgeeibbfibaaW.PrintMore Go.Proofs.Ytlpfgeeibbfibaa.Kinds Go.Proofs.Ytlpfgeeibbfibaa.Obj
set_option linter.unusedVariables false
set_option linter.unusedSimpArgs false
set_option maxRecDepth 100000
theorem w_j {j n : Nat} (h : j < n) (hn : n ≤ 80) : wrap64 ((j : Int) + 1) = (j : Int) + 1 := by unfold wrap64; omega
def t18T : Bool × List (List Nat × List Nat) := (true, [([], []), ([0], [0]), ([1], [1]), ([1], [1]), ([1], [1]), ([3, 4, 1], [1, 3, 4]), ([5, 1], [1, 5]), ([6, 1], [1, 6]), ([2, 7, 1, 1], [1, 2, 7]), ([8, 1], [1, 8]), ([1, 9], [1, 9]), ([10, 8], [10]), ([11], [11]), ([12, 11], [11, 12]), ([13, 11, 11], [11, 13]), ([14], [14]), ([15, 14], [14, 15]), ([16, 14], [14, 16]), ([14, 17, 11], [11, 14, 17]), ([11, 18], [11, 18])])
def b18B : List Nat := [0, 1, 3, 3, 3, 27, 59, 123, 255, 511, 1023, 2047, 4095, 8191, 16383, 32767, 65535, 131071, 262143, 524287]
theorem t18 : rtab .any (opsOf Try.f3 18) = t18T := by kernel_rfl
theorem b18 : waitsOk t18T.2 b18B = true := by kernel_rfl
set_option maxHeartbeats 16000000 in
theorem plays_walk (l : List S32) (A : Option Addr) (c : Nat) (nm : ByteArray) (w : World) (hsz : ∀ y ∈ l, ns y.f2 ≤ 1048576) (hC : Kd.C k32 w A l.length l) (hc : l.length ≤ c) :
    Calls Try.prog 3 #[.slice A l.length c, .string nm] w fun e w' => e = .returned (.bool true) ∧ Below w.heap.size w w' := by
  have hu30 := Try.underlying30
  have HC := Lib.hid hC; have HSZ := Lib.hid hsz
  obtain ⟨n, hn⟩ : ∃ n, l.length = n := ⟨_, rfl⟩
  have HN := Lib.hid hn
  rw [hn]
  by_cases hl : n ≤ 80
  · have hl2 : decide ((80 : Int) < (n : Int)) = false := decide_eq_false (by omega)
    have HNL := Lib.hid hl
    clear hC hc hsz hn hl
    go_enter Try.func3, Try.ntmps3
    go_wp2_with fail
    refine (works_calls w).mono ?_
    rintro e w1 ⟨rfl, b1⟩
    have B1 := Lib.hid b1
    clear b1
    go_wp2_with fail
    refine (new_calls w.heap.size w1 B1.out.size).mono ?_
    rintro e w2 ⟨g, vN, vB, rfl, hg, _, s2, b2⟩
    have S2 := Lib.hid s2; have B2 := Lib.hid (B1.out.trans (b2.mono B1.out.size))
    clear s2 b2 hg B1
    go_wp2_with fail
    go_loopw [6, 7, 8, 9] (fun v d mo i w' => ∃ (j : Nat) (L : List S41) (bs : List Nat) (m : Int) (vN vB : Value), i = .int .i64 j ∧ d = .int .i64 bs.length ∧ mo = .int .i64 m ∧ j ≤ n ∧ Hid (Inv L bs) ∧ Hid (Ref w.heap.size w' g v L) ∧ Hid (Sco w.heap.size w' g vN vB (L.map nmOf) (bs.map (fun b : Nat => (b : Int))) m) ∧ Hid (Below w.heap.size w w') ∧ Hid (L.length ≤ j ∧ bs.length ≤ j + 1 ∧ (L.length : Int) ≤ m ∧ ∀ z ∈ L, ns z.f1 ≤ 1048576)) (fun _ _ _ i _ => n - (intOf i).toNat)
    case atStart => exact ⟨0, [], [0], 0, vN, vB, rfl, rfl, rfl, Nat.zero_le _, Lib.hid inv_new, Lib.hid (ref_nil S2.out), S2, B2, Lib.hid ⟨Nat.le_refl _, Nat.le_refl _, Int.le_refl _, fun z hz => by simp at hz⟩⟩
    case round =>
      obtain ⟨j, L, bs, m, vN, vB, rfl, rfl, rfl, hj, HI, HR, HS, HB, HLm⟩ := hrel
      by_cases hlt : j < n
      · have hjl : j < l.length := by rw [HN.out]; exact hlt
        obtain ⟨ad, A6, c6, he, k0, k1, k2, k3, k4, k5, k6, k7, k8⟩ := at_T32 HC.out (j : Int) (by omega) (by omega)
        rw [Int.toNat_natCast] at k0 k1 k2 k3 k4 k5 k6
        have hy32 : rd_T32 l (j : Int) = l[j] := by unfold rd_T32; rw [Int.toNat_natCast, List.getD_eq_getElem?_getD, List.getElem?_eq_getElem hjl]; rfl
        have hns := HSZ.out _ (List.getElem_mem hjl)
        rw [← hy32] at hns
        obtain ⟨y, hy⟩ : ∃ y, rd_T32 l (j : Int) = y := ⟨_, rfl⟩
        rw [hy] at k0 k1 k2 k3 k4 k5 k6 k7 k8 hns
        have K0 := Lib.hid k0; have K1 := Lib.hid k1; have K2 := Lib.hid k2; have K3 := Lib.hid k3; have K4 := Lib.hid k4; have K5 := Lib.hid k5; have K6 := Lib.hid k6; have K7 := Lib.hid k7; have K8 := Lib.hid k8
        have k2 := pw_cell_below HB.out k2
        have k3 := pw_cell_below HB.out k3
        have k4 := pw_cell_below HB.out k4
        have k5 := pw_cell_below HB.out k5
        have k6 := pw_cell_below HB.out k6
        obtain ⟨r, hr⟩ := small_some y.f2 hns
        have SC := Lib.hid (PA.marlinelaw11_Small.calls _ _ _ _ _ A6 c6 _ r wr (Kd.C_below k8 HB.out) k7 hr)
        have HWJ := Lib.hid (w_j hlt HNL.out)
        have HNS := Lib.hid hns
        subst he
        have hA : (0 : Int) ≤ (j : Int) := Int.natCast_nonneg j
        have hB : (j : Int) < (n : Int) := Int.ofNat_lt.2 hlt
        clear k0 k1 k7 k8 hy hy32 hns hjl hr
        go_wp2_with fail
        refine SC.out.mono ?_
        rintro e w3 ⟨rfl, b3⟩
        have S3 := Lib.hid (HS.out.below b3); have R3 := Lib.hid (HR.out.below HS.out b3); have B3 := Lib.hid (HB.out.trans (b3.mono HB.out.size))
        clear b3 SC k2 k3 k4 k5 k6 HS HR HB
        by_cases hr0 : r = 0
        · have p0 : (r == 0) = true := by rw [beq_iff_eq]; exact hr0
          clear hr0
          go_wp2_with fail
          go_ret
          exact ⟨rfl, B3.out⟩
        · have p0 : (r == 0) = false := by rw [beq_eq_false_iff_ne]; exact hr0
          clear hr0
          have k0 := pw_cell_below B3.out K0.out
          have k1 := pw_cell_below B3.out K1.out
          have k2 := pw_cell_below B3.out K2.out
          have k3 := pw_cell_below B3.out K3.out
          have k4 := pw_cell_below B3.out K4.out
          have k5 := pw_cell_below B3.out K5.out
          have k6 := pw_cell_below B3.out K6.out
          have ST := Lib.hid (step_calls y A6 c6 w3 S3.out R3.out HI.out HLm.out.2.2.1 (by have := HLm.out.1; have := HNL.out; omega) (by have := HLm.out.2.1; have := HNL.out; omega) K7.out (Kd.F_below (Kd.C_F k30_heap K8.out) B3.out))
          go_wp2_with fail
          refine ST.out.mono ?_
          rintro e w4 ⟨v4, L4, bs4, vN4, vB4, rfl, i4, r4, s4, hl4, hb4, b4, hz4⟩
          obtain ⟨A4, c4, rfl⟩ := r4.slice
          have I4 := Lib.hid i4; have R4 := Lib.hid r4; have S4 := Lib.hid s4; have HL4 := Lib.hid hl4; have HB4 := Lib.hid hb4
          have B4 := Lib.hid (B3.out.trans b4)
          have HZ4 := Lib.hid (show ∀ z ∈ L4, ns z.f1 ≤ 1048576 from fun z hz => by
            rcases hz4 z hz with h1 | h1
            · exact HLm.out.2.2.2 z h1
            · rw [h1]; exact HNS.out)
          clear hz4 i4 r4 s4 hl4 hb4 b4 ST S3 R3 B3 k0 k1 k2 k3 k4 k5 k6 HI
          obtain ⟨mm, hmm⟩ : ∃ mm, max m (L4.length : Int) = mm := ⟨_, rfl⟩
          have HMM := Lib.hid hmm
          rw [hmm] at S4
          clear hmm
          go_upto_region 14 with (fail)
          rw [show (if m < (L4.length : Int) then (L4.length : Int) else m) = mm by rw [← HMM.out]; split <;> omega]
          obtain ⟨o, ho⟩ : ∃ o, idx nm (L4.map nmOf) 0 = o := ⟨_, rfl⟩
          have HO := Lib.hid ho
          have hl80 : L4.length ≤ 1000 := by have := HL4.out; have := HLm.out.1; have := HNL.out; omega
          have GC := Lib.hid (get_is nm w4 S4.out (by rw [List.length_map]; omega))
          have RG := Lib.hid (refget_is L4 nm hl80)
          rw [ho] at GC RG
          clear ho hl80
          go_wp2_with fail
          refine GC.out.mono ?_
          rintro e w5 ⟨hE, b5⟩
          have S5 := Lib.hid (S4.out.below b5); have R5 := Lib.hid (R4.out.below S4.out b5); have B5 := Lib.hid (B4.out.trans (b5.mono B4.out.size))
          clear b5 GC S4 R4 B4
          obtain ⟨gk, hgk⟩ : ∃ gk, w5.heap.size = gk := ⟨_, rfl⟩
          cases o with
          | none =>
            obtain rfl := hE
            go_upto_region 15 with (fail)
            obtain ⟨w6, hw6, d6, s6, r6, b6⟩ : ∃ w6 : World, w5.alloc (.cells #[.int .i64 0, .int .i64 0, .int .i64 0, .string ⟨#[]⟩, .slice none 0 0] 30) = w6 ∧ Nd w6 gk #[.int .i64 0, .int .i64 0, .int .i64 0, .string ⟨#[]⟩, .slice none 0 0] ∧ Sco w.heap.size w6 g vN4 vB4 (L4.map nmOf) (bs4.map (fun b : Nat => (b : Int))) mm ∧ Ref w.heap.size w6 g (.slice A4 L4.length c4) L4 ∧ Below w.heap.size w w6 :=
              ⟨_, rfl, by rw [← hgk]; exact blk_new w5 _, S5.out.below (below_alloc (Below.refl _ _) _), R5.out.below S5.out (below_alloc (Below.refl _ _) _), below_alloc B5.out _⟩
            first | rw [hgk, hw6] | rw [hw6]
            have D6 := Lib.hid d6; have S6 := Lib.hid s6; have R6 := Lib.hid r6; have B6 := Lib.hid b6
            clear hgk hw6 d6 s6 r6 b6 S5 R5 B5
            obtain ⟨_, hc6, hC6⟩ := R6.out.reads
            have GR := Lib.hid (PA.marlineref19_Get.calls _ A4 c4 L4 nm _ w6 hC6 hc6 RG.out)
            clear hc6 hC6
            go_wp2_with fail
            refine GR.out.mono ?_
            rintro e w7 ⟨rfl, d7⟩
            have D7 := Lib.hid (D6.out.below d7.below); have S7 := Lib.hid (S6.out.below d7.below); have R7 := Lib.hid (R6.out.below S6.out d7.below); have B7 := Lib.hid (B6.out.trans (d7.below.mono B6.out.size))
            have ea : atOf none = -1 := rfl
            rw [ea]
            clear d7 GR ea D6 S6 R6 B6
            go_wp2_with fail
            refine (len_is w7 S7.out).mono ?_
            rintro e w8 ⟨rfl, b9⟩
            have D8 := Lib.hid (D7.out.below b9); have S8 := Lib.hid (S7.out.below b9); have R8 := Lib.hid (R7.out.below S7.out b9); have B8 := Lib.hid (B7.out.trans (b9.mono B7.out.size))
            rw [List.length_map]
            clear b9 D7 S7 R7 B7
            go_wp2_with fail
            refine (deep_is w8 S8.out).mono ?_
            rintro e w9 ⟨rfl, b9⟩
            have D9 := Lib.hid (D8.out.below b9); have S9 := Lib.hid (S8.out.below b9); have R9 := Lib.hid (R8.out.below S8.out b9); have B9 := Lib.hid (B8.out.trans (b9.mono B8.out.size))
            rw [List.length_map]
            clear b9 D8 S8 R8 B8
            go_wp2_with fail
            refine (most_is w9 S9.out).mono ?_
            rintro e w10 ⟨rfl, b9⟩
            have D10 := Lib.hid (D9.out.below b9); have S10 := Lib.hid (S9.out.below b9); have R10 := Lib.hid (R9.out.below S9.out b9); have B10 := Lib.hid (B9.out.trans (b9.mono B9.out.size))
            clear b9 D9 S9 R9 B9
            obtain ⟨m0, _, _, _, _, _, _, _, _, _⟩ := D10.out.cells
            go_upto_region 18 with (fail)
            go_quiet (fail)
            all_goals
              go_wp2_with fail
              go_roundw
              case rel =>
                refine ⟨j + 1, L4, bs4, mm, vN4, vB4, by rw [HWJ.out]; push_cast; rfl, rfl, rfl, hlt, I4, Lib.hid (by first | exact R10.out | exact R10.out.below S10.out (below_drew (Below.refl _ _)) | exact R10.out.below S10.out (pw_below_drewN (Below.refl _ _) _)), Lib.hid (by first | exact S10.out | exact S10.out.below (below_drew (Below.refl _ _)) | exact S10.out.below (pw_below_drewN (Below.refl _ _) _)), Lib.hid (by first | exact B10.out | exact below_drew B10.out | exact pw_below_drewN B10.out _), Lib.hid ⟨?_, ?_, ?_, HZ4.out⟩⟩
                · have h1 := HL4.out; have h2 := HLm.out.1; omega
                · have h1 := HB4.out; have h2 := HLm.out.2.1; omega
                · rw [← HMM.out]; exact Int.le_max_right _ _
              case measure => rw [HWJ.out]; simp [intOf]; omega
          | some i =>
            have hE : ∃ A c, e = .returned (.tuple #[.int .i64 i, nV (rd_T53 (L4.map nmOf) i).f1 A c, .bool true]) ∧ (rd_T53 (L4.map nmOf) i).f1.f4.length ≤ c ∧ k30.C w5 A (rd_T53 (L4.map nmOf) i).f1.f4.length (rd_T53 (L4.map nmOf) i).f1.f4 := hE
            have hil : i < L4.length := by have := (idx_ge HO.out).2; rw [List.length_map] at this; omega
            rw [rd53_map L4 i hil] at hE
            have hzn := HZ4.out (rd_T41 L4 (i : Int)) (by rw [rd41_at L4 i hil]; exact List.getElem_mem hil)
            obtain ⟨z, hz⟩ : ∃ z, rd_T41 L4 (i : Int) = z := ⟨_, rfl⟩
            rw [hz] at hE hzn
            have HZ := Lib.hid hz; have HIL := Lib.hid hil; have HZN := Lib.hid hzn
            obtain ⟨A5, c5, rfl, hk5, hC5⟩ := hE
            have HK5 := Lib.hid hk5; have HC5 := Lib.hid hC5
            have en : nV (nmOf z).f1 A5 c5 = .agg #[.int .i64 z.f1.f0, .int .i64 z.f1.f1, .int .i64 z.f1.f2, .string z.f1.f3, .slice A5 z.f1.f4.length c5] := rfl
            simp only [en]
            clear hz hil hzn hk5 hC5 en
            go_upto_region 15 with (fail)
            obtain ⟨w6, hw6, d6, s6, r6, b6, c6k⟩ : ∃ w6 : World, w5.alloc (.cells #[.int .i64 z.f1.f0, .int .i64 z.f1.f1, .int .i64 z.f1.f2, .string z.f1.f3, .slice A5 z.f1.f4.length c5] 30) = w6 ∧ Nd w6 gk #[.int .i64 z.f1.f0, .int .i64 z.f1.f1, .int .i64 z.f1.f2, .string z.f1.f3, .slice A5 z.f1.f4.length c5] ∧ Sco w.heap.size w6 g vN4 vB4 (L4.map nmOf) (bs4.map (fun b : Nat => (b : Int))) mm ∧ Ref w.heap.size w6 g (.slice A4 L4.length c4) L4 ∧ Below w.heap.size w w6 ∧ k30.C w6 A5 z.f1.f4.length z.f1.f4 :=
              ⟨_, rfl, by rw [← hgk]; exact blk_new w5 _, S5.out.below (below_alloc (Below.refl _ _) _), R5.out.below S5.out (below_alloc (Below.refl _ _) _), below_alloc B5.out _, Kd.C_below HC5.out (below_alloc (Below.refl _ _) _)⟩
            first | rw [hgk, hw6] | rw [hw6]
            have D6 := Lib.hid d6; have S6 := Lib.hid s6; have R6 := Lib.hid r6; have B6 := Lib.hid b6; have C6 := Lib.hid c6k
            clear hgk hw6 d6 s6 r6 b6 c6k S5 R5 B5 HC5
            obtain ⟨_, hc6, hC6⟩ := R6.out.reads
            have GR := Lib.hid (PA.marlineref19_Get.calls _ A4 c4 L4 nm _ w6 hC6 hc6 RG.out)
            clear hc6 hC6
            go_wp2_with fail
            refine GR.out.mono ?_
            rintro e w7 ⟨rfl, d7⟩
            have D7 := Lib.hid (D6.out.below d7.below); have S7 := Lib.hid (S6.out.below d7.below); have R7 := Lib.hid (R6.out.below S6.out d7.below); have B7 := Lib.hid (B6.out.trans (d7.below.mono B6.out.size)); have C7 := Lib.hid (Kd.C_below C6.out d7.below)
            have ea : atOf (some i) = (i : Int) := rfl
            rw [ea]
            clear d7 GR ea D6 S6 R6 B6 C6
            have i0 : (0 : Int) ≤ (i : Int) := Int.natCast_nonneg i
            have i1 : decide (0 ≤ (i : Int)) = true := decide_eq_true i0
            have i2 : ¬ ((i : Int) < 0) := by omega
            go_wp2_with fail
            refine (len_is w7 S7.out).mono ?_
            rintro e w8 ⟨rfl, b9⟩
            have D8 := Lib.hid (D7.out.below b9); have S8 := Lib.hid (S7.out.below b9); have R8 := Lib.hid (R7.out.below S7.out b9); have B8 := Lib.hid (B7.out.trans (b9.mono B7.out.size)); have C8 := Lib.hid (Kd.C_below C7.out b9)
            rw [List.length_map]
            clear b9 D7 S7 R7 B7 C7
            go_wp2_with fail
            refine (deep_is w8 S8.out).mono ?_
            rintro e w9 ⟨rfl, b9⟩
            have D9 := Lib.hid (D8.out.below b9); have S9 := Lib.hid (S8.out.below b9); have R9 := Lib.hid (R8.out.below S8.out b9); have B9 := Lib.hid (B8.out.trans (b9.mono B8.out.size)); have C9 := Lib.hid (Kd.C_below C8.out b9)
            rw [List.length_map]
            clear b9 D8 S8 R8 B8 C8
            go_wp2_with fail
            refine (most_is w9 S9.out).mono ?_
            rintro e w10 ⟨rfl, b9⟩
            have D10 := Lib.hid (D9.out.below b9); have S10 := Lib.hid (S9.out.below b9); have R10 := Lib.hid (R9.out.below S9.out b9); have B10 := Lib.hid (B9.out.trans (b9.mono B9.out.size)); have C10 := Lib.hid (Kd.C_below C9.out b9)
            clear b9 D9 S9 R9 B9 C9
            obtain ⟨m0, m1, m2, m3, m4, _, _, _, _, _⟩ := D10.out.cells
            obtain ⟨_, hc10, hC10⟩ := R10.out.reads
            obtain ⟨ad7, A7, c7, he7, q0, q1, q2, q3, q4, q5, q6, q7, q8⟩ := at_T41 hC10 (i : Int) i0 (Int.ofNat_lt.2 HIL.out)
            rw [Int.toNat_natCast] at q0 q1 q2 q3 q4 q5 q6
            rw [HZ.out] at q0 q1 q2 q3 q4 q5 q6 q7 q8
            have Q7 := Lib.hid q7; have Q8 := Lib.hid q8
            subst he7
            have i3 : (i : Int) < (L4.length : Int) := Int.ofNat_lt.2 HIL.out
            clear hc10 hC10 q0 q6 q7 q8
            have SM := Lib.hid (fun (W : World) (hb : Below w10.heap.size w10 W) => PA.marlineref11_Same.calls (3 * ns z.f1) z.f1.f0 z.f1.f1 z.f1.f2 z.f1.f3 A5 c5 z.f1.f4 z.f1.f0 z.f1.f1 z.f1.f2 z.f1.f3 A7 c7 z.f1.f4 true W (Kd.C_below C10.out hb) HK5.out (Kd.C_below Q8.out hb) Q7.out (node_same _ z.f1 (Nat.le_refl _) HZN.out _ (Nat.le_refl _)))
            go_upto_region 18 with (fail)
            refine start_ (n := 20) (S := fun w' => w'.cell? ⟨gk, 0, none⟩ = some (.int .i64 z.f1.f0) ∧ w'.cell? ⟨gk, 1, none⟩ = some (.int .i64 z.f1.f1) ∧ w'.cell? ⟨gk, 2, none⟩ = some (.int .i64 z.f1.f2) ∧ w'.cell? ⟨gk, 3, none⟩ = some (.string z.f1.f3) ∧ w'.cell? ⟨gk, 4, none⟩ = some (.slice A5 z.f1.f4.length c5) ∧ w'.cell? ⟨(ad7.add (i * 7)).block, (ad7.add (i * 7)).off + 1, none⟩ = some (.int .i64 z.f1.f0) ∧ w'.cell? ⟨(ad7.add (i * 7)).block, (ad7.add (i * 7)).off + 2, none⟩ = some (.int .i64 z.f1.f1) ∧ w'.cell? ⟨(ad7.add (i * 7)).block, (ad7.add (i * 7)).off + 3, none⟩ = some (.int .i64 z.f1.f2) ∧ w'.cell? ⟨(ad7.add (i * 7)).block, (ad7.add (i * 7)).off + 4, none⟩ = some (.string z.f1.f3) ∧ w'.cell? ⟨(ad7.add (i * 7)).block, (ad7.add (i * 7)).off + 5, none⟩ = some (.slice A7 z.f1.f4.length c7)) (ds := []) #[false, false, false, false, false, false, false, false, false, false, false, false, false, false, false, false, false, false, false, false] (by kernel_rfl) rfl rfl ⟨m0, m1, m2, m3, m4, q1, q2, q3, q4, q5⟩ (fun hHeld => ?_)
            refine with_tabW t18 b18 (fun HT_ HW_ => ?_)
            have HBD := Lib.hid (below_drew (Below.refl w10.heap.size w10))
            have S10d := Lib.hid (S10.out.below HBD.out); have R10d := Lib.hid (R10.out.below S10.out HBD.out); have B10d := Lib.hid (below_drew B10.out)
            generalize w10.drew = w10d at *
            clear m0 m1 m2 m3 m4 q1 q2 q3 q4 q5
            refine pure_ (i := 0) (N := some 96) (v := ?_) (a' := ?_) #[true, false, false, false, false, false, false, false, false, false, false, false, false, false, false, false, false, false, false, false] rfl rfl (any_of HT_.out (by kernel_rfl)) (fun _ _ _ h => h) (Or.inl ⟨by rfl, ?_⟩) ?_ ?_
            rotate_left
            · intro w'
              go_simp
              with_reducible rfl
            rotate_left
            · simp only [Act.put, List.setIfInBounds_toArray, List.set_cons_zero, List.set_cons_succ, i64_w, i32_w]
              rfl
            refine pure_ (i := 1) (N := some 97) (v := ?_) (a' := ?_) #[true, true, false, false, false, false, false, false, false, false, false, false, false, false, false, false, false, false, false, false] rfl rfl (any_of HT_.out (by kernel_rfl)) (fun _ _ _ h => h) (Or.inl ⟨by rfl, ?_⟩) ?_ ?_
            rotate_left
            · intro w'
              go_simp
              with_reducible rfl
            rotate_left
            · simp only [Act.put, List.setIfInBounds_toArray, List.set_cons_zero, List.set_cons_succ, i64_w, i32_w]
              rfl
            refine take_ (i := 2) (N := some 98) (v := ?_) (a' := ?_) #[true, true, true, false, false, false, false, false, false, false, false, false, false, false, false, false, false, false, false, false] rfl rfl (take_ofW HT_.out HW_.out (by kernel_rfl)) (fun _ _ _ h => h) (Or.inl ⟨by rfl, ?_⟩) hHeld ?_ ?_
            rotate_left
            · rintro w' ⟨s0, s1, s2, s3, s4, s5, s6, s7, s8, s9⟩
              go_simp
              with_reducible rfl
            rotate_left
            · simp only [Act.put, List.setIfInBounds_toArray, List.set_cons_zero, List.set_cons_succ, i64_w, i32_w]
              rfl
            refine pure_ (i := 3) (N := some 99) (v := ?_) (a' := ?_) #[true, true, true, true, false, false, false, false, false, false, false, false, false, false, false, false, false, false, false, false] rfl rfl (any_of HT_.out (by kernel_rfl)) (fun _ _ _ h => h) (Or.inl ⟨by rfl, ?_⟩) ?_ ?_
            rotate_left
            · intro w'
              go_simp
              with_reducible rfl
            rotate_left
            · simp only [Act.put, List.setIfInBounds_toArray, List.set_cons_zero, List.set_cons_succ, i64_w, i32_w]
              rfl
            refine pure_ (i := 4) (N := some 100) (v := ?_) (a' := ?_) #[true, true, true, true, true, false, false, false, false, false, false, false, false, false, false, false, false, false, false, false] rfl rfl (any_of HT_.out (by kernel_rfl)) (fun _ _ _ h => h) (Or.inl ⟨by rfl, ?_⟩) ?_ ?_
            rotate_left
            · intro w'
              go_simp
              with_reducible rfl
            rotate_left
            · simp only [Act.put, List.setIfInBounds_toArray, List.set_cons_zero, List.set_cons_succ, i64_w, i32_w]
              rfl
            refine pure_ (i := 5) (N := some 101) (v := ?_) (a' := ?_) #[true, true, true, true, true, true, false, false, false, false, false, false, false, false, false, false, false, false, false, false] rfl rfl (any_of HT_.out (by kernel_rfl)) (fun _ _ _ h => h) (Or.inl ⟨by rfl, ?_⟩) ?_ ?_
            rotate_left
            · intro w'
              go_simp
              with_reducible rfl
            rotate_left
            · simp only [Act.put, List.setIfInBounds_toArray, List.set_cons_zero, List.set_cons_succ, i64_w, i32_w]
              rfl
            refine pure_ (i := 6) (N := some 102) (v := ?_) (a' := ?_) #[true, true, true, true, true, true, true, false, false, false, false, false, false, false, false, false, false, false, false, false] rfl rfl (any_of HT_.out (by kernel_rfl)) (fun _ _ _ h => h) (Or.inl ⟨by rfl, ?_⟩) ?_ ?_
            rotate_left
            · intro w'
              go_simp
              with_reducible rfl
            rotate_left
            · simp only [Act.put, List.setIfInBounds_toArray, List.set_cons_zero, List.set_cons_succ, i64_w, i32_w]
              rfl
            refine take_ (i := 7) (N := some 103) (v := ?_) (a' := ?_) #[true, true, true, true, true, true, true, true, false, false, false, false, false, false, false, false, false, false, false, false] rfl rfl (take_ofW HT_.out HW_.out (by kernel_rfl)) (fun _ _ _ h => h) (Or.inl ⟨by rfl, ?_⟩) hHeld ?_ ?_
            rotate_left
            · rintro w' ⟨s0, s1, s2, s3, s4, s5, s6, s7, s8, s9⟩
              go_simp
              with_reducible rfl
            rotate_left
            · simp only [Act.put, List.setIfInBounds_toArray, List.set_cons_zero, List.set_cons_succ, i64_w, i32_w]
              rfl
            refine one_ (i := 8) (N := some 104) #[true, true, true, true, true, true, true, true, true, false, false, false, false, false, false, false, false, false, false, false] rfl rfl (one_of HT_.out (by kernel_rfl)) (by decide) (fun K hK => ?_)
            refine goes_ Try.func14 (by kernel_rfl) rfl #[nV z.f1 A5 c5, nV z.f1 A7 c7] (by rfl) rfl rfl (by (try simp only [List.map_toArray, List.map_cons, List.map_nil]); first | done | rfl) ?_
            refine (SM.out w10d HBD.out).mono ?_
            rintro e w11 ⟨rfl, hb⟩
            refine ⟨_, rfl, hK.out _ _ ⟨pw_cell_below hb hHeld.1, pw_cell_below hb hHeld.2.1, pw_cell_below hb hHeld.2.2.1, pw_cell_below hb hHeld.2.2.2.1, pw_cell_below hb hHeld.2.2.2.2.1, pw_cell_below hb hHeld.2.2.2.2.2.1, pw_cell_below hb hHeld.2.2.2.2.2.2.1, pw_cell_below hb hHeld.2.2.2.2.2.2.2.1, pw_cell_below hb hHeld.2.2.2.2.2.2.2.2.1, pw_cell_below hb hHeld.2.2.2.2.2.2.2.2.2⟩ (fun hHeld => ?_)⟩
            have b11 := Lib.hid hb
            clear hb
            clear hK K
            refine norm_ (a' := ?_) ?_ ?_
            rotate_left
            · show Act.put _ (some 104) _ = _
              simp only [Act.put, List.setIfInBounds_toArray, List.set_cons_zero, List.set_cons_succ, i64_w, i32_w]
              rfl
            refine pure_ (i := 9) (N := some 105) (v := ?_) (a' := ?_) #[true, true, true, true, true, true, true, true, true, true, false, false, false, false, false, false, false, false, false, false] rfl rfl (any_of HT_.out (by kernel_rfl)) (fun _ _ _ h => h) (Or.inl ⟨by rfl, ?_⟩) ?_ ?_
            rotate_left
            · intro w'
              go_simp
              with_reducible rfl
            rotate_left
            · simp only [Act.put, List.setIfInBounds_toArray, List.set_cons_zero, List.set_cons_succ, i64_w, i32_w]
              rfl
            refine pure_ (i := 10) (N := some 106) (v := ?_) (a' := ?_) #[true, true, true, true, true, true, true, true, true, true, true, false, false, false, false, false, false, false, false, false] rfl rfl (any_of HT_.out (by kernel_rfl)) (fun _ _ _ h => h) (Or.inl ⟨by rfl, ?_⟩) ?_ ?_
            rotate_left
            · intro w'
              go_simp
              with_reducible rfl
            rotate_left
            · simp only [Act.put, List.setIfInBounds_toArray, List.set_cons_zero, List.set_cons_succ, i64_w, i32_w]
              rfl
            refine pure_ (i := 11) (N := some 107) (v := ?_) (a' := ?_) #[true, true, true, true, true, true, true, true, true, true, true, true, false, false, false, false, false, false, false, false] rfl rfl (any_of HT_.out (by kernel_rfl)) (fun _ _ _ h => h) (Or.inl ⟨by rfl, ?_⟩) ?_ ?_
            rotate_left
            · intro w'
              go_simp
              with_reducible rfl
            rotate_left
            · simp only [Act.put, List.setIfInBounds_toArray, List.set_cons_zero, List.set_cons_succ, i64_w, i32_w]
              rfl
            refine pure_ (i := 12) (N := some 108) (v := ?_) (a' := ?_) #[true, true, true, true, true, true, true, true, true, true, true, true, true, false, false, false, false, false, false, false] rfl rfl (any_of HT_.out (by kernel_rfl)) (fun _ _ _ h => h) (Or.inl ⟨by rfl, ?_⟩) ?_ ?_
            rotate_left
            · intro w'
              go_simp
              with_reducible rfl
            rotate_left
            · simp only [Act.put, List.setIfInBounds_toArray, List.set_cons_zero, List.set_cons_succ, i64_w, i32_w]
              rfl
            refine pure_ (i := 13) (N := some 109) (v := ?_) (a' := ?_) #[true, true, true, true, true, true, true, true, true, true, true, true, true, true, false, false, false, false, false, false] rfl rfl (any_of HT_.out (by kernel_rfl)) (fun _ _ _ h => h) (Or.inl ⟨by rfl, ?_⟩) ?_ ?_
            rotate_left
            · intro w'
              go_simp
              with_reducible rfl
            rotate_left
            · simp only [Act.put, List.setIfInBounds_toArray, List.set_cons_zero, List.set_cons_succ, i64_w, i32_w]
              rfl
            refine pure_ (i := 14) (N := some 110) (v := ?_) (a' := ?_) #[true, true, true, true, true, true, true, true, true, true, true, true, true, true, true, false, false, false, false, false] rfl rfl (any_of HT_.out (by kernel_rfl)) (fun _ _ _ h => h) (Or.inl ⟨by rfl, ?_⟩) ?_ ?_
            rotate_left
            · intro w'
              go_simp
              with_reducible rfl
            rotate_left
            · simp only [Act.put, List.setIfInBounds_toArray, List.set_cons_zero, List.set_cons_succ, i64_w, i32_w]
              rfl
            refine pure_ (i := 15) (N := some 111) (v := undef) (a' := ?_) #[true, true, true, true, true, true, true, true, true, true, true, true, true, true, true, true, false, false, false, false] rfl rfl (any_of HT_.out (by kernel_rfl)) (fun _ _ _ h => h) (Or.inr ⟨by rfl, rfl⟩) ?_ ?_
            rotate_left
            · simp only [Act.put, List.setIfInBounds_toArray, List.set_cons_zero, List.set_cons_succ, i64_w, i32_w]
              rfl
            refine pure_ (i := 16) (N := some 112) (v := undef) (a' := ?_) #[true, true, true, true, true, true, true, true, true, true, true, true, true, true, true, true, true, false, false, false] rfl rfl (any_of HT_.out (by kernel_rfl)) (fun _ _ _ h => h) (Or.inr ⟨by rfl, rfl⟩) ?_ ?_
            rotate_left
            · simp only [Act.put, List.setIfInBounds_toArray, List.set_cons_zero, List.set_cons_succ, i64_w, i32_w]
              rfl
            refine pure_ (i := 17) (N := some 113) (v := undef) (a' := ?_) #[true, true, true, true, true, true, true, true, true, true, true, true, true, true, true, true, true, true, false, false] rfl rfl (any_of HT_.out (by kernel_rfl)) (fun _ _ _ h => h) (Or.inr ⟨by rfl, rfl⟩) ?_ ?_
            rotate_left
            · simp only [Act.put, List.setIfInBounds_toArray, List.set_cons_zero, List.set_cons_succ, i64_w, i32_w]
              rfl
            refine pure_ (i := 18) (N := some 114) (v := ?_) (a' := ?_) #[true, true, true, true, true, true, true, true, true, true, true, true, true, true, true, true, true, true, true, false] rfl rfl (any_of HT_.out (by kernel_rfl)) (fun _ _ _ h => h) (Or.inl ⟨by rfl, ?_⟩) ?_ ?_
            rotate_left
            · intro w'
              go_simp
              with_reducible rfl
            rotate_left
            · simp only [Act.put, List.setIfInBounds_toArray, List.set_cons_zero, List.set_cons_succ, i64_w, i32_w]
              rfl
            refine pure_ (i := 19) (N := some 115) (v := ?_) (a' := ?_) #[true, true, true, true, true, true, true, true, true, true, true, true, true, true, true, true, true, true, true, true] rfl rfl (any_of HT_.out (by kernel_rfl)) (fun _ _ _ h => h) (Or.inl ⟨by rfl, ?_⟩) ?_ ?_
            rotate_left
            · intro w'
              go_simp
              with_reducible rfl
            rotate_left
            · simp only [Act.put, List.setIfInBounds_toArray, List.set_cons_zero, List.set_cons_succ, i64_w, i32_w]
              rfl
            refine done_ (done_of HT_.out (by kernel_rfl)) ?_
            have S11 := Lib.hid (Sco.below (W := w10d) S10d.out b11.out); have R11 := Lib.hid (Ref.below (w := w10d) R10d.out S10d.out b11.out); have B11 := Lib.hid (Below.trans B10d.out (Below.mono b11.out B10d.out.size))
            go_wp2_with fail
            go_roundw
            case rel =>
              refine ⟨j + 1, L4, bs4, mm, vN4, vB4, by rw [HWJ.out]; push_cast; rfl, rfl, rfl, hlt, I4, Lib.hid (by first | exact R11.out | exact R11.out.below S11.out (below_drew (Below.refl _ _)) | exact R11.out.below S11.out (pw_below_drewN (Below.refl _ _) _)), Lib.hid (by first | exact S11.out | exact S11.out.below (below_drew (Below.refl _ _)) | exact S11.out.below (pw_below_drewN (Below.refl _ _) _)), Lib.hid (by first | exact B11.out | exact below_drew B11.out | exact pw_below_drewN B11.out _), Lib.hid ⟨?_, ?_, ?_, HZ4.out⟩⟩
              · have h1 := HL4.out; have h2 := HLm.out.1; omega
              · have h1 := HB4.out; have h2 := HLm.out.2.1; omega
              · rw [← HMM.out]; exact Int.le_max_right _ _
            case measure => rw [HWJ.out]; simp [intOf]; omega
      · have hje : j = n := by omega
        subst hje
        go_wp2_with fail
        go_ret
        exact ⟨rfl, HB.out⟩
  · have hl2 : decide ((80 : Int) < (n : Int)) = true := decide_eq_true (by omega)
    clear hC hc hsz hn hl
    go_enter Try.func3, Try.ntmps3
    go_wp2_with fail
    refine (works_calls w).mono ?_
    rintro e w1 ⟨rfl, b1⟩
    have B1 := Lib.hid b1
    clear b1
    go_wp2_with fail
    refine (works_calls w1).mono ?_
    rintro e w2 ⟨rfl, b2⟩
    have B2 := Lib.hid (B1.out.trans (b2.mono B1.out.size))
    clear b2
    go_wp2_with fail
    go_ret
    exact ⟨rfl, B2.out⟩
end Go.Proofs.Ytlpfgeeibbfibaa.E
