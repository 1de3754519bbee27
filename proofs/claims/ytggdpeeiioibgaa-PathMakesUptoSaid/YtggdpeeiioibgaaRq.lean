/- Marline, values: slices.Repeat of one value. Conditions: as each says. -/
import Derived.Test.YtggdpeeiioibgaaRp
import Derived.Test.YtggdpeeiioibgaaPM
import Derived.Laws.CopyOwn
namespace Go.Proofs.Ytggdpeeiioibgaa.E
open Go.RowKit Go.Proofs.YtggdpeeiioibgaaW.PrintWords Go.Proofs.YtggdpeeiioibgaaW.PrintLast Go.Proofs.YtggdpeeiioibgaaW.PrintMore Go.Proofs.Ytggdpeeiioibgaa.Kinds Go.Proofs.Ytggdpeeiioibgaa.Obj
set_option linter.unusedVariables false
set_option linter.unusedSimpArgs false

theorem mul_all : ∀ n : Fin 257, PM.bits_Mul.f 1 (n.val : Int) = some (0, (n.val : Int)) := by decide +kernel
theorem mul_one (n : Nat) (h : n ≤ 256) : PM.bits_Mul.f 1 (n : Int) = some (0, (n : Int)) := mul_all ⟨n, by omega⟩
abbrev zz : List Value := [.int .i64 0, .int .i64 0, .slice none 0 0]
theorem run_make24 (u : World) (n : Nat) (h : n ≤ 256) : (Instr.makeSlice 22 (.int .i64 (n : Int)) (.int .i64 (n : Int))).run Try.prog u = .ok (.slice (some ⟨u.heap.size, 0, none⟩) n n) (u.alloc (.cells (reps zz n).toArray 24)) := by
  obtain ⟨i0, hi, hz0, hz1, hz2⟩ := info_parts info24
  have hm := run_make (P := Try.prog) u 22 24 i0 _ Try.underlying22 hi hz0 .i64 .i64 (n : Int) (n : Int) (by omega) (Int.le_refl _) (by rw [hz2]; omega) (by omega)
  have e := made_reps (.int .i64 0) (.int .i64 0) (.slice none 0 0) n
  rw [hm, hz1]
  have e2 : (madeCells #[.int .i64 0, .int .i64 0, .slice none 0 0] (n * 3)) = (reps zz n).toArray := by
    apply Array.toList_inj.1
    rw [e]
  simp only [Int.toNat_natCast]
  rw [← e2]
  rfl
theorem add0 (g i : Nat) : (⟨g, 0, none⟩ : Addr).add i = ⟨g, i, none⟩ := by unfold Addr.add; split <;> simp_all
/-- the whole row, read. -/
theorem row_F (P : Nat → Prop) (x : S24) (n : Nat) (w W : World) (g : Nat) (B0 : Option Addr) (d0 : Nat) (hn : n ≤ 256) (hl : x.f2.length ≤ d0) (hk : Kd.F k24 w P B0 x.f2.length x.f2) (hg : w.heap.size ≤ g)
    (hW : W.heap[g]? = some (.cells (half [.int .i64 x.f0, .int .i64 x.f1, .slice B0 x.f2.length d0] zz n n).toArray 24 (0, 0))) (hb : Below w.heap.size w W) :
    Kd.F k24 W (fun k => (P k ∧ k < w.heap.size) ∨ w.heap.size ≤ k) (some ⟨g, 0, none⟩) n (List.replicate n x) := by
  intro W' h'
  have e1 : W'.heap[g]? = some (.cells (half [.int .i64 x.f0, .int .i64 x.f1, .slice B0 x.f2.length d0] zz n n).toArray 24 (0, 0)) := by
    rw [h' g (.inr hg) (blk_lt hW)]; exact hW
  have e2 : Kd.C k24 W' B0 x.f2.length x.f2 := Kd.F_now (Kd.F_step (Kd.F_bound hk) (W1 := W') (fun k hk2 hlt => by
    rw [h' k (.inl hk2) (Nat.lt_of_lt_of_le hlt hb.size)]
    exact hb.block k hlt))
  refine ⟨by simp, by omega, fun h0 => ⟨_, rfl, fun j p hp => ?_⟩⟩
  have hj : j < n := by
    have := (List.getElem?_eq_some_iff.1 hp).1
    simpa using this
  have ep : p = x := by
    rw [List.getElem?_replicate, if_pos hj] at hp
    exact (Option.some.inj hp).symm
  subst ep
  refine ⟨_, rfl, k24_mk W' p hl e2, fun i u hu => ?_⟩
  rw [add0]
  have h3 := half_get [.int .i64 p.f0, .int .i64 p.f1, .slice B0 p.f2.length d0] zz rfl n n j i u hj hu
  have h4 : k24.sz = 3 := rfl
  rw [h4]
  rw [blk_cell e1]
  simpa using h3
set_option maxHeartbeats 8000000 in
set_option maxRecDepth 100000 in
theorem repeat_is (P : Nat → Prop) (A : Option Addr) (c : Nat) (x : S24) (n : Nat) (w : World) (hn : n ≤ 256) (hF : Kd.F k24 w P A 1 [x]) (hc : 1 ≤ c) :
    Calls Try.prog 66 #[.slice A 1 c, .int .i64 n] w fun e w' => ∃ B d, e = .returned (.slice B n d) ∧ n ≤ d ∧ Kd.F k24 w' (fun k => (P k ∧ k < w.heap.size) ∨ w.heap.size ≤ k) B n (List.replicate n x) ∧ Below w.heap.size w w' := by
  have hu24 := Try.underlying24
  have hu22 := Try.underlying22
  obtain ⟨ad, cc, rfl, _, hK, hc0, _⟩ := Kd.F_get (xs := [x]) hF z24 0 (Int.le_refl _) (by decide)
  obtain ⟨B0, d0, rfl, sl, sr⟩ := k24_openF hK
  have ex : [x].getD (0 : Int).toNat z24 = x := rfl
  rw [ex] at sl sr hc0
  obtain ⟨cs, hcs⟩ : ∃ cs : List Value, [.int .i64 x.f0, .int .i64 x.f1, .slice B0 x.f2.length d0] = cs := ⟨_, rfl⟩
  rw [hcs] at hc0
  have l3 : cs.length = 3 := by rw [← hcs]; rfl
  have o3 : ∀ v ∈ cs, v.oneCell' = true := by
    rw [← hcs]; intro v hv
    simp at hv
    rcases hv with rfl | rfl | rfl <;> rfl
  have HC := Lib.hid hc0
  have SL := Lib.hid sl; have SR := Lib.hid sr; have HS := Lib.hid hcs; have L3 := Lib.hid l3; have O3 := Lib.hid o3
  have p0 : decide ((n : Int) < 0) = false := decide_eq_false (by omega)
  have p1 : IntKind.u64.wrap 1 = 1 := by decide
  have p2 : IntKind.u64.wrap (n : Int) = (n : Int) := by simp only [IntKind.wrap, IntKind.bits, IntKind.signed]; first | omega | (simp; omega)
  have p3 : decide ((9223372036854775807 : Int) < (n : Int)) = false := decide_eq_false (by omega)
  have p4 : IntKind.i64.wrap (n : Int) = (n : Int) := IntWalk.i64_in _ (by omega)
  have hmk := fun u : World => run_make24 u n hn
  obtain ⟨m, hm⟩ : ∃ m, Nat.min 1 n = m := ⟨_, rfl⟩
  have hm1 : m ≤ n ∧ (0 < n → m = 1) ∧ m ≤ 1 := by
    have : Nat.min 1 n = min 1 n := rfl
    omega
  have HM := Lib.hid hm; have HM1 := Lib.hid hm1
  clear hF hK sl sr hc0 hcs l3 o3 hm hm1 ex
  go_enter Try.func66, Try.ntmps66
  go_wp2_with fail
  refine (PM.bits_Mul.calls 1 (n : Int) 0 (n : Int) _ (mul_one n hn)).mono ?_
  rintro e w1 ⟨rfl, hd⟩
  have B1 := Lib.hid hd.below
  clear hd
  go_upto_region 7 with (fail)
  obtain ⟨g, hg⟩ : ∃ g, w1.heap.size = g := ⟨_, rfl⟩
  have H2 : ∃ w2 : World, w1.alloc (.cells (reps zz n).toArray 24) = w2 ∧ w2.heap[g]? = some (.cells (half cs zz n 0).toArray 24 (0, 0)) ∧ Below w.heap.size w w2 ∧ w.heap.size ≤ g :=
    ⟨_, rfl, by rw [← hg]; have := blk_new w1 (.cells (reps zz n).toArray 24); simpa [half, reps] using this, below_alloc B1.out _, by rw [← hg]; exact B1.out.size⟩
  rw [hg]
  obtain ⟨w2, hw2, r2, b2, wg⟩ := H2
  rw [hw2]
  have hcp : ∀ ty : TypeId, (Builtin.copy_ #[22, 22] ty #[.slice (some ⟨g, 0, none⟩) n n, .slice (some ad) 1 c]).run Try.prog w2 = .ok (goInt m) (w2.setRow g (half cs zz n m).toArray) := by
    intro ty
    have h := run_copy3 w2 ty g 0 n n ad 1 c _ 24 (reps cs m) m HM.out (by rw [reps_len cs L3.out]; omega) r2 (fun j v hj => by
      have hm0 : m = 1 := by
        have := (List.getElem?_eq_some_iff.1 hj).1
        rw [reps_len cs L3.out] at this
        have := HM1.out; omega
      subst hm0
      have hj2 : cs[j]? = some v := by simpa [reps] using hj
      have h1 := HC.out j v hj2
      have h2 := (b2.cell (World.block_lt_of_cell? w _ h1)).trans h1
      simpa using h2) (by rw [reps_len cs L3.out]; have h5 := half_len cs zz L3.out rfl n 0 (Nat.zero_le _); have := HM1.out; simp [h5]; omega) (reps_one cs O3.out m)
    have h6 := half_step cs zz L3.out rfl n 0 m (by have := HM1.out; omega)
    rw [h]
    simp only [Nat.zero_add, Nat.mul_zero] at h6 ⊢
    rw [h6]
  have H3 : ∃ w3 : World, w2.setRow g (half cs zz n m).toArray = w3 ∧ w3.heap[g]? = some (.cells (half cs zz n m).toArray 24 (0, 0)) ∧ Below w.heap.size w w3 :=
    ⟨_, rfl, setRow_heap w2 g _ _ 24 (0, 0) r2, below_setRow b2 wg _⟩
  obtain ⟨w3, hw3, r3, b3⟩ := H3
  rw [hw3] at hcp
  have R3 := Lib.hid r3; have B3 := Lib.hid b3; have WG := Lib.hid wg
  clear hw2 r2 b2 wg hw3 r3 b3 B1 hg
  go_upto_region 8 with (refine wpList_copy3 _ rfl (.tmp 31) (.tmp 32) 22 22 rfl _ _ rfl rfl (hcp _) ?_)
  clear hcp hmk p0 p1 p2 p3 p4
  obtain ⟨i0, hi, hz0, hz1, hz2⟩ := info_parts info24
  have HI := Lib.hid hi
  have HZ := Lib.hid hz1
  clear hi hz0 hz1 hz2
  go_loopw [8] (fun i wr => ∃ (j : Nat), i = .int .i64 j ∧ j ≤ n ∧ (0 < n → 0 < j) ∧ Hid (wr.heap[g]? = some (.cells (half cs zz n j).toArray 24 (0, 0))) ∧ Hid (Below w.heap.size w wr)) (fun i _ => n - (intOf i).toNat)
  case atStart => exact ⟨m, rfl, HM1.out.1, fun h => by have := HM1.out; omega, R3, B3⟩
  case round =>
    clear R3 B3
    obtain ⟨j, rfl, hj, hpos, HR, HB⟩ := hrel
    by_cases hx : j < n
    · have hx1 : decide ((j : Int) < (n : Int)) = true := decide_eq_true (by omega)
      have hj0 : 0 < j := hpos (by omega)
      obtain ⟨m2, hm2⟩ : ∃ m2, Nat.min j (n - j) = m2 := ⟨_, rfl⟩
      have hm3 : m2 ≤ j ∧ j + m2 ≤ n ∧ 0 < m2 := by
        have : Nat.min j (n - j) = min j (n - j) := rfl
        omega
      have cut1 : ∀ W : World, (Instr.slice 22 (.slice (some ⟨g, 0, none⟩) n n) (some (.int .i64 (j : Int))) none none).run Try.prog W = .ok (.slice (some ⟨g, j * 3, none⟩) (n - j) (n - j)) W := by
        intro W
        have h1 := cut_from (P := Try.prog) 22 24 .i64 Try.underlying22 HI.out 3 HZ.out (some ⟨g, 0, none⟩) n n (j : Int) (by omega) (by omega) W
        rw [h1, Int.toNat_natCast, if_neg (by omega)]
        simp only [Option.map_some, add0]
      have cut2 : ∀ W : World, (Instr.slice 22 (.slice (some ⟨g, 0, none⟩) n n) none (some (.int .i64 (j : Int))) none).run Try.prog W = .ok (.slice (some ⟨g, 0, none⟩) j n) W := by
        intro W
        have h1 := cut_to (P := Try.prog) 22 24 .i64 Try.underlying22 HI.out (some ⟨g, 0, none⟩) n n (j : Int) (by omega) (by omega) (Nat.le_refl _) W
        rw [h1, Int.toNat_natCast]
      have hcp : ∀ (u : World) (ty : TypeId), u.heap[g]? = some (.cells (half cs zz n j).toArray 24 (0, 0)) → (Builtin.copy_ #[22, 22] ty #[.slice (some ⟨g, j * 3, none⟩) (n - j) (n - j), .slice (some ⟨g, 0, none⟩) j n]).run Try.prog u = .ok (goInt m2) (u.setRow g (half cs zz n (j + m2)).toArray) := by
        intro u ty hu
        have h := run_copy3 u ty g (j * 3) (n - j) (n - j) ⟨g, 0, none⟩ j n _ 24 (reps cs m2) m2 hm2 (by rw [reps_len cs L3.out]; omega) hu (fun k v hk => by
          have hk2 := (List.getElem?_eq_some_iff.1 hk).1
          rw [reps_len cs L3.out] at hk2
          rw [add0, blk_cell hu, show k = k / 3 * 3 + k % 3 by omega]
          have hv : cs[k % 3]? = some v := by
            obtain ⟨v', hv'⟩ : ∃ v', cs[k % 3]? = some v' := ⟨_, List.getElem?_eq_getElem (by rw [L3.out]; omega)⟩
            have := reps_get cs L3.out m2 (k / 3) (k % 3) v' (by omega) hv'
            rw [← show k = k / 3 * 3 + k % 3 by omega, hk] at this
            rw [hv', ← this]
          have := half_get cs zz L3.out n j (k / 3) (k % 3) v (by omega) hv
          simpa using this) (by rw [reps_len cs L3.out]; have h5 := half_len cs zz L3.out rfl n j hj; simp [h5]; omega) (reps_one cs O3.out m2)
        have h6 := half_step cs zz L3.out rfl n j m2 hm3.2.1
        rw [h]
        simp only [Nat.mul_comm j 3] at h6 ⊢
        rw [h6]
      have e1 : IntKind.i64.wrap ((j : Int) + (m2 : Int)) = (j : Int) + (m2 : Int) := IntWalk.i64_in _ (by omega)
      have HM3 := Lib.hid hm3; have HJ := Lib.hid hj
      clear hm2 hm3 hpos hj
      go_wp2_with fail
      go_region_law (refine step_copy3 rfl (.tmp 41) (.tmp 44) 22 22 rfl (.slice (some ⟨g, j * 3, none⟩) (n - j) (n - j)) (.slice (some ⟨g, 0, none⟩) j n) (by simp [Act.eval, Act.put]) (by simp [Act.eval, Act.put]) (hcp _ _ HR.out) ?_)
      rotate_left
      focus
        simp only [Act.put, List.getElem_toArray, List.getElem_cons_succ, List.getElem_cons_zero, Array.set!_eq_setIfInBounds]
        go_simp
        go_roundw
        case rel => exact ⟨.int .i64 ((j : Int) + (m2 : Int)), _, _, _, _, _, _, _, _, _, _, _, _, _, ⟨j + m2, by push_cast; rfl, HM3.out.2.1, fun _ => by have := HM3.out.2.2; omega, Lib.hid (setRow_heap _ g _ _ 24 (0, 0) HR.out), Lib.hid (below_setRow (by repeat (first | (with_reducible first | exact HB.out | apply pw_below_drewN | apply below_drew1) | exact HB.out)) WG.out _)⟩, rfl⟩
        case measure => have := HM3.out.2.2; simp [intOf]; omega
      all_goals exact .int .i64 0
    · have hx1 : decide ((j : Int) < (n : Int)) = false := decide_eq_false (by omega)
      have hne : j = n := by omega
      subst hne
      have HFin := Lib.hid (row_F P x j w wr g B0 d0 hn SL.out SR.out WG.out (by rw [HS.out]; exact HR.out) HB.out)
      go_wp2_with fail
      go_ret
      exact ⟨_, _, rfl, Nat.le_refl _, HFin.out, HB.out⟩
end Go.Proofs.Ytggdpeeiioibgaa.E
