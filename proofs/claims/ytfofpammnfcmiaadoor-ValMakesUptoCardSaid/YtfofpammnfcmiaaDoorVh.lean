/- Marline, values: the law ValTells. Conditions: sizes, the tables and the errors of the library. -/
import Derived.Test.YtfofpammnfcmiaaDoorVf
namespace Go.Proofs.YtfofpammnfcmiaaDoor.Vl
open Go.RowKit Go.Proofs.YtfofpammnfcmiaaDoorW.PrintWords Go.Proofs.YtfofpammnfcmiaaDoorW.PrintLast Go.Proofs.YtfofpammnfcmiaaDoorW.PrintMore Go.Proofs.YtfofpammnfcmiaaDoor.Kinds Go.Proofs.YtfofpammnfcmiaaDoor.Obj
set_option linter.unusedVariables false
set_option linter.unusedSimpArgs false
set_option maxRecDepth 100000
open Go.Proofs.YtfofpammnfcmiaaDoor.E
open PV (IsS107 info67)
theorem bb2 (b : Bool) : (b == b) = true := by cases b <;> rfl
def t15T : Bool × List (List Nat × List Nat) := (true, [([], []), ([0], [0]), ([], []), ([2, 1], [2]), ([1, 3], [1, 3]), ([4, 3], [4]), ([5], [5]), ([6, 5, 5], [5, 6]), ([5], [5]), ([8, 7, 5], [5, 8]), ([7, 9, 5], [5, 7, 9]), ([5, 10], [5, 10]), ([11, 9], [11]), ([12], [12]), ([13, 12, 12], [12, 13]), ([12], [12]), ([15, 14, 12], [12, 15]), ([14, 16, 12], [12, 14, 16]), ([12, 17], [12, 17]), ([18, 16], [18]), ([19], [19]), ([19], [19]), ([20, 21, 19, 19], [19, 20, 21]), ([19], [19]), ([19], [19]), ([23, 24, 22, 19], [19, 23, 24]), ([22, 25, 19], [19, 22, 25]), ([19, 26], [19, 26]), ([27, 25], [27]), ([28], [28]), ([28], [28]), ([29, 30, 28, 28], [28, 29, 30]), ([28, 31], [28, 31]), ([32, 31, 0, 1, 2, 3, 4, 5, 6, 7, 8, 9, 10, 11, 12, 13, 14, 15, 16, 17, 18, 19, 20, 21, 22, 23, 24, 25, 26, 27, 28, 29, 30, 31, 32], [32])])
def b15B : List Nat := [0, 1, 0, 4, 15, 31, 63, 127, 63, 319, 1023, 2047, 4095, 8191, 16383, 8191, 40959, 131071, 262143, 524287, 1048575, 1048575, 4194303, 1048575, 1048575, 26214399, 67108863, 134217727, 268435455, 536870911, 536870911, 2147483647, 4294967295, 8589934591]
theorem t15 : rtab .any (opsOf Tryd.f14 15) = t15T := by kernel_rfl
theorem b15 : waitsOk t15T.2 b15B = true := by kernel_rfl
theorem wrap_toInt (b : BitVec 64) : IntKind.i64.wrap (b.toNat : Int) = b.toInt := by
  have hlt : b.toNat < 18446744073709551616 := b.isLt
  unfold IntKind.wrap
  rw [BitVec.toInt_eq_toNat_cond]
  have e : (b.toNat : Int) % 2 ^ IntKind.i64.bits = b.toNat := Int.emod_eq_of_lt (by omega) (by show (b.toNat : Int) < 18446744073709551616; omega)
  simp only [e]
  show (if (true && decide ((b.toNat : Int) ≥ 9223372036854775808)) = true then (b.toNat : Int) - 18446744073709551616 else (b.toNat : Int)) = _
  rw [Bool.true_and]
  by_cases h : (b.toNat : Int) ≥ 9223372036854775808
  · rw [if_pos (decide_eq_true h), if_neg (by omega)]; rfl
  · rw [if_neg (by simp; omega), if_pos (by omega)]
theorem xor_is (a : Int) : bits .xor .i64 a 1 = (BitVec.ofInt 64 a ^^^ BitVec.ofInt 64 1).toInt := wrap_toInt _
theorem xor_twice (a : Int) (h : -9223372036854775808 ≤ a ∧ a ≤ 9223372036854775807) : bits .xor .i64 (bits .xor .i64 a 1) 1 = a := by
  rw [xor_is, xor_is, BitVec.ofInt_toInt, BitVec.xor_assoc, BitVec.xor_self, BitVec.xor_zero, BitVec.toInt_ofInt, Int.bmod_def]
  have e : (((2 ^ 64 : Nat) : Int)) = 18446744073709551616 := by decide
  rw [e]
  split <;> omega
theorem kid0 {w : World} {base : Nat} {ok : Nat → Prop} {AC : Option Addr} {cc : Nat} {l : List S67} (h : Kd.R k67 67 w base ok (.slice AC l.length cc) l) (hl : 0 < l.length) :
    ∃ g cur, AC = some ⟨g, 0, none⟩ ∧ base ≤ g ∧ w.heap[g]? = some (.cells cur 67 (0, 0)) ∧ cur[1]? = some (.int .i64 (rd_T67 l (0 : Nat)).f1) := by
  have h2 := h
  obtain ⟨_, inner, hown, _⟩ := h2
  rcases hown.2 with ⟨_, hn⟩ | ⟨g, cap, cur, hv, hb, hg, _⟩
  · omega
  · injection hv with hv1 hv2 hv3
    subst hv1
    obtain ⟨ad, A2, c2, he, k0, k1, k2, _⟩ := at_T67 (Kd.R_reads' h).2.2 ((0 : Nat) : Int) (by omega) (by omega)
    injection he with he
    subst he
    rw [Int.toNat_natCast] at k0 k1 k2
    simp only [Addr.add_lit, Nat.zero_add, Nat.zero_mul] at k1
    refine ⟨g, cur, rfl, hb, hg, ?_⟩
    have := blk_cell hg 1
    rw [this] at k1
    exact k1
theorem cell_set {w : World} {g : Nat} {cur : Array Value} {v0 : Value} (h : w.heap[g]? = some (.cells cur 67 (0, 0))) (h1 : cur[1]? = some v0) (u : Value) : (w.setCell ⟨g, 1, none⟩ u).drew.cell? ⟨g, 1, none⟩ = some u := by
  have hlt : 1 < cur.size := (Array.getElem?_eq_some_iff.1 h1).1
  have e1 := blk_set h 1 u
  exact (blk_cell (w := (w.setCell ⟨g, 1, none⟩ u).drew) e1 1).trans (by simp [hlt])
theorem frozen_set {w : World} {g : Nat} {cur : Array Value} (h : w.heap[g]? = some (.cells cur 67 (0, 0))) (u : Value) : (w.setCell ⟨g, 1, none⟩ u).drew.frozen? ⟨g, 1, none⟩ = false := by
  have e1 := blk_set h 1 u
  exact blk_frozen (w := (w.setCell ⟨g, 1, none⟩ u).drew) e1 1
theorem back_below {w : World} {g : Nat} {cur : Array Value} {u v0 : Value} (h : w.heap[g]? = some (.cells cur 67 (0, 0))) (h1 : cur[1]? = some v0) : Below w.heap.size w ((w.setCell ⟨g, 1, none⟩ u).setCell ⟨g, 1, none⟩ v0) := by
  have e1 := blk_set h 1 u
  have e2 := blk_set e1 1 v0
  have hlt : 1 < cur.size := (Array.getElem?_eq_some_iff.1 h1).1
  have e3 : (cur.setIfInBounds 1 u).setIfInBounds 1 v0 = cur := by
    apply Array.ext_getElem?
    intro i
    by_cases hi : i = 1
    · subst hi; rw [h1]; simp [hlt]
    · simp [Array.getElem?_setIfInBounds, Ne.symm hi]
  refine ⟨rfl, rfl, rfl, by simp [World.setCell], fun k hk => ?_⟩
  by_cases hg : k = g
  · subst hg
    rw [h]
    simpa [e3] using e2
  · rw [Below.heap_setCell _ _ _ k hg, Below.heap_setCell _ _ _ k hg]
set_option maxHeartbeats 32000000 in
theorem tells_walk (x y : S67) (A : Option Addr) (c : Nat) (A2 : Option Addr) (c2 : Nat) (w : World) (hx : sz x ≤ 1048576) (hwx : Wv x) (h1 : x.f2.length ≤ c) (h2 : Kd.C k67 w A x.f2.length x.f2) (hy : sz y ≤ 1048576) (h3 : y.f2.length ≤ c2) (h4 : Kd.C k67 w A2 y.f2.length y.f2) (hP : Pow w) (hE : Errs w) :
    Calls Tryd.prog 14 #[v67 x.f0 x.f1 A x.f2.length c, v67 y.f0 y.f1 A2 y.f2.length c2] w fun e w' => e = .returned (.bool true) ∧ Below w.heap.size w w' := by
  have hu67 := Tryd.underlying67
  have hu65 := Tryd.underlying65
  obtain ⟨g2, hg2⟩ : ∃ g, w.heap.size = g := ⟨_, rfl⟩
  obtain ⟨g3, hg3⟩ : ∃ g, w.heap.size + 1 = g := ⟨_, rfl⟩
  have G := Lib.hid (show ∃ w1 : World, (w.alloc (.cells #[.int .i64 x.f0, .int .i64 x.f1, .slice A x.f2.length c] 67)).alloc (.cells #[.int .i64 y.f0, .int .i64 y.f1, .slice A2 y.f2.length c2] 67) = w1 ∧ Bx w1 g2 x.f0 x.f1 (.slice A x.f2.length c) ∧ Bx w1 g3 y.f0 y.f1 (.slice A2 y.f2.length c2) ∧ Below w.heap.size w w1 from
    ⟨_, rfl, by rw [← hg2]; exact blk_alloc (blk_new w _) _, by
      rw [← hg3]
      have := blk_new (w.alloc (.cells #[.int .i64 x.f0, .int .i64 x.f1, .slice A x.f2.length c] 67)) (.cells #[.int .i64 y.f0, .int .i64 y.f1, .slice A2 y.f2.length c2] 67)
      rw [show (w.alloc (.cells #[.int .i64 x.f0, .int .i64 x.f1, .slice A x.f2.length c] 67)).heap.size = w.heap.size + 1 by simp] at this
      exact this, below_alloc (below_alloc (Below.refl _ _) _) _⟩)
  have WO := Lib.hid (fun (W : World) (h : Below w.heap.size w W) => works_is W (hP.below h) (hE.below h))
  have SX := Lib.hid (fun (W : World) (h : Below w.heap.size w W) => small_calls x A c W hx h1 (c_later h2 h))
  have SY := Lib.hid (fun (W : World) (h : Below w.heap.size w W) => small_calls y A2 c2 W hy h3 (c_later h4 h))
  have RX := Lib.hid (fun (W : World) (h : Below w.heap.size w W) => rright_calls x A c W hx h1 (c_later h2 h))
  have VX := Lib.hid (fun (W : World) (h : Below w.heap.size w W) => right_calls x A c W h1 (c_later h2 h))
  have TX := Lib.hid (fun (W : World) (h : Below w.heap.size w W) => vtext_calls x A c W hx hwx h1 (c_later h2 h) (hP.below h))
  have UX := Lib.hid (fun (hr : right x = true) (W : World) (h : Below w.heap.size w W) => rtext_calls x A c W hx hwx hr h1 (c_later h2 h))
  have ZX := Lib.hid (fun (W : World) (h : Below w.heap.size w W) => size_calls x A c W hx h1 (c_later h2 h))
  have ZR := Lib.hid (fun (W : World) (h : Below w.heap.size w W) => rsize_calls x A c W hx h1 (c_later h2 h))
  have DX := Lib.hid (fun (W : World) (h : Below w.heap.size w W) => deep_calls x A c W hx h1 (c_later h2 h))
  have DR := Lib.hid (fun (W : World) (h : Below w.heap.size w W) => rdeep_calls x A c W hx h1 (c_later h2 h))
  have SXY := Lib.hid (fun (W : World) (h : Below w.heap.size w W) => vsame_calls x y A c A2 c2 W h1 (c_later h2 h) h3 (c_later h4 h))
  have SRY := Lib.hid (fun (W : World) (h : Below w.heap.size w W) => rsame_calls x y A c A2 c2 W h1 (c_later h2 h) h3 (c_later h4 h))
  have SCX := Lib.hid (fun (W : World) (B : Option Addr) (d : Nat) (h : Below w.heap.size w W) (l : x.f2.length ≤ d) (k : Kd.C k67 W B x.f2.length x.f2) => rsame_calls x x A c B d W h1 (c_later h2 h) l k)
  have SVX := Lib.hid (fun (W : World) (B : Option Addr) (d : Nat) (h : Below w.heap.size w W) (l : x.f2.length ≤ d) (k : Kd.C k67 W B x.f2.length x.f2) => vsame_calls x x A c B d W h1 (c_later h2 h) l k)
  have CX := Lib.hid (fun (W : World) (h : Below w.heap.size w W) => vclone_calls x A c W hx h1 (c_later h2 h))
  have CXR := Lib.hid h2
  rw [(same_iff x x).2 rfl] at SCX SVX
  obtain ⟨nz, hnz⟩ : ∃ n : Int, (sz x : Int) = n := ⟨_, rfl⟩
  rw [hnz] at ZX ZR
  obtain ⟨nd, hnd⟩ : ∃ n : Int, (dp x : Int) = n := ⟨_, rfl⟩
  rw [hnd] at DX DR
  have qz : (nz == nz) = true := beq_self_eq_true _
  have qd : (nd == nd) = true := beq_self_eq_true _
  have HWX := Lib.hid hwx; have HG2 := Lib.hid hg2; have HG3 := Lib.hid hg3
  have HW0 := Lib.hid (show ∀ (f : S67), f ∈ x.f2 → In f.f1 from fun f hf => (hwx.kid hf).n)
  clear hx hwx h1 h2 hy h3 h4 hP hE hg2 hg3 hnz hnd
  go_enter Tryd.func14, Tryd.ntmps14
  go_upto_region 1 with (fail)
  rw [HG3.out, HG2.out]
  obtain ⟨w1, hw1, x3, x4, b1⟩ := G.out
  rw [hw1]
  have X2 := Lib.hid x3; have X3 := Lib.hid x4; have B0 := Lib.hid b1
  clear G hw1 x3 x4 b1
  have S0 := Lib.hid (Below.refl w1.heap.size w1)
  by_cases hb : sz x > 300
  · rw [if_pos hb] at SX
    have q2 := (X2.out.below S0.out).cells; obtain ⟨m20, m21, m22, f20, f21, f22⟩ := q2
    have q3 := (X3.out.below S0.out).cells; obtain ⟨m30, m31, m32, f30, f31, f32⟩ := q3
    go_wp2_with fail
    refine (WO.out _ (B0.out.trans (S0.out.mono B0.out.size))).mono ?_
    rintro e s0w1 ⟨rfl, hb⟩
    have S0n1 := Lib.hid (S0.out.trans (hb.mono S0.out.size))
    clear hb
    clear m20 f20 m21 f21 m22 f22 m30 f30 m31 f31 m32 f32
    have q2 := (X2.out.below S0n1.out).cells; obtain ⟨m20, m21, m22, f20, f21, f22⟩ := q2
    have q3 := (X3.out.below S0n1.out).cells; obtain ⟨m30, m31, m32, f30, f31, f32⟩ := q3
    go_wp2_with fail
    refine (SX.out _ (B0.out.trans (S0n1.out.mono B0.out.size))).mono ?_
    rintro e s0w2 ⟨rfl, hb⟩
    have S0n2 := Lib.hid (S0n1.out.trans (hb.mono S0n1.out.size))
    clear hb
    clear m20 f20 m21 f21 m22 f22 m30 f30 m31 f31 m32 f32
    have q2 := (X2.out.below S0n2.out).cells; obtain ⟨m20, m21, m22, f20, f21, f22⟩ := q2
    have q3 := (X3.out.below S0n2.out).cells; obtain ⟨m30, m31, m32, f30, f31, f32⟩ := q3
    go_wp2_with fail
    refine (WO.out _ (B0.out.trans (S0n2.out.mono B0.out.size))).mono ?_
    rintro e s0w3 ⟨rfl, hb⟩
    have S0n3 := Lib.hid (S0n2.out.trans (hb.mono S0n2.out.size))
    clear hb
    clear m20 f20 m21 f21 m22 f22 m30 f30 m31 f31 m32 f32
    have q2 := (X2.out.below S0n3.out).cells; obtain ⟨m20, m21, m22, f20, f21, f22⟩ := q2
    have q3 := (X3.out.below S0n3.out).cells; obtain ⟨m30, m31, m32, f30, f31, f32⟩ := q3
    go_wp2_with fail
    go_ret
    exact ⟨rfl, B0.out.trans (S0n3.out.mono B0.out.size)⟩
  rw [if_neg hb] at SX
  clear hb
  by_cases hb : sz y > 300
  · rw [if_pos hb] at SY
    have q2 := (X2.out.below S0.out).cells; obtain ⟨m20, m21, m22, f20, f21, f22⟩ := q2
    have q3 := (X3.out.below S0.out).cells; obtain ⟨m30, m31, m32, f30, f31, f32⟩ := q3
    go_wp2_with fail
    refine (WO.out _ (B0.out.trans (S0.out.mono B0.out.size))).mono ?_
    rintro e s0w1 ⟨rfl, hb⟩
    have S0n1 := Lib.hid (S0.out.trans (hb.mono S0.out.size))
    clear hb
    clear m20 f20 m21 f21 m22 f22 m30 f30 m31 f31 m32 f32
    have q2 := (X2.out.below S0n1.out).cells; obtain ⟨m20, m21, m22, f20, f21, f22⟩ := q2
    have q3 := (X3.out.below S0n1.out).cells; obtain ⟨m30, m31, m32, f30, f31, f32⟩ := q3
    go_wp2_with fail
    refine (SX.out _ (B0.out.trans (S0n1.out.mono B0.out.size))).mono ?_
    rintro e s0w2 ⟨rfl, hb⟩
    have S0n2 := Lib.hid (S0n1.out.trans (hb.mono S0n1.out.size))
    clear hb
    clear m20 f20 m21 f21 m22 f22 m30 f30 m31 f31 m32 f32
    have q2 := (X2.out.below S0n2.out).cells; obtain ⟨m20, m21, m22, f20, f21, f22⟩ := q2
    have q3 := (X3.out.below S0n2.out).cells; obtain ⟨m30, m31, m32, f30, f31, f32⟩ := q3
    go_wp2_with fail
    refine (SY.out _ (B0.out.trans (S0n2.out.mono B0.out.size))).mono ?_
    rintro e s0w3 ⟨rfl, hb⟩
    have S0n3 := Lib.hid (S0n2.out.trans (hb.mono S0n2.out.size))
    clear hb
    clear m20 f20 m21 f21 m22 f22 m30 f30 m31 f31 m32 f32
    have q2 := (X2.out.below S0n3.out).cells; obtain ⟨m20, m21, m22, f20, f21, f22⟩ := q2
    have q3 := (X3.out.below S0n3.out).cells; obtain ⟨m30, m31, m32, f30, f31, f32⟩ := q3
    go_wp2_with fail
    refine (WO.out _ (B0.out.trans (S0n3.out.mono B0.out.size))).mono ?_
    rintro e s0w4 ⟨rfl, hb⟩
    have S0n4 := Lib.hid (S0n3.out.trans (hb.mono S0n3.out.size))
    clear hb
    clear m20 f20 m21 f21 m22 f22 m30 f30 m31 f31 m32 f32
    have q2 := (X2.out.below S0n4.out).cells; obtain ⟨m20, m21, m22, f20, f21, f22⟩ := q2
    have q3 := (X3.out.below S0n4.out).cells; obtain ⟨m30, m31, m32, f30, f31, f32⟩ := q3
    go_wp2_with fail
    go_ret
    exact ⟨rfl, B0.out.trans (S0n4.out.mono B0.out.size)⟩
  rw [if_neg hb] at SY
  clear hb
  have q2 := (X2.out.below S0.out).cells; obtain ⟨m20, m21, m22, f20, f21, f22⟩ := q2
  have q3 := (X3.out.below S0.out).cells; obtain ⟨m30, m31, m32, f30, f31, f32⟩ := q3
  go_wp2_with fail
  refine (WO.out _ (B0.out.trans (S0.out.mono B0.out.size))).mono ?_
  rintro e s0w1 ⟨rfl, hb⟩
  have S0n1 := Lib.hid (S0.out.trans (hb.mono S0.out.size))
  clear hb
  clear m20 f20 m21 f21 m22 f22 m30 f30 m31 f31 m32 f32
  have q2 := (X2.out.below S0n1.out).cells; obtain ⟨m20, m21, m22, f20, f21, f22⟩ := q2
  have q3 := (X3.out.below S0n1.out).cells; obtain ⟨m30, m31, m32, f30, f31, f32⟩ := q3
  go_wp2_with fail
  refine (SX.out _ (B0.out.trans (S0n1.out.mono B0.out.size))).mono ?_
  rintro e s0w2 ⟨rfl, hb⟩
  have S0n2 := Lib.hid (S0n1.out.trans (hb.mono S0n1.out.size))
  clear hb
  clear m20 f20 m21 f21 m22 f22 m30 f30 m31 f31 m32 f32
  have q2 := (X2.out.below S0n2.out).cells; obtain ⟨m20, m21, m22, f20, f21, f22⟩ := q2
  have q3 := (X3.out.below S0n2.out).cells; obtain ⟨m30, m31, m32, f30, f31, f32⟩ := q3
  go_wp2_with fail
  refine (SY.out _ (B0.out.trans (S0n2.out.mono B0.out.size))).mono ?_
  rintro e s0w3 ⟨rfl, hb⟩
  have S0n3 := Lib.hid (S0n2.out.trans (hb.mono S0n2.out.size))
  clear hb
  clear m20 f20 m21 f21 m22 f22 m30 f30 m31 f31 m32 f32
  have q2 := (X2.out.below S0n3.out).cells; obtain ⟨m20, m21, m22, f20, f21, f22⟩ := q2
  have q3 := (X3.out.below S0n3.out).cells; obtain ⟨m30, m31, m32, f30, f31, f32⟩ := q3
  go_wp2_with fail
  refine (CX.out _ (B0.out.trans (S0n3.out.mono B0.out.size))).mono ?_
  rintro e w5 ⟨u, rfl, ru, hb⟩
  obtain ⟨AC, cc, rfl⟩ := Kd.R_slice ru
  have BASE := Lib.hid (show w1.heap.size ≤ _ from S0n3.out.size)
  have B5 := Lib.hid (S0n3.out.trans (hb.mono S0n3.out.size))
  have R5 := Lib.hid ru
  clear hb ru
  clear m20 f20 m21 f21 m22 f22 m30 f30 m31 f31 m32 f32
  go_upto_region 4 with (fail)
  obtain ⟨g5, hg5⟩ : ∃ b, w5.heap.size = b := ⟨_, rfl⟩
  obtain ⟨w6, hw6, x5, r6, y2, y3, b6⟩ : ∃ w6 : World, w5.alloc (.cells #[.int .i64 x.f0, .int .i64 x.f1, .slice AC x.f2.length cc] 67) = w6 ∧ Bx w6 g5 x.f0 x.f1 (.slice AC x.f2.length cc) ∧ Kd.R k67 67 w6 w1.heap.size (fun k => k ≠ g5) (.slice AC x.f2.length cc) x.f2 ∧ Bx w6 g2 x.f0 x.f1 (.slice A x.f2.length c) ∧ Bx w6 g3 y.f0 y.f1 (.slice A2 y.f2.length c2) ∧ Below w.heap.size w w6 :=
    ⟨_, rfl, by rw [← hg5]; exact blk_new w5 _, Kd.R_alloc (Kd.R_mono (Kd.R_bound (Kd.R_lower R5.out BASE.out)) (fun k hk => by have := hk.2.2; omega)) _, (X2.out.below B5.out).alloc _, (X3.out.below B5.out).alloc _, below_alloc (B0.out.trans (B5.out.mono B0.out.size)) _⟩
  rw [hg5, hw6]
  have WLE := Lib.hid (show w.heap.size ≤ w1.heap.size from B0.out.size); have WLE2 := Lib.hid (show g3 < w1.heap.size from X3.out.lt)
  clear X2 X3 R5 B5 B0
  have X5 := Lib.hid x5; have R6 := Lib.hid r6; have X2 := Lib.hid y2; have X3 := Lib.hid y3; have B0 := Lib.hid b6
  have L6 := Lib.hid (Kd.R_reads' r6).2.1; have C6 := Lib.hid (Kd.R_reads' r6).2.2
  clear hg5 hw6 x5 r6 y2 y3 b6
  have T0 := Lib.hid (Below.refl w6.heap.size w6)
  cases hr : right x with
  | true =>
    have hte : textV x = txt x := if_pos hr
    have UT := Lib.hid (UX.out hr)
    rw [hte] at TX
    have qe := ba_self (txt x)
    rw [hr] at RX
    clear hte
    have q2 := (X2.out.below T0.out).cells; obtain ⟨m20, m21, m22, f20, f21, f22⟩ := q2
    have q3 := (X3.out.below T0.out).cells; obtain ⟨m30, m31, m32, f30, f31, f32⟩ := q3
    have q5 := (X5.out.below T0.out).cells; obtain ⟨m50, m51, m52, f50, f51, f52⟩ := q5
    go_wp2_with fail
    refine (RX.out _ (B0.out.trans (T0.out.mono B0.out.size))).mono ?_
    rintro e t0w1 ⟨rfl, hb⟩
    have T0n1 := Lib.hid (T0.out.trans (hb.mono T0.out.size))
    clear hb
    clear m20 f20 m21 f21 m22 f22 m30 f30 m31 f31 m32 f32 m50 f50 m51 f51 m52 f52
    have q2 := (X2.out.below T0n1.out).cells; obtain ⟨m20, m21, m22, f20, f21, f22⟩ := q2
    have q3 := (X3.out.below T0n1.out).cells; obtain ⟨m30, m31, m32, f30, f31, f32⟩ := q3
    have q5 := (X5.out.below T0n1.out).cells; obtain ⟨m50, m51, m52, f50, f51, f52⟩ := q5
    go_wp2_with fail
    refine (UT.out _ (B0.out.trans (T0n1.out.mono B0.out.size))).mono ?_
    rintro e t0w2 ⟨rfl, hb⟩
    have T0n2 := Lib.hid (T0n1.out.trans (hb.mono T0n1.out.size))
    clear hb
    clear m20 f20 m21 f21 m22 f22 m30 f30 m31 f31 m32 f32 m50 f50 m51 f51 m52 f52
    have q2 := (X2.out.below T0n2.out).cells; obtain ⟨m20, m21, m22, f20, f21, f22⟩ := q2
    have q3 := (X3.out.below T0n2.out).cells; obtain ⟨m30, m31, m32, f30, f31, f32⟩ := q3
    have q5 := (X5.out.below T0n2.out).cells; obtain ⟨m50, m51, m52, f50, f51, f52⟩ := q5
    go_wp2_with fail
    refine (SCX.out _ AC cc (B0.out.trans (T0n2.out.mono B0.out.size)) L6.out (c_later C6.out T0n2.out)).mono ?_
    rintro e t0w3 ⟨rfl, hb⟩
    have T0n3 := Lib.hid (T0n2.out.trans (hb.mono T0n2.out.size))
    clear hb
    clear m20 f20 m21 f21 m22 f22 m30 f30 m31 f31 m32 f32 m50 f50 m51 f51 m52 f52
    have q2 := (X2.out.below T0n3.out).cells; obtain ⟨m20, m21, m22, f20, f21, f22⟩ := q2
    have q3 := (X3.out.below T0n3.out).cells; obtain ⟨m30, m31, m32, f30, f31, f32⟩ := q3
    have q5 := (X5.out.below T0n3.out).cells; obtain ⟨m50, m51, m52, f50, f51, f52⟩ := q5
    go_wp2_with fail
    refine (TX.out _ (B0.out.trans (T0n3.out.mono B0.out.size))).mono ?_
    rintro e t0w4 ⟨rfl, hb⟩
    have T0n4 := Lib.hid (T0n3.out.trans (hb.mono T0n3.out.size))
    clear hb
    clear m20 f20 m21 f21 m22 f22 m30 f30 m31 f31 m32 f32 m50 f50 m51 f51 m52 f52
    have q2 := (X2.out.below T0n4.out).cells; obtain ⟨m20, m21, m22, f20, f21, f22⟩ := q2
    have q3 := (X3.out.below T0n4.out).cells; obtain ⟨m30, m31, m32, f30, f31, f32⟩ := q3
    have q5 := (X5.out.below T0n4.out).cells; obtain ⟨m50, m51, m52, f50, f51, f52⟩ := q5
    rw [← hr] at RX
    clear hr
    have E0 := Lib.hid (B0.out.trans (T0n4.out.mono B0.out.size)); have C7 := Lib.hid (c_later C6.out T0n4.out)
    by_cases hk : 0 < x.f2.length
    · have p1 : decide ((0 : Int) < (x.f2.length : Int)) = true := decide_eq_true (by omega)
      have p2 : (0 : Int) < (x.f2.length : Int) := by omega
      obtain ⟨ad, A9, c9, ea, x0, x1, x2, xl, xr⟩ := at_T67 CXR.out (0 : Int) (Int.le_refl 0) p2
      obtain ⟨g, cur, eg, hge, hgb, hgc⟩ := kid0 R6.out hk
      obtain ⟨z, hz⟩ : ∃ z, rd_T67 x.f2 (0 : Int) = z := ⟨_, rfl⟩
      have hzi : In z.f1 := HW0.out z (by rw [← hz]; exact rd_mem x.f2 0 hk)
      rw [show ((0 : Nat) : Int) = 0 from rfl] at hgc
      rw [hz] at x0 x1 x2 xl xr hgc
      subst ea; subst eg
      have k1 := (blk_cell (blk_below hgb T0n4.out) 1).trans hgc
      have kf := blk_frozen (blk_below hgb T0n4.out) 1
      have x1b := at_later E0.out x1
      rw [Int.toNat_zero, Nat.zero_mul] at x1b
      replace x1b : World.cell? _ ⟨ad.block, ad.off + 1, none⟩ = some (.int .i64 z.f1) := x1b
      obtain ⟨n0, hn0⟩ : ∃ n0, z.f1 = n0 := ⟨_, rfl⟩
      rw [hn0] at k1 x1b x1 hgc hzi
      have HGB := Lib.hid hgb; have HGC := Lib.hid hgc; have HGE := Lib.hid hge; have HZI := Lib.hid hzi; have X1 := Lib.hid x1
      clear hgb hgc hge hzi x0 x1 x2 xl xr hz hn0
      go_upto_region 11 with (fail)
      go_region
      obtain ⟨n1, hn1⟩ : ∃ n1, bits .xor .i64 n0 1 = n1 := ⟨_, rfl⟩
      have hn2 : bits .xor .i64 n1 1 = n0 := by rw [← hn1]; exact xor_twice n0 HZI.out
      rw [hn1]
      have M2 := Lib.hid (show g2 ≠ g by have := HG2.out; have := HG3.out; have := WLE2.out; have := HGE.out; omega)
      have M3 := Lib.hid (show g3 ≠ g by have := HG3.out; have := WLE2.out; have := HGE.out; omega)
      have M5 := Lib.hid (show g5 ≠ g from fun e => R6.out.1 g rfl e.symm)
      have MW := Lib.hid (show w.heap.size ≤ g by have := WLE.out; have := HGE.out; omega)
      obtain ⟨v1, hv1, y2, y3, y5, e1, k2, kg⟩ : ∃ v1 : World, (t0w4.setCell ⟨g, 1, none⟩ (.int .i64 n1)).drew = v1 ∧ Bx v1 g2 x.f0 x.f1 (.slice (some ad) x.f2.length c) ∧ Bx v1 g3 y.f0 y.f1 (.slice A2 y.f2.length c2) ∧ Bx v1 g5 x.f0 x.f1 (.slice (some ⟨g, 0, none⟩) x.f2.length cc) ∧ Below w.heap.size w v1 ∧ v1.cell? ⟨g, 1, none⟩ = some (.int .i64 n1) ∧ v1.frozen? ⟨g, 1, none⟩ = false :=
        ⟨_, rfl, ((X2.out.below T0n4.out).far (a := ⟨g, 1, none⟩) M2.out _).below (below_drew (Below.refl _ _)), ((X3.out.below T0n4.out).far (a := ⟨g, 1, none⟩) M3.out _).below (below_drew (Below.refl _ _)), ((X5.out.below T0n4.out).far (a := ⟨g, 1, none⟩) M5.out _).below (below_drew (Below.refl _ _)), below_drew (below_set E0.out MW.out), cell_set (blk_below HGB.out T0n4.out) HGC.out _, frozen_set (blk_below HGB.out T0n4.out) _⟩
      have HV1 := Lib.hid hv1; have Y2 := Lib.hid y2; have Y3 := Lib.hid y3; have Y5 := Lib.hid y5; have E1 := Lib.hid e1
      rw [hv1]
      clear hv1 y2 y3 y5 e1 hn1 k1 kf x1b m20 m21 m22 f20 f21 f22 m30 m31 m32 f30 f31 f32 m50 m51 m52 f50 f51 f52
      obtain ⟨m20, m21, m22, f20, f21, f22⟩ := Y2.out.cells
      obtain ⟨m50, m51, m52, f50, f51, f52⟩ := Y5.out.cells
      have x1b := at_later E1.out X1.out
      rw [Int.toNat_zero, Nat.zero_mul] at x1b
      replace x1b : v1.cell? ⟨ad.block, ad.off + 1, none⟩ = some (.int .i64 n0) := x1b
      have qn0 : (n0 == n0) = true := beq_self_eq_true _
      go_upto_region 14 with (fail)
      go_region
      obtain ⟨v2, hv2, vb, z2, z3, z5⟩ : ∃ v2 : World, (v1.setCell ⟨g, 1, none⟩ (.int .i64 n0)).drew = v2 ∧ Below t0w4.heap.size t0w4 v2 ∧ Bx v2 g2 x.f0 x.f1 (.slice (some ad) x.f2.length c) ∧ Bx v2 g3 y.f0 y.f1 (.slice A2 y.f2.length c2) ∧ Bx v2 g5 x.f0 x.f1 (.slice (some ⟨g, 0, none⟩) x.f2.length cc) :=
        ⟨_, rfl, by rw [← HV1.out]; exact below_drew (below_drew (back_below (u := .int .i64 n1) (blk_below HGB.out T0n4.out) HGC.out)), (Y2.out.far (a := ⟨g, 1, none⟩) M2.out _).below (below_drew (Below.refl _ _)), (Y3.out.far (a := ⟨g, 1, none⟩) M3.out _).below (below_drew (Below.refl _ _)), (Y5.out.far (a := ⟨g, 1, none⟩) M5.out _).below (below_drew (Below.refl _ _))⟩
      rw [hv2]
      have E2 := Lib.hid (E0.out.trans (vb.mono E0.out.size)); have C9 := Lib.hid (c_later C7.out vb)
      clear hv2 vb m20 m21 m22 f20 f21 f22 m50 m51 m52 f50 f51 f52 x1b k2 kg hn2
      obtain ⟨m20, m21, m22, f20, f21, f22⟩ := z2.cells
      obtain ⟨m30, m31, m32, f30, f31, f32⟩ := z3.cells
      obtain ⟨m50, m51, m52, f50, f51, f52⟩ := z5.cells
      clear z2 z3 z5
      go_upto_region 15 with (fail)
      have qrr := bb2 (right x)
      have qss := bb2 (same x y)
      refine start_ (n := 34) (S := fun w' => w'.cell? ⟨g2, 0, none⟩ = some (.int .i64 x.f0) ∧ w'.cell? ⟨g2, 1, none⟩ = some (.int .i64 x.f1) ∧ w'.cell? ⟨g2, 2, none⟩ = some (.slice (some ad) x.f2.length c) ∧ w'.cell? ⟨g3, 0, none⟩ = some (.int .i64 y.f0) ∧ w'.cell? ⟨g3, 1, none⟩ = some (.int .i64 y.f1) ∧ w'.cell? ⟨g3, 2, none⟩ = some (.slice A2 y.f2.length c2) ∧ w'.cell? ⟨g5, 0, none⟩ = some (.int .i64 x.f0) ∧ w'.cell? ⟨g5, 1, none⟩ = some (.int .i64 x.f1) ∧ w'.cell? ⟨g5, 2, none⟩ = some (.slice (some ⟨g, 0, none⟩) x.f2.length cc)) (ds := []) #[false, false, false, false, false, false, false, false, false, false, false, false, false, false, false, false, false, false, false, false, false, false, false, false, false, false, false, false, false, false, false, false, false, false] (by kernel_rfl) rfl rfl ⟨m20, m21, m22, m30, m31, m32, m50, m51, m52⟩ (fun hHeld => ?_)
      refine with_tabW t15 b15 (fun HT_ HW_ => ?_)
      have D0 := Lib.hid (below_drew (Below.refl v2.heap.size v2))
      generalize World.drew v2 = z0 at *
      clear m20 m21 m22 m30 m31 m32 m50 m51 m52
      refine take_ (i := 0) (N := some 73) (v := ?_) (a' := ?_) #[true, false, false, false, false, false, false, false, false, false, false, false, false, false, false, false, false, false, false, false, false, false, false, false, false, false, false, false, false, false, false, false, false, false] rfl rfl (take_ofW HT_.out HW_.out (by kernel_rfl)) (fun _ _ _ h => h) (Or.inl ⟨by rfl, ?_⟩) hHeld ?_ ?_
      rotate_left
      · rintro w' ⟨s0, s1, s2, s3, s4, s5, s6, s7, s8⟩
        go_simp
        with_reducible rfl
      rotate_left
      · simp only [Act.put, List.setIfInBounds_toArray, List.set_cons_zero, List.set_cons_succ, i64_w, i32_w]
        rfl
      refine take_ (i := 2) (N := some 75) (v := ?_) (a' := ?_) #[true, false, true, false, false, false, false, false, false, false, false, false, false, false, false, false, false, false, false, false, false, false, false, false, false, false, false, false, false, false, false, false, false, false] rfl rfl (take_ofW HT_.out HW_.out (by kernel_rfl)) (fun _ _ _ h => h) (Or.inl ⟨by rfl, ?_⟩) hHeld ?_ ?_
      rotate_left
      · rintro w' ⟨s0, s1, s2, s3, s4, s5, s6, s7, s8⟩
        go_simp
        with_reducible rfl
      rotate_left
      · simp only [Act.put, List.setIfInBounds_toArray, List.set_cons_zero, List.set_cons_succ, i64_w, i32_w]
        rfl
      refine one_ (i := 1) (N := some 74) #[true, true, true, false, false, false, false, false, false, false, false, false, false, false, false, false, false, false, false, false, false, false, false, false, false, false, false, false, false, false, false, false, false, false] rfl rfl (one_of HT_.out (by kernel_rfl)) (by decide) (fun K hK => ?_)
      refine goes_ Tryd.func52 (by kernel_rfl) rfl #[v67 x.f0 x.f1 (some ad) x.f2.length c] (by rfl) rfl rfl (by (try simp only [List.map_toArray, List.map_cons, List.map_nil]); first | done | rfl) ?_
      refine (VX.out _ (E2.out.trans (D0.out.mono E2.out.size))).mono ?_
      rintro e z1 ⟨rfl, hb⟩
      refine ⟨_, rfl, hK.out _ _ ⟨pw_cell_below hb hHeld.1, pw_cell_below hb hHeld.2.1, pw_cell_below hb hHeld.2.2.1, pw_cell_below hb hHeld.2.2.2.1, pw_cell_below hb hHeld.2.2.2.2.1, pw_cell_below hb hHeld.2.2.2.2.2.1, pw_cell_below hb hHeld.2.2.2.2.2.2.1, pw_cell_below hb hHeld.2.2.2.2.2.2.2.1, pw_cell_below hb hHeld.2.2.2.2.2.2.2.2⟩ (fun hHeld => ?_)⟩
      have D1 := Lib.hid (D0.out.trans (hb.mono D0.out.size))
      clear hb
      clear hK K
      refine norm_ (a' := ?_) ?_ ?_
      rotate_left
      · show Act.put _ (some 74) _ = _
        simp only [Act.put, List.setIfInBounds_toArray, List.set_cons_zero, List.set_cons_succ, i64_w, i32_w]
        rfl
      refine one_ (i := 3) (N := some 76) #[true, true, true, true, false, false, false, false, false, false, false, false, false, false, false, false, false, false, false, false, false, false, false, false, false, false, false, false, false, false, false, false, false, false] rfl rfl (one_of HT_.out (by kernel_rfl)) (by decide) (fun K hK => ?_)
      refine goes_ Tryd.func43 (by kernel_rfl) rfl #[v67 x.f0 x.f1 (some ad) x.f2.length c] (by rfl) rfl rfl (by (try simp only [List.map_toArray, List.map_cons, List.map_nil]); first | done | rfl) ?_
      refine (RX.out _ (E2.out.trans (D1.out.mono E2.out.size))).mono ?_
      rintro e z2 ⟨rfl, hb⟩
      refine ⟨_, rfl, hK.out _ _ ⟨pw_cell_below hb hHeld.1, pw_cell_below hb hHeld.2.1, pw_cell_below hb hHeld.2.2.1, pw_cell_below hb hHeld.2.2.2.1, pw_cell_below hb hHeld.2.2.2.2.1, pw_cell_below hb hHeld.2.2.2.2.2.1, pw_cell_below hb hHeld.2.2.2.2.2.2.1, pw_cell_below hb hHeld.2.2.2.2.2.2.2.1, pw_cell_below hb hHeld.2.2.2.2.2.2.2.2⟩ (fun hHeld => ?_)⟩
      have D2 := Lib.hid (D1.out.trans (hb.mono D1.out.size))
      clear hb
      clear hK K
      refine norm_ (a' := ?_) ?_ ?_
      rotate_left
      · show Act.put _ (some 76) _ = _
        simp only [Act.put, List.setIfInBounds_toArray, List.set_cons_zero, List.set_cons_succ, i64_w, i32_w]
        rfl
      refine pure_ (i := 4) (N := some 77) (v := ?_) (a' := ?_) #[true, true, true, true, true, false, false, false, false, false, false, false, false, false, false, false, false, false, false, false, false, false, false, false, false, false, false, false, false, false, false, false, false, false] rfl rfl (any_of HT_.out (by kernel_rfl)) (fun _ _ _ h => h) (Or.inl ⟨by rfl, ?_⟩) ?_ ?_
      rotate_left
      · intro w'
        go_simp
        with_reducible rfl
      rotate_left
      · simp only [Act.put, List.setIfInBounds_toArray, List.set_cons_zero, List.set_cons_succ, i64_w, i32_w]
        rfl
      refine pure_ (i := 5) (N := some 78) (v := ?_) (a' := ?_) #[true, true, true, true, true, true, false, false, false, false, false, false, false, false, false, false, false, false, false, false, false, false, false, false, false, false, false, false, false, false, false, false, false, false] rfl rfl (any_of HT_.out (by kernel_rfl)) (fun _ _ _ h => h) (Or.inl ⟨by rfl, ?_⟩) ?_ ?_
      rotate_left
      · intro w'
        go_simp
        with_reducible rfl
      rotate_left
      · simp only [Act.put, List.setIfInBounds_toArray, List.set_cons_zero, List.set_cons_succ, i64_w, i32_w]
        rfl
      refine take_ (i := 6) (N := some 79) (v := ?_) (a' := ?_) #[true, true, true, true, true, true, true, false, false, false, false, false, false, false, false, false, false, false, false, false, false, false, false, false, false, false, false, false, false, false, false, false, false, false] rfl rfl (take_ofW HT_.out HW_.out (by kernel_rfl)) (fun _ _ _ h => h) (Or.inl ⟨by rfl, ?_⟩) hHeld ?_ ?_
      rotate_left
      · rintro w' ⟨s0, s1, s2, s3, s4, s5, s6, s7, s8⟩
        go_simp
        with_reducible rfl
      rotate_left
      · simp only [Act.put, List.setIfInBounds_toArray, List.set_cons_zero, List.set_cons_succ, i64_w, i32_w]
        rfl
      refine take_ (i := 8) (N := some 81) (v := ?_) (a' := ?_) #[true, true, true, true, true, true, true, false, true, false, false, false, false, false, false, false, false, false, false, false, false, false, false, false, false, false, false, false, false, false, false, false, false, false] rfl rfl (take_ofW HT_.out HW_.out (by kernel_rfl)) (fun _ _ _ h => h) (Or.inl ⟨by rfl, ?_⟩) hHeld ?_ ?_
      rotate_left
      · rintro w' ⟨s0, s1, s2, s3, s4, s5, s6, s7, s8⟩
        go_simp
        with_reducible rfl
      rotate_left
      · simp only [Act.put, List.setIfInBounds_toArray, List.set_cons_zero, List.set_cons_succ, i64_w, i32_w]
        rfl
      refine one_ (i := 7) (N := some 80) #[true, true, true, true, true, true, true, true, true, false, false, false, false, false, false, false, false, false, false, false, false, false, false, false, false, false, false, false, false, false, false, false, false, false] rfl rfl (one_of HT_.out (by kernel_rfl)) (by decide) (fun K hK => ?_)
      refine goes_ Tryd.func54 (by kernel_rfl) rfl #[v67 x.f0 x.f1 (some ad) x.f2.length c] (by rfl) rfl rfl (by (try simp only [List.map_toArray, List.map_cons, List.map_nil]); first | done | rfl) ?_
      refine (ZX.out _ (E2.out.trans (D2.out.mono E2.out.size))).mono ?_
      rintro e z3 ⟨rfl, hb⟩
      refine ⟨_, rfl, hK.out _ _ ⟨pw_cell_below hb hHeld.1, pw_cell_below hb hHeld.2.1, pw_cell_below hb hHeld.2.2.1, pw_cell_below hb hHeld.2.2.2.1, pw_cell_below hb hHeld.2.2.2.2.1, pw_cell_below hb hHeld.2.2.2.2.2.1, pw_cell_below hb hHeld.2.2.2.2.2.2.1, pw_cell_below hb hHeld.2.2.2.2.2.2.2.1, pw_cell_below hb hHeld.2.2.2.2.2.2.2.2⟩ (fun hHeld => ?_)⟩
      have D3 := Lib.hid (D2.out.trans (hb.mono D2.out.size))
      clear hb
      clear hK K
      refine norm_ (a' := ?_) ?_ ?_
      rotate_left
      · show Act.put _ (some 80) _ = _
        simp only [Act.put, List.setIfInBounds_toArray, List.set_cons_zero, List.set_cons_succ, i64_w, i32_w]
        rfl
      refine one_ (i := 9) (N := some 82) #[true, true, true, true, true, true, true, true, true, true, false, false, false, false, false, false, false, false, false, false, false, false, false, false, false, false, false, false, false, false, false, false, false, false] rfl rfl (one_of HT_.out (by kernel_rfl)) (by decide) (fun K hK => ?_)
      refine goes_ Tryd.func55 (by kernel_rfl) rfl #[v67 x.f0 x.f1 (some ad) x.f2.length c] (by rfl) rfl rfl (by (try simp only [List.map_toArray, List.map_cons, List.map_nil]); first | done | rfl) ?_
      refine (ZR.out _ (E2.out.trans (D3.out.mono E2.out.size))).mono ?_
      rintro e z4 ⟨rfl, hb⟩
      refine ⟨_, rfl, hK.out _ _ ⟨pw_cell_below hb hHeld.1, pw_cell_below hb hHeld.2.1, pw_cell_below hb hHeld.2.2.1, pw_cell_below hb hHeld.2.2.2.1, pw_cell_below hb hHeld.2.2.2.2.1, pw_cell_below hb hHeld.2.2.2.2.2.1, pw_cell_below hb hHeld.2.2.2.2.2.2.1, pw_cell_below hb hHeld.2.2.2.2.2.2.2.1, pw_cell_below hb hHeld.2.2.2.2.2.2.2.2⟩ (fun hHeld => ?_)⟩
      have D4 := Lib.hid (D3.out.trans (hb.mono D3.out.size))
      clear hb
      clear hK K
      refine norm_ (a' := ?_) ?_ ?_
      rotate_left
      · show Act.put _ (some 82) _ = _
        simp only [Act.put, List.setIfInBounds_toArray, List.set_cons_zero, List.set_cons_succ, i64_w, i32_w]
        rfl
      refine pure_ (i := 10) (N := some 83) (v := ?_) (a' := ?_) #[true, true, true, true, true, true, true, true, true, true, true, false, false, false, false, false, false, false, false, false, false, false, false, false, false, false, false, false, false, false, false, false, false, false] rfl rfl (any_of HT_.out (by kernel_rfl)) (fun _ _ _ h => h) (Or.inl ⟨by rfl, ?_⟩) ?_ ?_
      rotate_left
      · intro w'
        go_simp
        with_reducible rfl
      rotate_left
      · simp only [Act.put, List.setIfInBounds_toArray, List.set_cons_zero, List.set_cons_succ, i64_w, i32_w]
        rfl
      refine pure_ (i := 11) (N := some 84) (v := ?_) (a' := ?_) #[true, true, true, true, true, true, true, true, true, true, true, true, false, false, false, false, false, false, false, false, false, false, false, false, false, false, false, false, false, false, false, false, false, false] rfl rfl (any_of HT_.out (by kernel_rfl)) (fun _ _ _ h => h) (Or.inl ⟨by rfl, ?_⟩) ?_ ?_
      rotate_left
      · intro w'
        go_simp
        with_reducible rfl
      rotate_left
      · simp only [Act.put, List.setIfInBounds_toArray, List.set_cons_zero, List.set_cons_succ, i64_w, i32_w]
        rfl
      refine pure_ (i := 12) (N := some 85) (v := ?_) (a' := ?_) #[true, true, true, true, true, true, true, true, true, true, true, true, true, false, false, false, false, false, false, false, false, false, false, false, false, false, false, false, false, false, false, false, false, false] rfl rfl (any_of HT_.out (by kernel_rfl)) (fun _ _ _ h => h) (Or.inl ⟨by rfl, ?_⟩) ?_ ?_
      rotate_left
      · intro w'
        go_simp
        with_reducible rfl
      rotate_left
      · simp only [Act.put, List.setIfInBounds_toArray, List.set_cons_zero, List.set_cons_succ, i64_w, i32_w]
        rfl
      refine take_ (i := 13) (N := some 86) (v := ?_) (a' := ?_) #[true, true, true, true, true, true, true, true, true, true, true, true, true, true, false, false, false, false, false, false, false, false, false, false, false, false, false, false, false, false, false, false, false, false] rfl rfl (take_ofW HT_.out HW_.out (by kernel_rfl)) (fun _ _ _ h => h) (Or.inl ⟨by rfl, ?_⟩) hHeld ?_ ?_
      rotate_left
      · rintro w' ⟨s0, s1, s2, s3, s4, s5, s6, s7, s8⟩
        go_simp
        with_reducible rfl
      rotate_left
      · simp only [Act.put, List.setIfInBounds_toArray, List.set_cons_zero, List.set_cons_succ, i64_w, i32_w]
        rfl
      refine take_ (i := 15) (N := some 88) (v := ?_) (a' := ?_) #[true, true, true, true, true, true, true, true, true, true, true, true, true, true, false, true, false, false, false, false, false, false, false, false, false, false, false, false, false, false, false, false, false, false] rfl rfl (take_ofW HT_.out HW_.out (by kernel_rfl)) (fun _ _ _ h => h) (Or.inl ⟨by rfl, ?_⟩) hHeld ?_ ?_
      rotate_left
      · rintro w' ⟨s0, s1, s2, s3, s4, s5, s6, s7, s8⟩
        go_simp
        with_reducible rfl
      rotate_left
      · simp only [Act.put, List.setIfInBounds_toArray, List.set_cons_zero, List.set_cons_succ, i64_w, i32_w]
        rfl
      refine one_ (i := 14) (N := some 87) #[true, true, true, true, true, true, true, true, true, true, true, true, true, true, true, true, false, false, false, false, false, false, false, false, false, false, false, false, false, false, false, false, false, false] rfl rfl (one_of HT_.out (by kernel_rfl)) (by decide) (fun K hK => ?_)
      refine goes_ Tryd.func56 (by kernel_rfl) rfl #[v67 x.f0 x.f1 (some ad) x.f2.length c] (by rfl) rfl rfl (by (try simp only [List.map_toArray, List.map_cons, List.map_nil]); first | done | rfl) ?_
      refine (DX.out _ (E2.out.trans (D4.out.mono E2.out.size))).mono ?_
      rintro e z5 ⟨rfl, hb⟩
      refine ⟨_, rfl, hK.out _ _ ⟨pw_cell_below hb hHeld.1, pw_cell_below hb hHeld.2.1, pw_cell_below hb hHeld.2.2.1, pw_cell_below hb hHeld.2.2.2.1, pw_cell_below hb hHeld.2.2.2.2.1, pw_cell_below hb hHeld.2.2.2.2.2.1, pw_cell_below hb hHeld.2.2.2.2.2.2.1, pw_cell_below hb hHeld.2.2.2.2.2.2.2.1, pw_cell_below hb hHeld.2.2.2.2.2.2.2.2⟩ (fun hHeld => ?_)⟩
      have D5 := Lib.hid (D4.out.trans (hb.mono D4.out.size))
      clear hb
      clear hK K
      refine norm_ (a' := ?_) ?_ ?_
      rotate_left
      · show Act.put _ (some 87) _ = _
        simp only [Act.put, List.setIfInBounds_toArray, List.set_cons_zero, List.set_cons_succ, i64_w, i32_w]
        rfl
      refine one_ (i := 16) (N := some 89) #[true, true, true, true, true, true, true, true, true, true, true, true, true, true, true, true, true, false, false, false, false, false, false, false, false, false, false, false, false, false, false, false, false, false] rfl rfl (one_of HT_.out (by kernel_rfl)) (by decide) (fun K hK => ?_)
      refine goes_ Tryd.func57 (by kernel_rfl) rfl #[v67 x.f0 x.f1 (some ad) x.f2.length c] (by rfl) rfl rfl (by (try simp only [List.map_toArray, List.map_cons, List.map_nil]); first | done | rfl) ?_
      refine (DR.out _ (E2.out.trans (D5.out.mono E2.out.size))).mono ?_
      rintro e z6 ⟨rfl, hb⟩
      refine ⟨_, rfl, hK.out _ _ ⟨pw_cell_below hb hHeld.1, pw_cell_below hb hHeld.2.1, pw_cell_below hb hHeld.2.2.1, pw_cell_below hb hHeld.2.2.2.1, pw_cell_below hb hHeld.2.2.2.2.1, pw_cell_below hb hHeld.2.2.2.2.2.1, pw_cell_below hb hHeld.2.2.2.2.2.2.1, pw_cell_below hb hHeld.2.2.2.2.2.2.2.1, pw_cell_below hb hHeld.2.2.2.2.2.2.2.2⟩ (fun hHeld => ?_)⟩
      have D6 := Lib.hid (D5.out.trans (hb.mono D5.out.size))
      clear hb
      clear hK K
      refine norm_ (a' := ?_) ?_ ?_
      rotate_left
      · show Act.put _ (some 89) _ = _
        simp only [Act.put, List.setIfInBounds_toArray, List.set_cons_zero, List.set_cons_succ, i64_w, i32_w]
        rfl
      refine pure_ (i := 17) (N := some 90) (v := ?_) (a' := ?_) #[true, true, true, true, true, true, true, true, true, true, true, true, true, true, true, true, true, true, false, false, false, false, false, false, false, false, false, false, false, false, false, false, false, false] rfl rfl (any_of HT_.out (by kernel_rfl)) (fun _ _ _ h => h) (Or.inl ⟨by rfl, ?_⟩) ?_ ?_
      rotate_left
      · intro w'
        go_simp
        with_reducible rfl
      rotate_left
      · simp only [Act.put, List.setIfInBounds_toArray, List.set_cons_zero, List.set_cons_succ, i64_w, i32_w]
        rfl
      refine pure_ (i := 18) (N := some 91) (v := ?_) (a' := ?_) #[true, true, true, true, true, true, true, true, true, true, true, true, true, true, true, true, true, true, true, false, false, false, false, false, false, false, false, false, false, false, false, false, false, false] rfl rfl (any_of HT_.out (by kernel_rfl)) (fun _ _ _ h => h) (Or.inl ⟨by rfl, ?_⟩) ?_ ?_
      rotate_left
      · intro w'
        go_simp
        with_reducible rfl
      rotate_left
      · simp only [Act.put, List.setIfInBounds_toArray, List.set_cons_zero, List.set_cons_succ, i64_w, i32_w]
        rfl
      refine pure_ (i := 19) (N := some 92) (v := ?_) (a' := ?_) #[true, true, true, true, true, true, true, true, true, true, true, true, true, true, true, true, true, true, true, true, false, false, false, false, false, false, false, false, false, false, false, false, false, false] rfl rfl (any_of HT_.out (by kernel_rfl)) (fun _ _ _ h => h) (Or.inl ⟨by rfl, ?_⟩) ?_ ?_
      rotate_left
      · intro w'
        go_simp
        with_reducible rfl
      rotate_left
      · simp only [Act.put, List.setIfInBounds_toArray, List.set_cons_zero, List.set_cons_succ, i64_w, i32_w]
        rfl
      refine take_ (i := 20) (N := some 93) (v := ?_) (a' := ?_) #[true, true, true, true, true, true, true, true, true, true, true, true, true, true, true, true, true, true, true, true, true, false, false, false, false, false, false, false, false, false, false, false, false, false] rfl rfl (take_ofW HT_.out HW_.out (by kernel_rfl)) (fun _ _ _ h => h) (Or.inl ⟨by rfl, ?_⟩) hHeld ?_ ?_
      rotate_left
      · rintro w' ⟨s0, s1, s2, s3, s4, s5, s6, s7, s8⟩
        go_simp
        with_reducible rfl
      rotate_left
      · simp only [Act.put, List.setIfInBounds_toArray, List.set_cons_zero, List.set_cons_succ, i64_w, i32_w]
        rfl
      refine take_ (i := 21) (N := some 94) (v := ?_) (a' := ?_) #[true, true, true, true, true, true, true, true, true, true, true, true, true, true, true, true, true, true, true, true, true, true, false, false, false, false, false, false, false, false, false, false, false, false] rfl rfl (take_ofW HT_.out HW_.out (by kernel_rfl)) (fun _ _ _ h => h) (Or.inl ⟨by rfl, ?_⟩) hHeld ?_ ?_
      rotate_left
      · rintro w' ⟨s0, s1, s2, s3, s4, s5, s6, s7, s8⟩
        go_simp
        with_reducible rfl
      rotate_left
      · simp only [Act.put, List.setIfInBounds_toArray, List.set_cons_zero, List.set_cons_succ, i64_w, i32_w]
        rfl
      refine take_ (i := 23) (N := some 96) (v := ?_) (a' := ?_) #[true, true, true, true, true, true, true, true, true, true, true, true, true, true, true, true, true, true, true, true, true, true, false, true, false, false, false, false, false, false, false, false, false, false] rfl rfl (take_ofW HT_.out HW_.out (by kernel_rfl)) (fun _ _ _ h => h) (Or.inl ⟨by rfl, ?_⟩) hHeld ?_ ?_
      rotate_left
      · rintro w' ⟨s0, s1, s2, s3, s4, s5, s6, s7, s8⟩
        go_simp
        with_reducible rfl
      rotate_left
      · simp only [Act.put, List.setIfInBounds_toArray, List.set_cons_zero, List.set_cons_succ, i64_w, i32_w]
        rfl
      refine take_ (i := 24) (N := some 97) (v := ?_) (a' := ?_) #[true, true, true, true, true, true, true, true, true, true, true, true, true, true, true, true, true, true, true, true, true, true, false, true, true, false, false, false, false, false, false, false, false, false] rfl rfl (take_ofW HT_.out HW_.out (by kernel_rfl)) (fun _ _ _ h => h) (Or.inl ⟨by rfl, ?_⟩) hHeld ?_ ?_
      rotate_left
      · rintro w' ⟨s0, s1, s2, s3, s4, s5, s6, s7, s8⟩
        go_simp
        with_reducible rfl
      rotate_left
      · simp only [Act.put, List.setIfInBounds_toArray, List.set_cons_zero, List.set_cons_succ, i64_w, i32_w]
        rfl
      refine one_ (i := 22) (N := some 95) #[true, true, true, true, true, true, true, true, true, true, true, true, true, true, true, true, true, true, true, true, true, true, true, true, true, false, false, false, false, false, false, false, false, false] rfl rfl (one_of HT_.out (by kernel_rfl)) (by decide) (fun K hK => ?_)
      refine goes_ Tryd.func58 (by kernel_rfl) rfl #[v67 x.f0 x.f1 (some ad) x.f2.length c, v67 y.f0 y.f1 A2 y.f2.length c2] (by rfl) rfl rfl (by (try simp only [List.map_toArray, List.map_cons, List.map_nil]); first | done | rfl) ?_
      refine (SXY.out _ (E2.out.trans (D6.out.mono E2.out.size))).mono ?_
      rintro e z7 ⟨rfl, hb⟩
      refine ⟨_, rfl, hK.out _ _ ⟨pw_cell_below hb hHeld.1, pw_cell_below hb hHeld.2.1, pw_cell_below hb hHeld.2.2.1, pw_cell_below hb hHeld.2.2.2.1, pw_cell_below hb hHeld.2.2.2.2.1, pw_cell_below hb hHeld.2.2.2.2.2.1, pw_cell_below hb hHeld.2.2.2.2.2.2.1, pw_cell_below hb hHeld.2.2.2.2.2.2.2.1, pw_cell_below hb hHeld.2.2.2.2.2.2.2.2⟩ (fun hHeld => ?_)⟩
      have D7 := Lib.hid (D6.out.trans (hb.mono D6.out.size))
      clear hb
      clear hK K
      refine norm_ (a' := ?_) ?_ ?_
      rotate_left
      · show Act.put _ (some 95) _ = _
        simp only [Act.put, List.setIfInBounds_toArray, List.set_cons_zero, List.set_cons_succ, i64_w, i32_w]
        rfl
      refine one_ (i := 25) (N := some 98) #[true, true, true, true, true, true, true, true, true, true, true, true, true, true, true, true, true, true, true, true, true, true, true, true, true, true, false, false, false, false, false, false, false, false] rfl rfl (one_of HT_.out (by kernel_rfl)) (by decide) (fun K hK => ?_)
      refine goes_ Tryd.func45 (by kernel_rfl) rfl #[v67 x.f0 x.f1 (some ad) x.f2.length c, v67 y.f0 y.f1 A2 y.f2.length c2] (by rfl) rfl rfl (by (try simp only [List.map_toArray, List.map_cons, List.map_nil]); first | done | rfl) ?_
      refine (SRY.out _ (E2.out.trans (D7.out.mono E2.out.size))).mono ?_
      rintro e z8 ⟨rfl, hb⟩
      refine ⟨_, rfl, hK.out _ _ ⟨pw_cell_below hb hHeld.1, pw_cell_below hb hHeld.2.1, pw_cell_below hb hHeld.2.2.1, pw_cell_below hb hHeld.2.2.2.1, pw_cell_below hb hHeld.2.2.2.2.1, pw_cell_below hb hHeld.2.2.2.2.2.1, pw_cell_below hb hHeld.2.2.2.2.2.2.1, pw_cell_below hb hHeld.2.2.2.2.2.2.2.1, pw_cell_below hb hHeld.2.2.2.2.2.2.2.2⟩ (fun hHeld => ?_)⟩
      have D8 := Lib.hid (D7.out.trans (hb.mono D7.out.size))
      clear hb
      clear hK K
      refine norm_ (a' := ?_) ?_ ?_
      rotate_left
      · show Act.put _ (some 98) _ = _
        simp only [Act.put, List.setIfInBounds_toArray, List.set_cons_zero, List.set_cons_succ, i64_w, i32_w]
        rfl
      refine pure_ (i := 26) (N := some 99) (v := ?_) (a' := ?_) #[true, true, true, true, true, true, true, true, true, true, true, true, true, true, true, true, true, true, true, true, true, true, true, true, true, true, true, false, false, false, false, false, false, false] rfl rfl (any_of HT_.out (by kernel_rfl)) (fun _ _ _ h => h) (Or.inl ⟨by rfl, ?_⟩) ?_ ?_
      rotate_left
      · intro w'
        go_simp
        with_reducible rfl
      rotate_left
      · simp only [Act.put, List.setIfInBounds_toArray, List.set_cons_zero, List.set_cons_succ, i64_w, i32_w]
        rfl
      refine pure_ (i := 27) (N := some 100) (v := ?_) (a' := ?_) #[true, true, true, true, true, true, true, true, true, true, true, true, true, true, true, true, true, true, true, true, true, true, true, true, true, true, true, true, false, false, false, false, false, false] rfl rfl (any_of HT_.out (by kernel_rfl)) (fun _ _ _ h => h) (Or.inl ⟨by rfl, ?_⟩) ?_ ?_
      rotate_left
      · intro w'
        go_simp
        with_reducible rfl
      rotate_left
      · simp only [Act.put, List.setIfInBounds_toArray, List.set_cons_zero, List.set_cons_succ, i64_w, i32_w]
        rfl
      refine pure_ (i := 28) (N := some 101) (v := ?_) (a' := ?_) #[true, true, true, true, true, true, true, true, true, true, true, true, true, true, true, true, true, true, true, true, true, true, true, true, true, true, true, true, true, false, false, false, false, false] rfl rfl (any_of HT_.out (by kernel_rfl)) (fun _ _ _ h => h) (Or.inl ⟨by rfl, ?_⟩) ?_ ?_
      rotate_left
      · intro w'
        go_simp
        with_reducible rfl
      rotate_left
      · simp only [Act.put, List.setIfInBounds_toArray, List.set_cons_zero, List.set_cons_succ, i64_w, i32_w]
        rfl
      refine take_ (i := 29) (N := some 102) (v := ?_) (a' := ?_) #[true, true, true, true, true, true, true, true, true, true, true, true, true, true, true, true, true, true, true, true, true, true, true, true, true, true, true, true, true, true, false, false, false, false] rfl rfl (take_ofW HT_.out HW_.out (by kernel_rfl)) (fun _ _ _ h => h) (Or.inl ⟨by rfl, ?_⟩) hHeld ?_ ?_
      rotate_left
      · rintro w' ⟨s0, s1, s2, s3, s4, s5, s6, s7, s8⟩
        go_simp
        with_reducible rfl
      rotate_left
      · simp only [Act.put, List.setIfInBounds_toArray, List.set_cons_zero, List.set_cons_succ, i64_w, i32_w]
        rfl
      refine take_ (i := 30) (N := some 103) (v := ?_) (a' := ?_) #[true, true, true, true, true, true, true, true, true, true, true, true, true, true, true, true, true, true, true, true, true, true, true, true, true, true, true, true, true, true, true, false, false, false] rfl rfl (take_ofW HT_.out HW_.out (by kernel_rfl)) (fun _ _ _ h => h) (Or.inl ⟨by rfl, ?_⟩) hHeld ?_ ?_
      rotate_left
      · rintro w' ⟨s0, s1, s2, s3, s4, s5, s6, s7, s8⟩
        go_simp
        with_reducible rfl
      rotate_left
      · simp only [Act.put, List.setIfInBounds_toArray, List.set_cons_zero, List.set_cons_succ, i64_w, i32_w]
        rfl
      refine one_ (i := 31) (N := some 104) #[true, true, true, true, true, true, true, true, true, true, true, true, true, true, true, true, true, true, true, true, true, true, true, true, true, true, true, true, true, true, true, true, false, false] rfl rfl (one_of HT_.out (by kernel_rfl)) (by decide) (fun K hK => ?_)
      refine goes_ Tryd.func58 (by kernel_rfl) rfl #[v67 x.f0 x.f1 (some ad) x.f2.length c, v67 x.f0 x.f1 (some ⟨g, 0, none⟩) x.f2.length cc] (by rfl) rfl rfl (by (try simp only [List.map_toArray, List.map_cons, List.map_nil]); first | done | rfl) ?_
      refine (SVX.out _ (some ⟨g, 0, none⟩) cc (E2.out.trans (D8.out.mono E2.out.size)) L6.out (c_later C9.out D8.out)).mono ?_
      rintro e z9 ⟨rfl, hb⟩
      refine ⟨_, rfl, hK.out _ _ ⟨pw_cell_below hb hHeld.1, pw_cell_below hb hHeld.2.1, pw_cell_below hb hHeld.2.2.1, pw_cell_below hb hHeld.2.2.2.1, pw_cell_below hb hHeld.2.2.2.2.1, pw_cell_below hb hHeld.2.2.2.2.2.1, pw_cell_below hb hHeld.2.2.2.2.2.2.1, pw_cell_below hb hHeld.2.2.2.2.2.2.2.1, pw_cell_below hb hHeld.2.2.2.2.2.2.2.2⟩ (fun hHeld => ?_)⟩
      have D9 := Lib.hid (D8.out.trans (hb.mono D8.out.size))
      clear hb
      clear hK K
      refine norm_ (a' := ?_) ?_ ?_
      rotate_left
      · show Act.put _ (some 104) _ = _
        simp only [Act.put, List.setIfInBounds_toArray, List.set_cons_zero, List.set_cons_succ, i64_w, i32_w]
        rfl
      refine pure_ (i := 32) (N := some 105) (v := ?_) (a' := ?_) #[true, true, true, true, true, true, true, true, true, true, true, true, true, true, true, true, true, true, true, true, true, true, true, true, true, true, true, true, true, true, true, true, true, false] rfl rfl (any_of HT_.out (by kernel_rfl)) (fun _ _ _ h => h) (Or.inl ⟨by rfl, ?_⟩) ?_ ?_
      rotate_left
      · intro w'
        go_simp
        with_reducible rfl
      rotate_left
      · simp only [Act.put, List.setIfInBounds_toArray, List.set_cons_zero, List.set_cons_succ, i64_w, i32_w]
        rfl
      refine pure_ (i := 33) (N := some 4) (v := ?_) (a' := ?_) #[true, true, true, true, true, true, true, true, true, true, true, true, true, true, true, true, true, true, true, true, true, true, true, true, true, true, true, true, true, true, true, true, true, true] rfl rfl (any_of HT_.out (by kernel_rfl)) (fun _ _ _ h => h) (Or.inl ⟨by rfl, ?_⟩) ?_ ?_
      rotate_left
      · intro w'
        go_simp
        with_reducible rfl
      rotate_left
      · simp only [Act.put, List.setIfInBounds_toArray, List.set_cons_zero, List.set_cons_succ, i64_w, i32_w]
        rfl
      refine done_ (done_of HT_.out (by kernel_rfl)) ?_
      go_wp2_with fail
      go_ret
      exact ⟨rfl, E2.out.trans (D9.out.mono E2.out.size)⟩
    · have p1 : decide ((0 : Int) < (x.f2.length : Int)) = false := decide_eq_false (by omega)
      go_upto_region 15 with (fail)
      have qrr := bb2 (right x)
      have qss := bb2 (same x y)
      refine start_ (n := 34) (S := fun w' => w'.cell? ⟨g2, 0, none⟩ = some (.int .i64 x.f0) ∧ w'.cell? ⟨g2, 1, none⟩ = some (.int .i64 x.f1) ∧ w'.cell? ⟨g2, 2, none⟩ = some (.slice A x.f2.length c) ∧ w'.cell? ⟨g3, 0, none⟩ = some (.int .i64 y.f0) ∧ w'.cell? ⟨g3, 1, none⟩ = some (.int .i64 y.f1) ∧ w'.cell? ⟨g3, 2, none⟩ = some (.slice A2 y.f2.length c2) ∧ w'.cell? ⟨g5, 0, none⟩ = some (.int .i64 x.f0) ∧ w'.cell? ⟨g5, 1, none⟩ = some (.int .i64 x.f1) ∧ w'.cell? ⟨g5, 2, none⟩ = some (.slice AC x.f2.length cc)) (ds := []) #[false, false, false, false, false, false, false, false, false, false, false, false, false, false, false, false, false, false, false, false, false, false, false, false, false, false, false, false, false, false, false, false, false, false] (by kernel_rfl) rfl rfl ⟨m20, m21, m22, m30, m31, m32, m50, m51, m52⟩ (fun hHeld => ?_)
      refine with_tabW t15 b15 (fun HT_ HW_ => ?_)
      have D0 := Lib.hid (below_drew (Below.refl t0w4.heap.size t0w4))
      generalize World.drew t0w4 = z0 at *
      clear m20 m21 m22 m30 m31 m32 m50 m51 m52
      refine take_ (i := 0) (N := some 73) (v := ?_) (a' := ?_) #[true, false, false, false, false, false, false, false, false, false, false, false, false, false, false, false, false, false, false, false, false, false, false, false, false, false, false, false, false, false, false, false, false, false] rfl rfl (take_ofW HT_.out HW_.out (by kernel_rfl)) (fun _ _ _ h => h) (Or.inl ⟨by rfl, ?_⟩) hHeld ?_ ?_
      rotate_left
      · rintro w' ⟨s0, s1, s2, s3, s4, s5, s6, s7, s8⟩
        go_simp
        with_reducible rfl
      rotate_left
      · simp only [Act.put, List.setIfInBounds_toArray, List.set_cons_zero, List.set_cons_succ, i64_w, i32_w]
        rfl
      refine take_ (i := 2) (N := some 75) (v := ?_) (a' := ?_) #[true, false, true, false, false, false, false, false, false, false, false, false, false, false, false, false, false, false, false, false, false, false, false, false, false, false, false, false, false, false, false, false, false, false] rfl rfl (take_ofW HT_.out HW_.out (by kernel_rfl)) (fun _ _ _ h => h) (Or.inl ⟨by rfl, ?_⟩) hHeld ?_ ?_
      rotate_left
      · rintro w' ⟨s0, s1, s2, s3, s4, s5, s6, s7, s8⟩
        go_simp
        with_reducible rfl
      rotate_left
      · simp only [Act.put, List.setIfInBounds_toArray, List.set_cons_zero, List.set_cons_succ, i64_w, i32_w]
        rfl
      refine one_ (i := 1) (N := some 74) #[true, true, true, false, false, false, false, false, false, false, false, false, false, false, false, false, false, false, false, false, false, false, false, false, false, false, false, false, false, false, false, false, false, false] rfl rfl (one_of HT_.out (by kernel_rfl)) (by decide) (fun K hK => ?_)
      refine goes_ Tryd.func52 (by kernel_rfl) rfl #[v67 x.f0 x.f1 A x.f2.length c] (by rfl) rfl rfl (by (try simp only [List.map_toArray, List.map_cons, List.map_nil]); first | done | rfl) ?_
      refine (VX.out _ (E0.out.trans (D0.out.mono E0.out.size))).mono ?_
      rintro e z1 ⟨rfl, hb⟩
      refine ⟨_, rfl, hK.out _ _ ⟨pw_cell_below hb hHeld.1, pw_cell_below hb hHeld.2.1, pw_cell_below hb hHeld.2.2.1, pw_cell_below hb hHeld.2.2.2.1, pw_cell_below hb hHeld.2.2.2.2.1, pw_cell_below hb hHeld.2.2.2.2.2.1, pw_cell_below hb hHeld.2.2.2.2.2.2.1, pw_cell_below hb hHeld.2.2.2.2.2.2.2.1, pw_cell_below hb hHeld.2.2.2.2.2.2.2.2⟩ (fun hHeld => ?_)⟩
      have D1 := Lib.hid (D0.out.trans (hb.mono D0.out.size))
      clear hb
      clear hK K
      refine norm_ (a' := ?_) ?_ ?_
      rotate_left
      · show Act.put _ (some 74) _ = _
        simp only [Act.put, List.setIfInBounds_toArray, List.set_cons_zero, List.set_cons_succ, i64_w, i32_w]
        rfl
      refine one_ (i := 3) (N := some 76) #[true, true, true, true, false, false, false, false, false, false, false, false, false, false, false, false, false, false, false, false, false, false, false, false, false, false, false, false, false, false, false, false, false, false] rfl rfl (one_of HT_.out (by kernel_rfl)) (by decide) (fun K hK => ?_)
      refine goes_ Tryd.func43 (by kernel_rfl) rfl #[v67 x.f0 x.f1 A x.f2.length c] (by rfl) rfl rfl (by (try simp only [List.map_toArray, List.map_cons, List.map_nil]); first | done | rfl) ?_
      refine (RX.out _ (E0.out.trans (D1.out.mono E0.out.size))).mono ?_
      rintro e z2 ⟨rfl, hb⟩
      refine ⟨_, rfl, hK.out _ _ ⟨pw_cell_below hb hHeld.1, pw_cell_below hb hHeld.2.1, pw_cell_below hb hHeld.2.2.1, pw_cell_below hb hHeld.2.2.2.1, pw_cell_below hb hHeld.2.2.2.2.1, pw_cell_below hb hHeld.2.2.2.2.2.1, pw_cell_below hb hHeld.2.2.2.2.2.2.1, pw_cell_below hb hHeld.2.2.2.2.2.2.2.1, pw_cell_below hb hHeld.2.2.2.2.2.2.2.2⟩ (fun hHeld => ?_)⟩
      have D2 := Lib.hid (D1.out.trans (hb.mono D1.out.size))
      clear hb
      clear hK K
      refine norm_ (a' := ?_) ?_ ?_
      rotate_left
      · show Act.put _ (some 76) _ = _
        simp only [Act.put, List.setIfInBounds_toArray, List.set_cons_zero, List.set_cons_succ, i64_w, i32_w]
        rfl
      refine pure_ (i := 4) (N := some 77) (v := ?_) (a' := ?_) #[true, true, true, true, true, false, false, false, false, false, false, false, false, false, false, false, false, false, false, false, false, false, false, false, false, false, false, false, false, false, false, false, false, false] rfl rfl (any_of HT_.out (by kernel_rfl)) (fun _ _ _ h => h) (Or.inl ⟨by rfl, ?_⟩) ?_ ?_
      rotate_left
      · intro w'
        go_simp
        with_reducible rfl
      rotate_left
      · simp only [Act.put, List.setIfInBounds_toArray, List.set_cons_zero, List.set_cons_succ, i64_w, i32_w]
        rfl
      refine pure_ (i := 5) (N := some 78) (v := ?_) (a' := ?_) #[true, true, true, true, true, true, false, false, false, false, false, false, false, false, false, false, false, false, false, false, false, false, false, false, false, false, false, false, false, false, false, false, false, false] rfl rfl (any_of HT_.out (by kernel_rfl)) (fun _ _ _ h => h) (Or.inl ⟨by rfl, ?_⟩) ?_ ?_
      rotate_left
      · intro w'
        go_simp
        with_reducible rfl
      rotate_left
      · simp only [Act.put, List.setIfInBounds_toArray, List.set_cons_zero, List.set_cons_succ, i64_w, i32_w]
        rfl
      refine take_ (i := 6) (N := some 79) (v := ?_) (a' := ?_) #[true, true, true, true, true, true, true, false, false, false, false, false, false, false, false, false, false, false, false, false, false, false, false, false, false, false, false, false, false, false, false, false, false, false] rfl rfl (take_ofW HT_.out HW_.out (by kernel_rfl)) (fun _ _ _ h => h) (Or.inl ⟨by rfl, ?_⟩) hHeld ?_ ?_
      rotate_left
      · rintro w' ⟨s0, s1, s2, s3, s4, s5, s6, s7, s8⟩
        go_simp
        with_reducible rfl
      rotate_left
      · simp only [Act.put, List.setIfInBounds_toArray, List.set_cons_zero, List.set_cons_succ, i64_w, i32_w]
        rfl
      refine take_ (i := 8) (N := some 81) (v := ?_) (a' := ?_) #[true, true, true, true, true, true, true, false, true, false, false, false, false, false, false, false, false, false, false, false, false, false, false, false, false, false, false, false, false, false, false, false, false, false] rfl rfl (take_ofW HT_.out HW_.out (by kernel_rfl)) (fun _ _ _ h => h) (Or.inl ⟨by rfl, ?_⟩) hHeld ?_ ?_
      rotate_left
      · rintro w' ⟨s0, s1, s2, s3, s4, s5, s6, s7, s8⟩
        go_simp
        with_reducible rfl
      rotate_left
      · simp only [Act.put, List.setIfInBounds_toArray, List.set_cons_zero, List.set_cons_succ, i64_w, i32_w]
        rfl
      refine one_ (i := 7) (N := some 80) #[true, true, true, true, true, true, true, true, true, false, false, false, false, false, false, false, false, false, false, false, false, false, false, false, false, false, false, false, false, false, false, false, false, false] rfl rfl (one_of HT_.out (by kernel_rfl)) (by decide) (fun K hK => ?_)
      refine goes_ Tryd.func54 (by kernel_rfl) rfl #[v67 x.f0 x.f1 A x.f2.length c] (by rfl) rfl rfl (by (try simp only [List.map_toArray, List.map_cons, List.map_nil]); first | done | rfl) ?_
      refine (ZX.out _ (E0.out.trans (D2.out.mono E0.out.size))).mono ?_
      rintro e z3 ⟨rfl, hb⟩
      refine ⟨_, rfl, hK.out _ _ ⟨pw_cell_below hb hHeld.1, pw_cell_below hb hHeld.2.1, pw_cell_below hb hHeld.2.2.1, pw_cell_below hb hHeld.2.2.2.1, pw_cell_below hb hHeld.2.2.2.2.1, pw_cell_below hb hHeld.2.2.2.2.2.1, pw_cell_below hb hHeld.2.2.2.2.2.2.1, pw_cell_below hb hHeld.2.2.2.2.2.2.2.1, pw_cell_below hb hHeld.2.2.2.2.2.2.2.2⟩ (fun hHeld => ?_)⟩
      have D3 := Lib.hid (D2.out.trans (hb.mono D2.out.size))
      clear hb
      clear hK K
      refine norm_ (a' := ?_) ?_ ?_
      rotate_left
      · show Act.put _ (some 80) _ = _
        simp only [Act.put, List.setIfInBounds_toArray, List.set_cons_zero, List.set_cons_succ, i64_w, i32_w]
        rfl
      refine one_ (i := 9) (N := some 82) #[true, true, true, true, true, true, true, true, true, true, false, false, false, false, false, false, false, false, false, false, false, false, false, false, false, false, false, false, false, false, false, false, false, false] rfl rfl (one_of HT_.out (by kernel_rfl)) (by decide) (fun K hK => ?_)
      refine goes_ Tryd.func55 (by kernel_rfl) rfl #[v67 x.f0 x.f1 A x.f2.length c] (by rfl) rfl rfl (by (try simp only [List.map_toArray, List.map_cons, List.map_nil]); first | done | rfl) ?_
      refine (ZR.out _ (E0.out.trans (D3.out.mono E0.out.size))).mono ?_
      rintro e z4 ⟨rfl, hb⟩
      refine ⟨_, rfl, hK.out _ _ ⟨pw_cell_below hb hHeld.1, pw_cell_below hb hHeld.2.1, pw_cell_below hb hHeld.2.2.1, pw_cell_below hb hHeld.2.2.2.1, pw_cell_below hb hHeld.2.2.2.2.1, pw_cell_below hb hHeld.2.2.2.2.2.1, pw_cell_below hb hHeld.2.2.2.2.2.2.1, pw_cell_below hb hHeld.2.2.2.2.2.2.2.1, pw_cell_below hb hHeld.2.2.2.2.2.2.2.2⟩ (fun hHeld => ?_)⟩
      have D4 := Lib.hid (D3.out.trans (hb.mono D3.out.size))
      clear hb
      clear hK K
      refine norm_ (a' := ?_) ?_ ?_
      rotate_left
      · show Act.put _ (some 82) _ = _
        simp only [Act.put, List.setIfInBounds_toArray, List.set_cons_zero, List.set_cons_succ, i64_w, i32_w]
        rfl
      refine pure_ (i := 10) (N := some 83) (v := ?_) (a' := ?_) #[true, true, true, true, true, true, true, true, true, true, true, false, false, false, false, false, false, false, false, false, false, false, false, false, false, false, false, false, false, false, false, false, false, false] rfl rfl (any_of HT_.out (by kernel_rfl)) (fun _ _ _ h => h) (Or.inl ⟨by rfl, ?_⟩) ?_ ?_
      rotate_left
      · intro w'
        go_simp
        with_reducible rfl
      rotate_left
      · simp only [Act.put, List.setIfInBounds_toArray, List.set_cons_zero, List.set_cons_succ, i64_w, i32_w]
        rfl
      refine pure_ (i := 11) (N := some 84) (v := ?_) (a' := ?_) #[true, true, true, true, true, true, true, true, true, true, true, true, false, false, false, false, false, false, false, false, false, false, false, false, false, false, false, false, false, false, false, false, false, false] rfl rfl (any_of HT_.out (by kernel_rfl)) (fun _ _ _ h => h) (Or.inl ⟨by rfl, ?_⟩) ?_ ?_
      rotate_left
      · intro w'
        go_simp
        with_reducible rfl
      rotate_left
      · simp only [Act.put, List.setIfInBounds_toArray, List.set_cons_zero, List.set_cons_succ, i64_w, i32_w]
        rfl
      refine pure_ (i := 12) (N := some 85) (v := ?_) (a' := ?_) #[true, true, true, true, true, true, true, true, true, true, true, true, true, false, false, false, false, false, false, false, false, false, false, false, false, false, false, false, false, false, false, false, false, false] rfl rfl (any_of HT_.out (by kernel_rfl)) (fun _ _ _ h => h) (Or.inl ⟨by rfl, ?_⟩) ?_ ?_
      rotate_left
      · intro w'
        go_simp
        with_reducible rfl
      rotate_left
      · simp only [Act.put, List.setIfInBounds_toArray, List.set_cons_zero, List.set_cons_succ, i64_w, i32_w]
        rfl
      refine take_ (i := 13) (N := some 86) (v := ?_) (a' := ?_) #[true, true, true, true, true, true, true, true, true, true, true, true, true, true, false, false, false, false, false, false, false, false, false, false, false, false, false, false, false, false, false, false, false, false] rfl rfl (take_ofW HT_.out HW_.out (by kernel_rfl)) (fun _ _ _ h => h) (Or.inl ⟨by rfl, ?_⟩) hHeld ?_ ?_
      rotate_left
      · rintro w' ⟨s0, s1, s2, s3, s4, s5, s6, s7, s8⟩
        go_simp
        with_reducible rfl
      rotate_left
      · simp only [Act.put, List.setIfInBounds_toArray, List.set_cons_zero, List.set_cons_succ, i64_w, i32_w]
        rfl
      refine take_ (i := 15) (N := some 88) (v := ?_) (a' := ?_) #[true, true, true, true, true, true, true, true, true, true, true, true, true, true, false, true, false, false, false, false, false, false, false, false, false, false, false, false, false, false, false, false, false, false] rfl rfl (take_ofW HT_.out HW_.out (by kernel_rfl)) (fun _ _ _ h => h) (Or.inl ⟨by rfl, ?_⟩) hHeld ?_ ?_
      rotate_left
      · rintro w' ⟨s0, s1, s2, s3, s4, s5, s6, s7, s8⟩
        go_simp
        with_reducible rfl
      rotate_left
      · simp only [Act.put, List.setIfInBounds_toArray, List.set_cons_zero, List.set_cons_succ, i64_w, i32_w]
        rfl
      refine one_ (i := 14) (N := some 87) #[true, true, true, true, true, true, true, true, true, true, true, true, true, true, true, true, false, false, false, false, false, false, false, false, false, false, false, false, false, false, false, false, false, false] rfl rfl (one_of HT_.out (by kernel_rfl)) (by decide) (fun K hK => ?_)
      refine goes_ Tryd.func56 (by kernel_rfl) rfl #[v67 x.f0 x.f1 A x.f2.length c] (by rfl) rfl rfl (by (try simp only [List.map_toArray, List.map_cons, List.map_nil]); first | done | rfl) ?_
      refine (DX.out _ (E0.out.trans (D4.out.mono E0.out.size))).mono ?_
      rintro e z5 ⟨rfl, hb⟩
      refine ⟨_, rfl, hK.out _ _ ⟨pw_cell_below hb hHeld.1, pw_cell_below hb hHeld.2.1, pw_cell_below hb hHeld.2.2.1, pw_cell_below hb hHeld.2.2.2.1, pw_cell_below hb hHeld.2.2.2.2.1, pw_cell_below hb hHeld.2.2.2.2.2.1, pw_cell_below hb hHeld.2.2.2.2.2.2.1, pw_cell_below hb hHeld.2.2.2.2.2.2.2.1, pw_cell_below hb hHeld.2.2.2.2.2.2.2.2⟩ (fun hHeld => ?_)⟩
      have D5 := Lib.hid (D4.out.trans (hb.mono D4.out.size))
      clear hb
      clear hK K
      refine norm_ (a' := ?_) ?_ ?_
      rotate_left
      · show Act.put _ (some 87) _ = _
        simp only [Act.put, List.setIfInBounds_toArray, List.set_cons_zero, List.set_cons_succ, i64_w, i32_w]
        rfl
      refine one_ (i := 16) (N := some 89) #[true, true, true, true, true, true, true, true, true, true, true, true, true, true, true, true, true, false, false, false, false, false, false, false, false, false, false, false, false, false, false, false, false, false] rfl rfl (one_of HT_.out (by kernel_rfl)) (by decide) (fun K hK => ?_)
      refine goes_ Tryd.func57 (by kernel_rfl) rfl #[v67 x.f0 x.f1 A x.f2.length c] (by rfl) rfl rfl (by (try simp only [List.map_toArray, List.map_cons, List.map_nil]); first | done | rfl) ?_
      refine (DR.out _ (E0.out.trans (D5.out.mono E0.out.size))).mono ?_
      rintro e z6 ⟨rfl, hb⟩
      refine ⟨_, rfl, hK.out _ _ ⟨pw_cell_below hb hHeld.1, pw_cell_below hb hHeld.2.1, pw_cell_below hb hHeld.2.2.1, pw_cell_below hb hHeld.2.2.2.1, pw_cell_below hb hHeld.2.2.2.2.1, pw_cell_below hb hHeld.2.2.2.2.2.1, pw_cell_below hb hHeld.2.2.2.2.2.2.1, pw_cell_below hb hHeld.2.2.2.2.2.2.2.1, pw_cell_below hb hHeld.2.2.2.2.2.2.2.2⟩ (fun hHeld => ?_)⟩
      have D6 := Lib.hid (D5.out.trans (hb.mono D5.out.size))
      clear hb
      clear hK K
      refine norm_ (a' := ?_) ?_ ?_
      rotate_left
      · show Act.put _ (some 89) _ = _
        simp only [Act.put, List.setIfInBounds_toArray, List.set_cons_zero, List.set_cons_succ, i64_w, i32_w]
        rfl
      refine pure_ (i := 17) (N := some 90) (v := ?_) (a' := ?_) #[true, true, true, true, true, true, true, true, true, true, true, true, true, true, true, true, true, true, false, false, false, false, false, false, false, false, false, false, false, false, false, false, false, false] rfl rfl (any_of HT_.out (by kernel_rfl)) (fun _ _ _ h => h) (Or.inl ⟨by rfl, ?_⟩) ?_ ?_
      rotate_left
      · intro w'
        go_simp
        with_reducible rfl
      rotate_left
      · simp only [Act.put, List.setIfInBounds_toArray, List.set_cons_zero, List.set_cons_succ, i64_w, i32_w]
        rfl
      refine pure_ (i := 18) (N := some 91) (v := ?_) (a' := ?_) #[true, true, true, true, true, true, true, true, true, true, true, true, true, true, true, true, true, true, true, false, false, false, false, false, false, false, false, false, false, false, false, false, false, false] rfl rfl (any_of HT_.out (by kernel_rfl)) (fun _ _ _ h => h) (Or.inl ⟨by rfl, ?_⟩) ?_ ?_
      rotate_left
      · intro w'
        go_simp
        with_reducible rfl
      rotate_left
      · simp only [Act.put, List.setIfInBounds_toArray, List.set_cons_zero, List.set_cons_succ, i64_w, i32_w]
        rfl
      refine pure_ (i := 19) (N := some 92) (v := ?_) (a' := ?_) #[true, true, true, true, true, true, true, true, true, true, true, true, true, true, true, true, true, true, true, true, false, false, false, false, false, false, false, false, false, false, false, false, false, false] rfl rfl (any_of HT_.out (by kernel_rfl)) (fun _ _ _ h => h) (Or.inl ⟨by rfl, ?_⟩) ?_ ?_
      rotate_left
      · intro w'
        go_simp
        with_reducible rfl
      rotate_left
      · simp only [Act.put, List.setIfInBounds_toArray, List.set_cons_zero, List.set_cons_succ, i64_w, i32_w]
        rfl
      refine take_ (i := 20) (N := some 93) (v := ?_) (a' := ?_) #[true, true, true, true, true, true, true, true, true, true, true, true, true, true, true, true, true, true, true, true, true, false, false, false, false, false, false, false, false, false, false, false, false, false] rfl rfl (take_ofW HT_.out HW_.out (by kernel_rfl)) (fun _ _ _ h => h) (Or.inl ⟨by rfl, ?_⟩) hHeld ?_ ?_
      rotate_left
      · rintro w' ⟨s0, s1, s2, s3, s4, s5, s6, s7, s8⟩
        go_simp
        with_reducible rfl
      rotate_left
      · simp only [Act.put, List.setIfInBounds_toArray, List.set_cons_zero, List.set_cons_succ, i64_w, i32_w]
        rfl
      refine take_ (i := 21) (N := some 94) (v := ?_) (a' := ?_) #[true, true, true, true, true, true, true, true, true, true, true, true, true, true, true, true, true, true, true, true, true, true, false, false, false, false, false, false, false, false, false, false, false, false] rfl rfl (take_ofW HT_.out HW_.out (by kernel_rfl)) (fun _ _ _ h => h) (Or.inl ⟨by rfl, ?_⟩) hHeld ?_ ?_
      rotate_left
      · rintro w' ⟨s0, s1, s2, s3, s4, s5, s6, s7, s8⟩
        go_simp
        with_reducible rfl
      rotate_left
      · simp only [Act.put, List.setIfInBounds_toArray, List.set_cons_zero, List.set_cons_succ, i64_w, i32_w]
        rfl
      refine take_ (i := 23) (N := some 96) (v := ?_) (a' := ?_) #[true, true, true, true, true, true, true, true, true, true, true, true, true, true, true, true, true, true, true, true, true, true, false, true, false, false, false, false, false, false, false, false, false, false] rfl rfl (take_ofW HT_.out HW_.out (by kernel_rfl)) (fun _ _ _ h => h) (Or.inl ⟨by rfl, ?_⟩) hHeld ?_ ?_
      rotate_left
      · rintro w' ⟨s0, s1, s2, s3, s4, s5, s6, s7, s8⟩
        go_simp
        with_reducible rfl
      rotate_left
      · simp only [Act.put, List.setIfInBounds_toArray, List.set_cons_zero, List.set_cons_succ, i64_w, i32_w]
        rfl
      refine take_ (i := 24) (N := some 97) (v := ?_) (a' := ?_) #[true, true, true, true, true, true, true, true, true, true, true, true, true, true, true, true, true, true, true, true, true, true, false, true, true, false, false, false, false, false, false, false, false, false] rfl rfl (take_ofW HT_.out HW_.out (by kernel_rfl)) (fun _ _ _ h => h) (Or.inl ⟨by rfl, ?_⟩) hHeld ?_ ?_
      rotate_left
      · rintro w' ⟨s0, s1, s2, s3, s4, s5, s6, s7, s8⟩
        go_simp
        with_reducible rfl
      rotate_left
      · simp only [Act.put, List.setIfInBounds_toArray, List.set_cons_zero, List.set_cons_succ, i64_w, i32_w]
        rfl
      refine one_ (i := 22) (N := some 95) #[true, true, true, true, true, true, true, true, true, true, true, true, true, true, true, true, true, true, true, true, true, true, true, true, true, false, false, false, false, false, false, false, false, false] rfl rfl (one_of HT_.out (by kernel_rfl)) (by decide) (fun K hK => ?_)
      refine goes_ Tryd.func58 (by kernel_rfl) rfl #[v67 x.f0 x.f1 A x.f2.length c, v67 y.f0 y.f1 A2 y.f2.length c2] (by rfl) rfl rfl (by (try simp only [List.map_toArray, List.map_cons, List.map_nil]); first | done | rfl) ?_
      refine (SXY.out _ (E0.out.trans (D6.out.mono E0.out.size))).mono ?_
      rintro e z7 ⟨rfl, hb⟩
      refine ⟨_, rfl, hK.out _ _ ⟨pw_cell_below hb hHeld.1, pw_cell_below hb hHeld.2.1, pw_cell_below hb hHeld.2.2.1, pw_cell_below hb hHeld.2.2.2.1, pw_cell_below hb hHeld.2.2.2.2.1, pw_cell_below hb hHeld.2.2.2.2.2.1, pw_cell_below hb hHeld.2.2.2.2.2.2.1, pw_cell_below hb hHeld.2.2.2.2.2.2.2.1, pw_cell_below hb hHeld.2.2.2.2.2.2.2.2⟩ (fun hHeld => ?_)⟩
      have D7 := Lib.hid (D6.out.trans (hb.mono D6.out.size))
      clear hb
      clear hK K
      refine norm_ (a' := ?_) ?_ ?_
      rotate_left
      · show Act.put _ (some 95) _ = _
        simp only [Act.put, List.setIfInBounds_toArray, List.set_cons_zero, List.set_cons_succ, i64_w, i32_w]
        rfl
      refine one_ (i := 25) (N := some 98) #[true, true, true, true, true, true, true, true, true, true, true, true, true, true, true, true, true, true, true, true, true, true, true, true, true, true, false, false, false, false, false, false, false, false] rfl rfl (one_of HT_.out (by kernel_rfl)) (by decide) (fun K hK => ?_)
      refine goes_ Tryd.func45 (by kernel_rfl) rfl #[v67 x.f0 x.f1 A x.f2.length c, v67 y.f0 y.f1 A2 y.f2.length c2] (by rfl) rfl rfl (by (try simp only [List.map_toArray, List.map_cons, List.map_nil]); first | done | rfl) ?_
      refine (SRY.out _ (E0.out.trans (D7.out.mono E0.out.size))).mono ?_
      rintro e z8 ⟨rfl, hb⟩
      refine ⟨_, rfl, hK.out _ _ ⟨pw_cell_below hb hHeld.1, pw_cell_below hb hHeld.2.1, pw_cell_below hb hHeld.2.2.1, pw_cell_below hb hHeld.2.2.2.1, pw_cell_below hb hHeld.2.2.2.2.1, pw_cell_below hb hHeld.2.2.2.2.2.1, pw_cell_below hb hHeld.2.2.2.2.2.2.1, pw_cell_below hb hHeld.2.2.2.2.2.2.2.1, pw_cell_below hb hHeld.2.2.2.2.2.2.2.2⟩ (fun hHeld => ?_)⟩
      have D8 := Lib.hid (D7.out.trans (hb.mono D7.out.size))
      clear hb
      clear hK K
      refine norm_ (a' := ?_) ?_ ?_
      rotate_left
      · show Act.put _ (some 98) _ = _
        simp only [Act.put, List.setIfInBounds_toArray, List.set_cons_zero, List.set_cons_succ, i64_w, i32_w]
        rfl
      refine pure_ (i := 26) (N := some 99) (v := ?_) (a' := ?_) #[true, true, true, true, true, true, true, true, true, true, true, true, true, true, true, true, true, true, true, true, true, true, true, true, true, true, true, false, false, false, false, false, false, false] rfl rfl (any_of HT_.out (by kernel_rfl)) (fun _ _ _ h => h) (Or.inl ⟨by rfl, ?_⟩) ?_ ?_
      rotate_left
      · intro w'
        go_simp
        with_reducible rfl
      rotate_left
      · simp only [Act.put, List.setIfInBounds_toArray, List.set_cons_zero, List.set_cons_succ, i64_w, i32_w]
        rfl
      refine pure_ (i := 27) (N := some 100) (v := ?_) (a' := ?_) #[true, true, true, true, true, true, true, true, true, true, true, true, true, true, true, true, true, true, true, true, true, true, true, true, true, true, true, true, false, false, false, false, false, false] rfl rfl (any_of HT_.out (by kernel_rfl)) (fun _ _ _ h => h) (Or.inl ⟨by rfl, ?_⟩) ?_ ?_
      rotate_left
      · intro w'
        go_simp
        with_reducible rfl
      rotate_left
      · simp only [Act.put, List.setIfInBounds_toArray, List.set_cons_zero, List.set_cons_succ, i64_w, i32_w]
        rfl
      refine pure_ (i := 28) (N := some 101) (v := ?_) (a' := ?_) #[true, true, true, true, true, true, true, true, true, true, true, true, true, true, true, true, true, true, true, true, true, true, true, true, true, true, true, true, true, false, false, false, false, false] rfl rfl (any_of HT_.out (by kernel_rfl)) (fun _ _ _ h => h) (Or.inl ⟨by rfl, ?_⟩) ?_ ?_
      rotate_left
      · intro w'
        go_simp
        with_reducible rfl
      rotate_left
      · simp only [Act.put, List.setIfInBounds_toArray, List.set_cons_zero, List.set_cons_succ, i64_w, i32_w]
        rfl
      refine take_ (i := 29) (N := some 102) (v := ?_) (a' := ?_) #[true, true, true, true, true, true, true, true, true, true, true, true, true, true, true, true, true, true, true, true, true, true, true, true, true, true, true, true, true, true, false, false, false, false] rfl rfl (take_ofW HT_.out HW_.out (by kernel_rfl)) (fun _ _ _ h => h) (Or.inl ⟨by rfl, ?_⟩) hHeld ?_ ?_
      rotate_left
      · rintro w' ⟨s0, s1, s2, s3, s4, s5, s6, s7, s8⟩
        go_simp
        with_reducible rfl
      rotate_left
      · simp only [Act.put, List.setIfInBounds_toArray, List.set_cons_zero, List.set_cons_succ, i64_w, i32_w]
        rfl
      refine take_ (i := 30) (N := some 103) (v := ?_) (a' := ?_) #[true, true, true, true, true, true, true, true, true, true, true, true, true, true, true, true, true, true, true, true, true, true, true, true, true, true, true, true, true, true, true, false, false, false] rfl rfl (take_ofW HT_.out HW_.out (by kernel_rfl)) (fun _ _ _ h => h) (Or.inl ⟨by rfl, ?_⟩) hHeld ?_ ?_
      rotate_left
      · rintro w' ⟨s0, s1, s2, s3, s4, s5, s6, s7, s8⟩
        go_simp
        with_reducible rfl
      rotate_left
      · simp only [Act.put, List.setIfInBounds_toArray, List.set_cons_zero, List.set_cons_succ, i64_w, i32_w]
        rfl
      refine one_ (i := 31) (N := some 104) #[true, true, true, true, true, true, true, true, true, true, true, true, true, true, true, true, true, true, true, true, true, true, true, true, true, true, true, true, true, true, true, true, false, false] rfl rfl (one_of HT_.out (by kernel_rfl)) (by decide) (fun K hK => ?_)
      refine goes_ Tryd.func58 (by kernel_rfl) rfl #[v67 x.f0 x.f1 A x.f2.length c, v67 x.f0 x.f1 AC x.f2.length cc] (by rfl) rfl rfl (by (try simp only [List.map_toArray, List.map_cons, List.map_nil]); first | done | rfl) ?_
      refine (SVX.out _ AC cc (E0.out.trans (D8.out.mono E0.out.size)) L6.out (c_later C7.out D8.out)).mono ?_
      rintro e z9 ⟨rfl, hb⟩
      refine ⟨_, rfl, hK.out _ _ ⟨pw_cell_below hb hHeld.1, pw_cell_below hb hHeld.2.1, pw_cell_below hb hHeld.2.2.1, pw_cell_below hb hHeld.2.2.2.1, pw_cell_below hb hHeld.2.2.2.2.1, pw_cell_below hb hHeld.2.2.2.2.2.1, pw_cell_below hb hHeld.2.2.2.2.2.2.1, pw_cell_below hb hHeld.2.2.2.2.2.2.2.1, pw_cell_below hb hHeld.2.2.2.2.2.2.2.2⟩ (fun hHeld => ?_)⟩
      have D9 := Lib.hid (D8.out.trans (hb.mono D8.out.size))
      clear hb
      clear hK K
      refine norm_ (a' := ?_) ?_ ?_
      rotate_left
      · show Act.put _ (some 104) _ = _
        simp only [Act.put, List.setIfInBounds_toArray, List.set_cons_zero, List.set_cons_succ, i64_w, i32_w]
        rfl
      refine pure_ (i := 32) (N := some 105) (v := ?_) (a' := ?_) #[true, true, true, true, true, true, true, true, true, true, true, true, true, true, true, true, true, true, true, true, true, true, true, true, true, true, true, true, true, true, true, true, true, false] rfl rfl (any_of HT_.out (by kernel_rfl)) (fun _ _ _ h => h) (Or.inl ⟨by rfl, ?_⟩) ?_ ?_
      rotate_left
      · intro w'
        go_simp
        with_reducible rfl
      rotate_left
      · simp only [Act.put, List.setIfInBounds_toArray, List.set_cons_zero, List.set_cons_succ, i64_w, i32_w]
        rfl
      refine pure_ (i := 33) (N := some 4) (v := ?_) (a' := ?_) #[true, true, true, true, true, true, true, true, true, true, true, true, true, true, true, true, true, true, true, true, true, true, true, true, true, true, true, true, true, true, true, true, true, true] rfl rfl (any_of HT_.out (by kernel_rfl)) (fun _ _ _ h => h) (Or.inl ⟨by rfl, ?_⟩) ?_ ?_
      rotate_left
      · intro w'
        go_simp
        with_reducible rfl
      rotate_left
      · simp only [Act.put, List.setIfInBounds_toArray, List.set_cons_zero, List.set_cons_succ, i64_w, i32_w]
        rfl
      refine done_ (done_of HT_.out (by kernel_rfl)) ?_
      go_wp2_with fail
      go_ret
      exact ⟨rfl, E0.out.trans (D9.out.mono E0.out.size)⟩
  | false =>
    have hte : textV x = [] := if_neg (by rw [hr]; exact Bool.false_ne_true)
    rw [hte, show ba [] = ⟨#[]⟩ from rfl] at TX
    rw [hr] at RX
    clear hte
    have q2 := (X2.out.below T0.out).cells; obtain ⟨m20, m21, m22, f20, f21, f22⟩ := q2
    have q3 := (X3.out.below T0.out).cells; obtain ⟨m30, m31, m32, f30, f31, f32⟩ := q3
    have q5 := (X5.out.below T0.out).cells; obtain ⟨m50, m51, m52, f50, f51, f52⟩ := q5
    go_wp2_with fail
    refine (RX.out _ (B0.out.trans (T0.out.mono B0.out.size))).mono ?_
    rintro e t0w1 ⟨rfl, hb⟩
    have T0n1 := Lib.hid (T0.out.trans (hb.mono T0.out.size))
    clear hb
    clear m20 f20 m21 f21 m22 f22 m30 f30 m31 f31 m32 f32 m50 f50 m51 f51 m52 f52
    have q2 := (X2.out.below T0n1.out).cells; obtain ⟨m20, m21, m22, f20, f21, f22⟩ := q2
    have q3 := (X3.out.below T0n1.out).cells; obtain ⟨m30, m31, m32, f30, f31, f32⟩ := q3
    have q5 := (X5.out.below T0n1.out).cells; obtain ⟨m50, m51, m52, f50, f51, f52⟩ := q5
    go_wp2_with fail
    refine (SCX.out _ AC cc (B0.out.trans (T0n1.out.mono B0.out.size)) L6.out (c_later C6.out T0n1.out)).mono ?_
    rintro e t0w2 ⟨rfl, hb⟩
    have T0n2 := Lib.hid (T0n1.out.trans (hb.mono T0n1.out.size))
    clear hb
    clear m20 f20 m21 f21 m22 f22 m30 f30 m31 f31 m32 f32 m50 f50 m51 f51 m52 f52
    have q2 := (X2.out.below T0n2.out).cells; obtain ⟨m20, m21, m22, f20, f21, f22⟩ := q2
    have q3 := (X3.out.below T0n2.out).cells; obtain ⟨m30, m31, m32, f30, f31, f32⟩ := q3
    have q5 := (X5.out.below T0n2.out).cells; obtain ⟨m50, m51, m52, f50, f51, f52⟩ := q5
    go_wp2_with fail
    refine (TX.out _ (B0.out.trans (T0n2.out.mono B0.out.size))).mono ?_
    rintro e t0w3 ⟨rfl, hb⟩
    have T0n3 := Lib.hid (T0n2.out.trans (hb.mono T0n2.out.size))
    clear hb
    clear m20 f20 m21 f21 m22 f22 m30 f30 m31 f31 m32 f32 m50 f50 m51 f51 m52 f52
    have q2 := (X2.out.below T0n3.out).cells; obtain ⟨m20, m21, m22, f20, f21, f22⟩ := q2
    have q3 := (X3.out.below T0n3.out).cells; obtain ⟨m30, m31, m32, f30, f31, f32⟩ := q3
    have q5 := (X5.out.below T0n3.out).cells; obtain ⟨m50, m51, m52, f50, f51, f52⟩ := q5
    rw [← hr] at RX
    clear hr
    have E0 := Lib.hid (B0.out.trans (T0n3.out.mono B0.out.size)); have C7 := Lib.hid (c_later C6.out T0n3.out)
    by_cases hk : 0 < x.f2.length
    · have p1 : decide ((0 : Int) < (x.f2.length : Int)) = true := decide_eq_true (by omega)
      have p2 : (0 : Int) < (x.f2.length : Int) := by omega
      obtain ⟨ad, A9, c9, ea, x0, x1, x2, xl, xr⟩ := at_T67 CXR.out (0 : Int) (Int.le_refl 0) p2
      obtain ⟨g, cur, eg, hge, hgb, hgc⟩ := kid0 R6.out hk
      obtain ⟨z, hz⟩ : ∃ z, rd_T67 x.f2 (0 : Int) = z := ⟨_, rfl⟩
      have hzi : In z.f1 := HW0.out z (by rw [← hz]; exact rd_mem x.f2 0 hk)
      rw [show ((0 : Nat) : Int) = 0 from rfl] at hgc
      rw [hz] at x0 x1 x2 xl xr hgc
      subst ea; subst eg
      have k1 := (blk_cell (blk_below hgb T0n3.out) 1).trans hgc
      have kf := blk_frozen (blk_below hgb T0n3.out) 1
      have x1b := at_later E0.out x1
      rw [Int.toNat_zero, Nat.zero_mul] at x1b
      replace x1b : World.cell? _ ⟨ad.block, ad.off + 1, none⟩ = some (.int .i64 z.f1) := x1b
      obtain ⟨n0, hn0⟩ : ∃ n0, z.f1 = n0 := ⟨_, rfl⟩
      rw [hn0] at k1 x1b x1 hgc hzi
      have HGB := Lib.hid hgb; have HGC := Lib.hid hgc; have HGE := Lib.hid hge; have HZI := Lib.hid hzi; have X1 := Lib.hid x1
      clear hgb hgc hge hzi x0 x1 x2 xl xr hz hn0
      go_upto_region 11 with (fail)
      go_region
      obtain ⟨n1, hn1⟩ : ∃ n1, bits .xor .i64 n0 1 = n1 := ⟨_, rfl⟩
      have hn2 : bits .xor .i64 n1 1 = n0 := by rw [← hn1]; exact xor_twice n0 HZI.out
      rw [hn1]
      have M2 := Lib.hid (show g2 ≠ g by have := HG2.out; have := HG3.out; have := WLE2.out; have := HGE.out; omega)
      have M3 := Lib.hid (show g3 ≠ g by have := HG3.out; have := WLE2.out; have := HGE.out; omega)
      have M5 := Lib.hid (show g5 ≠ g from fun e => R6.out.1 g rfl e.symm)
      have MW := Lib.hid (show w.heap.size ≤ g by have := WLE.out; have := HGE.out; omega)
      obtain ⟨v1, hv1, y2, y3, y5, e1, k2, kg⟩ : ∃ v1 : World, (t0w3.setCell ⟨g, 1, none⟩ (.int .i64 n1)).drew = v1 ∧ Bx v1 g2 x.f0 x.f1 (.slice (some ad) x.f2.length c) ∧ Bx v1 g3 y.f0 y.f1 (.slice A2 y.f2.length c2) ∧ Bx v1 g5 x.f0 x.f1 (.slice (some ⟨g, 0, none⟩) x.f2.length cc) ∧ Below w.heap.size w v1 ∧ v1.cell? ⟨g, 1, none⟩ = some (.int .i64 n1) ∧ v1.frozen? ⟨g, 1, none⟩ = false :=
        ⟨_, rfl, ((X2.out.below T0n3.out).far (a := ⟨g, 1, none⟩) M2.out _).below (below_drew (Below.refl _ _)), ((X3.out.below T0n3.out).far (a := ⟨g, 1, none⟩) M3.out _).below (below_drew (Below.refl _ _)), ((X5.out.below T0n3.out).far (a := ⟨g, 1, none⟩) M5.out _).below (below_drew (Below.refl _ _)), below_drew (below_set E0.out MW.out), cell_set (blk_below HGB.out T0n3.out) HGC.out _, frozen_set (blk_below HGB.out T0n3.out) _⟩
      have HV1 := Lib.hid hv1; have Y2 := Lib.hid y2; have Y3 := Lib.hid y3; have Y5 := Lib.hid y5; have E1 := Lib.hid e1
      rw [hv1]
      clear hv1 y2 y3 y5 e1 hn1 k1 kf x1b m20 m21 m22 f20 f21 f22 m30 m31 m32 f30 f31 f32 m50 m51 m52 f50 f51 f52
      obtain ⟨m20, m21, m22, f20, f21, f22⟩ := Y2.out.cells
      obtain ⟨m50, m51, m52, f50, f51, f52⟩ := Y5.out.cells
      have x1b := at_later E1.out X1.out
      rw [Int.toNat_zero, Nat.zero_mul] at x1b
      replace x1b : v1.cell? ⟨ad.block, ad.off + 1, none⟩ = some (.int .i64 n0) := x1b
      have qn0 : (n0 == n0) = true := beq_self_eq_true _
      go_upto_region 14 with (fail)
      go_region
      obtain ⟨v2, hv2, vb, z2, z3, z5⟩ : ∃ v2 : World, (v1.setCell ⟨g, 1, none⟩ (.int .i64 n0)).drew = v2 ∧ Below t0w3.heap.size t0w3 v2 ∧ Bx v2 g2 x.f0 x.f1 (.slice (some ad) x.f2.length c) ∧ Bx v2 g3 y.f0 y.f1 (.slice A2 y.f2.length c2) ∧ Bx v2 g5 x.f0 x.f1 (.slice (some ⟨g, 0, none⟩) x.f2.length cc) :=
        ⟨_, rfl, by rw [← HV1.out]; exact below_drew (below_drew (back_below (u := .int .i64 n1) (blk_below HGB.out T0n3.out) HGC.out)), (Y2.out.far (a := ⟨g, 1, none⟩) M2.out _).below (below_drew (Below.refl _ _)), (Y3.out.far (a := ⟨g, 1, none⟩) M3.out _).below (below_drew (Below.refl _ _)), (Y5.out.far (a := ⟨g, 1, none⟩) M5.out _).below (below_drew (Below.refl _ _))⟩
      rw [hv2]
      have E2 := Lib.hid (E0.out.trans (vb.mono E0.out.size)); have C9 := Lib.hid (c_later C7.out vb)
      clear hv2 vb m20 m21 m22 f20 f21 f22 m50 m51 m52 f50 f51 f52 x1b k2 kg hn2
      obtain ⟨m20, m21, m22, f20, f21, f22⟩ := z2.cells
      obtain ⟨m30, m31, m32, f30, f31, f32⟩ := z3.cells
      obtain ⟨m50, m51, m52, f50, f51, f52⟩ := z5.cells
      clear z2 z3 z5
      go_upto_region 15 with (fail)
      have qrr := bb2 (right x)
      have qss := bb2 (same x y)
      refine start_ (n := 34) (S := fun w' => w'.cell? ⟨g2, 0, none⟩ = some (.int .i64 x.f0) ∧ w'.cell? ⟨g2, 1, none⟩ = some (.int .i64 x.f1) ∧ w'.cell? ⟨g2, 2, none⟩ = some (.slice (some ad) x.f2.length c) ∧ w'.cell? ⟨g3, 0, none⟩ = some (.int .i64 y.f0) ∧ w'.cell? ⟨g3, 1, none⟩ = some (.int .i64 y.f1) ∧ w'.cell? ⟨g3, 2, none⟩ = some (.slice A2 y.f2.length c2) ∧ w'.cell? ⟨g5, 0, none⟩ = some (.int .i64 x.f0) ∧ w'.cell? ⟨g5, 1, none⟩ = some (.int .i64 x.f1) ∧ w'.cell? ⟨g5, 2, none⟩ = some (.slice (some ⟨g, 0, none⟩) x.f2.length cc)) (ds := []) #[false, false, false, false, false, false, false, false, false, false, false, false, false, false, false, false, false, false, false, false, false, false, false, false, false, false, false, false, false, false, false, false, false, false] (by kernel_rfl) rfl rfl ⟨m20, m21, m22, m30, m31, m32, m50, m51, m52⟩ (fun hHeld => ?_)
      refine with_tabW t15 b15 (fun HT_ HW_ => ?_)
      have D0 := Lib.hid (below_drew (Below.refl v2.heap.size v2))
      generalize World.drew v2 = z0 at *
      clear m20 m21 m22 m30 m31 m32 m50 m51 m52
      refine take_ (i := 0) (N := some 73) (v := ?_) (a' := ?_) #[true, false, false, false, false, false, false, false, false, false, false, false, false, false, false, false, false, false, false, false, false, false, false, false, false, false, false, false, false, false, false, false, false, false] rfl rfl (take_ofW HT_.out HW_.out (by kernel_rfl)) (fun _ _ _ h => h) (Or.inl ⟨by rfl, ?_⟩) hHeld ?_ ?_
      rotate_left
      · rintro w' ⟨s0, s1, s2, s3, s4, s5, s6, s7, s8⟩
        go_simp
        with_reducible rfl
      rotate_left
      · simp only [Act.put, List.setIfInBounds_toArray, List.set_cons_zero, List.set_cons_succ, i64_w, i32_w]
        rfl
      refine take_ (i := 2) (N := some 75) (v := ?_) (a' := ?_) #[true, false, true, false, false, false, false, false, false, false, false, false, false, false, false, false, false, false, false, false, false, false, false, false, false, false, false, false, false, false, false, false, false, false] rfl rfl (take_ofW HT_.out HW_.out (by kernel_rfl)) (fun _ _ _ h => h) (Or.inl ⟨by rfl, ?_⟩) hHeld ?_ ?_
      rotate_left
      · rintro w' ⟨s0, s1, s2, s3, s4, s5, s6, s7, s8⟩
        go_simp
        with_reducible rfl
      rotate_left
      · simp only [Act.put, List.setIfInBounds_toArray, List.set_cons_zero, List.set_cons_succ, i64_w, i32_w]
        rfl
      refine one_ (i := 1) (N := some 74) #[true, true, true, false, false, false, false, false, false, false, false, false, false, false, false, false, false, false, false, false, false, false, false, false, false, false, false, false, false, false, false, false, false, false] rfl rfl (one_of HT_.out (by kernel_rfl)) (by decide) (fun K hK => ?_)
      refine goes_ Tryd.func52 (by kernel_rfl) rfl #[v67 x.f0 x.f1 (some ad) x.f2.length c] (by rfl) rfl rfl (by (try simp only [List.map_toArray, List.map_cons, List.map_nil]); first | done | rfl) ?_
      refine (VX.out _ (E2.out.trans (D0.out.mono E2.out.size))).mono ?_
      rintro e z1 ⟨rfl, hb⟩
      refine ⟨_, rfl, hK.out _ _ ⟨pw_cell_below hb hHeld.1, pw_cell_below hb hHeld.2.1, pw_cell_below hb hHeld.2.2.1, pw_cell_below hb hHeld.2.2.2.1, pw_cell_below hb hHeld.2.2.2.2.1, pw_cell_below hb hHeld.2.2.2.2.2.1, pw_cell_below hb hHeld.2.2.2.2.2.2.1, pw_cell_below hb hHeld.2.2.2.2.2.2.2.1, pw_cell_below hb hHeld.2.2.2.2.2.2.2.2⟩ (fun hHeld => ?_)⟩
      have D1 := Lib.hid (D0.out.trans (hb.mono D0.out.size))
      clear hb
      clear hK K
      refine norm_ (a' := ?_) ?_ ?_
      rotate_left
      · show Act.put _ (some 74) _ = _
        simp only [Act.put, List.setIfInBounds_toArray, List.set_cons_zero, List.set_cons_succ, i64_w, i32_w]
        rfl
      refine one_ (i := 3) (N := some 76) #[true, true, true, true, false, false, false, false, false, false, false, false, false, false, false, false, false, false, false, false, false, false, false, false, false, false, false, false, false, false, false, false, false, false] rfl rfl (one_of HT_.out (by kernel_rfl)) (by decide) (fun K hK => ?_)
      refine goes_ Tryd.func43 (by kernel_rfl) rfl #[v67 x.f0 x.f1 (some ad) x.f2.length c] (by rfl) rfl rfl (by (try simp only [List.map_toArray, List.map_cons, List.map_nil]); first | done | rfl) ?_
      refine (RX.out _ (E2.out.trans (D1.out.mono E2.out.size))).mono ?_
      rintro e z2 ⟨rfl, hb⟩
      refine ⟨_, rfl, hK.out _ _ ⟨pw_cell_below hb hHeld.1, pw_cell_below hb hHeld.2.1, pw_cell_below hb hHeld.2.2.1, pw_cell_below hb hHeld.2.2.2.1, pw_cell_below hb hHeld.2.2.2.2.1, pw_cell_below hb hHeld.2.2.2.2.2.1, pw_cell_below hb hHeld.2.2.2.2.2.2.1, pw_cell_below hb hHeld.2.2.2.2.2.2.2.1, pw_cell_below hb hHeld.2.2.2.2.2.2.2.2⟩ (fun hHeld => ?_)⟩
      have D2 := Lib.hid (D1.out.trans (hb.mono D1.out.size))
      clear hb
      clear hK K
      refine norm_ (a' := ?_) ?_ ?_
      rotate_left
      · show Act.put _ (some 76) _ = _
        simp only [Act.put, List.setIfInBounds_toArray, List.set_cons_zero, List.set_cons_succ, i64_w, i32_w]
        rfl
      refine pure_ (i := 4) (N := some 77) (v := ?_) (a' := ?_) #[true, true, true, true, true, false, false, false, false, false, false, false, false, false, false, false, false, false, false, false, false, false, false, false, false, false, false, false, false, false, false, false, false, false] rfl rfl (any_of HT_.out (by kernel_rfl)) (fun _ _ _ h => h) (Or.inl ⟨by rfl, ?_⟩) ?_ ?_
      rotate_left
      · intro w'
        go_simp
        with_reducible rfl
      rotate_left
      · simp only [Act.put, List.setIfInBounds_toArray, List.set_cons_zero, List.set_cons_succ, i64_w, i32_w]
        rfl
      refine pure_ (i := 5) (N := some 78) (v := ?_) (a' := ?_) #[true, true, true, true, true, true, false, false, false, false, false, false, false, false, false, false, false, false, false, false, false, false, false, false, false, false, false, false, false, false, false, false, false, false] rfl rfl (any_of HT_.out (by kernel_rfl)) (fun _ _ _ h => h) (Or.inl ⟨by rfl, ?_⟩) ?_ ?_
      rotate_left
      · intro w'
        go_simp
        with_reducible rfl
      rotate_left
      · simp only [Act.put, List.setIfInBounds_toArray, List.set_cons_zero, List.set_cons_succ, i64_w, i32_w]
        rfl
      refine take_ (i := 6) (N := some 79) (v := ?_) (a' := ?_) #[true, true, true, true, true, true, true, false, false, false, false, false, false, false, false, false, false, false, false, false, false, false, false, false, false, false, false, false, false, false, false, false, false, false] rfl rfl (take_ofW HT_.out HW_.out (by kernel_rfl)) (fun _ _ _ h => h) (Or.inl ⟨by rfl, ?_⟩) hHeld ?_ ?_
      rotate_left
      · rintro w' ⟨s0, s1, s2, s3, s4, s5, s6, s7, s8⟩
        go_simp
        with_reducible rfl
      rotate_left
      · simp only [Act.put, List.setIfInBounds_toArray, List.set_cons_zero, List.set_cons_succ, i64_w, i32_w]
        rfl
      refine take_ (i := 8) (N := some 81) (v := ?_) (a' := ?_) #[true, true, true, true, true, true, true, false, true, false, false, false, false, false, false, false, false, false, false, false, false, false, false, false, false, false, false, false, false, false, false, false, false, false] rfl rfl (take_ofW HT_.out HW_.out (by kernel_rfl)) (fun _ _ _ h => h) (Or.inl ⟨by rfl, ?_⟩) hHeld ?_ ?_
      rotate_left
      · rintro w' ⟨s0, s1, s2, s3, s4, s5, s6, s7, s8⟩
        go_simp
        with_reducible rfl
      rotate_left
      · simp only [Act.put, List.setIfInBounds_toArray, List.set_cons_zero, List.set_cons_succ, i64_w, i32_w]
        rfl
      refine one_ (i := 7) (N := some 80) #[true, true, true, true, true, true, true, true, true, false, false, false, false, false, false, false, false, false, false, false, false, false, false, false, false, false, false, false, false, false, false, false, false, false] rfl rfl (one_of HT_.out (by kernel_rfl)) (by decide) (fun K hK => ?_)
      refine goes_ Tryd.func54 (by kernel_rfl) rfl #[v67 x.f0 x.f1 (some ad) x.f2.length c] (by rfl) rfl rfl (by (try simp only [List.map_toArray, List.map_cons, List.map_nil]); first | done | rfl) ?_
      refine (ZX.out _ (E2.out.trans (D2.out.mono E2.out.size))).mono ?_
      rintro e z3 ⟨rfl, hb⟩
      refine ⟨_, rfl, hK.out _ _ ⟨pw_cell_below hb hHeld.1, pw_cell_below hb hHeld.2.1, pw_cell_below hb hHeld.2.2.1, pw_cell_below hb hHeld.2.2.2.1, pw_cell_below hb hHeld.2.2.2.2.1, pw_cell_below hb hHeld.2.2.2.2.2.1, pw_cell_below hb hHeld.2.2.2.2.2.2.1, pw_cell_below hb hHeld.2.2.2.2.2.2.2.1, pw_cell_below hb hHeld.2.2.2.2.2.2.2.2⟩ (fun hHeld => ?_)⟩
      have D3 := Lib.hid (D2.out.trans (hb.mono D2.out.size))
      clear hb
      clear hK K
      refine norm_ (a' := ?_) ?_ ?_
      rotate_left
      · show Act.put _ (some 80) _ = _
        simp only [Act.put, List.setIfInBounds_toArray, List.set_cons_zero, List.set_cons_succ, i64_w, i32_w]
        rfl
      refine one_ (i := 9) (N := some 82) #[true, true, true, true, true, true, true, true, true, true, false, false, false, false, false, false, false, false, false, false, false, false, false, false, false, false, false, false, false, false, false, false, false, false] rfl rfl (one_of HT_.out (by kernel_rfl)) (by decide) (fun K hK => ?_)
      refine goes_ Tryd.func55 (by kernel_rfl) rfl #[v67 x.f0 x.f1 (some ad) x.f2.length c] (by rfl) rfl rfl (by (try simp only [List.map_toArray, List.map_cons, List.map_nil]); first | done | rfl) ?_
      refine (ZR.out _ (E2.out.trans (D3.out.mono E2.out.size))).mono ?_
      rintro e z4 ⟨rfl, hb⟩
      refine ⟨_, rfl, hK.out _ _ ⟨pw_cell_below hb hHeld.1, pw_cell_below hb hHeld.2.1, pw_cell_below hb hHeld.2.2.1, pw_cell_below hb hHeld.2.2.2.1, pw_cell_below hb hHeld.2.2.2.2.1, pw_cell_below hb hHeld.2.2.2.2.2.1, pw_cell_below hb hHeld.2.2.2.2.2.2.1, pw_cell_below hb hHeld.2.2.2.2.2.2.2.1, pw_cell_below hb hHeld.2.2.2.2.2.2.2.2⟩ (fun hHeld => ?_)⟩
      have D4 := Lib.hid (D3.out.trans (hb.mono D3.out.size))
      clear hb
      clear hK K
      refine norm_ (a' := ?_) ?_ ?_
      rotate_left
      · show Act.put _ (some 82) _ = _
        simp only [Act.put, List.setIfInBounds_toArray, List.set_cons_zero, List.set_cons_succ, i64_w, i32_w]
        rfl
      refine pure_ (i := 10) (N := some 83) (v := ?_) (a' := ?_) #[true, true, true, true, true, true, true, true, true, true, true, false, false, false, false, false, false, false, false, false, false, false, false, false, false, false, false, false, false, false, false, false, false, false] rfl rfl (any_of HT_.out (by kernel_rfl)) (fun _ _ _ h => h) (Or.inl ⟨by rfl, ?_⟩) ?_ ?_
      rotate_left
      · intro w'
        go_simp
        with_reducible rfl
      rotate_left
      · simp only [Act.put, List.setIfInBounds_toArray, List.set_cons_zero, List.set_cons_succ, i64_w, i32_w]
        rfl
      refine pure_ (i := 11) (N := some 84) (v := ?_) (a' := ?_) #[true, true, true, true, true, true, true, true, true, true, true, true, false, false, false, false, false, false, false, false, false, false, false, false, false, false, false, false, false, false, false, false, false, false] rfl rfl (any_of HT_.out (by kernel_rfl)) (fun _ _ _ h => h) (Or.inl ⟨by rfl, ?_⟩) ?_ ?_
      rotate_left
      · intro w'
        go_simp
        with_reducible rfl
      rotate_left
      · simp only [Act.put, List.setIfInBounds_toArray, List.set_cons_zero, List.set_cons_succ, i64_w, i32_w]
        rfl
      refine pure_ (i := 12) (N := some 85) (v := ?_) (a' := ?_) #[true, true, true, true, true, true, true, true, true, true, true, true, true, false, false, false, false, false, false, false, false, false, false, false, false, false, false, false, false, false, false, false, false, false] rfl rfl (any_of HT_.out (by kernel_rfl)) (fun _ _ _ h => h) (Or.inl ⟨by rfl, ?_⟩) ?_ ?_
      rotate_left
      · intro w'
        go_simp
        with_reducible rfl
      rotate_left
      · simp only [Act.put, List.setIfInBounds_toArray, List.set_cons_zero, List.set_cons_succ, i64_w, i32_w]
        rfl
      refine take_ (i := 13) (N := some 86) (v := ?_) (a' := ?_) #[true, true, true, true, true, true, true, true, true, true, true, true, true, true, false, false, false, false, false, false, false, false, false, false, false, false, false, false, false, false, false, false, false, false] rfl rfl (take_ofW HT_.out HW_.out (by kernel_rfl)) (fun _ _ _ h => h) (Or.inl ⟨by rfl, ?_⟩) hHeld ?_ ?_
      rotate_left
      · rintro w' ⟨s0, s1, s2, s3, s4, s5, s6, s7, s8⟩
        go_simp
        with_reducible rfl
      rotate_left
      · simp only [Act.put, List.setIfInBounds_toArray, List.set_cons_zero, List.set_cons_succ, i64_w, i32_w]
        rfl
      refine take_ (i := 15) (N := some 88) (v := ?_) (a' := ?_) #[true, true, true, true, true, true, true, true, true, true, true, true, true, true, false, true, false, false, false, false, false, false, false, false, false, false, false, false, false, false, false, false, false, false] rfl rfl (take_ofW HT_.out HW_.out (by kernel_rfl)) (fun _ _ _ h => h) (Or.inl ⟨by rfl, ?_⟩) hHeld ?_ ?_
      rotate_left
      · rintro w' ⟨s0, s1, s2, s3, s4, s5, s6, s7, s8⟩
        go_simp
        with_reducible rfl
      rotate_left
      · simp only [Act.put, List.setIfInBounds_toArray, List.set_cons_zero, List.set_cons_succ, i64_w, i32_w]
        rfl
      refine one_ (i := 14) (N := some 87) #[true, true, true, true, true, true, true, true, true, true, true, true, true, true, true, true, false, false, false, false, false, false, false, false, false, false, false, false, false, false, false, false, false, false] rfl rfl (one_of HT_.out (by kernel_rfl)) (by decide) (fun K hK => ?_)
      refine goes_ Tryd.func56 (by kernel_rfl) rfl #[v67 x.f0 x.f1 (some ad) x.f2.length c] (by rfl) rfl rfl (by (try simp only [List.map_toArray, List.map_cons, List.map_nil]); first | done | rfl) ?_
      refine (DX.out _ (E2.out.trans (D4.out.mono E2.out.size))).mono ?_
      rintro e z5 ⟨rfl, hb⟩
      refine ⟨_, rfl, hK.out _ _ ⟨pw_cell_below hb hHeld.1, pw_cell_below hb hHeld.2.1, pw_cell_below hb hHeld.2.2.1, pw_cell_below hb hHeld.2.2.2.1, pw_cell_below hb hHeld.2.2.2.2.1, pw_cell_below hb hHeld.2.2.2.2.2.1, pw_cell_below hb hHeld.2.2.2.2.2.2.1, pw_cell_below hb hHeld.2.2.2.2.2.2.2.1, pw_cell_below hb hHeld.2.2.2.2.2.2.2.2⟩ (fun hHeld => ?_)⟩
      have D5 := Lib.hid (D4.out.trans (hb.mono D4.out.size))
      clear hb
      clear hK K
      refine norm_ (a' := ?_) ?_ ?_
      rotate_left
      · show Act.put _ (some 87) _ = _
        simp only [Act.put, List.setIfInBounds_toArray, List.set_cons_zero, List.set_cons_succ, i64_w, i32_w]
        rfl
      refine one_ (i := 16) (N := some 89) #[true, true, true, true, true, true, true, true, true, true, true, true, true, true, true, true, true, false, false, false, false, false, false, false, false, false, false, false, false, false, false, false, false, false] rfl rfl (one_of HT_.out (by kernel_rfl)) (by decide) (fun K hK => ?_)
      refine goes_ Tryd.func57 (by kernel_rfl) rfl #[v67 x.f0 x.f1 (some ad) x.f2.length c] (by rfl) rfl rfl (by (try simp only [List.map_toArray, List.map_cons, List.map_nil]); first | done | rfl) ?_
      refine (DR.out _ (E2.out.trans (D5.out.mono E2.out.size))).mono ?_
      rintro e z6 ⟨rfl, hb⟩
      refine ⟨_, rfl, hK.out _ _ ⟨pw_cell_below hb hHeld.1, pw_cell_below hb hHeld.2.1, pw_cell_below hb hHeld.2.2.1, pw_cell_below hb hHeld.2.2.2.1, pw_cell_below hb hHeld.2.2.2.2.1, pw_cell_below hb hHeld.2.2.2.2.2.1, pw_cell_below hb hHeld.2.2.2.2.2.2.1, pw_cell_below hb hHeld.2.2.2.2.2.2.2.1, pw_cell_below hb hHeld.2.2.2.2.2.2.2.2⟩ (fun hHeld => ?_)⟩
      have D6 := Lib.hid (D5.out.trans (hb.mono D5.out.size))
      clear hb
      clear hK K
      refine norm_ (a' := ?_) ?_ ?_
      rotate_left
      · show Act.put _ (some 89) _ = _
        simp only [Act.put, List.setIfInBounds_toArray, List.set_cons_zero, List.set_cons_succ, i64_w, i32_w]
        rfl
      refine pure_ (i := 17) (N := some 90) (v := ?_) (a' := ?_) #[true, true, true, true, true, true, true, true, true, true, true, true, true, true, true, true, true, true, false, false, false, false, false, false, false, false, false, false, false, false, false, false, false, false] rfl rfl (any_of HT_.out (by kernel_rfl)) (fun _ _ _ h => h) (Or.inl ⟨by rfl, ?_⟩) ?_ ?_
      rotate_left
      · intro w'
        go_simp
        with_reducible rfl
      rotate_left
      · simp only [Act.put, List.setIfInBounds_toArray, List.set_cons_zero, List.set_cons_succ, i64_w, i32_w]
        rfl
      refine pure_ (i := 18) (N := some 91) (v := ?_) (a' := ?_) #[true, true, true, true, true, true, true, true, true, true, true, true, true, true, true, true, true, true, true, false, false, false, false, false, false, false, false, false, false, false, false, false, false, false] rfl rfl (any_of HT_.out (by kernel_rfl)) (fun _ _ _ h => h) (Or.inl ⟨by rfl, ?_⟩) ?_ ?_
      rotate_left
      · intro w'
        go_simp
        with_reducible rfl
      rotate_left
      · simp only [Act.put, List.setIfInBounds_toArray, List.set_cons_zero, List.set_cons_succ, i64_w, i32_w]
        rfl
      refine pure_ (i := 19) (N := some 92) (v := ?_) (a' := ?_) #[true, true, true, true, true, true, true, true, true, true, true, true, true, true, true, true, true, true, true, true, false, false, false, false, false, false, false, false, false, false, false, false, false, false] rfl rfl (any_of HT_.out (by kernel_rfl)) (fun _ _ _ h => h) (Or.inl ⟨by rfl, ?_⟩) ?_ ?_
      rotate_left
      · intro w'
        go_simp
        with_reducible rfl
      rotate_left
      · simp only [Act.put, List.setIfInBounds_toArray, List.set_cons_zero, List.set_cons_succ, i64_w, i32_w]
        rfl
      refine take_ (i := 20) (N := some 93) (v := ?_) (a' := ?_) #[true, true, true, true, true, true, true, true, true, true, true, true, true, true, true, true, true, true, true, true, true, false, false, false, false, false, false, false, false, false, false, false, false, false] rfl rfl (take_ofW HT_.out HW_.out (by kernel_rfl)) (fun _ _ _ h => h) (Or.inl ⟨by rfl, ?_⟩) hHeld ?_ ?_
      rotate_left
      · rintro w' ⟨s0, s1, s2, s3, s4, s5, s6, s7, s8⟩
        go_simp
        with_reducible rfl
      rotate_left
      · simp only [Act.put, List.setIfInBounds_toArray, List.set_cons_zero, List.set_cons_succ, i64_w, i32_w]
        rfl
      refine take_ (i := 21) (N := some 94) (v := ?_) (a' := ?_) #[true, true, true, true, true, true, true, true, true, true, true, true, true, true, true, true, true, true, true, true, true, true, false, false, false, false, false, false, false, false, false, false, false, false] rfl rfl (take_ofW HT_.out HW_.out (by kernel_rfl)) (fun _ _ _ h => h) (Or.inl ⟨by rfl, ?_⟩) hHeld ?_ ?_
      rotate_left
      · rintro w' ⟨s0, s1, s2, s3, s4, s5, s6, s7, s8⟩
        go_simp
        with_reducible rfl
      rotate_left
      · simp only [Act.put, List.setIfInBounds_toArray, List.set_cons_zero, List.set_cons_succ, i64_w, i32_w]
        rfl
      refine take_ (i := 23) (N := some 96) (v := ?_) (a' := ?_) #[true, true, true, true, true, true, true, true, true, true, true, true, true, true, true, true, true, true, true, true, true, true, false, true, false, false, false, false, false, false, false, false, false, false] rfl rfl (take_ofW HT_.out HW_.out (by kernel_rfl)) (fun _ _ _ h => h) (Or.inl ⟨by rfl, ?_⟩) hHeld ?_ ?_
      rotate_left
      · rintro w' ⟨s0, s1, s2, s3, s4, s5, s6, s7, s8⟩
        go_simp
        with_reducible rfl
      rotate_left
      · simp only [Act.put, List.setIfInBounds_toArray, List.set_cons_zero, List.set_cons_succ, i64_w, i32_w]
        rfl
      refine take_ (i := 24) (N := some 97) (v := ?_) (a' := ?_) #[true, true, true, true, true, true, true, true, true, true, true, true, true, true, true, true, true, true, true, true, true, true, false, true, true, false, false, false, false, false, false, false, false, false] rfl rfl (take_ofW HT_.out HW_.out (by kernel_rfl)) (fun _ _ _ h => h) (Or.inl ⟨by rfl, ?_⟩) hHeld ?_ ?_
      rotate_left
      · rintro w' ⟨s0, s1, s2, s3, s4, s5, s6, s7, s8⟩
        go_simp
        with_reducible rfl
      rotate_left
      · simp only [Act.put, List.setIfInBounds_toArray, List.set_cons_zero, List.set_cons_succ, i64_w, i32_w]
        rfl
      refine one_ (i := 22) (N := some 95) #[true, true, true, true, true, true, true, true, true, true, true, true, true, true, true, true, true, true, true, true, true, true, true, true, true, false, false, false, false, false, false, false, false, false] rfl rfl (one_of HT_.out (by kernel_rfl)) (by decide) (fun K hK => ?_)
      refine goes_ Tryd.func58 (by kernel_rfl) rfl #[v67 x.f0 x.f1 (some ad) x.f2.length c, v67 y.f0 y.f1 A2 y.f2.length c2] (by rfl) rfl rfl (by (try simp only [List.map_toArray, List.map_cons, List.map_nil]); first | done | rfl) ?_
      refine (SXY.out _ (E2.out.trans (D6.out.mono E2.out.size))).mono ?_
      rintro e z7 ⟨rfl, hb⟩
      refine ⟨_, rfl, hK.out _ _ ⟨pw_cell_below hb hHeld.1, pw_cell_below hb hHeld.2.1, pw_cell_below hb hHeld.2.2.1, pw_cell_below hb hHeld.2.2.2.1, pw_cell_below hb hHeld.2.2.2.2.1, pw_cell_below hb hHeld.2.2.2.2.2.1, pw_cell_below hb hHeld.2.2.2.2.2.2.1, pw_cell_below hb hHeld.2.2.2.2.2.2.2.1, pw_cell_below hb hHeld.2.2.2.2.2.2.2.2⟩ (fun hHeld => ?_)⟩
      have D7 := Lib.hid (D6.out.trans (hb.mono D6.out.size))
      clear hb
      clear hK K
      refine norm_ (a' := ?_) ?_ ?_
      rotate_left
      · show Act.put _ (some 95) _ = _
        simp only [Act.put, List.setIfInBounds_toArray, List.set_cons_zero, List.set_cons_succ, i64_w, i32_w]
        rfl
      refine one_ (i := 25) (N := some 98) #[true, true, true, true, true, true, true, true, true, true, true, true, true, true, true, true, true, true, true, true, true, true, true, true, true, true, false, false, false, false, false, false, false, false] rfl rfl (one_of HT_.out (by kernel_rfl)) (by decide) (fun K hK => ?_)
      refine goes_ Tryd.func45 (by kernel_rfl) rfl #[v67 x.f0 x.f1 (some ad) x.f2.length c, v67 y.f0 y.f1 A2 y.f2.length c2] (by rfl) rfl rfl (by (try simp only [List.map_toArray, List.map_cons, List.map_nil]); first | done | rfl) ?_
      refine (SRY.out _ (E2.out.trans (D7.out.mono E2.out.size))).mono ?_
      rintro e z8 ⟨rfl, hb⟩
      refine ⟨_, rfl, hK.out _ _ ⟨pw_cell_below hb hHeld.1, pw_cell_below hb hHeld.2.1, pw_cell_below hb hHeld.2.2.1, pw_cell_below hb hHeld.2.2.2.1, pw_cell_below hb hHeld.2.2.2.2.1, pw_cell_below hb hHeld.2.2.2.2.2.1, pw_cell_below hb hHeld.2.2.2.2.2.2.1, pw_cell_below hb hHeld.2.2.2.2.2.2.2.1, pw_cell_below hb hHeld.2.2.2.2.2.2.2.2⟩ (fun hHeld => ?_)⟩
      have D8 := Lib.hid (D7.out.trans (hb.mono D7.out.size))
      clear hb
      clear hK K
      refine norm_ (a' := ?_) ?_ ?_
      rotate_left
      · show Act.put _ (some 98) _ = _
        simp only [Act.put, List.setIfInBounds_toArray, List.set_cons_zero, List.set_cons_succ, i64_w, i32_w]
        rfl
      refine pure_ (i := 26) (N := some 99) (v := ?_) (a' := ?_) #[true, true, true, true, true, true, true, true, true, true, true, true, true, true, true, true, true, true, true, true, true, true, true, true, true, true, true, false, false, false, false, false, false, false] rfl rfl (any_of HT_.out (by kernel_rfl)) (fun _ _ _ h => h) (Or.inl ⟨by rfl, ?_⟩) ?_ ?_
      rotate_left
      · intro w'
        go_simp
        with_reducible rfl
      rotate_left
      · simp only [Act.put, List.setIfInBounds_toArray, List.set_cons_zero, List.set_cons_succ, i64_w, i32_w]
        rfl
      refine pure_ (i := 27) (N := some 100) (v := ?_) (a' := ?_) #[true, true, true, true, true, true, true, true, true, true, true, true, true, true, true, true, true, true, true, true, true, true, true, true, true, true, true, true, false, false, false, false, false, false] rfl rfl (any_of HT_.out (by kernel_rfl)) (fun _ _ _ h => h) (Or.inl ⟨by rfl, ?_⟩) ?_ ?_
      rotate_left
      · intro w'
        go_simp
        with_reducible rfl
      rotate_left
      · simp only [Act.put, List.setIfInBounds_toArray, List.set_cons_zero, List.set_cons_succ, i64_w, i32_w]
        rfl
      refine pure_ (i := 28) (N := some 101) (v := ?_) (a' := ?_) #[true, true, true, true, true, true, true, true, true, true, true, true, true, true, true, true, true, true, true, true, true, true, true, true, true, true, true, true, true, false, false, false, false, false] rfl rfl (any_of HT_.out (by kernel_rfl)) (fun _ _ _ h => h) (Or.inl ⟨by rfl, ?_⟩) ?_ ?_
      rotate_left
      · intro w'
        go_simp
        with_reducible rfl
      rotate_left
      · simp only [Act.put, List.setIfInBounds_toArray, List.set_cons_zero, List.set_cons_succ, i64_w, i32_w]
        rfl
      refine take_ (i := 29) (N := some 102) (v := ?_) (a' := ?_) #[true, true, true, true, true, true, true, true, true, true, true, true, true, true, true, true, true, true, true, true, true, true, true, true, true, true, true, true, true, true, false, false, false, false] rfl rfl (take_ofW HT_.out HW_.out (by kernel_rfl)) (fun _ _ _ h => h) (Or.inl ⟨by rfl, ?_⟩) hHeld ?_ ?_
      rotate_left
      · rintro w' ⟨s0, s1, s2, s3, s4, s5, s6, s7, s8⟩
        go_simp
        with_reducible rfl
      rotate_left
      · simp only [Act.put, List.setIfInBounds_toArray, List.set_cons_zero, List.set_cons_succ, i64_w, i32_w]
        rfl
      refine take_ (i := 30) (N := some 103) (v := ?_) (a' := ?_) #[true, true, true, true, true, true, true, true, true, true, true, true, true, true, true, true, true, true, true, true, true, true, true, true, true, true, true, true, true, true, true, false, false, false] rfl rfl (take_ofW HT_.out HW_.out (by kernel_rfl)) (fun _ _ _ h => h) (Or.inl ⟨by rfl, ?_⟩) hHeld ?_ ?_
      rotate_left
      · rintro w' ⟨s0, s1, s2, s3, s4, s5, s6, s7, s8⟩
        go_simp
        with_reducible rfl
      rotate_left
      · simp only [Act.put, List.setIfInBounds_toArray, List.set_cons_zero, List.set_cons_succ, i64_w, i32_w]
        rfl
      refine one_ (i := 31) (N := some 104) #[true, true, true, true, true, true, true, true, true, true, true, true, true, true, true, true, true, true, true, true, true, true, true, true, true, true, true, true, true, true, true, true, false, false] rfl rfl (one_of HT_.out (by kernel_rfl)) (by decide) (fun K hK => ?_)
      refine goes_ Tryd.func58 (by kernel_rfl) rfl #[v67 x.f0 x.f1 (some ad) x.f2.length c, v67 x.f0 x.f1 (some ⟨g, 0, none⟩) x.f2.length cc] (by rfl) rfl rfl (by (try simp only [List.map_toArray, List.map_cons, List.map_nil]); first | done | rfl) ?_
      refine (SVX.out _ (some ⟨g, 0, none⟩) cc (E2.out.trans (D8.out.mono E2.out.size)) L6.out (c_later C9.out D8.out)).mono ?_
      rintro e z9 ⟨rfl, hb⟩
      refine ⟨_, rfl, hK.out _ _ ⟨pw_cell_below hb hHeld.1, pw_cell_below hb hHeld.2.1, pw_cell_below hb hHeld.2.2.1, pw_cell_below hb hHeld.2.2.2.1, pw_cell_below hb hHeld.2.2.2.2.1, pw_cell_below hb hHeld.2.2.2.2.2.1, pw_cell_below hb hHeld.2.2.2.2.2.2.1, pw_cell_below hb hHeld.2.2.2.2.2.2.2.1, pw_cell_below hb hHeld.2.2.2.2.2.2.2.2⟩ (fun hHeld => ?_)⟩
      have D9 := Lib.hid (D8.out.trans (hb.mono D8.out.size))
      clear hb
      clear hK K
      refine norm_ (a' := ?_) ?_ ?_
      rotate_left
      · show Act.put _ (some 104) _ = _
        simp only [Act.put, List.setIfInBounds_toArray, List.set_cons_zero, List.set_cons_succ, i64_w, i32_w]
        rfl
      refine pure_ (i := 32) (N := some 105) (v := ?_) (a' := ?_) #[true, true, true, true, true, true, true, true, true, true, true, true, true, true, true, true, true, true, true, true, true, true, true, true, true, true, true, true, true, true, true, true, true, false] rfl rfl (any_of HT_.out (by kernel_rfl)) (fun _ _ _ h => h) (Or.inl ⟨by rfl, ?_⟩) ?_ ?_
      rotate_left
      · intro w'
        go_simp
        with_reducible rfl
      rotate_left
      · simp only [Act.put, List.setIfInBounds_toArray, List.set_cons_zero, List.set_cons_succ, i64_w, i32_w]
        rfl
      refine pure_ (i := 33) (N := some 4) (v := ?_) (a' := ?_) #[true, true, true, true, true, true, true, true, true, true, true, true, true, true, true, true, true, true, true, true, true, true, true, true, true, true, true, true, true, true, true, true, true, true] rfl rfl (any_of HT_.out (by kernel_rfl)) (fun _ _ _ h => h) (Or.inl ⟨by rfl, ?_⟩) ?_ ?_
      rotate_left
      · intro w'
        go_simp
        with_reducible rfl
      rotate_left
      · simp only [Act.put, List.setIfInBounds_toArray, List.set_cons_zero, List.set_cons_succ, i64_w, i32_w]
        rfl
      refine done_ (done_of HT_.out (by kernel_rfl)) ?_
      go_wp2_with fail
      go_ret
      exact ⟨rfl, E2.out.trans (D9.out.mono E2.out.size)⟩
    · have p1 : decide ((0 : Int) < (x.f2.length : Int)) = false := decide_eq_false (by omega)
      go_upto_region 15 with (fail)
      have qrr := bb2 (right x)
      have qss := bb2 (same x y)
      refine start_ (n := 34) (S := fun w' => w'.cell? ⟨g2, 0, none⟩ = some (.int .i64 x.f0) ∧ w'.cell? ⟨g2, 1, none⟩ = some (.int .i64 x.f1) ∧ w'.cell? ⟨g2, 2, none⟩ = some (.slice A x.f2.length c) ∧ w'.cell? ⟨g3, 0, none⟩ = some (.int .i64 y.f0) ∧ w'.cell? ⟨g3, 1, none⟩ = some (.int .i64 y.f1) ∧ w'.cell? ⟨g3, 2, none⟩ = some (.slice A2 y.f2.length c2) ∧ w'.cell? ⟨g5, 0, none⟩ = some (.int .i64 x.f0) ∧ w'.cell? ⟨g5, 1, none⟩ = some (.int .i64 x.f1) ∧ w'.cell? ⟨g5, 2, none⟩ = some (.slice AC x.f2.length cc)) (ds := []) #[false, false, false, false, false, false, false, false, false, false, false, false, false, false, false, false, false, false, false, false, false, false, false, false, false, false, false, false, false, false, false, false, false, false] (by kernel_rfl) rfl rfl ⟨m20, m21, m22, m30, m31, m32, m50, m51, m52⟩ (fun hHeld => ?_)
      refine with_tabW t15 b15 (fun HT_ HW_ => ?_)
      have D0 := Lib.hid (below_drew (Below.refl t0w3.heap.size t0w3))
      generalize World.drew t0w3 = z0 at *
      clear m20 m21 m22 m30 m31 m32 m50 m51 m52
      refine take_ (i := 0) (N := some 73) (v := ?_) (a' := ?_) #[true, false, false, false, false, false, false, false, false, false, false, false, false, false, false, false, false, false, false, false, false, false, false, false, false, false, false, false, false, false, false, false, false, false] rfl rfl (take_ofW HT_.out HW_.out (by kernel_rfl)) (fun _ _ _ h => h) (Or.inl ⟨by rfl, ?_⟩) hHeld ?_ ?_
      rotate_left
      · rintro w' ⟨s0, s1, s2, s3, s4, s5, s6, s7, s8⟩
        go_simp
        with_reducible rfl
      rotate_left
      · simp only [Act.put, List.setIfInBounds_toArray, List.set_cons_zero, List.set_cons_succ, i64_w, i32_w]
        rfl
      refine take_ (i := 2) (N := some 75) (v := ?_) (a' := ?_) #[true, false, true, false, false, false, false, false, false, false, false, false, false, false, false, false, false, false, false, false, false, false, false, false, false, false, false, false, false, false, false, false, false, false] rfl rfl (take_ofW HT_.out HW_.out (by kernel_rfl)) (fun _ _ _ h => h) (Or.inl ⟨by rfl, ?_⟩) hHeld ?_ ?_
      rotate_left
      · rintro w' ⟨s0, s1, s2, s3, s4, s5, s6, s7, s8⟩
        go_simp
        with_reducible rfl
      rotate_left
      · simp only [Act.put, List.setIfInBounds_toArray, List.set_cons_zero, List.set_cons_succ, i64_w, i32_w]
        rfl
      refine one_ (i := 1) (N := some 74) #[true, true, true, false, false, false, false, false, false, false, false, false, false, false, false, false, false, false, false, false, false, false, false, false, false, false, false, false, false, false, false, false, false, false] rfl rfl (one_of HT_.out (by kernel_rfl)) (by decide) (fun K hK => ?_)
      refine goes_ Tryd.func52 (by kernel_rfl) rfl #[v67 x.f0 x.f1 A x.f2.length c] (by rfl) rfl rfl (by (try simp only [List.map_toArray, List.map_cons, List.map_nil]); first | done | rfl) ?_
      refine (VX.out _ (E0.out.trans (D0.out.mono E0.out.size))).mono ?_
      rintro e z1 ⟨rfl, hb⟩
      refine ⟨_, rfl, hK.out _ _ ⟨pw_cell_below hb hHeld.1, pw_cell_below hb hHeld.2.1, pw_cell_below hb hHeld.2.2.1, pw_cell_below hb hHeld.2.2.2.1, pw_cell_below hb hHeld.2.2.2.2.1, pw_cell_below hb hHeld.2.2.2.2.2.1, pw_cell_below hb hHeld.2.2.2.2.2.2.1, pw_cell_below hb hHeld.2.2.2.2.2.2.2.1, pw_cell_below hb hHeld.2.2.2.2.2.2.2.2⟩ (fun hHeld => ?_)⟩
      have D1 := Lib.hid (D0.out.trans (hb.mono D0.out.size))
      clear hb
      clear hK K
      refine norm_ (a' := ?_) ?_ ?_
      rotate_left
      · show Act.put _ (some 74) _ = _
        simp only [Act.put, List.setIfInBounds_toArray, List.set_cons_zero, List.set_cons_succ, i64_w, i32_w]
        rfl
      refine one_ (i := 3) (N := some 76) #[true, true, true, true, false, false, false, false, false, false, false, false, false, false, false, false, false, false, false, false, false, false, false, false, false, false, false, false, false, false, false, false, false, false] rfl rfl (one_of HT_.out (by kernel_rfl)) (by decide) (fun K hK => ?_)
      refine goes_ Tryd.func43 (by kernel_rfl) rfl #[v67 x.f0 x.f1 A x.f2.length c] (by rfl) rfl rfl (by (try simp only [List.map_toArray, List.map_cons, List.map_nil]); first | done | rfl) ?_
      refine (RX.out _ (E0.out.trans (D1.out.mono E0.out.size))).mono ?_
      rintro e z2 ⟨rfl, hb⟩
      refine ⟨_, rfl, hK.out _ _ ⟨pw_cell_below hb hHeld.1, pw_cell_below hb hHeld.2.1, pw_cell_below hb hHeld.2.2.1, pw_cell_below hb hHeld.2.2.2.1, pw_cell_below hb hHeld.2.2.2.2.1, pw_cell_below hb hHeld.2.2.2.2.2.1, pw_cell_below hb hHeld.2.2.2.2.2.2.1, pw_cell_below hb hHeld.2.2.2.2.2.2.2.1, pw_cell_below hb hHeld.2.2.2.2.2.2.2.2⟩ (fun hHeld => ?_)⟩
      have D2 := Lib.hid (D1.out.trans (hb.mono D1.out.size))
      clear hb
      clear hK K
      refine norm_ (a' := ?_) ?_ ?_
      rotate_left
      · show Act.put _ (some 76) _ = _
        simp only [Act.put, List.setIfInBounds_toArray, List.set_cons_zero, List.set_cons_succ, i64_w, i32_w]
        rfl
      refine pure_ (i := 4) (N := some 77) (v := ?_) (a' := ?_) #[true, true, true, true, true, false, false, false, false, false, false, false, false, false, false, false, false, false, false, false, false, false, false, false, false, false, false, false, false, false, false, false, false, false] rfl rfl (any_of HT_.out (by kernel_rfl)) (fun _ _ _ h => h) (Or.inl ⟨by rfl, ?_⟩) ?_ ?_
      rotate_left
      · intro w'
        go_simp
        with_reducible rfl
      rotate_left
      · simp only [Act.put, List.setIfInBounds_toArray, List.set_cons_zero, List.set_cons_succ, i64_w, i32_w]
        rfl
      refine pure_ (i := 5) (N := some 78) (v := ?_) (a' := ?_) #[true, true, true, true, true, true, false, false, false, false, false, false, false, false, false, false, false, false, false, false, false, false, false, false, false, false, false, false, false, false, false, false, false, false] rfl rfl (any_of HT_.out (by kernel_rfl)) (fun _ _ _ h => h) (Or.inl ⟨by rfl, ?_⟩) ?_ ?_
      rotate_left
      · intro w'
        go_simp
        with_reducible rfl
      rotate_left
      · simp only [Act.put, List.setIfInBounds_toArray, List.set_cons_zero, List.set_cons_succ, i64_w, i32_w]
        rfl
      refine take_ (i := 6) (N := some 79) (v := ?_) (a' := ?_) #[true, true, true, true, true, true, true, false, false, false, false, false, false, false, false, false, false, false, false, false, false, false, false, false, false, false, false, false, false, false, false, false, false, false] rfl rfl (take_ofW HT_.out HW_.out (by kernel_rfl)) (fun _ _ _ h => h) (Or.inl ⟨by rfl, ?_⟩) hHeld ?_ ?_
      rotate_left
      · rintro w' ⟨s0, s1, s2, s3, s4, s5, s6, s7, s8⟩
        go_simp
        with_reducible rfl
      rotate_left
      · simp only [Act.put, List.setIfInBounds_toArray, List.set_cons_zero, List.set_cons_succ, i64_w, i32_w]
        rfl
      refine take_ (i := 8) (N := some 81) (v := ?_) (a' := ?_) #[true, true, true, true, true, true, true, false, true, false, false, false, false, false, false, false, false, false, false, false, false, false, false, false, false, false, false, false, false, false, false, false, false, false] rfl rfl (take_ofW HT_.out HW_.out (by kernel_rfl)) (fun _ _ _ h => h) (Or.inl ⟨by rfl, ?_⟩) hHeld ?_ ?_
      rotate_left
      · rintro w' ⟨s0, s1, s2, s3, s4, s5, s6, s7, s8⟩
        go_simp
        with_reducible rfl
      rotate_left
      · simp only [Act.put, List.setIfInBounds_toArray, List.set_cons_zero, List.set_cons_succ, i64_w, i32_w]
        rfl
      refine one_ (i := 7) (N := some 80) #[true, true, true, true, true, true, true, true, true, false, false, false, false, false, false, false, false, false, false, false, false, false, false, false, false, false, false, false, false, false, false, false, false, false] rfl rfl (one_of HT_.out (by kernel_rfl)) (by decide) (fun K hK => ?_)
      refine goes_ Tryd.func54 (by kernel_rfl) rfl #[v67 x.f0 x.f1 A x.f2.length c] (by rfl) rfl rfl (by (try simp only [List.map_toArray, List.map_cons, List.map_nil]); first | done | rfl) ?_
      refine (ZX.out _ (E0.out.trans (D2.out.mono E0.out.size))).mono ?_
      rintro e z3 ⟨rfl, hb⟩
      refine ⟨_, rfl, hK.out _ _ ⟨pw_cell_below hb hHeld.1, pw_cell_below hb hHeld.2.1, pw_cell_below hb hHeld.2.2.1, pw_cell_below hb hHeld.2.2.2.1, pw_cell_below hb hHeld.2.2.2.2.1, pw_cell_below hb hHeld.2.2.2.2.2.1, pw_cell_below hb hHeld.2.2.2.2.2.2.1, pw_cell_below hb hHeld.2.2.2.2.2.2.2.1, pw_cell_below hb hHeld.2.2.2.2.2.2.2.2⟩ (fun hHeld => ?_)⟩
      have D3 := Lib.hid (D2.out.trans (hb.mono D2.out.size))
      clear hb
      clear hK K
      refine norm_ (a' := ?_) ?_ ?_
      rotate_left
      · show Act.put _ (some 80) _ = _
        simp only [Act.put, List.setIfInBounds_toArray, List.set_cons_zero, List.set_cons_succ, i64_w, i32_w]
        rfl
      refine one_ (i := 9) (N := some 82) #[true, true, true, true, true, true, true, true, true, true, false, false, false, false, false, false, false, false, false, false, false, false, false, false, false, false, false, false, false, false, false, false, false, false] rfl rfl (one_of HT_.out (by kernel_rfl)) (by decide) (fun K hK => ?_)
      refine goes_ Tryd.func55 (by kernel_rfl) rfl #[v67 x.f0 x.f1 A x.f2.length c] (by rfl) rfl rfl (by (try simp only [List.map_toArray, List.map_cons, List.map_nil]); first | done | rfl) ?_
      refine (ZR.out _ (E0.out.trans (D3.out.mono E0.out.size))).mono ?_
      rintro e z4 ⟨rfl, hb⟩
      refine ⟨_, rfl, hK.out _ _ ⟨pw_cell_below hb hHeld.1, pw_cell_below hb hHeld.2.1, pw_cell_below hb hHeld.2.2.1, pw_cell_below hb hHeld.2.2.2.1, pw_cell_below hb hHeld.2.2.2.2.1, pw_cell_below hb hHeld.2.2.2.2.2.1, pw_cell_below hb hHeld.2.2.2.2.2.2.1, pw_cell_below hb hHeld.2.2.2.2.2.2.2.1, pw_cell_below hb hHeld.2.2.2.2.2.2.2.2⟩ (fun hHeld => ?_)⟩
      have D4 := Lib.hid (D3.out.trans (hb.mono D3.out.size))
      clear hb
      clear hK K
      refine norm_ (a' := ?_) ?_ ?_
      rotate_left
      · show Act.put _ (some 82) _ = _
        simp only [Act.put, List.setIfInBounds_toArray, List.set_cons_zero, List.set_cons_succ, i64_w, i32_w]
        rfl
      refine pure_ (i := 10) (N := some 83) (v := ?_) (a' := ?_) #[true, true, true, true, true, true, true, true, true, true, true, false, false, false, false, false, false, false, false, false, false, false, false, false, false, false, false, false, false, false, false, false, false, false] rfl rfl (any_of HT_.out (by kernel_rfl)) (fun _ _ _ h => h) (Or.inl ⟨by rfl, ?_⟩) ?_ ?_
      rotate_left
      · intro w'
        go_simp
        with_reducible rfl
      rotate_left
      · simp only [Act.put, List.setIfInBounds_toArray, List.set_cons_zero, List.set_cons_succ, i64_w, i32_w]
        rfl
      refine pure_ (i := 11) (N := some 84) (v := ?_) (a' := ?_) #[true, true, true, true, true, true, true, true, true, true, true, true, false, false, false, false, false, false, false, false, false, false, false, false, false, false, false, false, false, false, false, false, false, false] rfl rfl (any_of HT_.out (by kernel_rfl)) (fun _ _ _ h => h) (Or.inl ⟨by rfl, ?_⟩) ?_ ?_
      rotate_left
      · intro w'
        go_simp
        with_reducible rfl
      rotate_left
      · simp only [Act.put, List.setIfInBounds_toArray, List.set_cons_zero, List.set_cons_succ, i64_w, i32_w]
        rfl
      refine pure_ (i := 12) (N := some 85) (v := ?_) (a' := ?_) #[true, true, true, true, true, true, true, true, true, true, true, true, true, false, false, false, false, false, false, false, false, false, false, false, false, false, false, false, false, false, false, false, false, false] rfl rfl (any_of HT_.out (by kernel_rfl)) (fun _ _ _ h => h) (Or.inl ⟨by rfl, ?_⟩) ?_ ?_
      rotate_left
      · intro w'
        go_simp
        with_reducible rfl
      rotate_left
      · simp only [Act.put, List.setIfInBounds_toArray, List.set_cons_zero, List.set_cons_succ, i64_w, i32_w]
        rfl
      refine take_ (i := 13) (N := some 86) (v := ?_) (a' := ?_) #[true, true, true, true, true, true, true, true, true, true, true, true, true, true, false, false, false, false, false, false, false, false, false, false, false, false, false, false, false, false, false, false, false, false] rfl rfl (take_ofW HT_.out HW_.out (by kernel_rfl)) (fun _ _ _ h => h) (Or.inl ⟨by rfl, ?_⟩) hHeld ?_ ?_
      rotate_left
      · rintro w' ⟨s0, s1, s2, s3, s4, s5, s6, s7, s8⟩
        go_simp
        with_reducible rfl
      rotate_left
      · simp only [Act.put, List.setIfInBounds_toArray, List.set_cons_zero, List.set_cons_succ, i64_w, i32_w]
        rfl
      refine take_ (i := 15) (N := some 88) (v := ?_) (a' := ?_) #[true, true, true, true, true, true, true, true, true, true, true, true, true, true, false, true, false, false, false, false, false, false, false, false, false, false, false, false, false, false, false, false, false, false] rfl rfl (take_ofW HT_.out HW_.out (by kernel_rfl)) (fun _ _ _ h => h) (Or.inl ⟨by rfl, ?_⟩) hHeld ?_ ?_
      rotate_left
      · rintro w' ⟨s0, s1, s2, s3, s4, s5, s6, s7, s8⟩
        go_simp
        with_reducible rfl
      rotate_left
      · simp only [Act.put, List.setIfInBounds_toArray, List.set_cons_zero, List.set_cons_succ, i64_w, i32_w]
        rfl
      refine one_ (i := 14) (N := some 87) #[true, true, true, true, true, true, true, true, true, true, true, true, true, true, true, true, false, false, false, false, false, false, false, false, false, false, false, false, false, false, false, false, false, false] rfl rfl (one_of HT_.out (by kernel_rfl)) (by decide) (fun K hK => ?_)
      refine goes_ Tryd.func56 (by kernel_rfl) rfl #[v67 x.f0 x.f1 A x.f2.length c] (by rfl) rfl rfl (by (try simp only [List.map_toArray, List.map_cons, List.map_nil]); first | done | rfl) ?_
      refine (DX.out _ (E0.out.trans (D4.out.mono E0.out.size))).mono ?_
      rintro e z5 ⟨rfl, hb⟩
      refine ⟨_, rfl, hK.out _ _ ⟨pw_cell_below hb hHeld.1, pw_cell_below hb hHeld.2.1, pw_cell_below hb hHeld.2.2.1, pw_cell_below hb hHeld.2.2.2.1, pw_cell_below hb hHeld.2.2.2.2.1, pw_cell_below hb hHeld.2.2.2.2.2.1, pw_cell_below hb hHeld.2.2.2.2.2.2.1, pw_cell_below hb hHeld.2.2.2.2.2.2.2.1, pw_cell_below hb hHeld.2.2.2.2.2.2.2.2⟩ (fun hHeld => ?_)⟩
      have D5 := Lib.hid (D4.out.trans (hb.mono D4.out.size))
      clear hb
      clear hK K
      refine norm_ (a' := ?_) ?_ ?_
      rotate_left
      · show Act.put _ (some 87) _ = _
        simp only [Act.put, List.setIfInBounds_toArray, List.set_cons_zero, List.set_cons_succ, i64_w, i32_w]
        rfl
      refine one_ (i := 16) (N := some 89) #[true, true, true, true, true, true, true, true, true, true, true, true, true, true, true, true, true, false, false, false, false, false, false, false, false, false, false, false, false, false, false, false, false, false] rfl rfl (one_of HT_.out (by kernel_rfl)) (by decide) (fun K hK => ?_)
      refine goes_ Tryd.func57 (by kernel_rfl) rfl #[v67 x.f0 x.f1 A x.f2.length c] (by rfl) rfl rfl (by (try simp only [List.map_toArray, List.map_cons, List.map_nil]); first | done | rfl) ?_
      refine (DR.out _ (E0.out.trans (D5.out.mono E0.out.size))).mono ?_
      rintro e z6 ⟨rfl, hb⟩
      refine ⟨_, rfl, hK.out _ _ ⟨pw_cell_below hb hHeld.1, pw_cell_below hb hHeld.2.1, pw_cell_below hb hHeld.2.2.1, pw_cell_below hb hHeld.2.2.2.1, pw_cell_below hb hHeld.2.2.2.2.1, pw_cell_below hb hHeld.2.2.2.2.2.1, pw_cell_below hb hHeld.2.2.2.2.2.2.1, pw_cell_below hb hHeld.2.2.2.2.2.2.2.1, pw_cell_below hb hHeld.2.2.2.2.2.2.2.2⟩ (fun hHeld => ?_)⟩
      have D6 := Lib.hid (D5.out.trans (hb.mono D5.out.size))
      clear hb
      clear hK K
      refine norm_ (a' := ?_) ?_ ?_
      rotate_left
      · show Act.put _ (some 89) _ = _
        simp only [Act.put, List.setIfInBounds_toArray, List.set_cons_zero, List.set_cons_succ, i64_w, i32_w]
        rfl
      refine pure_ (i := 17) (N := some 90) (v := ?_) (a' := ?_) #[true, true, true, true, true, true, true, true, true, true, true, true, true, true, true, true, true, true, false, false, false, false, false, false, false, false, false, false, false, false, false, false, false, false] rfl rfl (any_of HT_.out (by kernel_rfl)) (fun _ _ _ h => h) (Or.inl ⟨by rfl, ?_⟩) ?_ ?_
      rotate_left
      · intro w'
        go_simp
        with_reducible rfl
      rotate_left
      · simp only [Act.put, List.setIfInBounds_toArray, List.set_cons_zero, List.set_cons_succ, i64_w, i32_w]
        rfl
      refine pure_ (i := 18) (N := some 91) (v := ?_) (a' := ?_) #[true, true, true, true, true, true, true, true, true, true, true, true, true, true, true, true, true, true, true, false, false, false, false, false, false, false, false, false, false, false, false, false, false, false] rfl rfl (any_of HT_.out (by kernel_rfl)) (fun _ _ _ h => h) (Or.inl ⟨by rfl, ?_⟩) ?_ ?_
      rotate_left
      · intro w'
        go_simp
        with_reducible rfl
      rotate_left
      · simp only [Act.put, List.setIfInBounds_toArray, List.set_cons_zero, List.set_cons_succ, i64_w, i32_w]
        rfl
      refine pure_ (i := 19) (N := some 92) (v := ?_) (a' := ?_) #[true, true, true, true, true, true, true, true, true, true, true, true, true, true, true, true, true, true, true, true, false, false, false, false, false, false, false, false, false, false, false, false, false, false] rfl rfl (any_of HT_.out (by kernel_rfl)) (fun _ _ _ h => h) (Or.inl ⟨by rfl, ?_⟩) ?_ ?_
      rotate_left
      · intro w'
        go_simp
        with_reducible rfl
      rotate_left
      · simp only [Act.put, List.setIfInBounds_toArray, List.set_cons_zero, List.set_cons_succ, i64_w, i32_w]
        rfl
      refine take_ (i := 20) (N := some 93) (v := ?_) (a' := ?_) #[true, true, true, true, true, true, true, true, true, true, true, true, true, true, true, true, true, true, true, true, true, false, false, false, false, false, false, false, false, false, false, false, false, false] rfl rfl (take_ofW HT_.out HW_.out (by kernel_rfl)) (fun _ _ _ h => h) (Or.inl ⟨by rfl, ?_⟩) hHeld ?_ ?_
      rotate_left
      · rintro w' ⟨s0, s1, s2, s3, s4, s5, s6, s7, s8⟩
        go_simp
        with_reducible rfl
      rotate_left
      · simp only [Act.put, List.setIfInBounds_toArray, List.set_cons_zero, List.set_cons_succ, i64_w, i32_w]
        rfl
      refine take_ (i := 21) (N := some 94) (v := ?_) (a' := ?_) #[true, true, true, true, true, true, true, true, true, true, true, true, true, true, true, true, true, true, true, true, true, true, false, false, false, false, false, false, false, false, false, false, false, false] rfl rfl (take_ofW HT_.out HW_.out (by kernel_rfl)) (fun _ _ _ h => h) (Or.inl ⟨by rfl, ?_⟩) hHeld ?_ ?_
      rotate_left
      · rintro w' ⟨s0, s1, s2, s3, s4, s5, s6, s7, s8⟩
        go_simp
        with_reducible rfl
      rotate_left
      · simp only [Act.put, List.setIfInBounds_toArray, List.set_cons_zero, List.set_cons_succ, i64_w, i32_w]
        rfl
      refine take_ (i := 23) (N := some 96) (v := ?_) (a' := ?_) #[true, true, true, true, true, true, true, true, true, true, true, true, true, true, true, true, true, true, true, true, true, true, false, true, false, false, false, false, false, false, false, false, false, false] rfl rfl (take_ofW HT_.out HW_.out (by kernel_rfl)) (fun _ _ _ h => h) (Or.inl ⟨by rfl, ?_⟩) hHeld ?_ ?_
      rotate_left
      · rintro w' ⟨s0, s1, s2, s3, s4, s5, s6, s7, s8⟩
        go_simp
        with_reducible rfl
      rotate_left
      · simp only [Act.put, List.setIfInBounds_toArray, List.set_cons_zero, List.set_cons_succ, i64_w, i32_w]
        rfl
      refine take_ (i := 24) (N := some 97) (v := ?_) (a' := ?_) #[true, true, true, true, true, true, true, true, true, true, true, true, true, true, true, true, true, true, true, true, true, true, false, true, true, false, false, false, false, false, false, false, false, false] rfl rfl (take_ofW HT_.out HW_.out (by kernel_rfl)) (fun _ _ _ h => h) (Or.inl ⟨by rfl, ?_⟩) hHeld ?_ ?_
      rotate_left
      · rintro w' ⟨s0, s1, s2, s3, s4, s5, s6, s7, s8⟩
        go_simp
        with_reducible rfl
      rotate_left
      · simp only [Act.put, List.setIfInBounds_toArray, List.set_cons_zero, List.set_cons_succ, i64_w, i32_w]
        rfl
      refine one_ (i := 22) (N := some 95) #[true, true, true, true, true, true, true, true, true, true, true, true, true, true, true, true, true, true, true, true, true, true, true, true, true, false, false, false, false, false, false, false, false, false] rfl rfl (one_of HT_.out (by kernel_rfl)) (by decide) (fun K hK => ?_)
      refine goes_ Tryd.func58 (by kernel_rfl) rfl #[v67 x.f0 x.f1 A x.f2.length c, v67 y.f0 y.f1 A2 y.f2.length c2] (by rfl) rfl rfl (by (try simp only [List.map_toArray, List.map_cons, List.map_nil]); first | done | rfl) ?_
      refine (SXY.out _ (E0.out.trans (D6.out.mono E0.out.size))).mono ?_
      rintro e z7 ⟨rfl, hb⟩
      refine ⟨_, rfl, hK.out _ _ ⟨pw_cell_below hb hHeld.1, pw_cell_below hb hHeld.2.1, pw_cell_below hb hHeld.2.2.1, pw_cell_below hb hHeld.2.2.2.1, pw_cell_below hb hHeld.2.2.2.2.1, pw_cell_below hb hHeld.2.2.2.2.2.1, pw_cell_below hb hHeld.2.2.2.2.2.2.1, pw_cell_below hb hHeld.2.2.2.2.2.2.2.1, pw_cell_below hb hHeld.2.2.2.2.2.2.2.2⟩ (fun hHeld => ?_)⟩
      have D7 := Lib.hid (D6.out.trans (hb.mono D6.out.size))
      clear hb
      clear hK K
      refine norm_ (a' := ?_) ?_ ?_
      rotate_left
      · show Act.put _ (some 95) _ = _
        simp only [Act.put, List.setIfInBounds_toArray, List.set_cons_zero, List.set_cons_succ, i64_w, i32_w]
        rfl
      refine one_ (i := 25) (N := some 98) #[true, true, true, true, true, true, true, true, true, true, true, true, true, true, true, true, true, true, true, true, true, true, true, true, true, true, false, false, false, false, false, false, false, false] rfl rfl (one_of HT_.out (by kernel_rfl)) (by decide) (fun K hK => ?_)
      refine goes_ Tryd.func45 (by kernel_rfl) rfl #[v67 x.f0 x.f1 A x.f2.length c, v67 y.f0 y.f1 A2 y.f2.length c2] (by rfl) rfl rfl (by (try simp only [List.map_toArray, List.map_cons, List.map_nil]); first | done | rfl) ?_
      refine (SRY.out _ (E0.out.trans (D7.out.mono E0.out.size))).mono ?_
      rintro e z8 ⟨rfl, hb⟩
      refine ⟨_, rfl, hK.out _ _ ⟨pw_cell_below hb hHeld.1, pw_cell_below hb hHeld.2.1, pw_cell_below hb hHeld.2.2.1, pw_cell_below hb hHeld.2.2.2.1, pw_cell_below hb hHeld.2.2.2.2.1, pw_cell_below hb hHeld.2.2.2.2.2.1, pw_cell_below hb hHeld.2.2.2.2.2.2.1, pw_cell_below hb hHeld.2.2.2.2.2.2.2.1, pw_cell_below hb hHeld.2.2.2.2.2.2.2.2⟩ (fun hHeld => ?_)⟩
      have D8 := Lib.hid (D7.out.trans (hb.mono D7.out.size))
      clear hb
      clear hK K
      refine norm_ (a' := ?_) ?_ ?_
      rotate_left
      · show Act.put _ (some 98) _ = _
        simp only [Act.put, List.setIfInBounds_toArray, List.set_cons_zero, List.set_cons_succ, i64_w, i32_w]
        rfl
      refine pure_ (i := 26) (N := some 99) (v := ?_) (a' := ?_) #[true, true, true, true, true, true, true, true, true, true, true, true, true, true, true, true, true, true, true, true, true, true, true, true, true, true, true, false, false, false, false, false, false, false] rfl rfl (any_of HT_.out (by kernel_rfl)) (fun _ _ _ h => h) (Or.inl ⟨by rfl, ?_⟩) ?_ ?_
      rotate_left
      · intro w'
        go_simp
        with_reducible rfl
      rotate_left
      · simp only [Act.put, List.setIfInBounds_toArray, List.set_cons_zero, List.set_cons_succ, i64_w, i32_w]
        rfl
      refine pure_ (i := 27) (N := some 100) (v := ?_) (a' := ?_) #[true, true, true, true, true, true, true, true, true, true, true, true, true, true, true, true, true, true, true, true, true, true, true, true, true, true, true, true, false, false, false, false, false, false] rfl rfl (any_of HT_.out (by kernel_rfl)) (fun _ _ _ h => h) (Or.inl ⟨by rfl, ?_⟩) ?_ ?_
      rotate_left
      · intro w'
        go_simp
        with_reducible rfl
      rotate_left
      · simp only [Act.put, List.setIfInBounds_toArray, List.set_cons_zero, List.set_cons_succ, i64_w, i32_w]
        rfl
      refine pure_ (i := 28) (N := some 101) (v := ?_) (a' := ?_) #[true, true, true, true, true, true, true, true, true, true, true, true, true, true, true, true, true, true, true, true, true, true, true, true, true, true, true, true, true, false, false, false, false, false] rfl rfl (any_of HT_.out (by kernel_rfl)) (fun _ _ _ h => h) (Or.inl ⟨by rfl, ?_⟩) ?_ ?_
      rotate_left
      · intro w'
        go_simp
        with_reducible rfl
      rotate_left
      · simp only [Act.put, List.setIfInBounds_toArray, List.set_cons_zero, List.set_cons_succ, i64_w, i32_w]
        rfl
      refine take_ (i := 29) (N := some 102) (v := ?_) (a' := ?_) #[true, true, true, true, true, true, true, true, true, true, true, true, true, true, true, true, true, true, true, true, true, true, true, true, true, true, true, true, true, true, false, false, false, false] rfl rfl (take_ofW HT_.out HW_.out (by kernel_rfl)) (fun _ _ _ h => h) (Or.inl ⟨by rfl, ?_⟩) hHeld ?_ ?_
      rotate_left
      · rintro w' ⟨s0, s1, s2, s3, s4, s5, s6, s7, s8⟩
        go_simp
        with_reducible rfl
      rotate_left
      · simp only [Act.put, List.setIfInBounds_toArray, List.set_cons_zero, List.set_cons_succ, i64_w, i32_w]
        rfl
      refine take_ (i := 30) (N := some 103) (v := ?_) (a' := ?_) #[true, true, true, true, true, true, true, true, true, true, true, true, true, true, true, true, true, true, true, true, true, true, true, true, true, true, true, true, true, true, true, false, false, false] rfl rfl (take_ofW HT_.out HW_.out (by kernel_rfl)) (fun _ _ _ h => h) (Or.inl ⟨by rfl, ?_⟩) hHeld ?_ ?_
      rotate_left
      · rintro w' ⟨s0, s1, s2, s3, s4, s5, s6, s7, s8⟩
        go_simp
        with_reducible rfl
      rotate_left
      · simp only [Act.put, List.setIfInBounds_toArray, List.set_cons_zero, List.set_cons_succ, i64_w, i32_w]
        rfl
      refine one_ (i := 31) (N := some 104) #[true, true, true, true, true, true, true, true, true, true, true, true, true, true, true, true, true, true, true, true, true, true, true, true, true, true, true, true, true, true, true, true, false, false] rfl rfl (one_of HT_.out (by kernel_rfl)) (by decide) (fun K hK => ?_)
      refine goes_ Tryd.func58 (by kernel_rfl) rfl #[v67 x.f0 x.f1 A x.f2.length c, v67 x.f0 x.f1 AC x.f2.length cc] (by rfl) rfl rfl (by (try simp only [List.map_toArray, List.map_cons, List.map_nil]); first | done | rfl) ?_
      refine (SVX.out _ AC cc (E0.out.trans (D8.out.mono E0.out.size)) L6.out (c_later C7.out D8.out)).mono ?_
      rintro e z9 ⟨rfl, hb⟩
      refine ⟨_, rfl, hK.out _ _ ⟨pw_cell_below hb hHeld.1, pw_cell_below hb hHeld.2.1, pw_cell_below hb hHeld.2.2.1, pw_cell_below hb hHeld.2.2.2.1, pw_cell_below hb hHeld.2.2.2.2.1, pw_cell_below hb hHeld.2.2.2.2.2.1, pw_cell_below hb hHeld.2.2.2.2.2.2.1, pw_cell_below hb hHeld.2.2.2.2.2.2.2.1, pw_cell_below hb hHeld.2.2.2.2.2.2.2.2⟩ (fun hHeld => ?_)⟩
      have D9 := Lib.hid (D8.out.trans (hb.mono D8.out.size))
      clear hb
      clear hK K
      refine norm_ (a' := ?_) ?_ ?_
      rotate_left
      · show Act.put _ (some 104) _ = _
        simp only [Act.put, List.setIfInBounds_toArray, List.set_cons_zero, List.set_cons_succ, i64_w, i32_w]
        rfl
      refine pure_ (i := 32) (N := some 105) (v := ?_) (a' := ?_) #[true, true, true, true, true, true, true, true, true, true, true, true, true, true, true, true, true, true, true, true, true, true, true, true, true, true, true, true, true, true, true, true, true, false] rfl rfl (any_of HT_.out (by kernel_rfl)) (fun _ _ _ h => h) (Or.inl ⟨by rfl, ?_⟩) ?_ ?_
      rotate_left
      · intro w'
        go_simp
        with_reducible rfl
      rotate_left
      · simp only [Act.put, List.setIfInBounds_toArray, List.set_cons_zero, List.set_cons_succ, i64_w, i32_w]
        rfl
      refine pure_ (i := 33) (N := some 4) (v := ?_) (a' := ?_) #[true, true, true, true, true, true, true, true, true, true, true, true, true, true, true, true, true, true, true, true, true, true, true, true, true, true, true, true, true, true, true, true, true, true] rfl rfl (any_of HT_.out (by kernel_rfl)) (fun _ _ _ h => h) (Or.inl ⟨by rfl, ?_⟩) ?_ ?_
      rotate_left
      · intro w'
        go_simp
        with_reducible rfl
      rotate_left
      · simp only [Act.put, List.setIfInBounds_toArray, List.set_cons_zero, List.set_cons_succ, i64_w, i32_w]
        rfl
      refine done_ (done_of HT_.out (by kernel_rfl)) ?_
      go_wp2_with fail
      go_ret
      exact ⟨rfl, E0.out.trans (D9.out.mono E0.out.size)⟩

end Go.Proofs.YtfofpammnfcmiaaDoor.Vl
