/- Marline, layer 08: a value's bytes, and those of values, by the program. Conditions: as each says. -/
import Derived.Test.YtggdpeeiioibgaaPCx3
import Derived.Test.YtggdpeeiioibgaaPCx1
import Derived.Lib.Zigzag
import Derived.Laws.BitsAllLaws
namespace Go.Proofs.Ytggdpeeiioibgaa.E
open Go.RowKit Go.Proofs.YtggdpeeiioibgaaW.PrintWords Go.Proofs.YtggdpeeiioibgaaW.PrintLast Go.Proofs.YtggdpeeiioibgaaW.PrintMore Go.Proofs.Ytggdpeeiioibgaa.Kinds Go.Proofs.Ytggdpeeiioibgaa.Obj
set_option linter.unusedVariables false
set_option linter.unusedSimpArgs false

/-- a number's groups, so many at most. -/
def leb : Nat → Nat → List Int
  | 0, m => [(m : Int) % 256]
  | k + 1, m => if m < 128 then [(m : Int)] else ((m % 128 + 128 : Nat) : Int) :: leb k (m / 128)
def grp (n : Int) : List Int := leb 9 (Go.Lib.zigzag n)
theorem leb_len : ∀ k m, (leb k m).length ≤ k + 1
  | 0, m => by simp [leb]
  | k + 1, m => by
    have := leb_len k (m / 128)
    unfold leb
    split
    · simp
    · simp; omega
theorem leb_pos : ∀ k m, 0 < (leb k m).length
  | 0, m => by simp [leb]
  | k + 1, m => by unfold leb; split <;> simp
theorem grp_len (n : Int) : (grp n).length ≤ 10 := leb_len 9 _
def i64 (n : Int) : Prop := -9223372036854775808 ≤ n ∧ n ≤ 9223372036854775807
theorem or128 (a : Int) (h0 : 0 ≤ a) (h1 : a < 256) : Go.bits .or .u8 a 128 = a % 128 + 128 := by
  have h := Go.Lib.or128_nat ⟨a.toNat, by omega⟩
  have e := u8_or a 128 h0 h1 (by omega) (by omega)
  rw [e]
  have h2 : a.toNat ||| (128 : Int).toNat = a.toNat % 128 + 128 := h
  rw [h2]; omega
theorem groups_l : ∀ (d m : Nat) (k : Nat) (l : List Int), m < 128 ^ (d + 1) → d + 1 ≤ k → l.length + d < 140737488355328 → PC.cell_groups.l0 k l (m : Int) = some (l ++ leb d m) := by
  intro d
  induction d with
  | zero =>
    intro m k l hm hk hl
    obtain ⟨k, rfl⟩ : ∃ q, k = q + 1 := ⟨k - 1, by omega⟩
    simp only [PC.cell_groups.l0]
    rw [if_neg (by simp at hm; omega), if_pos (by omega)]
    rfl
  | succ d ih =>
    intro m k l hm hk hl
    obtain ⟨k, rfl⟩ : ∃ q, k = q + 1 := ⟨k - 1, by omega⟩
    simp only [PC.cell_groups.l0, leb]
    by_cases h : m < 128
    · rw [if_neg (by omega), if_pos (by omega), if_pos h, Int.emod_eq_of_lt (by omega) (by omega)]
    · have e1 : ((m : Int) / 128) = ((m / 128 : Nat) : Int) := (Int.natCast_ediv m 128).symm
      have e2 : Go.bits .or .u8 ((m : Int) % 256) 128 = ((m % 128 + 128 : Nat) : Int) := by
        rw [or128 _ (by omega) (by omega)]; omega
      rw [if_pos (by omega), if_pos (by omega), if_neg h, e1, e2, ih (m / 128) k _ (by rw [Nat.pow_succ] at hm; exact Nat.div_lt_of_lt_mul (by rw [Nat.mul_comm]; exact hm)) (by omega) (by rw [List.length_append, List.length_singleton]; omega)]
      simp
theorem rgroups_l : ∀ (d m : Nat) (k : Nat) (l : List Int), m < 128 ^ (d + 1) → m < 18446744073709551616 → d + 1 ≤ k → l.length + d < 140737488355328 → PC.marlineref08_groups.l0 k (m : Int) l = some (l ++ leb d m) := by
  intro d
  induction d with
  | zero =>
    intro m k l hm hm2 hk hl
    obtain ⟨k, rfl⟩ : ∃ q, k = q + 1 := ⟨k - 1, by omega⟩
    simp only [PC.marlineref08_groups.l0]
    rw [if_neg (by simp at hm; omega), if_pos (by omega)]
    rfl
  | succ d ih =>
    intro m k l hm hm2 hk hl
    obtain ⟨k, rfl⟩ : ∃ q, k = q + 1 := ⟨k - 1, by omega⟩
    simp only [PC.marlineref08_groups.l0, leb]
    by_cases h : m < 128
    · rw [if_neg (by omega), if_pos (by omega), if_pos h, Int.emod_eq_of_lt (by omega) (by omega)]
    · have e1 : IntKind.u64.wrap (Int.tdiv (m : Int) 128) = ((m / 128 : Nat) : Int) := by
        rw [Int.tdiv_eq_ediv_of_nonneg (by omega), IntKind.wrap_u64]; omega
      have e2 : ((Int.tmod (m : Int) 128) + 128) % 256 = ((m % 128 + 128 : Nat) : Int) := by
        rw [Int.tmod_eq_emod_of_nonneg (by omega)]; omega
      rw [if_pos (by omega), if_pos (by omega), if_neg h, e1, e2, ih (m / 128) k _ (by rw [Nat.pow_succ] at hm; exact Nat.div_lt_of_lt_mul (by rw [Nat.mul_comm]; exact hm)) (by omega) (by omega) (by rw [List.length_append, List.length_singleton]; omega)]
      simp
theorem zz_pos (n : Int) (h : i64 n) (h0 : ¬ n < 0) : IntKind.u64.wrap ((IntKind.u64.wrap n) * 2) = ((Go.Lib.zigzag n : Nat) : Int) := by
  rw [Go.Lib.zigzag_nonneg (by omega), IntKind.wrap_u64, IntKind.wrap_u64]
  have := h.1; have := h.2; omega
theorem zz_neg (n : Int) (h : i64 n) (h0 : n < 0) : Go.bits .xor .u64 18446744073709551615 (IntKind.u64.wrap ((IntKind.u64.wrap n) * 2)) = ((Go.Lib.zigzag n : Nat) : Int) := by
  have e : IntKind.u64.max = 18446744073709551615 := by decide
  rw [← e]
  exact Go.Lib.zigzag_neg h.1 h0
theorem zz_lt (n : Int) (h : i64 n) : Go.Lib.zigzag n < 128 ^ (9 + 1) := Nat.lt_of_lt_of_le (Go.Lib.zigzag_lt h.1 h.2) (by decide)
theorem groups_ev (n : Int) (h : i64 n) (l : List Int) (hl : l.length + 9 < 140737488355328) : ∀ k, 11 ≤ k → PC.cell_groups.f k l n = some (l ++ grp n) := by
  intro k hk
  obtain ⟨k, rfl⟩ : ∃ q, k = q + 1 := ⟨k - 1, by omega⟩
  unfold PC.cell_groups.f
  by_cases h0 : n < 0
  · rw [if_pos h0, zz_neg n h h0]
    simp only [PC.cell_groups.j0]
    exact groups_l 9 _ k l (zz_lt n h) (by omega) hl
  · rw [if_neg h0, zz_pos n h h0]
    simp only [PC.cell_groups.j0]
    exact groups_l 9 _ k l (zz_lt n h) (by omega) hl
theorem rzz_neg (n : Int) (h : i64 n) (h0 : n < 0) : IntKind.u64.wrap ((IntKind.u64.wrap (2 * (Go.bits .xor .u64 18446744073709551615 (IntKind.u64.wrap n)))) + 1) = ((Go.Lib.zigzag n : Nat) : Int) := by
  have e1 : IntKind.u64.wrap n = (((n + 18446744073709551616).toNat : Nat) : Int) := by
    rw [IntKind.wrap_u64]; have := h.1; omega
  have e2 : (18446744073709551615 : Int) = ((2 ^ 64 - 1 : Nat) : Int) := by decide
  rw [e1, e2, u64_xor_nat _ _ (by decide) (by omega), Go.Lib.xor_ones64 _ (by omega), IntKind.wrap_u64, IntKind.wrap_u64]
  unfold Go.Lib.zigzag
  rw [if_neg (by omega)]
  have := h.1
  omega
theorem rgroups_ev (n : Int) (h : i64 n) : ∀ k, 12 ≤ k → PC.marlineref08_groups.f k n = some (grp n) := by
  intro k hk
  obtain ⟨k, rfl⟩ : ∃ q, k = q + 1 := ⟨k - 1, by omega⟩
  have hz := Go.Lib.zigzag_lt h.1 h.2
  unfold PC.marlineref08_groups.f
  by_cases h0 : n < 0
  · rw [if_neg (by omega), rzz_neg n h h0]
    simp only [PC.marlineref08_groups.j0]
    have := rgroups_l 9 _ k [] (zz_lt n h) hz (by omega) (by simp)
    rw [this]; rfl
  · have e : IntKind.u64.wrap (2 * (IntKind.u64.wrap n)) = ((Go.Lib.zigzag n : Nat) : Int) := by rw [Int.mul_comm]; exact zz_pos n h h0
    rw [if_pos (by omega), e]
    simp only [PC.marlineref08_groups.j0]
    have := rgroups_l 9 _ k [] (zz_lt n h) hz (by omega) (by simp)
    rw [this]; rfl
mutual
/-- a value's bytes. -/
def enc : S24 → List Int
  | ⟨k, n, l⟩ => k % 256 :: (if k = 0 then grp n else if k = 1 then [n % 256] else grp (l.length : Int) ++ encL l)
def encL : List S24 → List Int
  | [] => []
  | x :: l => enc x ++ encL l
end
mutual
theorem enc_len : ∀ x, (enc x).length ≤ 11 * sz x
  | ⟨k, n, l⟩ => by
    have h1 := grp_len n
    have h2 := grp_len (l.length : Int)
    have h3 := encL_len l
    have h4 : sz ⟨k, n, l⟩ = szL l + 1 := by simp [sz]
    rw [h4]
    unfold enc
    split
    · simp; omega
    · split
      · simp; omega
      · simp; omega
theorem encL_len : ∀ l, (encL l).length ≤ 11 * szL l
  | [] => by simp [encL]
  | x :: l => by
    have h1 := enc_len x
    have h2 := encL_len l
    simp only [encL, szL, List.length_append]; omega
end
theorem encL_append (l m : List S24) : encL (l ++ m) = encL l ++ encL m := by
  induction l with
  | nil => rfl
  | cons x l ih => simp only [List.cons_append, encL, ih, List.append_assoc]
theorem encL_step (l : List S24) (n : Nat) (h : n < l.length) : encL (l.take (n + 1)) = encL (l.take n) ++ enc (rd_T24 l n) := by
  rw [List.take_succ_eq_append_getElem h, encL_append, rd_eq l n h]
  simp [encL]
end Go.Proofs.Ytggdpeeiioibgaa.E
namespace Go.Proofs.Ytggdpeeiioibgaa.E
open Go.RowKit Go.Proofs.YtggdpeeiioibgaaW.PrintWords Go.Proofs.YtggdpeeiioibgaaW.PrintLast Go.Proofs.YtggdpeeiioibgaaW.PrintMore Go.Proofs.Ytggdpeeiioibgaa.Kinds Go.Proofs.Ytggdpeeiioibgaa.Obj
set_option linter.unusedVariables false
set_option linter.unusedSimpArgs false

/-- a row of bytes of one's own. -/
abbrev Rb (w : World) (base : Nat) (ok : Nat → Prop) (v : Value) (l : List Int) : Prop := Kd.R (Kd.int .u8) 5 w base ok v l
/-- the blocks of a row, and what is new. -/
def Mine (u : Value) (w : World) (k : Nat) : Prop := some k = u.ownBlock ∨ w.heap.size ≤ k
/-- what a call that writes behind a row comes to. -/
def Wrote (u : Value) (w0 w : World) (r : List Int) (e : Ending) (w' : World) : Prop :=
  ∃ v, e = .returned v ∧ Rb w' w0.heap.size (Mine u w) v r ∧ Below w0.heap.size w0 w' ∧ Kept w w' (fun k => some k = u.ownBlock)
theorem groups_is (u : Value) (l : List Int) (n : Int) (w0 w : World) (hn : i64 n) (hl : l.length + 9 < 140737488355328) (hB : Below w0.heap.size w0 w) (ho : Rb w w0.heap.size (fun _ => True) u l) :
    Calls Try.prog 89 #[u, .int .i64 n] w (Wrote u w0 w (l ++ grp n)) := by
  refine (PC.cell_groups.calls 11 (fun k => some k = u.ownBlock) u l n _ w0 w hB (Kd.R_tight rfl ho) (groups_ev n hn l hl 11 (Nat.le_refl _))).mono ?_
  rintro e w' ⟨v, rfl, h1, h2, h3⟩
  exact ⟨v, rfl, h1, h2, h3⟩
/-- what is known in the midst of write. -/
structure Wst (u : Value) (w0 w : World) (g : Nat) (x : S24) (A : Option Addr) (c : Nat) (W : World) (v : Value) (l : List Int) : Prop where
  var : Var W g x A c
  below : Below w0.heap.size w0 W
  kept : Kept w W (fun k => some k = u.ownBlock)
  row : Rb W w0.heap.size (fun k => Mine u w k ∧ k ≠ g) v l
section
variable {u : Value} {w0 w W W' : World} {g : Nat} {x : S24} {A : Option Addr} {c : Nat} {v : Value} {l r : List Int} {e : Ending}
theorem Wst.fin (h : Wst u w0 w g x A c W v l) : Wrote u w0 w l (.returned v) W := ⟨v, rfl, Kd.R_mono h.row (fun _ hk => hk.1), h.below, h.kept⟩
theorem Wst.any (h : Wst u w0 w g x A c W v l) : Rb W w0.heap.size (fun _ => True) v l := Kd.R_mono h.row (fun _ _ => trivial)
theorem Wst.call (h : Wst u w0 w g x A c W v l) (k : Wrote v w0 W r e W') : ∃ v', e = .returned v' ∧ Wst u w0 w g x A c W' v' r := by
  obtain ⟨v', he, h1, h2, h3⟩ := k
  have hg : g < W.heap.size := blk_lt h.var
  have hmine : ∀ k, some k = v.ownBlock → Mine u w k ∧ k ≠ g := fun k hk => h.row.1 k hk.symm
  exact ⟨v', he, blk_kept h.var h3 (fun hh => (hmine g hh).2 rfl), h2, h.kept.then_ h3 (fun k hk => (hmine k hk).1), Kd.R_mono h1 (fun k hk => hk.elim (hmine k) (fun hge => ⟨.inr (Nat.le_trans h.kept.1 hge), by omega⟩))⟩
theorem Wst.app (h : Wst u w0 w g x A c W v l) {v' : Value} (h1 : Rb W' w0.heap.size (fun k => Mine u w k ∧ k ≠ g) v' r) (h2 : Below w0.heap.size w0 W') (h3 : W.grownBy W' v.ownBlock) : Wst u w0 w g x A c W' v' r :=
  have hmine : ∀ k, some k = v.ownBlock → Mine u w k ∧ k ≠ g := fun k hk => h.row.1 k hk.symm
  ⟨blk_grown h.var h3 (fun hh => (hmine g hh).2 rfl), h2, h.kept.of_grown h3 (fun k hk => (hmine k hk.symm).1), h1⟩
theorem Wst.later (h : Wst u w0 w g x A c W v l) (hb : Below W.heap.size W W') : Wst u w0 w g x A c W' v l :=
  ⟨h.var.below hb, h.below.trans (hb.mono h.below.size), h.kept.below hb, Kd.R_below h.row hb⟩
theorem Wst.fresh (h : Wst u w0 w g x A c W v l) (k : Nat) (hk : W.heap.size ≤ k) : Mine u w k ∧ k ≠ g := by
  have hg : g < W.heap.size := blk_lt h.var
  exact ⟨.inr (Nat.le_trans h.kept.1 hk), by omega⟩
theorem Wst.new (hB : Below w0.heap.size w0 w) (ho : Rb w w0.heap.size (fun _ => True) u l) : Wst u w0 w w.heap.size x A c (w.alloc (.cells #[.int .i64 x.f0, .int .i64 x.f1, .slice A x.f2.length c] 24)) u l := by
  refine ⟨blk_new _ _, below_alloc hB _, (Kept.refl _ _).alloc _, Kd.R_mono (Kd.R_alloc (Kd.R_bound (Kd.R_tight rfl ho)) _) (fun k hk => ⟨.inl hk.1, ?_⟩)⟩
  have := hk.2.2.1
  omega
end
set_option maxHeartbeats 8000000 in
set_option maxRecDepth 100000 in
theorem write_of (u : Value) (l0 : List Int) (x : S24) (A : Option Addr) (c : Nat) (w0 w : World) (hB : Below w0.heap.size w0 w) (ho : Rb w w0.heap.size (fun _ => True) u l0) (hk : Kd24 w0 A c x)
    (hn : i64 x.f0 ∧ i64 x.f1) (hbig : l0.length + 11 * sz x ≤ 70368744177664)
    (ih : ∀ (y : S24) (B : Option Addr) (d : Nat) (v : Value) (l : List Int) (W : World), y ∈ x.f2 → Kd24 w0 B d y → Below w0.heap.size w0 W → Rb W w0.heap.size (fun _ => True) v l → l.length + 11 * sz y ≤ 70368744177664 →
      Calls Try.prog 69 #[v, v24 y.f0 y.f1 B y.f2.length d] W (Wrote v w0 W (l ++ enc y))) :
    Calls Try.prog 69 #[u, v24 x.f0 x.f1 A x.f2.length c] w (Wrote u w0 w (l0 ++ enc x)) := by
  have hu24 := Try.underlying24
  have HK := Lib.hid hk; have IH := Lib.hid ih; have HN := Lib.hid hn; have HG := Lib.hid hbig
  obtain ⟨g, hg⟩ : ∃ g, w.heap.size = g := ⟨_, rfl⟩
  have G : Hid (∃ w1 : World, w.alloc (.cells #[.int .i64 x.f0, .int .i64 x.f1, .slice A x.f2.length c] 24) = w1 ∧ Wst u w0 w g x A c w1 u l0) := Lib.hid ⟨_, rfl, by rw [← hg]; exact Wst.new hB ho⟩
  have hb0 := hB.size
  have hb1 := sz_pos x
  have m1 := CL hk.2
  have EG := Lib.hid hg
  have hbig2 : l0.length < 70368744177664 := by omega
  clear hB ho hk ih hn hbig hg
  go_enter Try.func69, Try.ntmps69
  go_upto_region 1 with (fail)
  rw [EG.out]
  obtain ⟨w1, hw1, s1⟩ := G.out
  rw [hw1]
  have S1 := Lib.hid s1
  obtain ⟨k0, k1, k2, f0, f1, f2⟩ := s1.var.cells
  have hb2 := s1.below.size
  clear G hw1 s1
  obtain ⟨l1, hl1⟩ : ∃ l1, l0 ++ [x.f0 % 256] = l1 := ⟨_, rfl⟩
  have EL1 := Lib.hid hl1
  clear hl1
  go_upto_region 2 with ((with_reducible refine gate_builtin (b := .append) (xs := #[.tmp 7, .tmp 11]) rfl ?_); at_builtin; refine Kd.R_append (Kd.int .u8) (w0 := w0) w0.heap.size rfl (.tmp 7) (.tmp 11) 44 5 (.int .u8 0) 1 rfl Try.underlying44 PC.info5 rfl (by decide) (by omega) u l0 (x.f0 % 256) [.int .u8 (x.f0 % 256)] (fun k => Mine u w k ∧ k ≠ g) (fun _ => False) rfl rfl ?aP (fun _ hk => hk.elim) ?aF ?aO ?aB ?aS ?aL ?_; (case aP => exact rfl); (case aF => exact S1.out.fresh); (case aO => exact S1.out.row); (case aB => exact S1.out.below); (case aS => exact hb2); (case aL => omega); intro v2 w2 h1 h2 h3 _; have S2 := Lib.hid (S1.out.app (by rw [EL1.out] at h1; exact h1) h2 h3); clear h1 h2 h3)
  have hl1 : l1.length ≤ l0.length + 1 := by rw [← EL1.out]; simp
  obtain ⟨b, hb⟩ : ∃ b, x.f0 = b := ⟨_, rfl⟩
  clear k0 k1 k2 f0 f1 f2
  obtain ⟨k0, k1, k2, f0, f1, f2⟩ := S2.out.var.cells
  have hb3 := S2.out.below.size
  rw [hb] at k0
  have EB := Lib.hid hb
  clear hb
  by_cases h0 : b = 0
  · subst h0
    have E : Hid (l0 ++ enc x = l1 ++ grp x.f1) := Lib.hid (by
      have := EB.out
      obtain ⟨a, n, m⟩ := x
      simp only at this
      subst this
      rw [← EL1.out]; simp [enc])
    go_wp2_with fail
    refine (groups_is v2 l1 x.f1 w0 w2 HN.out.2 (by omega) S2.out.below S2.out.any).mono ?_
    rintro e w3 hW
    obtain ⟨v3, rfl, s3⟩ := S2.out.call hW
    have S3 := Lib.hid s3
    clear hW s3
    go_wp2_with fail
    go_ret
    rw [E.out]
    exact S3.out.fin
  · have p0 : (b == 0) = false := beq_eq_false_iff_ne.2 h0
    by_cases h1 : b = 1
    · subst h1
      have E : Hid (l0 ++ enc x = l1 ++ [x.f1 % 256]) := Lib.hid (by
        have := EB.out
        obtain ⟨a, n, m⟩ := x
        simp only at this
        subst this
        rw [← EL1.out]; simp [enc])
      clear h0
      obtain ⟨l2, hl2⟩ : ∃ l2, l1 ++ [x.f1 % 256] = l2 := ⟨_, rfl⟩
      have EL2 := Lib.hid hl2
      clear hl2
      go_wp2_with ((with_reducible refine gate_builtin (b := .append) (xs := #[.tmp 23, .tmp 27]) rfl ?_); at_builtin; refine Kd.R_append (Kd.int .u8) (w0 := w0) w0.heap.size rfl (.tmp 23) (.tmp 27) 44 5 (.int .u8 0) 1 rfl Try.underlying44 PC.info5 rfl (by decide) (by omega) v2 l1 (x.f1 % 256) [.int .u8 (x.f1 % 256)] (fun k => Mine u w k ∧ k ≠ g) (fun _ => False) rfl rfl ?aP (fun _ hk => hk.elim) ?aF ?aO ?aB ?aS ?aL ?_; (case aP => exact rfl); (case aF => exact S2.out.fresh); (case aO => exact S2.out.row); (case aB => exact S2.out.below); (case aS => exact hb3); (case aL => omega); intro v3 w3 h1 h2 h3 _; have S3 := Lib.hid (S2.out.app (by rw [EL2.out] at h1; exact h1) h2 h3); clear h1 h2 h3)
      go_ret
      rw [E.out, EL2.out]
      exact S3.out.fin
    · have p1 : (b == 1) = false := beq_eq_false_iff_ne.2 h1
      have E : Hid (enc x = x.f0 % 256 :: (grp (x.f2.length : Int) ++ encL x.f2)) := Lib.hid (by
        have := EB.out
        obtain ⟨a, n, m⟩ := x
        simp only at this
        subst this
        simp [enc, h0, h1])
      clear h0 h1
      go_wp2_with fail
      refine (groups_is v2 l1 (x.f2.length : Int) w0 w2 ⟨by omega, by omega⟩ (by omega) S2.out.below S2.out.any).mono ?_
      rintro e w3 hW
      obtain ⟨v3, rfl, s3⟩ := S2.out.call hW
      obtain ⟨l3, hl3⟩ : ∃ l3, l1 ++ grp (x.f2.length : Int) = l3 := ⟨_, rfl⟩
      rw [hl3] at s3
      have hl4 : l3.length ≤ l0.length + 11 := by
        have := grp_len (x.f2.length : Int)
        rw [← hl3, List.length_append]; omega
      have EE : Hid (l0 ++ enc x = l3 ++ encL x.f2) := Lib.hid (by rw [E.out, ← hl3, ← EL1.out]; simp)
      have S3 := Lib.hid s3
      have hsz := sz_eq x
      have HL4 := Lib.hid hl4; have HSZ := Lib.hid hsz
      clear hW s3 k0 k1 k2 f0 f1 f2 hl3 E hl4 hsz
      obtain ⟨k0, k1, k2, f0, f1, f2⟩ := S3.out.var.cells
      obtain ⟨L, hL⟩ : ∃ L, x.f2.length = L := ⟨_, rfl⟩
      obtain ⟨X, hX⟩ : ∃ X, x.f2 = X := ⟨_, rfl⟩
      have HR := Lib.hid HK.out.2
      rw [hX] at EE HR IH hL m1
      rw [hX, hL] at k2
      rw [hL] at HR m1
      have EL := Lib.hid hL; have EX := Lib.hid hX
      clear hL hX HK
      go_wp2_with fail
      clear k0 k1 k2 f0 f1 f2
      go_loopw [0, 37] (fun v i wr => ∃ n : Nat, i = .int .i64 n ∧ n ≤ L ∧ Hid (Wst u w0 w g x A c wr v (l3 ++ encL (X.take n)))) (fun _ i _ => L - (intOf i).toNat)
      case atStart => exact ⟨0, rfl, by omega, by rw [List.take_zero]; simpa [encL] using S3⟩
      case round =>
        clear S3
        obtain ⟨n, rfl, hn, S4⟩ := hrel
        by_cases hx : (n : Int) < (L : Int)
        · have hx1 := decide_eq_true hx
          have hlt : n < L := by omega
          have hm := rd_mem X n (by rw [EL.out]; exact hlt)
          have hst := encL_step X n (by rw [EL.out]; exact hlt)
          obtain ⟨ad, B, d, ea, x0, x1, x2, xl, xr⟩ := at_T24 HR.out (n : Int) (by omega) hx
          cases ea
          obtain ⟨y, ey⟩ : ∃ y, rd_T24 X n = y := ⟨_, rfl⟩
          rw [ey] at x0 x1 x2 xl xr hm hst
          replace x0 := at_later S4.out.below x0; replace x1 := at_later S4.out.below x1; replace x2 := at_later S4.out.below x2
          rw [Int.toNat_natCast] at x0 x1 x2
          have hbig5 : (l3 ++ encL (X.take n)).length + 11 * sz y ≤ 70368744177664 := by
            have h1 := encL_len (X.take n)
            have h2 := szL_take X n (by rw [EL.out]; exact hlt)
            rw [ey] at h2
            have h3 := szL_split X (n + 1)
            have := HG.out; have := HL4.out; have h6 := HSZ.out
            rw [EX.out] at h6
            rw [List.length_append]; omega
          have CALL := Lib.hid (fun W (hW : Below wr.heap.size wr W) => IH.out y B d u0 (l3 ++ encL (X.take n)) W hm ⟨xl, xr⟩ (S4.out.later hW).below (S4.out.later hW).any hbig5)
          have pn := eq_true hx
          have qn := eq_true (show (0 : Int) ≤ (n : Int) by omega)
          have e1 : IntKind.i64.wrap ((n : Int) + 1) = (n : Int) + 1 := IntWalk.i64_in _ (by omega)
          have HST := Lib.hid hst
          clear xl xr ey hst hm hbig5
          go_upto_region 11 with (fail)
          obtain ⟨g4, hg4⟩ : ∃ g, wr.heap.size = g := ⟨_, rfl⟩
          have H5 : ∃ w5 : World, wr.alloc (.cells #[.int .i64 y.f0, .int .i64 y.f1, .slice B y.f2.length d] 24) = w5 ∧ Var w5 g4 y B d ∧ Wst u w0 w g x (some ad) c w5 u0 (l3 ++ encL (X.take n)) ∧ Below wr.heap.size wr w5 :=
            ⟨_, rfl, by rw [← hg4]; exact blk_new wr _, S4.out.later (below_alloc (Below.refl _ _) _), below_alloc (Below.refl _ _) _⟩
          rw [hg4]
          obtain ⟨w5, hw5, v5, s5, b5⟩ := H5
          rw [hw5]
          have S5 := Lib.hid s5; have B5 := Lib.hid b5
          obtain ⟨k0, k1, k2, _⟩ := v5.cells
          clear hg4 hw5 v5 s5 b5 S4 x0 x1 x2
          go_wp2_with fail
          refine (CALL.out _ B5.out).mono ?_
          rintro e w6 hW
          obtain ⟨v6, rfl, s6⟩ := S5.out.call hW
          rw [List.append_assoc, ← HST.out] at s6
          have S6 := Lib.hid s6
          clear hW s6 k0 k1 k2 S5 CALL
          go_wp2_with fail
          go_roundw
          case rel => exact ⟨n + 1, by push_cast; rfl, by omega, S6⟩
          case measure => simp [intOf]; omega
        · have hx1 := decide_eq_false hx
          have hne : n = L := by omega
          have HNE := Lib.hid hne
          clear hne
          go_wp2_with fail
          go_ret
          rw [EE.out]
          have h5 := S4.out.fin
          rw [List.take_of_length_le (by rw [EL.out, HNE.out]; exact Nat.le_refl _)] at h5
          exact h5
/-- what is known of each number in a value. -/
inductive Num : S24 → Prop
  | mk (x : S24) : i64 x.f0 → i64 x.f1 → (∀ y ∈ x.f2, Num y) → Num x
theorem Num.f0 {x : S24} (h : Num x) : i64 x.f0 := by cases h with | mk _ h _ _ => exact h
theorem Num.f1 {x : S24} (h : Num x) : i64 x.f1 := by cases h with | mk _ _ h _ => exact h
theorem Num.kid {x : S24} (h : Num x) {y : S24} (hy : y ∈ x.f2) : Num y := by cases h with | mk _ _ _ h => exact h y hy
theorem write_n : ∀ (n : Nat) (x : S24) (u : Value) (l0 : List Int) (A : Option Addr) (c : Nat) (w0 w : World), sz x ≤ n → Num x → Below w0.heap.size w0 w → Rb w w0.heap.size (fun _ => True) u l0 → Kd24 w0 A c x →
    l0.length + 11 * sz x ≤ 70368744177664 → Calls Try.prog 69 #[u, v24 x.f0 x.f1 A x.f2.length c] w (Wrote u w0 w (l0 ++ enc x)) := by
  intro n
  induction n with
  | zero => intro x u l0 A c w0 w h; have := sz_pos x; omega
  | succ n ih =>
    intro x u l0 A c w0 w h hn hB ho hk hbig
    refine write_of u l0 x A c w0 w hB ho hk ⟨hn.f0, hn.f1⟩ hbig (fun y B d v l W hy hky hBW hoW hb => ih y v l B d w0 W ?_ (hn.kid hy) hBW hoW hky hb)
    have h1 := szL_mem x.f2 y hy
    have h2 := sz_eq x
    omega
theorem write_is (x : S24) (u : Value) (l0 : List Int) (A : Option Addr) (c : Nat) (w0 w : World) (hn : Num x) (hB : Below w0.heap.size w0 w) (ho : Rb w w0.heap.size (fun _ => True) u l0) (hk : Kd24 w0 A c x)
    (hbig : l0.length + 11 * sz x ≤ 70368744177664) : Calls Try.prog 69 #[u, v24 x.f0 x.f1 A x.f2.length c] w (Wrote u w0 w (l0 ++ enc x)) := write_n _ x u l0 A c w0 w (Nat.le_refl _) hn hB ho hk hbig
end Go.Proofs.Ytggdpeeiioibgaa.E
namespace Go.Proofs.Ytggdpeeiioibgaa.E
open Go.RowKit Go.Proofs.YtggdpeeiioibgaaW.PrintWords Go.Proofs.YtggdpeeiioibgaaW.PrintLast Go.Proofs.YtggdpeeiioibgaaW.PrintMore Go.Proofs.Ytggdpeeiioibgaa.Kinds Go.Proofs.Ytggdpeeiioibgaa.Obj
set_option linter.unusedVariables false
set_option linter.unusedSimpArgs false

theorem right24 (x : S24) (A : Option Addr) (c : Nat) (w : World) (h : Kd24 w A c x) :
    Calls Try.prog 68 #[v24 x.f0 x.f1 A x.f2.length c] w fun e w' => e = .returned (.bool (right x)) ∧ Below w.heap.size w w' := right_n _ x A c w (Nat.le_refl _) h
/-- a right value's bytes; of others none. -/
def bytes (x : S24) : List Int := if right x then enc x else []
/-- a new row of bytes. -/
def NewB (r : List Int) (w : World) (e : Ending) (w' : World) : Prop := ∃ v, e = .returned v ∧ Rb w' w.heap.size (fun _ => True) v r ∧ Below w.heap.size w w'
set_option maxHeartbeats 4000000 in
set_option maxRecDepth 100000 in
theorem bytes24 (x : S24) (A : Option Addr) (c : Nat) (w : World) (hn : Num x) (hz : 11 * sz x ≤ 70368744177664) (h : Kd24 w A c x) :
    Calls Try.prog 29 #[v24 x.f0 x.f1 A x.f2.length c] w (NewB (bytes x) w) := by
  have hu24 := Try.underlying24
  have HK := Lib.hid h; have HN := Lib.hid hn; have HZ := Lib.hid hz
  have hB := Lib.hid (below_alloc (Below.refl w.heap.size w) (.cells #[.int .i64 x.f0, .int .i64 x.f1, .slice A x.f2.length c] 24))
  have HV := Lib.hid (blk_new w (.cells #[.int .i64 x.f0, .int .i64 x.f1, .slice A x.f2.length c] 24))
  obtain ⟨g, hg⟩ : ∃ g, w.heap.size = g := ⟨_, rfl⟩
  have G : Hid (∃ w1 : World, w.alloc (.cells #[.int .i64 x.f0, .int .i64 x.f1, .slice A x.f2.length c] 24) = w1 ∧ Var w1 g x A c ∧ Below w.heap.size w w1) :=
    Lib.hid ⟨_, rfl, by rw [← hg]; exact blk_new _ _, below_alloc (Below.refl _ _) _⟩
  have EG := Lib.hid hg
  clear h hn hz hB HV hg
  go_enter Try.func29, Try.ntmps29
  go_upto_region 1 with (fail)
  rw [EG.out]
  obtain ⟨w1, hw1, v1, b1⟩ := G.out
  rw [hw1]
  have V1 := Lib.hid v1; have B1 := Lib.hid b1
  obtain ⟨k0, k1, k2, _⟩ := v1.cells
  clear G v1 b1 hw1
  go_wp2_with fail
  refine (right24 x A c w1 (HK.out.below B1.out)).mono ?_
  rintro e w2 ⟨rfl, b2⟩
  have V2 := Lib.hid (V1.out.below b2); have B2 := Lib.hid (B1.out.trans (b2.mono B1.out.size))
  clear b2 k0 k1 k2 V1 B1
  obtain ⟨k0, k1, k2, _⟩ := V2.out.cells
  obtain ⟨r, hr⟩ : ∃ r, right x = r := ⟨_, rfl⟩
  rw [hr]
  cases r with
  | false =>
    have E := Lib.hid (show bytes x = [] by unfold bytes; rw [hr]; rfl)
    clear hr
    go_wp2_with fail
    go_ret
    exact ⟨_, rfl, by rw [E.out]; exact Kd.R_nil _ _ _ _ _, B2.out⟩
  | true =>
    have E := Lib.hid (show bytes x = enc x by unfold bytes; rw [hr]; rfl)
    clear hr
    go_wp2_with fail
    refine (write_is x (.slice none 0 0) [] A c w w2 HN.out B2.out (Kd.R_nil _ _ _ _ _) HK.out (by have := HZ.out; simpa using this)).mono ?_
    rintro e w3 ⟨v, rfl, h1, h2, h3⟩
    rw [List.nil_append] at h1
    have H1 := Lib.hid h1; have H2 := Lib.hid h2
    clear h1 h2 h3
    go_wp2_with fail
    go_ret
    exact ⟨v, rfl, by rw [E.out]; exact Kd.R_mono H1.out (fun _ _ => trivial), H2.out⟩
set_option maxHeartbeats 4000000 in
set_option maxRecDepth 100000 in
theorem long24 (x : S24) (A : Option Addr) (c : Nat) (w : World) (hn : Num x) (hz : 11 * sz x ≤ 70368744177664) (h : Kd24 w A c x) :
    Calls Try.prog 31 #[v24 x.f0 x.f1 A x.f2.length c] w fun e w' => e = .returned (.int .i64 ((bytes x).length : Int)) ∧ Below w.heap.size w w' := by
  have hu24 := Try.underlying24
  have hB := Lib.hid (below_alloc (Below.refl w.heap.size w) (.cells #[.int .i64 x.f0, .int .i64 x.f1, .slice A x.f2.length c] 24))
  have C := Lib.hid (fun W (hW : Below w.heap.size w W) => bytes24 x A c W hn hz (h.below hW))
  clear h hn hz
  go_enter Try.func31, Try.ntmps31
  go_wp2_with fail
  refine (C.out _ hB.out).mono ?_
  rintro e w3 ⟨v, rfl, h1, h2⟩
  obtain ⟨B, d, rfl⟩ := Kd.R_slice h1
  have H2 := Lib.hid (hB.out.trans (h2.mono hB.out.size))
  clear h1 h2
  go_wp2_with fail
  go_ret
  exact ⟨rfl, H2.out⟩
/-- the bytes of the right ones. -/
def pack (l : List S24) : List Int := encL (l.filter right)
theorem pack_step (l : List S24) (n : Nat) (h : n < l.length) : pack (l.take (n + 1)) = if right (rd_T24 l n) then pack (l.take n) ++ enc (rd_T24 l n) else pack (l.take n) := by
  unfold pack
  rw [List.take_succ_eq_append_getElem h, List.filter_append, encL_append, rd_eq l n h]
  by_cases hr : right l[n] = true
  · rw [if_pos hr]; simp [hr, encL]
  · rw [if_neg hr]; simp [hr, encL]
theorem szL_filter (p : S24 → Bool) : ∀ l : List S24, szL (l.filter p) ≤ szL l
  | [] => Nat.le_refl _
  | x :: l => by
    have := szL_filter p l
    rw [List.filter_cons]
    split <;> simp only [szL] <;> omega
theorem pack_len (l : List S24) : (pack l).length ≤ 11 * szL l := by
  have h1 := encL_len (l.filter right)
  have h2 := szL_filter right l
  unfold pack
  omega
/-- what is known of a row that is written, and of nothing else. -/
theorem Wrote.on {u : Value} {w0 w W' : World} {r : List Int} {e : Ending} (k : Wrote u w0 w r e W') : ∃ v, e = .returned v ∧ Rb W' w0.heap.size (fun _ => True) v r ∧ Below w0.heap.size w0 W' := by
  obtain ⟨v, he, h1, h2, h3⟩ := k
  exact ⟨v, he, Kd.R_mono h1 (fun _ _ => trivial), h2⟩
set_option maxHeartbeats 8000000 in
set_option maxRecDepth 100000 in
theorem pack24 (A : Option Addr) (c : Nat) (l : List S24) (w : World) (hn : ∀ y ∈ l, Num y) (hz : 11 * szL l ≤ 70368744177664) (hl : l.length ≤ c) (hr : Kd.C k24 w A l.length l) :
    Calls Try.prog 34 #[.slice A l.length c] w (NewB (pack l) w) := by
  have hu24 := Try.underlying24
  have HR := Lib.hid hr; have HN := Lib.hid hn; have HZ := Lib.hid hz
  have m1 := CL hr
  clear hr hn hz
  obtain ⟨L, hL⟩ : ∃ L, l.length = L := ⟨_, rfl⟩
  rw [hL] at HR hl m1 ⊢
  have EL := Lib.hid hL
  clear hL
  go_enter Try.func34, Try.ntmps34
  go_wp2_with fail
  go_loopw [3, 8] (fun v i wr => ∃ n : Nat, i = .int .i64 n ∧ n ≤ L ∧ Hid (Rb wr w.heap.size (fun _ => True) v (pack (l.take n))) ∧ Hid (Below w.heap.size w wr)) (fun _ i _ => L - (intOf i).toNat)
  case atStart => exact ⟨0, rfl, by omega, Lib.hid (by rw [List.take_zero]; exact Kd.R_nil _ _ _ _ _), Lib.hid (Below.refl _ _)⟩
  case round =>
    obtain ⟨n, rfl, hn, HV, HB⟩ := hrel
    by_cases hx : (n : Int) < (L : Int)
    · have hx1 := decide_eq_true hx
      have hlt : n < L := by omega
      have hm := rd_mem l n (by rw [EL.out]; exact hlt)
      have hst := pack_step l n (by rw [EL.out]; exact hlt)
      obtain ⟨ad, B, d, ea, x0, x1, x2, xl, xr⟩ := at_T24 HR.out (n : Int) (by omega) hx
      cases ea
      obtain ⟨x, ex⟩ : ∃ x, rd_T24 l n = x := ⟨_, rfl⟩
      rw [ex] at x0 x1 x2 xl xr hm hst
      replace x0 := at_later HB.out x0; replace x1 := at_later HB.out x1; replace x2 := at_later HB.out x2
      rw [Int.toNat_natCast] at x0 x1 x2
      have hbig : (pack (l.take n)).length + 11 * sz x ≤ 70368744177664 := by
        have h1 := pack_len (l.take n)
        have h2 := szL_take l n (by rw [EL.out]; exact hlt)
        have h3 := szL_split l (n + 1)
        rw [ex] at h2
        have := HZ.out; omega
      have HX := Lib.hid (show Kd24 w B d x from ⟨xl, xr⟩)
      have HNX := Lib.hid (HN.out x hm); have HBIG := Lib.hid hbig
      have pn := eq_true hx
      have qn := eq_true (show (0 : Int) ≤ (n : Int) by omega)
      have e1 : IntKind.i64.wrap ((n : Int) + 1) = (n : Int) + 1 := IntWalk.i64_in _ (by omega)
      have HST := Lib.hid hst
      clear xl xr ex hst hm hbig
      go_upto_region 5 with (fail)
      obtain ⟨g4, hg4⟩ : ∃ g, wr.heap.size = g := ⟨_, rfl⟩
      have H5 : ∃ w5 : World, wr.alloc (.cells #[.int .i64 x.f0, .int .i64 x.f1, .slice B x.f2.length d] 24) = w5 ∧ Var w5 g4 x B d ∧ Rb w5 w.heap.size (fun _ => True) u3 (pack (l.take n)) ∧ Below w.heap.size w w5 :=
        ⟨_, rfl, by rw [← hg4]; exact blk_new wr _, Kd.R_alloc HV.out _, below_alloc HB.out _⟩
      rw [hg4]
      obtain ⟨w5, hw5, v5, r5, b5⟩ := H5
      rw [hw5]
      have R5 := Lib.hid r5; have B5 := Lib.hid b5; have V5 := Lib.hid v5
      obtain ⟨k0, k1, k2, _⟩ := v5.cells
      clear hg4 hw5 v5 r5 b5 x0 x1 x2 HV HB
      go_wp2_with fail
      refine (right24 x B d w5 (HX.out.below B5.out)).mono ?_
      rintro e w6 ⟨rfl, b6⟩
      have R6 := Lib.hid (Kd.R_below R5.out b6); have V6 := Lib.hid (V5.out.below b6); have B6 := Lib.hid (B5.out.trans (b6.mono B5.out.size))
      clear b6 k0 k1 k2 R5 B5 V5
      obtain ⟨k0, k1, k2, _⟩ := V6.out.cells
      obtain ⟨r, hr⟩ : ∃ r, right x = r := ⟨_, rfl⟩
      rw [hr]
      cases r with
      | false =>
        have E := Lib.hid (show pack (l.take (n + 1)) = pack (l.take n) by rw [HST.out, hr]; rfl)
        clear hr
        go_wp2_with fail
        go_roundw
        case rel => exact ⟨n + 1, by push_cast; rfl, by omega, by rw [E.out]; exact R6, B6⟩
        case measure => simp [intOf]; omega
      | true =>
        have E := Lib.hid (show pack (l.take (n + 1)) = pack (l.take n) ++ enc x by rw [HST.out, hr]; rfl)
        clear hr
        go_wp2_with fail
        refine (write_is x u3 (pack (l.take n)) B d w w6 HNX.out B6.out R6.out HX.out HBIG.out).mono ?_
        rintro e w7 hW
        obtain ⟨v7, rfl, h1, h2⟩ := hW.on
        have R7 := Lib.hid h1; have B7 := Lib.hid h2
        clear hW h1 h2
        go_wp2_with fail
        go_roundw
        case rel => exact ⟨n + 1, by push_cast; rfl, by omega, by rw [E.out]; exact R7, B7⟩
        case measure => simp [intOf]; omega
    · have hx1 := decide_eq_false hx
      have hne : n = L := by omega
      have HNE := Lib.hid hne
      clear hne
      go_wp2_with fail
      go_ret
      have h5 := HV.out
      rw [List.take_of_length_le (by rw [EL.out, HNE.out]; exact Nat.le_refl _)] at h5
      exact ⟨_, rfl, h5, HB.out⟩
end Go.Proofs.Ytggdpeeiioibgaa.E
