/- Marline, layer 3: what was mixed comes back, unlike numbers are mixed to unlike ones, and all four-bit groups together are the number: of the printed functions, for all numbers. No condition. -/
import Derived.Test.YtjgppklominagaaPMixBackx1
import Derived.Test.YtjgppklominagaaBv
namespace Go.Proofs.Ytjgppklominagaa.Pure
open Go.RowKit Go.Proofs.Ytjgppklominagaa.PMixBack Go.Proofs.YtjgppklominagaaW.PrintWords Go.Proofs.YtjgppklominagaaW.PrintLast Go.Proofs.Ytjgppklominagaa.Bv

/-! ### what the printed functions of package mix come to, as bit vectors -/
theorem e1c : BitVec.ofNat 64 (13787848793156543929 : Int).toNat = c1 := by decide
theorem e2c : BitVec.ofNat 64 (10723151780598845931 : Int).toNat = c2 := by decide
theorem e1i : BitVec.ofNat 64 (10871156337175269513 : Int).toNat = i1 := by decide
theorem e2i : BitVec.ofNat 64 (3573116690164977347 : Int).toNat = i2 := by decide
theorem mix_bv (x : BitVec 64) : mix_Mix.f (x.toNat : Int) = some ((mixB x).toNat : Int) := by
  unfold mix_Mix.f
  have h30 : (x.toNat : Int) / (1073741824 : Int) = ((x >>> 30).toNat : Int) := shr_bv x 30 (by decide)
  rw [h30, xor_bv, mul_bv _ _ (by decide)]
  generalize hy : (x ^^^ x >>> 30) * BitVec.ofNat 64 (13787848793156543929 : Int).toNat = y
  have h27 : (y.toNat : Int) / (134217728 : Int) = ((y >>> 27).toNat : Int) := shr_bv y 27 (by decide)
  rw [h27, xor_bv, mul_bv _ _ (by decide)]
  generalize hz : (y ^^^ y >>> 27) * BitVec.ofNat 64 (10723151780598845931 : Int).toNat = z
  have h31 : (z.toNat : Int) / (2147483648 : Int) = ((z >>> 31).toNat : Int) := shr_bv z 31 (by decide)
  rw [h31, xor_bv, ← hz, ← hy, e1c, e2c]
  unfold mixB fold
  rfl

theorem unshift_step (k : Nat) (x y : BitVec 64) (n : Nat) (i : Int) (hn : n ≤ 64) (h : i < 64) (hi : 0 ≤ i) :
    mix_unshift.l0 (k + 1) (x.toNat : Int) (n : Int) (y.toNat : Int) i = mix_unshift.l0 k (x.toNat : Int) (n : Int) ((x ^^^ (y >>> n)).toNat : Int) (i + n) := by
  simp only [mix_unshift.l0]
  rw [if_pos h, if_pos (by omega), shr_bv y n hn, xor_bv]
  have : wrap64 (i + (n : Int)) = i + n := by unfold wrap64; omega
  rw [this]
theorem unshift_end (k : Nat) (x y : BitVec 64) (n : Nat) (i : Int) (h : ¬ i < 64) :
    mix_unshift.l0 (k + 1) (x.toNat : Int) (n : Int) (y.toNat : Int) i = some (y.toNat : Int) := by
  simp only [mix_unshift.l0]
  rw [if_neg h]
theorem unshift_bv (k : Nat) (m : Int) (x : BitVec 64) (n : Nat) (hk : 3 ≤ k) (hm : m = (n : Int)) (hn : n ≤ 64) (h1 : n + n < 64) (h2 : 64 ≤ n + n + n) : mix_unshift.f k (x.toNat : Int) m = some ((unfold2 n x).toNat : Int) := by
  obtain ⟨k, rfl⟩ : ∃ j, k = j + 3 := ⟨k - 3, by omega⟩
  subst hm
  unfold mix_unshift.f
  rw [unshift_step _ _ _ _ _ hn (by omega) (by omega), unshift_step _ _ _ _ _ hn (by omega) (by omega), unshift_end _ _ _ _ _ (by omega)]
  rfl

theorem inv1 : mix_inverse.f 7 13787848793156543929 = some 10871156337175269513 := by decide +kernel
theorem inv2 : mix_inverse.f 7 10723151780598845931 = some 3573116690164977347 := by decide +kernel
theorem bnd {α β : Type} {o : Option α} {a : α} {f : α → Option β} {r : Option β} (h : o = some a) (k : f a = r) : o.bind f = r := by rw [h]; exact k
theorem mulI2 (y : BitVec 64) : IntKind.u64.wrap ((y.toNat : Int) * 3573116690164977347) = ((y * i2).toNat : Int) := by
  rw [mul_bv _ _ (by decide), e2i]
theorem mulI1 (y : BitVec 64) : IntKind.u64.wrap ((y.toNat : Int) * 10871156337175269513) = ((y * i1).toNat : Int) := by
  rw [mul_bv _ _ (by decide), e1i]
theorem unmix_bv (x : BitVec 64) : mix_Unmix.f 7 (x.toNat : Int) = some ((unmixB x).toNat : Int) := by
  unfold mix_Unmix.f unmixB
  refine bnd (unshift_bv 7 31 x 31 (by decide) (by decide) (by decide) (by decide) (by decide)) ?_
  refine bnd inv2 ?_
  refine bnd (a := ((unfold2 27 (unfold2 31 x * i2)).toNat : Int)) (by rw [mulI2]; exact unshift_bv 7 27 _ 27 (by decide) (by decide) (by decide) (by decide) (by decide)) ?_
  refine bnd inv1 ?_
  refine bnd (a := ((unfold2 30 (unfold2 27 (unfold2 31 x * i2) * i1)).toNat : Int)) (by rw [mulI1]; exact unshift_bv 7 30 _ 30 (by decide) (by decide) (by decide) (by decide) (by decide)) ?_
  rfl
theorem works_mix : marlinelaw03_works.f 7 = some true := by decide +kernel

theorem nib_bv (x : BitVec 64) (n : Nat) (h : n ≤ 15) : mix_Nib.f (x.toNat : Int) (n : Int) = some ((x.toNat / 16 ^ n % 16 : Nat) : Int) := by
  unfold mix_Nib.f
  have e : wrap64 (4 * (n : Int)) = ((4 * n : Nat) : Int) := by unfold wrap64; omega
  rw [if_neg (by omega), if_neg (by omega), e, if_pos (by omega), shr_bv x (4 * n) (by omega)]
  have h15 : Go.bits .and .u64 ((x >>> (4 * n)).toNat : Int) 15 = ((x.toNat / 16 ^ n % 16 : Nat) : Int) := by
    have := bits_mask .u64 64 (by decide) (fun a h0 h1 => by rw [wrapu]; omega) 4 (by decide) ((x >>> (4 * n)).toNat : Int) (by omega) (by have := (x >>> (4 * n)).isLt; omega)
    have e15 : ((2 : Int) ^ 4 - 1) = 15 := by decide
    rw [e15] at this
    rw [this, BitVec.toNat_ushiftRight, Nat.shiftRight_eq_div_pow, Nat.pow_mul]
    rfl
  rw [h15]
  have : wrap64 ((x.toNat / 16 ^ n % 16 : Nat) : Int) = ((x.toNat / 16 ^ n % 16 : Nat) : Int) := by unfold wrap64; omega
  rw [this]

theorem nib_join (v n : Nat) : 16 * (v / 16 ^ (n + 1)) + v / 16 ^ n % 16 = v / 16 ^ n := by
  rw [Nat.pow_succ, ← Nat.div_div_eq_div_mul]
  omega

theorem back_loop (x y : BitVec 64) (n : Nat) : ∀ (k : Nat), n ≤ 16 → n + 7 < k →
    marlinelaw03_MixBack.l0 k (x.toNat : Int) (y.toNat : Int) ((x.toNat / 16 ^ n : Nat) : Int) ((n : Int) - 1) = some true := by
  induction n with
  | zero =>
    intro k hn hk
    obtain ⟨k, rfl⟩ : ∃ m, k = m + 7 + 1 := ⟨k - 8, by omega⟩
    simp only [marlinelaw03_MixBack.l0]
    rw [if_neg (by omega)]
    have un : ∀ v : BitVec 64, mix_Unmix.f (k + 7) (v.toNat : Int) = some ((unmixB v).toNat : Int) := fun v => at_rounds (fun k => mix_Unmix.mono _ k) (show 7 ≤ k + 7 by omega) (unmix_bv v)
    refine bnd (mix_bv x) ?_
    refine bnd (un _) ?_
    rw [unmix_mix, if_pos rfl]
    refine bnd (un _) ?_
    refine bnd (mix_bv _) ?_
    rw [mix_unmix, if_pos rfl]
    refine bnd (mix_bv x) ?_
    refine bnd (mix_bv y) ?_
    have e : ((((mixB x).toNat : Int) == ((mixB y).toNat : Int)) == ((x.toNat : Int) == (y.toNat : Int))) = true := by
      rw [beq_iff_eq, Bool.eq_iff_iff, beq_iff_eq, beq_iff_eq, toNat_inj, toNat_inj, mix_inj]
    rw [if_pos e, if_pos (by simp)]
    exact bnd (at_rounds (fun k => marlinelaw03_works.mono k) (show 7 ≤ k + 7 by omega) works_mix) rfl
  | succ n ih =>
    intro k hn hk
    obtain ⟨k, rfl⟩ : ∃ m, k = m + 1 := ⟨k - 1, by omega⟩
    have e1 : (((n + 1 : Nat) : Int) - 1) = (n : Int) := by omega
    rw [e1]
    simp only [marlinelaw03_MixBack.l0]
    rw [if_pos (by omega), nib_bv x n (by omega)]; simp only [Option.bind_some]
    have hl : x.toNat / 16 ^ n < 18446744073709551616 := Nat.lt_of_le_of_lt (Nat.div_le_self _ _) x.isLt
    have j := nib_join x.toNat n
    have hlt : x.toNat / 16 ^ n % 16 < 16 := Nat.mod_lt _ (by decide)
    generalize hq : x.toNat / 16 ^ (n + 1) = q at *
    generalize hp : x.toNat / 16 ^ n = p at *
    have e2 : IntKind.u64.wrap (IntKind.u64.wrap (16 * (q : Int)) + IntKind.u64.wrap ((p % 16 : Nat) : Int)) = (p : Int) := by
      rw [wrapu, wrapu, wrapu]; omega
    have e3 : wrap64 ((n : Int) - 1) = (n : Int) - 1 := by unfold wrap64; omega
    rw [e2, e3]
    exact ih k (by omega) (by omega)

theorem MixBack : marlinelaw03_MixBack.Pure := by
  intro a0 a1 _ _
  obtain ⟨x, hx⟩ := of_int a0
  obtain ⟨y, hy⟩ := of_int a1
  refine ⟨30, ?_⟩
  unfold marlinelaw03_MixBack.f
  rw [hx, hy]
  have h := back_loop x y 16 30 (by decide) (by decide)
  have hl := x.isLt
  have e : x.toNat / 16 ^ 16 = 0 := Nat.div_eq_of_lt (by omega)
  rw [e] at h
  exact h

end Go.Proofs.Ytjgppklominagaa.Pure
