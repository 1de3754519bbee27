/- Marline, layer 3: a number mixed, its key, and each four bits of it are what the document defines: of the printed functions, for all numbers. No condition. -/
import Derived.Test.YtjgppklominagaaPMixMixesx1
import Derived.Test.YtjgppklominagaaBv
namespace Go.Proofs.Ytjgppklominagaa.Pure
open Go.RowKit Go.Proofs.Ytjgppklominagaa.PMixMixes Go.Proofs.YtjgppklominagaaW.PrintWords Go.Proofs.YtjgppklominagaaW.PrintLast Go.Proofs.Ytjgppklominagaa.Bv
/-! ### what the printed functions of package mix come to, as bit vectors -/
theorem e1c : BitVec.ofNat 64 (13787848793156543929 : Int).toNat = c1 := by decide
theorem e2c : BitVec.ofNat 64 (10723151780598845931 : Int).toNat = c2 := by decide
theorem e1i : BitVec.ofNat 64 (10871156337175269513 : Int).toNat = i1 := by decide
theorem e2i : BitVec.ofNat 64 (3573116690164977347 : Int).toNat = i2 := by decide
theorem mix_bv (x : BitVec 64) : mix_Mix.f (x.toNat : Int) = some ((mixB x).toNat : Int) := by
  unfold mix_Mix.f
  have h30 : (x.toNat : Int) / (1073741824 : Int) = ((x >>> 30).toNat : Int) := shr_bv x 30 (by decide)
  rw [h30, xor_bv, mul_bv _ _ (by decide)]
  generalize hy : (x ^^^ x >>> 30) * BitVec.ofNat 64 (13787848793156543929 : Int).toNat = y
  have h27 : (y.toNat : Int) / (134217728 : Int) = ((y >>> 27).toNat : Int) := shr_bv y 27 (by decide)
  rw [h27, xor_bv, mul_bv _ _ (by decide)]
  generalize hz : (y ^^^ y >>> 27) * BitVec.ofNat 64 (10723151780598845931 : Int).toNat = z
  have h31 : (z.toNat : Int) / (2147483648 : Int) = ((z >>> 31).toNat : Int) := shr_bv z 31 (by decide)
  rw [h31, xor_bv, ← hz, ← hy, e1c, e2c]
  unfold mixB fold
  rfl

theorem unshift_step (k : Nat) (x y : BitVec 64) (n : Nat) (i : Int) (hn : n ≤ 64) (h : i < 64) (hi : 0 ≤ i) :
    mix_unshift.l0 (k + 1) (x.toNat : Int) (n : Int) (y.toNat : Int) i = mix_unshift.l0 k (x.toNat : Int) (n : Int) ((x ^^^ (y >>> n)).toNat : Int) (i + n) := by
  simp only [mix_unshift.l0]
  rw [if_pos h, if_pos (by omega), shr_bv y n hn, xor_bv]
  have : wrap64 (i + (n : Int)) = i + n := by unfold wrap64; omega
  rw [this]
theorem unshift_end (k : Nat) (x y : BitVec 64) (n : Nat) (i : Int) (h : ¬ i < 64) :
    mix_unshift.l0 (k + 1) (x.toNat : Int) (n : Int) (y.toNat : Int) i = some (y.toNat : Int) := by
  simp only [mix_unshift.l0]
  rw [if_neg h]
theorem unshift_bv (k : Nat) (m : Int) (x : BitVec 64) (n : Nat) (hk : 3 ≤ k) (hm : m = (n : Int)) (hn : n ≤ 64) (h1 : n + n < 64) (h2 : 64 ≤ n + n + n) : mix_unshift.f k (x.toNat : Int) m = some ((unfold2 n x).toNat : Int) := by
  obtain ⟨k, rfl⟩ : ∃ j, k = j + 3 := ⟨k - 3, by omega⟩
  subst hm
  unfold mix_unshift.f
  rw [unshift_step _ _ _ _ _ hn (by omega) (by omega), unshift_step _ _ _ _ _ hn (by omega) (by omega), unshift_end _ _ _ _ _ (by omega)]
  rfl

theorem inv1 : mix_inverse.f 7 13787848793156543929 = some 10871156337175269513 := by decide +kernel
theorem inv2 : mix_inverse.f 7 10723151780598845931 = some 3573116690164977347 := by decide +kernel
theorem bnd {α β : Type} {o : Option α} {a : α} {f : α → Option β} {r : Option β} (h : o = some a) (k : f a = r) : o.bind f = r := by rw [h]; exact k
theorem mulI2 (y : BitVec 64) : IntKind.u64.wrap ((y.toNat : Int) * 3573116690164977347) = ((y * i2).toNat : Int) := by
  rw [mul_bv _ _ (by decide), e2i]
theorem mulI1 (y : BitVec 64) : IntKind.u64.wrap ((y.toNat : Int) * 10871156337175269513) = ((y * i1).toNat : Int) := by
  rw [mul_bv _ _ (by decide), e1i]
theorem unmix_bv (x : BitVec 64) : mix_Unmix.f 7 (x.toNat : Int) = some ((unmixB x).toNat : Int) := by
  unfold mix_Unmix.f unmixB
  refine bnd (unshift_bv 7 31 x 31 (by decide) (by decide) (by decide) (by decide) (by decide)) ?_
  refine bnd inv2 ?_
  refine bnd (a := ((unfold2 27 (unfold2 31 x * i2)).toNat : Int)) (by rw [mulI2]; exact unshift_bv 7 27 _ 27 (by decide) (by decide) (by decide) (by decide) (by decide)) ?_
  refine bnd inv1 ?_
  refine bnd (a := ((unfold2 30 (unfold2 27 (unfold2 31 x * i2) * i1)).toNat : Int)) (by rw [mulI1]; exact unshift_bv 7 30 _ 30 (by decide) (by decide) (by decide) (by decide) (by decide)) ?_
  rfl
theorem works_mix : marlinelaw03_works.f 7 = some true := by decide +kernel

theorem nib_bv (x : BitVec 64) (n : Nat) (h : n ≤ 15) : mix_Nib.f (x.toNat : Int) (n : Int) = some ((x.toNat / 16 ^ n % 16 : Nat) : Int) := by
  unfold mix_Nib.f
  have e : wrap64 (4 * (n : Int)) = ((4 * n : Nat) : Int) := by unfold wrap64; omega
  rw [if_neg (by omega), if_neg (by omega), e, if_pos (by omega), shr_bv x (4 * n) (by omega)]
  have h15 : Go.bits .and .u64 ((x >>> (4 * n)).toNat : Int) 15 = ((x.toNat / 16 ^ n % 16 : Nat) : Int) := by
    have := bits_mask .u64 64 (by decide) (fun a h0 h1 => by rw [wrapu]; omega) 4 (by decide) ((x >>> (4 * n)).toNat : Int) (by omega) (by have := (x >>> (4 * n)).isLt; omega)
    have e15 : ((2 : Int) ^ 4 - 1) = 15 := by decide
    rw [e15] at this
    rw [this, BitVec.toNat_ushiftRight, Nat.shiftRight_eq_div_pow, Nat.pow_mul]
    rfl
  rw [h15]
  have : wrap64 ((x.toNat / 16 ^ n % 16 : Nat) : Int) = ((x.toNat / 16 ^ n % 16 : Nat) : Int) := by unfold wrap64; omega
  rw [this]


theorem half (x : Nat) (h : x < 18446744073709551616) : IntKind.u64.wrap (Int.tdiv (x : Int) 2) = ((x / 2 : Nat) : Int) := by
  rw [wrapu, Int.tdiv_eq_ediv_of_nonneg (by omega)]
  omega

theorem bit_loop (m : Nat) : ∀ (n i k x : Nat), i + m = n → n ≤ 200 → m < k → x < 18446744073709551616 →
    marlineref03_bit.l0 k (x : Int) (n : Int) (i : Int) = some ((x / 2 ^ m % 2 : Nat) : Int) := by
  induction m with
  | zero =>
    intro n i k x h hn hk hx
    obtain ⟨k, rfl⟩ : ∃ j, k = j + 1 := ⟨k - 1, by omega⟩
    simp only [marlineref03_bit.l0]
    rw [if_neg (by omega), Int.tmod_eq_emod_of_nonneg (by omega)]
    simp
  | succ m ih =>
    intro n i k x h hn hk hx
    obtain ⟨k, rfl⟩ : ∃ j, k = j + 1 := ⟨k - 1, by omega⟩
    simp only [marlineref03_bit.l0]
    have e : wrap64 ((i : Int) + 1) = ((i + 1 : Nat) : Int) := by unfold wrap64; omega
    rw [if_pos (by omega), half x hx, e, ih n (i + 1) k (x / 2) (by omega) hn (by omega) (by omega), Nat.pow_succ, Nat.mul_comm, ← Nat.div_div_eq_div_mul]

theorem bit_bv (k n : Nat) (x : BitVec 64) (hn : n ≤ 200) (hk : n < k) : marlineref03_bit.f k (x.toNat : Int) (n : Int) = some ((x.toNat / 2 ^ n % 2 : Nat) : Int) :=
  bit_loop n n 0 k x.toNat (by omega) hn hk x.isLt

theorem fold_bit (x : BitVec 64) (n m : Nat) : (fold n x).toNat / 2 ^ m % 2 = (x.toNat / 2 ^ m % 2 + x.toNat / 2 ^ (m + n) % 2) % 2 := by
  unfold fold
  rw [BitVec.toNat_xor, BitVec.toNat_ushiftRight, ← Nat.toNat_testBit, ← Nat.toNat_testBit, ← Nat.toNat_testBit, Nat.testBit_xor, Nat.testBit_shiftRight, Nat.add_comm m n]
  cases x.toNat.testBit m <;> cases x.toNat.testBit (n + m) <;> rfl

theorem half_join (y m : Nat) : 2 * (y / 2 ^ (m + 1)) + y / 2 ^ m % 2 = y / 2 ^ m := by
  rw [Nat.pow_succ, ← Nat.div_div_eq_div_mul]
  omega

theorem folded_loop (x : BitVec 64) (n : Nat) (hn : n ≤ 64) (m : Nat) : ∀ k, m ≤ 64 → m + 130 < k →
    marlineref03_folded.l0 k (x.toNat : Int) (n : Int) (((fold n x).toNat / 2 ^ m : Nat) : Int) ((m : Int) - 1) = some ((fold n x).toNat : Int) := by
  induction m with
  | zero =>
    intro k hm hk
    obtain ⟨k, rfl⟩ : ∃ j, k = j + 1 := ⟨k - 1, by omega⟩
    simp only [marlineref03_folded.l0]
    rw [if_neg (by omega)]
    simp
  | succ m ih =>
    intro k hm hk
    obtain ⟨k, rfl⟩ : ∃ j, k = j + 1 := ⟨k - 1, by omega⟩
    have e1 : (((m + 1 : Nat) : Int) - 1) = (m : Int) := by omega
    rw [e1]
    simp only [marlineref03_folded.l0]
    rw [if_pos (by omega)]
    have e2 : wrap64 ((m : Int) + (n : Int)) = ((m + n : Nat) : Int) := by unfold wrap64; omega
    have e3 : wrap64 ((m : Int) - 1) = (m : Int) - 1 := by unfold wrap64; omega
    refine bnd (bit_bv k m x (by omega) (by omega)) ?_
    rw [e2, e3]
    have j := half_join (fold n x).toNat m
    have hb := fold_bit x n m
    have hl : (fold n x).toNat / 2 ^ m < 18446744073709551616 := Nat.lt_of_le_of_lt (Nat.div_le_self _ _) (fold n x).isLt
    have h1 : x.toNat / 2 ^ m % 2 < 2 := Nat.mod_lt _ (by decide)
    have h2 : x.toNat / 2 ^ (m + n) % 2 < 2 := Nat.mod_lt _ (by decide)
    by_cases c : ((m + n : Nat) : Int) < 64
    · rw [if_pos c]
      refine bnd (bit_bv k (m + n) x (by omega) (by omega)) ?_
      have ih' := ih k (by omega) (by omega)
      generalize hq : (fold n x).toNat / 2 ^ (m + 1) = q at *
      generalize hp : (fold n x).toNat / 2 ^ m = p at *
      generalize ha : x.toNat / 2 ^ m % 2 = a at *
      generalize hb' : x.toNat / 2 ^ (m + n) % 2 = b at *
      have e4 : IntKind.u64.wrap (IntKind.u64.wrap (2 * (q : Int)) + Int.tmod (IntKind.u64.wrap ((a : Int) + (b : Int))) 2) = (p : Int) := by
        rw [wrapu, wrapu, wrapu, Int.tmod_eq_emod_of_nonneg (by omega)]; omega
      rw [e4]
      exact ih'
    · rw [if_neg c]
      have z : x.toNat / 2 ^ (m + n) = 0 := by
        have h64 : 2 ^ 64 ≤ 2 ^ (m + n) := Nat.pow_le_pow_right (by decide) (by omega)
        exact Nat.div_eq_of_lt (by have := x.isLt; omega)
      rw [z] at hb h2
      have ih' := ih k (by omega) (by omega)
      generalize hq : (fold n x).toNat / 2 ^ (m + 1) = q at *
      generalize hp : (fold n x).toNat / 2 ^ m = p at *
      generalize ha : x.toNat / 2 ^ m % 2 = a at *
      have e4 : IntKind.u64.wrap (IntKind.u64.wrap (2 * (q : Int)) + (a : Int)) = (p : Int) := by
        rw [wrapu, wrapu]; omega
      rw [e4]
      exact ih'

theorem folded_bv (x : BitVec 64) (n : Nat) (hn : n ≤ 64) (m : Int) (hm : m = (n : Int)) : marlineref03_folded.f 200 (x.toNat : Int) m = some ((fold n x).toNat : Int) := by
  subst hm
  have h := folded_loop x n hn 64 200 (by decide) (by decide)
  have hl := (fold n x).isLt
  have e : (fold n x).toNat / 2 ^ 64 = 0 := Nat.div_eq_of_lt (by omega)
  rw [e] at h
  exact h

theorem mulC1 (y : BitVec 64) : IntKind.u64.wrap ((y.toNat : Int) * 13787848793156543929) = ((y * c1).toNat : Int) := by
  rw [mul_bv _ _ (by decide), e1c]
theorem mulC2 (y : BitVec 64) : IntKind.u64.wrap ((y.toNat : Int) * 10723151780598845931) = ((y * c2).toNat : Int) := by
  rw [mul_bv _ _ (by decide), e2c]
theorem refmix_bv (x : BitVec 64) : marlineref03_Mix.f 200 (x.toNat : Int) = some ((mixB x).toNat : Int) := by
  unfold marlineref03_Mix.f mixB
  refine bnd (folded_bv x 30 (by decide) 30 rfl) ?_
  refine bnd (a := ((fold 27 (fold 30 x * c1)).toNat : Int)) (by rw [mulC1]; exact folded_bv _ 27 (by decide) 27 rfl) ?_
  refine bnd (a := ((fold 31 (fold 27 (fold 30 x * c1) * c2)).toNat : Int)) (by rw [mulC2]; exact folded_bv _ 31 (by decide) 31 rfl) ?_
  rfl

theorem sixteenth (x : Nat) (h : x < 18446744073709551616) : IntKind.u64.wrap (Int.tdiv (x : Int) 16) = ((x / 16 : Nat) : Int) := by
  rw [wrapu, Int.tdiv_eq_ediv_of_nonneg (by omega)]
  omega
theorem refnib_loop (m : Nat) : ∀ (n i k x : Nat), i + m = n → n ≤ 15 → m < k → x < 18446744073709551616 →
    marlineref03_Nib.l0 k (x : Int) (n : Int) (i : Int) = some ((x / 16 ^ m % 16 : Nat) : Int) := by
  induction m with
  | zero =>
    intro n i k x h hn hk hx
    obtain ⟨k, rfl⟩ : ∃ j, k = j + 1 := ⟨k - 1, by omega⟩
    simp only [marlineref03_Nib.l0]
    rw [if_neg (by omega), Int.tmod_eq_emod_of_nonneg (by omega)]
    have e : wrap64 ((x : Int) % 16) = ((x / 16 ^ 0 % 16 : Nat) : Int) := by rw [Nat.pow_zero, Nat.div_one]; unfold wrap64; omega
    rw [e]
  | succ m ih =>
    intro n i k x h hn hk hx
    obtain ⟨k, rfl⟩ : ∃ j, k = j + 1 := ⟨k - 1, by omega⟩
    simp only [marlineref03_Nib.l0]
    have e : wrap64 ((i : Int) + 1) = ((i + 1 : Nat) : Int) := by unfold wrap64; omega
    rw [if_pos (by omega), sixteenth x hx, e, ih n (i + 1) k (x / 16) (by omega) hn (by omega) (by omega), Nat.pow_succ, Nat.mul_comm, ← Nat.div_div_eq_div_mul]

theorem nibs (x : BitVec 64) (a : Int) : ∃ r, mix_Nib.f (x.toNat : Int) a = some r ∧ marlineref03_Nib.f 200 (x.toNat : Int) a = some r := by
  by_cases h0 : a < 0
  · refine ⟨0, ?_, ?_⟩
    · unfold mix_Nib.f; rw [if_pos h0]
    · unfold marlineref03_Nib.f; rw [if_pos h0]; rfl
  · by_cases h1 : a > 15
    · refine ⟨0, ?_, ?_⟩
      · unfold mix_Nib.f; rw [if_neg h0, if_pos h1]
      · unfold marlineref03_Nib.f; rw [if_neg h0, decide_eq_true h1]; rfl
    · obtain ⟨n, rfl⟩ := Int.eq_ofNat_of_zero_le (show 0 ≤ a by omega)
      refine ⟨_, nib_bv x n (by omega), ?_⟩
      unfold marlineref03_Nib.f
      rw [if_neg h0, decide_eq_false h1]
      exact refnib_loop n n 0 199 x.toNat (by omega) (by omega) (by omega) x.isLt

theorem MixMixes : marlinelaw03_MixMixes.Pure := by
  intro a0 a1 _ _
  obtain ⟨x, hx⟩ := of_int a0
  refine ⟨200, ?_⟩
  unfold marlinelaw03_MixMixes.f mix_Key.f
  rw [hx]
  refine bnd (mix_bv x) ?_
  refine bnd (refmix_bv x) ?_
  rw [if_pos rfl]
  refine bnd (bnd (mix_bv x) rfl) ?_
  refine bnd (refmix_bv x) ?_
  rw [if_pos rfl]
  obtain ⟨r, h1, h2⟩ := nibs x a1
  refine bnd h1 ?_
  refine bnd h2 ?_
  rw [if_pos rfl]
  exact bnd (at_rounds (fun k => marlinelaw03_works.mono k) (show 7 ≤ 200 by decide) works_mix) rfl

end Go.Proofs.Ytjgppklominagaa.Pure
