/- Marline, layer 01: what the functions of whole numbers come to, plain. Conditions: numbers of 64 bits. -/
import Derived.Test.YtacpolhilhindaaDoorWa
import Derived.Laws.Bits64
import Derived.Laws.Bits64b
namespace Go.Proofs.YtacpolhilhindaaDoor.E
open Go.RowKit
set_option linter.unusedVariables false
set_option linter.unusedSimpArgs false

/-- a number of 64 bits. -/
abbrev In (x : Int) : Prop := -9223372036854775808 ≤ x ∧ x ≤ 9223372036854775807
/-- a number, or the trap. -/
def trap (x : Int) : Int × Int := if -9223372036854775808 ≤ x ∧ x ≤ 9223372036854775807 then (x, 0) else (0, 2)
theorem trap_in {x : Int} (h : In x) : trap x = (x, 0) := if_pos h
theorem trap_out {x : Int} (h : ¬ In x) : trap x = (0, 2) := if_neg h
def doS (s a b : Int) : Int × Int :=
  if s = 1 then trap (a + b) else if s = 2 then trap (a - b) else if s = 3 then trap (a * b) else if s = 4 then (if b = 0 then (0, 1) else trap (a.tdiv b)) else if s = 5 then (if b = 0 then (0, 1) else (a.tmod b, 0)) else (0, 3)
theorem ne_of_dec {p q : Prop} [Decidable p] [Decidable q] (h : p ↔ q) : (decide p != decide q) = false := by
  by_cases hp : p
  · simp [hp, h.1 hp]
  · have hq : ¬ q := fun e => hp (h.2 e); simp [hp, hq]
theorem dec_ne {p q : Prop} [Decidable p] [Decidable q] (h : ¬ (p ↔ q)) : (decide p != decide q) = true := by
  by_cases hp : p <;> by_cases hq : q <;> simp_all
theorem plus_is (a b : Int) (ha : In a) (hb : In b) : PA.whole_plus.f a b = some (trap (a + b)) := by
  unfold PA.whole_plus.f
  by_cases h : In (a + b)
  · have hw : wrap64 (a + b) = a + b := by unfold wrap64; omega
    rw [trap_in h, hw]
    by_cases hb0 : b = 0
    · rw [if_pos hb0, ite_self]
    · rw [if_neg]
      rw [ne_of_dec (by omega)]; simp
  · have h1 : ¬ (wrap64 (a + b) > a ↔ b > 0) := by unfold wrap64; omega
    rw [trap_out h, if_pos (dec_ne h1), if_neg (by omega)]
theorem minus_is (a b : Int) (ha : In a) (hb : In b) : PA.whole_minus.f a b = some (trap (a - b)) := by
  unfold PA.whole_minus.f
  by_cases h : In (a - b)
  · have hw : wrap64 (a - b) = a - b := by unfold wrap64; omega
    rw [trap_in h, hw]
    by_cases hb0 : b = 0
    · rw [if_pos hb0, ite_self]
    · rw [if_neg]
      rw [ne_of_dec (by omega)]; simp
  · have h1 : ¬ (wrap64 (a - b) < a ↔ b > 0) := by unfold wrap64; omega
    rw [trap_out h, if_pos (dec_ne h1), if_neg (by omega)]
theorem tmod_bd (a b : Int) (hb : b ≠ 0) : (b < 0 → b < a.tmod b ∧ a.tmod b < -b) ∧ (0 < b → -b < a.tmod b ∧ a.tmod b < b) := by
  have h1 : (a.tmod b).natAbs < b.natAbs := by rw [Int.natAbs_tmod]; exact Nat.mod_lt _ (by omega)
  omega
theorem tdiv_eq (a b : Int) : b * a.tdiv b + a.tmod b = a := Int.mul_tdiv_add_tmod a b
theorem tdiv_in (a b : Int) (ha : In a) (hb : In b) (h : ¬ (a = -9223372036854775808 ∧ b = -1)) : In (a.tdiv b) := by
  have h1 : (a.tdiv b).natAbs ≤ a.natAbs := by rw [Int.natAbs_tdiv]; exact Nat.div_le_self _ _
  by_cases h2 : a = -9223372036854775808
  · subst h2
    by_cases h3 : (-9223372036854775808 : Int).tdiv b = 9223372036854775808
    · have e := tdiv_eq (-9223372036854775808) b
      rw [h3] at e
      by_cases h0 : b = 0
      · subst h0; exact absurd h3 (by decide)
      · have := tmod_bd (-9223372036854775808) b h0
        omega
    · omega
  · omega
theorem times_is (a b : Int) (ha : In a) (hb : In b) : PA.whole_times.f 1 a b = some (trap (a * b)) := by
  unfold PA.whole_times.f
  by_cases ha0 : a = 0
  · subst ha0
    rw [if_pos rfl, Int.zero_mul]; rfl
  · rw [if_neg ha0]
    by_cases hb0 : b = 0
    · subst hb0
      rw [Int.mul_zero]; rfl
    · have hb1 : (b == 0) = false := beq_eq_false_iff_ne.2 hb0
      rw [hb1]
      simp only [PA.whole_times.j0]
      rw [if_neg (by decide)]
      obtain ⟨p, hp⟩ : ∃ p, a * b = p := ⟨_, rfl⟩
      by_cases hx : a = -1 ∧ b = -9223372036854775808
      · obtain ⟨rfl, rfl⟩ := hx
        rw [if_pos rfl, if_pos rfl]; rfl
      by_cases hy : b = -1 ∧ a = -9223372036854775808
      · obtain ⟨rfl, rfl⟩ := hy
        rw [if_neg (by decide), if_pos rfl, if_pos rfl]; rfl
      have main : (if wrap64 ((wrap64 (a * b)).tdiv b) = a then some (wrap64 (a * b), (0 : Int)) else some (0, 2)) = some (trap (a * b)) := by
        rw [hp]
        by_cases h : In p
        · have hw : wrap64 p = p := by unfold wrap64; omega
          have hd : p.tdiv b = a := by rw [← hp]; exact Int.mul_tdiv_cancel _ hb0
          have hwa : wrap64 a = a := by unfold wrap64; omega
          rw [hw, hd, hwa, if_pos rfl, trap_in h]
        · rw [trap_out h, if_neg]
          intro e
          have hc : In (wrap64 p) := by unfold wrap64; omega
          obtain ⟨c, hcc⟩ : ∃ c, wrap64 p = c := ⟨_, rfl⟩
          rw [hcc] at e hc
          have hcp : c ≠ p := by intro e2; rw [e2] at hc; exact h hc
          have hk : ∃ k : Int, c = p + k * 18446744073709551616 := ⟨-((p + 9223372036854775808) / 18446744073709551616), by rw [← hcc]; unfold wrap64; omega⟩
          obtain ⟨k, hk⟩ := hk
          have hz : ¬ (c = -9223372036854775808 ∧ b = -1) := by
            rintro ⟨h1, h2⟩
            rw [h2] at hp
            omega
          have ht := tdiv_in c b hc hb hz
          have hwt : wrap64 (c.tdiv b) = c.tdiv b := by unfold wrap64; omega
          rw [hwt] at e
          have e1 := tdiv_eq c b
          rw [e, Int.mul_comm b a, hp] at e1
          have := tmod_bd c b hb0
          omega
      split
      · rename_i h1
        rw [if_neg (fun e => hx ⟨h1, e⟩)]
        split
        · rename_i h2
          rw [if_neg (fun e => hy ⟨h2, e⟩)]; first | exact main | (rw [if_neg hb0]; exact main)
        · first | exact main | (rw [if_neg hb0]; exact main)
      · split
        · rename_i h2
          rw [if_neg (fun e => hy ⟨h2, e⟩)]; first | exact main | (rw [if_neg hb0]; exact main)
        · first | exact main | (rw [if_neg hb0]; exact main)
theorem over_is (a b : Int) (ha : In a) (hb : In b) : PA.whole_over.f 1 a b false = some (if b = 0 then (0, 1) else trap (a.tdiv b)) := by
  unfold PA.whole_over.f
  by_cases hb0 : b = 0
  · rw [if_pos hb0, if_pos hb0]
  · rw [if_neg hb0, if_neg hb0, if_neg (by decide)]
    simp only [PA.whole_over.j0]
    rw [if_neg (by decide), if_neg (by decide)]
    by_cases h1 : b = -1
    · subst h1
      rw [if_pos rfl, minus_is 0 a (by decide) ha]
      have e : a.tdiv (-1) = 0 - a := by have := Int.tdiv_neg a 1; rw [this, Int.tdiv_one]; omega
      rw [e]; rfl
    · rw [if_neg h1, if_neg hb0]
      have hi := tdiv_in a b ha hb (by omega)
      have hw : wrap64 (a.tdiv b) = a.tdiv b := by unfold wrap64; omega
      rw [hw, trap_in hi]
theorem rest_is (a b : Int) (ha : In a) (hb : In b) : PA.whole_over.f 1 a b true = some (if b = 0 then (0, 1) else (a.tmod b, 0)) := by
  unfold PA.whole_over.f
  by_cases hb0 : b = 0
  · rw [if_pos hb0, if_pos hb0]
  · rw [if_neg hb0, if_neg hb0, if_pos rfl]
    simp only [PA.whole_over.j0]
    by_cases h1 : b = -1
    · subst h1
      rw [if_pos rfl]
      have e : a.tmod (-1) = 0 := by rw [Int.tmod_neg]; exact Int.tmod_one a
      rw [e]; rfl
    · rw [beq_eq_false_iff_ne.2 h1, if_neg (by decide), if_pos trivial, if_neg hb0]
theorem do_is (s a b : Int) (ha : In a) (hb : In b) : PA.whole_Do.f 1 s a b = some (doS s a b) := by
  unfold PA.whole_Do.f doS
  by_cases h1 : s = 1
  · rw [if_pos h1, if_pos h1, plus_is a b ha hb]; rfl
  rw [if_neg h1, if_neg h1]
  by_cases h2 : s = 2
  · rw [if_pos h2, if_pos h2, minus_is a b ha hb]; rfl
  rw [if_neg h2, if_neg h2]
  by_cases h3 : s = 3
  · rw [if_pos h3, if_pos h3, times_is a b ha hb]; rfl
  rw [if_neg h3, if_neg h3]
  by_cases h4 : s = 4
  · subst h4
    rw [if_pos rfl, if_pos rfl, show ((4 : Int) == 5) = false from rfl, over_is a b ha hb]; rfl
  rw [if_neg h4, if_neg h4]
  by_cases h5 : s = 5
  · subst h5
    rw [if_pos rfl, if_pos rfl, show ((5 : Int) == 5) = true from rfl, rest_is a b ha hb]; rfl
  rw [if_neg h5, if_neg h5]
theorem doS_in (s a b : Int) (ha : In a) (hb : In b) : In (doS s a b).1 := by
  have ht : ∀ x, In (trap x).1 := by
    intro x
    unfold trap
    split
    · assumption
    · decide
  unfold doS
  split
  · exact ht _
  split
  · exact ht _
  split
  · exact ht _
  split
  · split
    · decide
    · exact ht _
  split
  · split
    · decide
    · rename_i hb0
      have := tmod_bd a b hb0
      show In (a.tmod b)
      omega
  · decide
/-! The reference. -/
/-- how far from 0. -/
def ab (a : Int) : Int := if a < 0 then -a else a
def sg (s : Bool) (n : Int) : Int := if s = true then -n else n
theorem xor_ones (x : Int) (h0 : 0 ≤ x) (h : x < 18446744073709551616) : bits .xor .u64 18446744073709551615 x = 18446744073709551615 - x := by
  obtain ⟨n, rfl⟩ : ∃ n : Nat, x = n := ⟨x.toNat, by omega⟩
  have hn : n < 18446744073709551616 := by omega
  have h1 := bits_xor_u64_nat 18446744073709551615 n (by decide) hn
  rw [show ((18446744073709551615 : Nat) : Int) = 18446744073709551615 from rfl] at h1
  rw [h1]
  have h2 : 18446744073709551615 ^^^ n = 18446744073709551615 - n := by
    have h3 : (BitVec.allOnes 64 ^^^ BitVec.ofNat 64 n).toNat = (~~~ (BitVec.ofNat 64 n)).toNat := by rw [BitVec.allOnes_xor]
    rw [BitVec.toNat_xor, BitVec.toNat_not, BitVec.toNat_ofNat, Nat.mod_eq_of_lt hn] at h3
    exact h3
  rw [h2]; omega
theorem and_half (x : Int) (h0 : 0 ≤ x) (h : x < 9223372036854775808) : bits .and .u64 x 9223372036854775807 = x := by
  obtain ⟨n, rfl⟩ : ∃ n : Nat, x = n := ⟨x.toNat, by omega⟩
  have h1 := bits_and_u64_nat n 9223372036854775807 (by omega) (by decide)
  rw [show ((9223372036854775807 : Nat) : Int) = 9223372036854775807 from rfl] at h1
  rw [h1]
  have h2 := Nat.and_two_pow_sub_one_eq_mod n 63
  rw [show (2 ^ 63 - 1 : Nat) = 9223372036854775807 from by decide] at h2
  rw [h2, Nat.mod_eq_of_lt (by omega)]
theorem big_is (a : Int) (ha : In a) : PA.marlineref01_big.f a = some (decide (a < 0), ab a) := by
  unfold PA.marlineref01_big.f ab
  by_cases h : a < 0
  · rw [if_pos h, if_pos h, decide_eq_true h]
    have h1 : IntKind.u64.wrap a = a + 18446744073709551616 := by rw [IntKind.wrap_u64]; omega
    rw [h1, xor_ones _ (by omega) (by omega), IntKind.wrap_u64]
    congr 2
    omega
  · rw [if_neg h, if_neg h, decide_eq_false h, IntKind.wrap_u64]
    congr 2
    omega
theorem told_back (s : Bool) (n : Int) (h0 : 0 ≤ n) (h : n < 18446744073709551616) : ((PA.marlineref01_back.f s n).bind fun r => ((PA.marlineref01_told.f r.1 r.2).bind fun q => some (q.1, q.2))) = some (trap (sg s n)) := by
  unfold PA.marlineref01_back.f PA.marlineref01_told.f sg
  cases s
  · rw [if_neg (by decide), Option.bind_some]
    by_cases h1 : n < 9223372036854775808
    · rw [decide_eq_true h1, if_pos rfl, and_half n h0 h1, if_neg (by decide), trap_in (by omega)]
      have : wrap64 n = n := by unfold wrap64; omega
      rw [this]; rfl
    · rw [decide_eq_false h1, if_neg (by simp), if_neg (by decide), trap_out (by omega)]; rfl
  · rw [if_pos rfl, Option.bind_some]
    by_cases h1 : n ≤ 9223372036854775808
    · rw [decide_eq_true h1, if_pos rfl, xor_ones n h0 h, if_pos rfl, trap_in (by omega), IntKind.wrap_u64]
      have : wrap64 ((18446744073709551615 - n + 1) % 18446744073709551616) = -n := by unfold wrap64; omega
      rw [this]; rfl
    · rw [decide_eq_false h1, if_neg (by simp), if_pos rfl, trap_out (by omega)]; rfl
theorem told_sum (s t : Bool) (a b : Int) (ha : 0 ≤ a ∧ a ≤ 9223372036854775808) (hb : 0 ≤ b ∧ b ≤ 9223372036854775808) :
    ((PA.marlineref01_sum.f s a t b).bind fun r => ((PA.marlineref01_told.f r.1 r.2).bind fun q => some (q.1, q.2))) = some (trap (sg s a + sg t b)) := by
  have hbk : ∀ (u : Bool) (n : Int), 0 ≤ n → n < 18446744073709551616 → (((PA.marlineref01_back.f u n).bind fun bt => some (bt.1, bt.2)).bind fun r => ((PA.marlineref01_told.f r.1 r.2).bind fun q => some (q.1, q.2))) = some (trap (sg u n)) := by
    intro u n h1 h2
    rw [← told_back u n h1 h2]
    cases PA.marlineref01_back.f u n <;> rfl
  unfold PA.marlineref01_sum.f
  by_cases hst : s = t
  · subst hst
    rw [beq_self_eq_true, if_pos rfl, IntKind.wrap_u64]
    by_cases h : a + b < 18446744073709551616
    · rw [Int.emod_eq_of_lt (by omega) h, if_neg (by omega), hbk _ _ (by omega) h]
      cases s <;> simp [sg] <;> congr 2 <;> omega
    · rw [if_pos (by omega), trap_out]
      · rfl
      · cases s <;> simp [sg] <;> omega
  · have h1 : (s == t) = false := beq_eq_false_iff_ne.2 hst
    rw [h1, if_neg (by decide), IntKind.wrap_u64, IntKind.wrap_u64]
    by_cases h : a ≥ b
    · rw [if_pos h, Int.emod_eq_of_lt (by omega) (by omega), hbk _ _ (by omega) (by omega)]
      cases s <;> cases t <;> simp_all [sg] <;> congr 2 <;> omega
    · rw [if_neg h, show (b - a) % 18446744073709551616 = b - a from Int.emod_eq_of_lt (by omega) (by omega), hbk _ _ (by omega) (by omega)]
      cases s <;> cases t <;> simp_all [sg] <;> congr 2 <;> omega
/-- a product's halves. -/
theorem wide_is (a b : Int) (ha : 0 ≤ a ∧ a < 18446744073709551616) (hb : 0 ≤ b ∧ b < 18446744073709551616) :
    ∃ h l, PA.marlineref01_wide.f a b = some (h, l) ∧ 0 ≤ h ∧ 0 ≤ l ∧ l < 18446744073709551616 ∧ a * b = h * 18446744073709551616 + l := by
  unfold PA.marlineref01_wide.f
  have t1 : ∀ x : Int, 0 ≤ x → x.tdiv 4294967296 = x / 4294967296 := fun x hx => Int.tdiv_eq_ediv_of_nonneg hx
  have t2 : ∀ x : Int, 0 ≤ x → x.tmod 4294967296 = x % 4294967296 := fun x hx => Int.tmod_eq_emod_of_nonneg hx
  simp only [IntKind.wrap_u64]
  obtain ⟨al, hal⟩ : ∃ x, a % 4294967296 = x := ⟨_, rfl⟩
  obtain ⟨ah, hah⟩ : ∃ x, a / 4294967296 = x := ⟨_, rfl⟩
  obtain ⟨bl, hbl⟩ : ∃ x, b % 4294967296 = x := ⟨_, rfl⟩
  obtain ⟨bh, hbh⟩ : ∃ x, b / 4294967296 = x := ⟨_, rfl⟩
  rw [t1 a ha.1, t1 b hb.1, t2 a ha.1, t2 b hb.1, hal, hah, hbl, hbh]
  have ra : a = ah * 4294967296 + al := by omega
  have rb : b = bh * 4294967296 + bl := by omega
  have b1 : 0 ≤ al ∧ al ≤ 4294967295 := by omega
  have b2 : 0 ≤ ah ∧ ah ≤ 4294967295 := by omega
  have b3 : 0 ≤ bl ∧ bl ≤ 4294967295 := by omega
  have b4 : 0 ≤ bh ∧ bh ≤ 4294967295 := by omega
  have m : ∀ x y : Int, 0 ≤ x ∧ x ≤ 4294967295 → 0 ≤ y ∧ y ≤ 4294967295 → 0 ≤ x * y ∧ x * y ≤ 18446744065119617025 := by
    intro x y hx hy
    refine ⟨Int.mul_nonneg hx.1 hy.1, ?_⟩
    have := Int.mul_le_mul hx.2 hy.2 hy.1 (by decide : (0 : Int) ≤ 4294967295)
    omega
  have m1 := m al bl b1 b3
  have m2 := m ah bl b2 b3
  have m3 := m al bh b1 b4
  have m4 := m ah bh b2 b4
  have prod : a * b = (ah * bh) * 18446744073709551616 + (ah * bl + al * bh) * 4294967296 + al * bl := by
    rw [ra, rb]
    have e1 : ah * 4294967296 * (bh * 4294967296) = (ah * bh) * 18446744073709551616 := by
      rw [Int.mul_assoc, ← Int.mul_assoc 4294967296 bh, Int.mul_comm 4294967296 bh, Int.mul_assoc bh, ← Int.mul_assoc ah]; rfl
    have e2 : ah * 4294967296 * bl = (ah * bl) * 4294967296 := by rw [Int.mul_assoc, Int.mul_comm 4294967296 bl, ← Int.mul_assoc]
    have e3 : al * (bh * 4294967296) = (al * bh) * 4294967296 := by rw [← Int.mul_assoc]
    rw [Int.add_mul, Int.mul_add, Int.mul_add, e1, e2, e3, Int.add_mul]
    omega
  rw [show ah % 18446744073709551616 = ah from by omega, show bh % 18446744073709551616 = bh from by omega]
  generalize al * bl = p at *
  generalize ah * bl = q at *
  generalize al * bh = r at *
  generalize ah * bh = s at *
  have es : s % 18446744073709551616 = s := by omega
  have eq : q % 18446744073709551616 = q := by omega
  have er : r % 18446744073709551616 = r := by omega
  have ep : p % 18446744073709551616 = p := by omega
  have eph : p / 4294967296 % 18446744073709551616 = p / 4294967296 := by omega
  have em : (q + p / 4294967296) % 18446744073709551616 = q + p / 4294967296 := by omega
  simp only [es, eq, er, ep, t1 p m1.1, t2 p m1.1, eph, em]
  obtain ⟨M, hM⟩ : ∃ M, q + p / 4294967296 = M := ⟨_, rfl⟩
  have bM : 0 ≤ M ∧ M < 18446744073709551616 := by omega
  have emh : M / 4294967296 % 18446744073709551616 = M / 4294967296 := by omega
  have eo : (r + M % 4294967296) % 18446744073709551616 = r + M % 4294967296 := by omega
  simp only [hM, t1 M bM.1, t2 M bM.1, emh, eo]
  obtain ⟨O, hO⟩ : ∃ O, r + M % 4294967296 = O := ⟨_, rfl⟩
  have bO : 0 ≤ O ∧ O < 18446744073709551616 := by omega
  have eoh : O / 4294967296 % 18446744073709551616 = O / 4294967296 := by omega
  simp only [hO, t1 O bO.1, t2 O bO.1, eoh]
  refine ⟨_, _, rfl, ?_⟩
  have f1 : (s + M / 4294967296) % 18446744073709551616 = s + M / 4294967296 := by omega
  have f2 : O % 4294967296 * 4294967296 % 18446744073709551616 = O % 4294967296 * 4294967296 := by omega
  rw [f1, f2]
  have f3 : (s + M / 4294967296 + O / 4294967296) % 18446744073709551616 = s + M / 4294967296 + O / 4294967296 := by omega
  have f4 : (O % 4294967296 * 4294967296 + p % 4294967296) % 18446744073709551616 = O % 4294967296 * 4294967296 + p % 4294967296 := by omega
  rw [f3, f4, prod]
  omega
theorem ab_bd (a : Int) (ha : In a) : 0 ≤ ab a ∧ ab a ≤ 9223372036854775808 := by unfold ab; split <;> omega
theorem sg_ab (a : Int) : sg (decide (a < 0)) (ab a) = a := by
  unfold sg ab
  by_cases h : a < 0
  · rw [decide_eq_true h, if_pos rfl, if_pos h]; omega
  · rw [decide_eq_false h, if_neg (by decide), if_neg h]
theorem sg_not (a : Int) : sg (!decide (a < 0)) (ab a) = -a := by
  unfold sg ab
  by_cases h : a < 0
  · rw [decide_eq_true h, if_pos h]; rfl
  · rw [decide_eq_false h, if_neg h]; rfl
theorem mul_sg (a b : Int) : a * b = sg (decide (a < 0) != decide (b < 0)) (ab a * ab b) := by
  unfold sg ab
  by_cases h : a < 0 <;> by_cases k : b < 0 <;> simp [h, k, Int.neg_mul, Int.mul_neg]
theorem div_sg (a b : Int) (hb : b ≠ 0) : a.tdiv b = sg (decide (a < 0) != decide (b < 0)) (ab a / ab b) := by
  unfold ab
  by_cases h : a < 0 <;> by_cases k : b < 0
  · rw [decide_eq_true h, decide_eq_true k, if_pos h, if_pos k, ← Int.tdiv_eq_ediv_of_nonneg (by omega), Int.neg_tdiv, Int.tdiv_neg, Int.neg_neg]; rfl
  · rw [decide_eq_true h, decide_eq_false k, if_pos h, if_neg k, ← Int.tdiv_eq_ediv_of_nonneg (by omega), Int.neg_tdiv]
    show _ = - - _
    rw [Int.neg_neg]
  · rw [decide_eq_false h, decide_eq_true k, if_neg h, if_pos k, ← Int.tdiv_eq_ediv_of_nonneg (by omega), Int.tdiv_neg]
    show _ = - - _
    rw [Int.neg_neg]
  · rw [decide_eq_false h, decide_eq_false k, if_neg h, if_neg k, ← Int.tdiv_eq_ediv_of_nonneg (by omega)]; rfl
theorem mod_sg (a b : Int) (hb : b ≠ 0) : a.tmod b = sg (decide (a < 0)) (ab a % ab b) := by
  unfold sg ab
  by_cases h : a < 0 <;> by_cases k : b < 0 <;> simp only [h, k, decide_true, decide_false, if_true, if_false, Bool.false_eq_true]
  · rw [← Int.tmod_eq_emod_of_nonneg (by omega), Int.neg_tmod, Int.tmod_neg, Int.neg_neg]
  · rw [← Int.tmod_eq_emod_of_nonneg (by omega), Int.neg_tmod, Int.neg_neg]
  · rw [← Int.tmod_eq_emod_of_nonneg (by omega), Int.tmod_neg]
  · rw [← Int.tmod_eq_emod_of_nonneg (by omega)]
theorem sg_pos (s : Bool) (n : Int) (h : 0 ≤ n) : sg (s && decide (n > 0)) n = sg s n := by
  unfold sg
  by_cases hn : n > 0
  · rw [decide_eq_true hn, Bool.and_true]
  · have : n = 0 := by omega
    subst this
    simp
theorem ref_is (s a b : Int) (ha : In a) (hb : In b) : PA.marlineref01_Do.f 1 s a b = some (doS s a b) := by
  unfold PA.marlineref01_Do.f
  rw [big_is a ha, Option.bind_some, big_is b hb, Option.bind_some]
  have ba := ab_bd a ha
  have bb := ab_bd b hb
  dsimp only
  unfold doS
  by_cases h1 : s = 1
  · rw [if_pos h1, if_pos h1, told_sum _ _ _ _ ba bb, sg_ab, sg_ab]
  rw [if_neg h1, if_neg h1]
  by_cases h2 : s = 2
  · rw [if_pos h2, if_pos h2, told_sum _ _ _ _ ba bb, sg_ab, sg_not, Int.sub_eq_add_neg]
  rw [if_neg h2, if_neg h2]
  have hz : ab b = 0 ↔ b = 0 := by unfold ab; split <;> omega
  by_cases h3 : s = 3
  · rw [if_pos h3, if_pos h3]
    obtain ⟨h, l, e, e0, e1, e2, e3⟩ := wide_is (ab a) (ab b) (by omega) (by omega)
    rw [e, Option.bind_some]
    dsimp only
    have hm := mul_sg a b
    rw [e3] at hm
    by_cases hh : h > 0
    · rw [if_pos hh, trap_out]
      rw [hm]
      unfold sg
      split <;> omega
    · have h0 : h = 0 := by omega
      subst h0
      rw [if_neg (by decide)]
      rw [show (0 : Int) * 18446744073709551616 + l = l by omega] at hm
      by_cases hs : (decide (a < 0) != decide (b < 0)) = true
      · rw [if_pos hs, told_back _ _ e1 e2, hm, hs]
        have := sg_pos true l e1
        rw [Bool.true_and] at this
        rw [this]
      · have hs' : (decide (a < 0) != decide (b < 0)) = false := by simpa using hs
        rw [if_neg hs, told_back _ _ e1 e2, hm, hs']
  rw [if_neg h3, if_neg h3]
  by_cases h4 : s = 4
  · subst h4
    rw [if_pos rfl, if_pos rfl]
    simp only [PA.marlineref01_Do.j0]
    rw [if_neg (by decide)]
    by_cases hb0 : b = 0
    · rw [if_pos (hz.2 hb0), if_pos hb0]
    · rw [if_neg (fun e => hb0 (hz.1 e)), if_neg hb0, if_neg (by decide), div_sg a b hb0, Int.tdiv_eq_ediv_of_nonneg ba.1, IntKind.wrap_u64]
      have q0 : 0 ≤ ab a / ab b := Int.ediv_nonneg ba.1 bb.1
      have q1 : ab a / ab b ≤ ab a := Int.ediv_le_self _ ba.1
      rw [Int.emod_eq_of_lt q0 (by omega)]
      by_cases hs : (decide (a < 0) != decide (b < 0)) = true
      · rw [if_pos hs, told_back _ _ q0 (by omega), hs]
        have := sg_pos true _ q0
        rw [Bool.true_and] at this
        rw [this]
      · have hs' : (decide (a < 0) != decide (b < 0)) = false := by simpa using hs
        rw [if_neg hs, told_back _ _ q0 (by omega), hs']
  rw [if_neg h4, if_neg h4]
  by_cases h5 : s = 5
  · subst h5
    rw [if_pos rfl, show ((5 : Int) != 5) = false from rfl]
    simp only [PA.marlineref01_Do.j0]
    rw [if_neg (by decide)]
    by_cases hb0 : b = 0
    · rw [if_pos (hz.2 hb0), if_pos hb0]
    · rw [if_neg (fun e => hb0 (hz.1 e)), if_neg hb0, if_pos trivial, Int.tmod_eq_emod_of_nonneg ba.1]
      have hbz : ab b ≠ 0 := fun e => hb0 (hz.1 e)
      have q0 : 0 ≤ ab a % ab b := Int.emod_nonneg _ hbz
      have q1 : ab a % ab b < ab b := Int.emod_lt_of_pos _ (by omega)
      have ht : trap (a.tmod b) = (a.tmod b, 0) := trap_in (by have := tmod_bd a b hb0; omega)
      rw [← ht, mod_sg a b hb0]
      by_cases hs : a < 0
      · rw [if_pos (decide_eq_true hs), told_back _ _ q0 (by omega), decide_eq_true hs]
        have := sg_pos true _ q0
        rw [Bool.true_and] at this
        rw [this]
      · rw [if_neg (by simpa using hs), told_back _ _ q0 (by omega), decide_eq_false hs]
  · rw [if_neg h5]
    have : (s != 5) = true := by simpa using h5
    rw [this]
    rfl
end Go.Proofs.YtacpolhilhindaaDoor.E
