/- Plain facts on numbers of 64 bits: what the printed words (bits, wrap, shr) are as bit vectors; a number that is folded by a shift comes back. No condition. -/
import Derived.Test.YtjgppklominagaaWMore
namespace Go.Proofs.Ytjgppklominagaa.Bv
open Go.RowKit Go.Proofs.YtjgppklominagaaW.PrintWords Go.Proofs.YtjgppklominagaaW.PrintLast

theorem wrapu (n : Int) : IntKind.u64.wrap n = n % 18446744073709551616 := by
  simp [IntKind.wrap, IntKind.bits, IntKind.signed]

theorem xor_bv (a b : BitVec 64) : Go.bits .xor .u64 (a.toNat : Int) (b.toNat : Int) = ((a ^^^ b).toNat : Int) := by
  show IntKind.u64.wrap (((BitVec.ofInt 64 (a.toNat : Int)) ^^^ (BitVec.ofInt 64 (b.toNat : Int))).toNat : Int) = _
  rw [wrapu, BitVec.ofInt_natCast, BitVec.ofInt_natCast, BitVec.ofNat_toNat, BitVec.ofNat_toNat, BitVec.setWidth_eq, BitVec.setWidth_eq]
  have := (a ^^^ b).isLt
  omega

theorem mul_bv (a : BitVec 64) (c : Int) (h : 0 ≤ c) : IntKind.u64.wrap ((a.toNat : Int) * c) = ((a * BitVec.ofNat 64 c.toNat).toNat : Int) := by
  obtain ⟨n, rfl⟩ := Int.eq_ofNat_of_zero_le h
  rw [wrapu, BitVec.toNat_mul, BitVec.toNat_ofNat, Nat.mul_mod_mod, Int.toNat_natCast, Int.natCast_emod, Int.natCast_mul]
  rfl

theorem shr_bv (a : BitVec 64) (n : Nat) (h : n ≤ 64) : shr .u64 (a.toNat : Int) (n : Int) = ((a >>> n).toNat : Int) := by
  unfold shr
  rw [Int.toNat_natCast, Nat.min_eq_left (by simpa [IntKind.bits] using h), BitVec.toNat_ushiftRight, Nat.shiftRight_eq_div_pow, Int.natCast_ediv, Int.natCast_pow]
  rfl

theorem of_int (a : Int) : ∃ b : BitVec 64, IntKind.u64.wrap a = (b.toNat : Int) := by
  refine ⟨BitVec.ofInt 64 a, ?_⟩
  rw [wrapu, BitVec.toNat_ofInt]
  omega

theorem toNat_inj {a b : BitVec 64} : ((a.toNat : Int) = (b.toNat : Int)) ↔ a = b := by
  constructor
  · intro h; exact BitVec.eq_of_toNat_eq (by omega)
  · rintro rfl; rfl

/-- x folded by a shift. -/
def fold (n : Nat) (x : BitVec 64) : BitVec 64 := x ^^^ (x >>> n)
/-- the shift taken back, two rounds. -/
def unfold2 (n : Nat) (x : BitVec 64) : BitVec 64 := x ^^^ ((x ^^^ (x >>> n)) >>> n)

theorem shr_big (x : BitVec 64) (n : Nat) (h : 64 ≤ n) : x >>> n = 0#64 := by
  apply BitVec.eq_of_toNat_eq
  rw [BitVec.toNat_ushiftRight, Nat.shiftRight_eq_div_pow]
  have := x.isLt
  have h2 : 2 ^ 64 ≤ 2 ^ n := Nat.pow_le_pow_right (by decide) h
  rw [Nat.div_eq_of_lt (by omega)]; rfl

theorem unfold_fold (n : Nat) (x : BitVec 64) (h : 64 ≤ n + n + n) : unfold2 n (fold n x) = x := by
  unfold unfold2 fold
  simp only [BitVec.ushiftRight_xor_distrib, ← BitVec.shiftRight_add]
  rw [shr_big x (n + n + n) h]
  ext i hi
  simp

theorem fold_unfold (n : Nat) (x : BitVec 64) (h : 64 ≤ n + n + n) : fold n (unfold2 n x) = x := by
  unfold unfold2 fold
  simp only [BitVec.ushiftRight_xor_distrib, ← BitVec.shiftRight_add]
  rw [shr_big x (n + n + n) h]
  ext i hi
  simp

def c1 : BitVec 64 := 13787848793156543929#64
def c2 : BitVec 64 := 10723151780598845931#64
def i1 : BitVec 64 := 10871156337175269513#64
def i2 : BitVec 64 := 3573116690164977347#64

def mixB (x : BitVec 64) : BitVec 64 := fold 31 (fold 27 (fold 30 x * c1) * c2)
def unmixB (x : BitVec 64) : BitVec 64 := unfold2 30 (unfold2 27 (unfold2 31 x * i2) * i1)

theorem c1i1 : c1 * i1 = 1#64 := by decide
theorem c2i2 : c2 * i2 = 1#64 := by decide
theorem i1c1 : i1 * c1 = 1#64 := by decide
theorem i2c2 : i2 * c2 = 1#64 := by decide

theorem unmix_mix (x : BitVec 64) : unmixB (mixB x) = x := by
  unfold unmixB mixB
  rw [unfold_fold 31 _ (by decide), BitVec.mul_assoc, c2i2, BitVec.mul_one, unfold_fold 27 _ (by decide), BitVec.mul_assoc, c1i1, BitVec.mul_one, unfold_fold 30 _ (by decide)]
theorem mix_unmix (x : BitVec 64) : mixB (unmixB x) = x := by
  unfold unmixB mixB
  rw [fold_unfold 30 _ (by decide), BitVec.mul_assoc, i1c1, BitVec.mul_one, fold_unfold 27 _ (by decide), BitVec.mul_assoc, i2c2, BitVec.mul_one, fold_unfold 31 _ (by decide)]
theorem mix_inj {x y : BitVec 64} : mixB x = mixB y ↔ x = y := by
  constructor
  · intro h; rw [← unmix_mix x, h, unmix_mix]
  · rintro rfl; rfl
end Go.Proofs.Ytjgppklominagaa.Bv
