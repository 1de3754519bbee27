/- Marline, layer 08: a number is read, in plain Lean. Conditions: as each says. -/
import Derived.Test.YtggdpeeiioibgaaCd
namespace Go.Proofs.Ytggdpeeiioibgaa.E
open Go.RowKit Go.Proofs.YtggdpeeiioibgaaW.PrintWords Go.Proofs.YtggdpeeiioibgaaW.PrintLast Go.Proofs.YtggdpeeiioibgaaW.PrintMore Go.Proofs.Ytggdpeeiioibgaa.Kinds Go.Proofs.Ytggdpeeiioibgaa.Obj
set_option linter.unusedVariables false
set_option linter.unusedSimpArgs false

/-- a number's groups, read: so many more, this one's number, what there is. -/
def dec : Nat → Nat → Nat → List Int → Option (Nat × List Int)
  | 0, _, _, _ => none
  | _ + 1, _, _, [] => none
  | d + 1, i, x, c :: s => if i = 9 ∧ 1 < c % 128 then none else if 128 ≤ c then dec d (i + 1) (x + (c % 128).toNat * 128 ^ i) s else if c = 0 ∧ 0 < i then none else some (x + (c % 128).toNat * 128 ^ i, s)
def unz (m : Nat) : Int := if m % 2 = 1 then -((m / 2 : Nat) : Int) - 1 else ((m / 2 : Nat) : Int)
/-- a number that is read. -/
def num (s : List Int) : Option (Int × List Int) := (dec 10 0 0 s).map fun r => (unz r.1, r.2)
/-- a row of bytes. -/
def Bytes (b : List Int) : Prop := ∀ c ∈ b, 0 ≤ c ∧ c < 256
/-- what a reader comes to: where it stands, and what it says, if there is any. -/
def Says (b : List Int) (p : Nat) (res : Option (Int × Bool × Int)) (o : Option (Int × List Int)) : Prop :=
  ∃ (r1 : Int) (r2 : Bool) (q : Nat), res = some (r1, r2, (q : Int)) ∧ p ≤ q ∧ q ≤ b.length ∧ match o with | some (n, r) => r2 = true ∧ r1 = n ∧ b.drop q = r ∧ p < q | none => r2 = false
theorem next_no (b : List Int) (p : Nat) (h : ¬ p < b.length) : PC.cell_reader_next.f b (p : Int) = some (0, false, (p : Int)) := by
  unfold PC.cell_reader_next.f
  rw [if_pos (by omega)]
theorem rd_at (b : List Int) (p : Nat) (h : p < b.length) : rd b (p : Int) = b[p] := by
  show b.getD (p : Int).toNat 0 = b[p]
  rw [Int.toNat_natCast, List.getD_eq_getElem?_getD, List.getElem?_eq_getElem h]
  rfl
theorem next_yes (b : List Int) (p : Nat) (h : p < b.length) (hb : b.length ≤ 140737488355328) : PC.cell_reader_next.f b (p : Int) = some (b[p], true, ((p + 1 : Nat) : Int)) := by
  unfold PC.cell_reader_next.f
  have e1 : wrap64 ((p : Int) + 1) = ((p + 1 : Nat) : Int) := by unfold wrap64; omega
  have e2 : wrap64 (((p + 1 : Nat) : Int) - 1) = (p : Int) := by unfold wrap64; omega
  rw [if_neg (by omega), e1, e2, if_pos (by omega), if_pos (by omega), rd_at b p h]
theorem and127 (c : Int) (h0 : 0 ≤ c) (h1 : c < 256) : Go.bits .and .u8 c 127 = c % 128 := by
  rw [u8_and c 127 h0 h1 (by omega) (by omega)]
  have : c.toNat &&& (127 : Int).toNat = c.toNat % 128 := nat_mask7 c.toNat
  rw [this]; omega
theorem pow_le (i : Nat) (h : i ≤ 9) : (128 : Nat) ^ i ≤ 128 ^ 9 := Nat.pow_le_pow_right (by decide) h
theorem pow7 (i : Nat) : (2 : Nat) ^ (7 * i) = 128 ^ i := by rw [Nat.pow_mul]
theorem shl_is (x i : Nat) (h : i ≤ 9) : shl .u64 (x : Int) ((7 * i : Nat) : Int) = ((x * 128 ^ i % 18446744073709551616 : Nat) : Int) := by
  unfold shl
  have e : min (((7 * i : Nat) : Int).toNat) IntKind.u64.bits = 7 * i := by
    rw [Int.toNat_natCast]; show min (7 * i) 64 = _; omega
  have e2 : ((x * 2 ^ (7 * i) : Nat) : Int) = (x : Int) * 2 ^ (7 * i) := by rw [Int.natCast_mul, Int.natCast_pow]; rfl
  rw [e, IntKind.wrap_u64, ← pow7, ← e2]
  generalize x * 2 ^ (7 * i) = z
  omega
theorem shr_is (x i : Nat) (h : i ≤ 9) : shr .u64 (x : Int) ((7 * i : Nat) : Int) = ((x / 128 ^ i : Nat) : Int) := by
  unfold shr
  have e : min (((7 * i : Nat) : Int).toNat) IntKind.u64.bits = 7 * i := by
    rw [Int.toNat_natCast]; show min (7 * i) 64 = _; omega
  have e2 : ((2 ^ (7 * i) : Nat) : Int) = 2 ^ (7 * i) := by rw [Int.natCast_pow]; rfl
  rw [e, ← pow7, ← e2]
  exact (Int.natCast_ediv x (2 ^ (7 * i))).symm
/-- do the bits of a group fit. -/
theorem fits_i (x i : Nat) (h : i ≤ 9) (hx : x < 128) (hn : ¬ (i = 9 ∧ 1 < x)) : x * 128 ^ i < 18446744073709551616 := by
  by_cases h9 : i = 9
  · subst h9
    have : x ≤ 1 := by omega
    calc x * 128 ^ 9 ≤ 1 * 128 ^ 9 := Nat.mul_le_mul_right _ this
      _ < 18446744073709551616 := by decide
  · have h8 : (128 : Nat) ^ i ≤ 128 ^ 8 := Nat.pow_le_pow_right (by decide) (by omega)
    calc x * 128 ^ i ≤ 127 * 128 ^ 8 := Nat.mul_le_mul (by omega) h8
      _ < 18446744073709551616 := by decide
theorem low_ok (x i : Nat) (h : i ≤ 9) (hx : x < 128) : (x * 128 ^ i % 18446744073709551616 / 128 ^ i = x) ↔ ¬ (i = 9 ∧ 1 < x) := by
  constructor
  · rintro he ⟨rfl, h1⟩
    have h2 : x * 128 ^ 9 % 18446744073709551616 < 18446744073709551616 := Nat.mod_lt _ (by decide)
    have h3 : x * 128 ^ 9 % 18446744073709551616 / 128 ^ 9 < 2 := Nat.div_lt_of_lt_mul (Nat.lt_of_lt_of_le h2 (by decide))
    omega
  · intro hn
    rw [Nat.mod_eq_of_lt (fits_i x i h hx hn), Nat.mul_div_cancel _ (Nat.pow_pos (by decide))]
theorem or_is (x y i : Nat) (hx : x < 128 ^ i) (hy : y * 128 ^ i < 18446744073709551616) (hi : i ≤ 9) : Go.bits .or .u64 (x : Int) ((y * 128 ^ i : Nat) : Int) = ((x + y * 128 ^ i : Nat) : Int) := by
  have hx2 : x < 18446744073709551616 := Nat.lt_of_lt_of_le hx (Nat.le_trans (pow_le i hi) (by decide))
  rw [u64_or_nat _ _ hx2 hy, Nat.or_comm, ← pow7, nat_join (7 * i) (y * 2 ^ (7 * i)) x (Nat.mul_mod_left _ _) (by rw [pow7]; exact hx), Nat.add_comm]
theorem j2_is (k x q : Nat) (b : List Int) (hx : x < 18446744073709551616) : PC.cell_reader_number.j2 (k + 1) (x : Int) false b (q : Int) = some (unz x, true, (q : Int)) := by
  have e1 := Go.Lib.u64_and1 (x : Int) (by omega) (by omega)
  have e2 : ((x : Int) / 2) = ((x / 2 : Nat) : Int) := (Int.natCast_ediv x 2).symm
  have e3 : (18446744073709551615 : Int) = ((2 ^ 64 - 1 : Nat) : Int) := by decide
  simp only [PC.cell_reader_number.j2]
  rw [if_neg (by decide), e1, e2]
  unfold unz
  by_cases h : x % 2 = 1
  · rw [if_pos (by omega), if_pos h, e3, u64_xor_nat _ _ (by decide) (by omega), Go.Lib.xor_ones64 _ (by omega)]
    have e4 : wrap64 ((2 ^ 64 - 1 - x / 2 : Nat) : Int) = -((x / 2 : Nat) : Int) - 1 := by
      unfold wrap64; omega
    rw [e4]
  · rw [if_neg (by omega), if_neg h]
    have e4 : wrap64 ((x / 2 : Nat) : Int) = ((x / 2 : Nat) : Int) := by unfold wrap64; omega
    rw [e4]
theorem acc_lt (x y i : Nat) (hi : i ≤ 9) (hx : x < 128 ^ i) (hy : y < 128) (hn : ¬ (i = 9 ∧ 1 < y)) : x + y * 128 ^ i < 18446744073709551616 := by
  by_cases h9 : i = 9
  · subst h9
    have h1 : y ≤ 1 := by omega
    have h2 : y * 128 ^ 9 ≤ 1 * 128 ^ 9 := Nat.mul_le_mul_right _ h1
    have h3 : (128 : Nat) ^ 9 = 9223372036854775808 := by decide
    omega
  · have h1 : (128 : Nat) ^ (i + 1) ≤ 128 ^ 9 := Nat.pow_le_pow_right (by decide) (by omega)
    have h2 : y * 128 ^ i ≤ 127 * 128 ^ i := Nat.mul_le_mul_right _ (by omega)
    have h3 : (128 : Nat) ^ 9 = 9223372036854775808 := by decide
    rw [Nat.pow_succ] at h1
    omega
theorem acc_pow (x y i : Nat) (hx : x < 128 ^ i) (hy : y < 128) : x + y * 128 ^ i < 128 ^ (i + 1) := by
  have h2 : y * 128 ^ i ≤ 127 * 128 ^ i := Nat.mul_le_mul_right _ (by omega)
  rw [Nat.pow_succ]
  omega
theorem number_l (b : List Int) (hb : Bytes b) (hl : b.length ≤ 140737488355328) : ∀ (d i : Nat), i + d = 10 → ∀ (x p k : Nat), x < 128 ^ i → p ≤ b.length → 3 * d + 3 ≤ k →
    Says b p (PC.cell_reader_number.l0 k (x : Int) ((7 * i : Nat) : Int) b (p : Int)) ((dec d i x (b.drop p)).map fun r => (unz r.1, r.2)) := by
  intro d
  induction d with
  | zero =>
    intro i hi x p k hx hp hk
    obtain ⟨k, rfl⟩ : ∃ q, k = q + 1 := ⟨k - 1, by omega⟩
    refine ⟨0, false, p, ?_, Nat.le_refl _, hp, rfl⟩
    simp only [PC.cell_reader_number.l0]
    rw [if_neg (by omega)]
  | succ d ih =>
    intro i hi x p k hx hp hk
    have hi9 : i ≤ 9 := by omega
    obtain ⟨k, rfl⟩ : ∃ q, k = q + 3 := ⟨k - 3, by omega⟩
    by_cases hlt : p < b.length
    · rw [List.drop_eq_getElem_cons hlt]
      have hc := hb b[p] (List.getElem_mem hlt)
      obtain ⟨c, ec⟩ : ∃ c, b[p] = c := ⟨_, rfl⟩
      rw [ec] at hc ⊢
      obtain ⟨h0, h1⟩ := hc
      obtain ⟨y, hy⟩ : ∃ y : Nat, c % 128 = (y : Int) := ⟨(c % 128).toNat, by omega⟩
      have hy2 : y < 128 := by omega
      have e1 : IntKind.u64.wrap (Go.bits .and .u8 c 127) = (y : Int) := by
        rw [and127 c h0 h1, hy, IntKind.wrap_u64]; omega
      have e2 := shl_is y i hi9
      have e3 := shr_is (y * 128 ^ i % 18446744073709551616) i hi9
      have e4 := low_ok y i hi9 hy2
      simp only [PC.cell_reader_number.l0]
      rw [if_pos (by omega), next_yes b p hlt hl, Option.bind_some, if_pos rfl, if_pos (by omega), ec, e1, e2, e3]
      simp only [dec, hy, Int.toNat_natCast]
      by_cases hbad : i = 9 ∧ 1 < y
      · rw [if_pos (by omega)]
        have hne : ((((y * 128 ^ i % 18446744073709551616 / 128 ^ i : Nat) : Int)) != (y : Int)) = true := by
          rw [bne_iff_ne]; intro he; exact absurd hbad (e4.1 (by exact_mod_cast he))
        refine ⟨0, false, p + 1, ?_, by omega, by omega, rfl⟩
        rw [hne]
        simp only [PC.cell_reader_number.j1]
        rw [if_pos trivial]
      · rw [if_neg (by omega)]
        have heq : ((((y * 128 ^ i % 18446744073709551616 / 128 ^ i : Nat) : Int)) != (y : Int)) = false := by
          rw [e4.2 hbad]; simp
        have hf := fits_i y i hi9 hy2 hbad
        have ha := acc_lt x y i hi9 hx hy2 hbad
        rw [heq]
        simp only [PC.cell_reader_number.j1]
        rw [if_neg (by decide), if_pos (by omega), e2, Nat.mod_eq_of_lt hf, or_is x y i hx hf hi9]
        by_cases hbig : 128 ≤ c
        · rw [if_pos (by omega), if_pos hbig]
          have e5 : wrap64 (((7 * i : Nat) : Int) + 7) = ((7 * (i + 1) : Nat) : Int) := by unfold wrap64; omega
          rw [e5]
          obtain ⟨r1, r2, q, g1, g2, g3, g4⟩ := ih (i + 1) (by omega) (x + y * 128 ^ i) (p + 1) (k + 1) (acc_pow x y i hx hy2) (by omega) (by omega)
          refine ⟨r1, r2, q, g1, by omega, g3, ?_⟩
          split at g4
          · exact ⟨g4.1, g4.2.1, g4.2.2.1, by omega⟩
          · exact g4
        · rw [if_neg (by omega), if_neg hbig]
          by_cases hz : c = 0
          · by_cases hi0 : 0 < i
            · rw [if_pos hz, if_pos ⟨hz, hi0⟩, decide_eq_true (by omega)]
              refine ⟨0, false, p + 1, ?_, by omega, by omega, rfl⟩
              simp only [PC.cell_reader_number.j2]
              rw [if_pos trivial]
            · rw [if_pos hz, if_neg (by omega), decide_eq_false (by omega), j2_is k _ _ b ha]
              exact ⟨_, _, p + 1, rfl, by omega, by omega, rfl, rfl, rfl, by omega⟩
          · rw [if_neg hz, if_neg (by omega), j2_is k _ _ b ha]
            exact ⟨_, _, p + 1, rfl, by omega, by omega, rfl, rfl, rfl, by omega⟩
    · rw [List.drop_eq_nil_of_le (by omega)]
      refine ⟨0, false, p, ?_, Nat.le_refl _, hp, rfl⟩
      simp only [PC.cell_reader_number.l0]
      rw [if_pos (by omega), next_no b p hlt, Option.bind_some, if_neg (by simp)]
      simp only [PC.cell_reader_number.j1]
      rw [if_pos trivial]
theorem number_ev (b : List Int) (hb : Bytes b) (hl : b.length ≤ 140737488355328) (p : Nat) (hp : p ≤ b.length) : Says b p (PC.cell_reader_number.f 33 b (p : Int)) (num (b.drop p)) :=
  number_l b hb hl 10 0 rfl 0 p 33 (by decide) hp (by omega)
end Go.Proofs.Ytggdpeeiioibgaa.E
