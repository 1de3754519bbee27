/- Marline, layer 08: values are read out of bytes, by the program. Conditions: as each says. -/
import Derived.Test.YtggdpeeiioibgaaBy
namespace Go.Proofs.Ytggdpeeiioibgaa.E
open Go.RowKit Go.Proofs.YtggdpeeiioibgaaW.PrintWords Go.Proofs.YtggdpeeiioibgaaW.PrintLast Go.Proofs.YtggdpeeiioibgaaW.PrintMore Go.Proofs.Ytggdpeeiioibgaa.Kinds Go.Proofs.Ytggdpeeiioibgaa.Obj
set_option linter.unusedVariables false
set_option linter.unusedSimpArgs false

/-- a number's groups, read: so many more, this one's number, what there is. -/
def dec : Nat → Nat → Nat → List Int → Option (Nat × List Int)
  | 0, _, _, _ => none
  | _ + 1, _, _, [] => none
  | d + 1, i, x, c :: s => if i = 9 ∧ 1 < c % 128 then none else if 128 ≤ c then dec d (i + 1) (x + (c % 128).toNat * 128 ^ i) s else if c = 0 ∧ 0 < i then none else some (x + (c % 128).toNat * 128 ^ i, s)
def unz (m : Nat) : Int := if m % 2 = 1 then -((m / 2 : Nat) : Int) - 1 else ((m / 2 : Nat) : Int)
/-- a number that is read. -/
def num (s : List Int) : Option (Int × List Int) := (dec 10 0 0 s).map fun r => (unz r.1, r.2)
/-- a row of bytes. -/
def Bytes (b : List Int) : Prop := ∀ c ∈ b, 0 ≤ c ∧ c < 256
/-- what a reader comes to: where it stands, and what it says, if there is any. -/
def Says (b : List Int) (p : Nat) (res : Option (Int × Bool × Int)) (o : Option (Int × List Int)) : Prop :=
  ∃ (r1 : Int) (r2 : Bool) (q : Nat), res = some (r1, r2, (q : Int)) ∧ p ≤ q ∧ q ≤ b.length ∧ match o with | some (n, r) => r2 = true ∧ r1 = n ∧ b.drop q = r ∧ p < q | none => r2 = false
theorem next_no (b : List Int) (p : Nat) (h : ¬ p < b.length) : PC.cell_reader_next.f b (p : Int) = some (0, false, (p : Int)) := by
  unfold PC.cell_reader_next.f
  rw [if_pos (by omega)]
theorem rd_at (b : List Int) (p : Nat) (h : p < b.length) : rd b (p : Int) = b[p] := by
  show b.getD (p : Int).toNat 0 = b[p]
  rw [Int.toNat_natCast, List.getD_eq_getElem?_getD, List.getElem?_eq_getElem h]
  rfl
theorem next_yes (b : List Int) (p : Nat) (h : p < b.length) (hb : b.length ≤ 140737488355328) : PC.cell_reader_next.f b (p : Int) = some (b[p], true, ((p + 1 : Nat) : Int)) := by
  unfold PC.cell_reader_next.f
  have e1 : wrap64 ((p : Int) + 1) = ((p + 1 : Nat) : Int) := by unfold wrap64; omega
  have e2 : wrap64 (((p + 1 : Nat) : Int) - 1) = (p : Int) := by unfold wrap64; omega
  rw [if_neg (by omega), e1, e2, if_pos (by omega), if_pos (by omega), rd_at b p h]
theorem and127 (c : Int) (h0 : 0 ≤ c) (h1 : c < 256) : Go.bits .and .u8 c 127 = c % 128 := by
  rw [u8_and c 127 h0 h1 (by omega) (by omega)]
  have : c.toNat &&& (127 : Int).toNat = c.toNat % 128 := nat_mask7 c.toNat
  rw [this]; omega
theorem pow_le (i : Nat) (h : i ≤ 9) : (128 : Nat) ^ i ≤ 128 ^ 9 := Nat.pow_le_pow_right (by decide) h
theorem pow7 (i : Nat) : (2 : Nat) ^ (7 * i) = 128 ^ i := by rw [Nat.pow_mul]
theorem shl_is (x i : Nat) (h : i ≤ 9) : shl .u64 (x : Int) ((7 * i : Nat) : Int) = ((x * 128 ^ i % 18446744073709551616 : Nat) : Int) := by
  unfold shl
  have e : min (((7 * i : Nat) : Int).toNat) IntKind.u64.bits = 7 * i := by
    rw [Int.toNat_natCast]; show min (7 * i) 64 = _; omega
  have e2 : ((x * 2 ^ (7 * i) : Nat) : Int) = (x : Int) * 2 ^ (7 * i) := by rw [Int.natCast_mul, Int.natCast_pow]; rfl
  rw [e, IntKind.wrap_u64, ← pow7, ← e2]
  generalize x * 2 ^ (7 * i) = z
  omega
theorem shr_is (x i : Nat) (h : i ≤ 9) : shr .u64 (x : Int) ((7 * i : Nat) : Int) = ((x / 128 ^ i : Nat) : Int) := by
  unfold shr
  have e : min (((7 * i : Nat) : Int).toNat) IntKind.u64.bits = 7 * i := by
    rw [Int.toNat_natCast]; show min (7 * i) 64 = _; omega
  have e2 : ((2 ^ (7 * i) : Nat) : Int) = 2 ^ (7 * i) := by rw [Int.natCast_pow]; rfl
  rw [e, ← pow7, ← e2]
  exact (Int.natCast_ediv x (2 ^ (7 * i))).symm
/-- do the bits of a group fit. -/
theorem fits_i (x i : Nat) (h : i ≤ 9) (hx : x < 128) (hn : ¬ (i = 9 ∧ 1 < x)) : x * 128 ^ i < 18446744073709551616 := by
  by_cases h9 : i = 9
  · subst h9
    have : x ≤ 1 := by omega
    calc x * 128 ^ 9 ≤ 1 * 128 ^ 9 := Nat.mul_le_mul_right _ this
      _ < 18446744073709551616 := by decide
  · have h8 : (128 : Nat) ^ i ≤ 128 ^ 8 := Nat.pow_le_pow_right (by decide) (by omega)
    calc x * 128 ^ i ≤ 127 * 128 ^ 8 := Nat.mul_le_mul (by omega) h8
      _ < 18446744073709551616 := by decide
theorem low_ok (x i : Nat) (h : i ≤ 9) (hx : x < 128) : (x * 128 ^ i % 18446744073709551616 / 128 ^ i = x) ↔ ¬ (i = 9 ∧ 1 < x) := by
  constructor
  · rintro he ⟨rfl, h1⟩
    have h2 : x * 128 ^ 9 % 18446744073709551616 < 18446744073709551616 := Nat.mod_lt _ (by decide)
    have h3 : x * 128 ^ 9 % 18446744073709551616 / 128 ^ 9 < 2 := Nat.div_lt_of_lt_mul (Nat.lt_of_lt_of_le h2 (by decide))
    omega
  · intro hn
    rw [Nat.mod_eq_of_lt (fits_i x i h hx hn), Nat.mul_div_cancel _ (Nat.pow_pos (by decide))]
theorem or_is (x y i : Nat) (hx : x < 128 ^ i) (hy : y * 128 ^ i < 18446744073709551616) (hi : i ≤ 9) : Go.bits .or .u64 (x : Int) ((y * 128 ^ i : Nat) : Int) = ((x + y * 128 ^ i : Nat) : Int) := by
  have hx2 : x < 18446744073709551616 := Nat.lt_of_lt_of_le hx (Nat.le_trans (pow_le i hi) (by decide))
  rw [u64_or_nat _ _ hx2 hy, Nat.or_comm, ← pow7, nat_join (7 * i) (y * 2 ^ (7 * i)) x (Nat.mul_mod_left _ _) (by rw [pow7]; exact hx), Nat.add_comm]
theorem j2_is (k x q : Nat) (b : List Int) (hx : x < 18446744073709551616) : PC.cell_reader_number.j2 (k + 1) (x : Int) false b (q : Int) = some (unz x, true, (q : Int)) := by
  have e1 := Go.Lib.u64_and1 (x : Int) (by omega) (by omega)
  have e2 : ((x : Int) / 2) = ((x / 2 : Nat) : Int) := (Int.natCast_ediv x 2).symm
  have e3 : (18446744073709551615 : Int) = ((2 ^ 64 - 1 : Nat) : Int) := by decide
  simp only [PC.cell_reader_number.j2]
  rw [if_neg (by decide), e1, e2]
  unfold unz
  by_cases h : x % 2 = 1
  · rw [if_pos (by omega), if_pos h, e3, u64_xor_nat _ _ (by decide) (by omega), Go.Lib.xor_ones64 _ (by omega)]
    have e4 : wrap64 ((2 ^ 64 - 1 - x / 2 : Nat) : Int) = -((x / 2 : Nat) : Int) - 1 := by
      unfold wrap64; omega
    rw [e4]
  · rw [if_neg (by omega), if_neg h]
    have e4 : wrap64 ((x / 2 : Nat) : Int) = ((x / 2 : Nat) : Int) := by unfold wrap64; omega
    rw [e4]
theorem acc_lt (x y i : Nat) (hi : i ≤ 9) (hx : x < 128 ^ i) (hy : y < 128) (hn : ¬ (i = 9 ∧ 1 < y)) : x + y * 128 ^ i < 18446744073709551616 := by
  by_cases h9 : i = 9
  · subst h9
    have h1 : y ≤ 1 := by omega
    have h2 : y * 128 ^ 9 ≤ 1 * 128 ^ 9 := Nat.mul_le_mul_right _ h1
    have h3 : (128 : Nat) ^ 9 = 9223372036854775808 := by decide
    omega
  · have h1 : (128 : Nat) ^ (i + 1) ≤ 128 ^ 9 := Nat.pow_le_pow_right (by decide) (by omega)
    have h2 : y * 128 ^ i ≤ 127 * 128 ^ i := Nat.mul_le_mul_right _ (by omega)
    have h3 : (128 : Nat) ^ 9 = 9223372036854775808 := by decide
    rw [Nat.pow_succ] at h1
    omega
theorem acc_pow (x y i : Nat) (hx : x < 128 ^ i) (hy : y < 128) : x + y * 128 ^ i < 128 ^ (i + 1) := by
  have h2 : y * 128 ^ i ≤ 127 * 128 ^ i := Nat.mul_le_mul_right _ (by omega)
  rw [Nat.pow_succ]
  omega
theorem number_l (b : List Int) (hb : Bytes b) (hl : b.length ≤ 140737488355328) : ∀ (d i : Nat), i + d = 10 → ∀ (x p k : Nat), x < 128 ^ i → p ≤ b.length → 3 * d + 3 ≤ k →
    Says b p (PC.cell_reader_number.l0 k (x : Int) ((7 * i : Nat) : Int) b (p : Int)) ((dec d i x (b.drop p)).map fun r => (unz r.1, r.2)) := by
  intro d
  induction d with
  | zero =>
    intro i hi x p k hx hp hk
    obtain ⟨k, rfl⟩ : ∃ q, k = q + 1 := ⟨k - 1, by omega⟩
    refine ⟨0, false, p, ?_, Nat.le_refl _, hp, rfl⟩
    simp only [PC.cell_reader_number.l0]
    rw [if_neg (by omega)]
  | succ d ih =>
    intro i hi x p k hx hp hk
    have hi9 : i ≤ 9 := by omega
    obtain ⟨k, rfl⟩ : ∃ q, k = q + 3 := ⟨k - 3, by omega⟩
    by_cases hlt : p < b.length
    · rw [List.drop_eq_getElem_cons hlt]
      have hc := hb b[p] (List.getElem_mem hlt)
      obtain ⟨c, ec⟩ : ∃ c, b[p] = c := ⟨_, rfl⟩
      rw [ec] at hc ⊢
      obtain ⟨h0, h1⟩ := hc
      obtain ⟨y, hy⟩ : ∃ y : Nat, c % 128 = (y : Int) := ⟨(c % 128).toNat, by omega⟩
      have hy2 : y < 128 := by omega
      have e1 : IntKind.u64.wrap (Go.bits .and .u8 c 127) = (y : Int) := by
        rw [and127 c h0 h1, hy, IntKind.wrap_u64]; omega
      have e2 := shl_is y i hi9
      have e3 := shr_is (y * 128 ^ i % 18446744073709551616) i hi9
      have e4 := low_ok y i hi9 hy2
      simp only [PC.cell_reader_number.l0]
      rw [if_pos (by omega), next_yes b p hlt hl, Option.bind_some, if_pos rfl, if_pos (by omega), ec, e1, e2, e3]
      simp only [dec, hy, Int.toNat_natCast]
      by_cases hbad : i = 9 ∧ 1 < y
      · rw [if_pos (by omega)]
        have hne : ((((y * 128 ^ i % 18446744073709551616 / 128 ^ i : Nat) : Int)) != (y : Int)) = true := by
          rw [bne_iff_ne]; intro he; exact absurd hbad (e4.1 (by exact_mod_cast he))
        refine ⟨0, false, p + 1, ?_, by omega, by omega, rfl⟩
        rw [hne]
        simp only [PC.cell_reader_number.j1]
        rw [if_pos trivial]
      · rw [if_neg (by omega)]
        have heq : ((((y * 128 ^ i % 18446744073709551616 / 128 ^ i : Nat) : Int)) != (y : Int)) = false := by
          rw [e4.2 hbad]; simp
        have hf := fits_i y i hi9 hy2 hbad
        have ha := acc_lt x y i hi9 hx hy2 hbad
        rw [heq]
        simp only [PC.cell_reader_number.j1]
        rw [if_neg (by decide), if_pos (by omega), e2, Nat.mod_eq_of_lt hf, or_is x y i hx hf hi9]
        by_cases hbig : 128 ≤ c
        · rw [if_pos (by omega), if_pos hbig]
          have e5 : wrap64 (((7 * i : Nat) : Int) + 7) = ((7 * (i + 1) : Nat) : Int) := by unfold wrap64; omega
          rw [e5]
          obtain ⟨r1, r2, q, g1, g2, g3, g4⟩ := ih (i + 1) (by omega) (x + y * 128 ^ i) (p + 1) (k + 1) (acc_pow x y i hx hy2) (by omega) (by omega)
          refine ⟨r1, r2, q, g1, by omega, g3, ?_⟩
          split at g4
          · exact ⟨g4.1, g4.2.1, g4.2.2.1, by omega⟩
          · exact g4
        · rw [if_neg (by omega), if_neg hbig]
          by_cases hz : c = 0
          · by_cases hi0 : 0 < i
            · rw [if_pos hz, if_pos ⟨hz, hi0⟩, decide_eq_true (by omega)]
              refine ⟨0, false, p + 1, ?_, by omega, by omega, rfl⟩
              simp only [PC.cell_reader_number.j2]
              rw [if_pos trivial]
            · rw [if_pos hz, if_neg (by omega), decide_eq_false (by omega), j2_is k _ _ b ha]
              exact ⟨_, _, p + 1, rfl, by omega, by omega, rfl, rfl, rfl, by omega⟩
          · rw [if_neg hz, if_neg (by omega), j2_is k _ _ b ha]
            exact ⟨_, _, p + 1, rfl, by omega, by omega, rfl, rfl, rfl, by omega⟩
    · rw [List.drop_eq_nil_of_le (by omega)]
      refine ⟨0, false, p, ?_, Nat.le_refl _, hp, rfl⟩
      simp only [PC.cell_reader_number.l0]
      rw [if_pos (by omega), next_no b p hlt, Option.bind_some, if_neg (by simp)]
      simp only [PC.cell_reader_number.j1]
      rw [if_pos trivial]
theorem number_ev (b : List Int) (hb : Bytes b) (hl : b.length ≤ 140737488355328) (p : Nat) (hp : p ≤ b.length) : Says b p (PC.cell_reader_number.f 33 b (p : Int)) (num (b.drop p)) :=
  number_l b hb hl 10 0 rfl 0 p 33 (by decide) hp (by omega)
end Go.Proofs.Ytggdpeeiioibgaa.E
namespace Go.Proofs.Ytggdpeeiioibgaa.E
open Go.RowKit Go.Proofs.YtggdpeeiioibgaaW.PrintWords Go.Proofs.YtggdpeeiioibgaaW.PrintLast Go.Proofs.YtggdpeeiioibgaaW.PrintMore Go.Proofs.Ytggdpeeiioibgaa.Kinds Go.Proofs.Ytggdpeeiioibgaa.Obj
set_option linter.unusedVariables false
set_option linter.unusedSimpArgs false

/-- so many values, one behind the other. -/
def dvL (f : List Int → Option (S24 × List Int)) : Nat → List Int → Option (List S24 × List Int)
  | 0, s => some ([], s)
  | m + 1, s => match f s with
    | none => none
    | some (x, r) => match dvL f m r with
      | none => none
      | some (l, r2) => some (x :: l, r2)
/-- a value that is read, by its kind; f: those in it. -/
def dvK (f : List Int → Option (S24 × List Int)) (c : Int) (s : List Int) : Option (S24 × List Int) :=
  if c = 0 then match num s with | none => none | some (n, r) => some (⟨0, n, []⟩, r)
  else if c = 1 then match s with | [] => none | d :: r => if d ≤ 1 then some (⟨1, d, []⟩, r) else none
  else if c = 2 ∨ c = 3 then match num s with
    | none => none
    | some (m, r) => if m < 0 ∨ (r.length : Int) < m then none else match dvL f m.toNat r with | none => none | some (l, r2) => some (⟨c, 0, l⟩, r2)
  else none
/-- a value that is read: so deep at most. -/
def dv : Nat → List Int → Option (S24 × List Int)
  | 0, _ => none
  | _ + 1, [] => none
  | n + 1, c :: s => dvK (dv n) c s

theorem Var.set1 {w : World} {g : Nat} {x : S24} {B : Option Addr} {d : Nat} (h : Var w g x B d) (n : Int) : Var (w.setCell ⟨g, 1, none⟩ (.int .i64 n)) g ⟨x.f0, n, x.f2⟩ B d := by
  have h1 := blk_set h 1 (.int .i64 n)
  unfold Var
  simpa using h1
theorem Var.set2 {w : World} {g : Nat} {x : S24} {B : Option Addr} {d : Nat} (h : Var w g x B d) (l : List S24) (B' : Option Addr) (d' : Nat) : Var (w.setCell ⟨g, 2, none⟩ (.slice B' l.length d')) g ⟨x.f0, x.f1, l⟩ B' d' := by
  have h1 := blk_set h 2 (.slice B' l.length d')
  unfold Var
  simpa using h1
/-- the reader at g stands at q, and all else is as it was by w. -/
structure Rst (b : List Int) (w0 w : World) (g : Nat) (W : World) (q : Nat) : Prop where
  is : PC.IsS107 w0 W g b (q : Int)
  below : Below w0.heap.size w0 W
  keep : KeepBut w W g none
  le : q ≤ b.length
section
variable {b : List Int} {w0 w W W' : World} {g q p : Nat}
theorem keep_set {a : Addr} (h : KeepBut w W g none) (hp : w.heap.size ≤ a.block) (u : Value) : KeepBut w (W.setCell a u) g none :=
  ⟨by simpa [World.setCell] using h.1, fun i hi hg hr => (Below.heap_setCell W a u i (by omega)).trans (h.2 i hi hg hr)⟩
theorem Rst.start (h : PC.IsS107 w0 w g b (q : Int)) (hB : Below w0.heap.size w0 w) (hq : q ≤ b.length) : Rst b w0 w g w q := ⟨h, hB, KeepBut.refl _ _ _, hq⟩
theorem Rst.later (h : Rst b w0 w g W q) (hb : Below W.heap.size W W') : Rst b w0 w g W' q := ⟨h.is.below hb, h.below.trans (hb.mono h.below.size), h.keep.trans (KeepBut.of_below hb g none) (.inl rfl), h.le⟩
theorem Rst.set (h : Rst b w0 w g W q) {a j : Nat} (hp : w.heap.size ≤ a) (hg : g ≠ a) (hw : w0.heap.size ≤ a) (u : Value) : Rst b w0 w g (W.setCell ⟨a, j, none⟩ u) q :=
  ⟨h.is.far hg u, below_set h.below hw, keep_set h.keep hp u, h.le⟩
theorem Rst.call (h : Rst b w0 w g W q) (k : Rst b w0 W g W' p) : Rst b w0 w g W' p := ⟨k.is, k.below, h.keep.trans k.keep (.inl rfl), k.le⟩
/-- a variable of one's own stays over a call of the reader. -/
theorem Rst.var {x : S24} {B : Option Addr} {d a : Nat} (k : Rst b w0 W g W' p) (hv : Var W a x B d) (hg : g ≠ a) : Var W' a x B d := k.keep.blk hv (fun e => hg e.symm) (by simp)
theorem Rst.ne {x : S24} {B : Option Addr} {d a : Nat} (h : Rst b w0 w g W q) (hv : Var W a x B d) : g ≠ a := h.is.ne_blk hv (by decide)
end
theorem next_no_is (b : List Int) (w0 w : World) (g p : Nat) (h : PC.IsS107 w0 w g b (p : Int)) (hB : Below w0.heap.size w0 w) (hp : p ≤ b.length) (hn : ¬ p < b.length) :
    Calls Try.prog 90 #[.pointer (some ⟨g, 0, none⟩)] w fun e w' => e = .returned (.tuple #[.int .u8 0, .bool false]) ∧ Rst b w0 w g w' p := by
  refine (PC.cell_reader_next.calls g b p 0 false p w0 w h hB (next_no b p hn)).mono ?_
  rintro e w' ⟨rfl, h1, h2, h3⟩
  exact ⟨rfl, h1, h2, h3, hp⟩
theorem next_yes_is (b : List Int) (w0 w : World) (g p : Nat) (h : PC.IsS107 w0 w g b (p : Int)) (hB : Below w0.heap.size w0 w) (hn : p < b.length) (hl : b.length ≤ 140737488355328) :
    Calls Try.prog 90 #[.pointer (some ⟨g, 0, none⟩)] w fun e w' => e = .returned (.tuple #[.int .u8 b[p], .bool true]) ∧ Rst b w0 w g w' (p + 1) := by
  refine (PC.cell_reader_next.calls g b p b[p] true ((p + 1 : Nat) : Int) w0 w h hB (next_yes b p hn hl)).mono ?_
  rintro e w' ⟨rfl, h1, h2, h3⟩
  exact ⟨rfl, h1, h2, h3, hn⟩
/-- what a number that is read comes to. -/
def NumP (b : List Int) (w0 w : World) (g p : Nat) (o : Option (Int × List Int)) (e : Ending) (w' : World) : Prop :=
  ∃ (r1 : Int) (r2 : Bool) (q : Nat), e = .returned (.tuple #[.int .i64 r1, .bool r2]) ∧ Rst b w0 w g w' q ∧ p ≤ q ∧ match o with | some (n, r) => r2 = true ∧ r1 = n ∧ b.drop q = r ∧ p < q | none => r2 = false
theorem number_is (b : List Int) (w0 w : World) (g p : Nat) (hb : Bytes b) (hl : b.length ≤ 140737488355328) (h : PC.IsS107 w0 w g b (p : Int)) (hB : Below w0.heap.size w0 w) (hp : p ≤ b.length) :
    Calls Try.prog 91 #[.pointer (some ⟨g, 0, none⟩)] w (NumP b w0 w g p (num (b.drop p))) := by
  obtain ⟨r1, r2, q, h1, h2, h3, h4⟩ := number_ev b hb hl p hp
  refine (PC.cell_reader_number.calls 33 g b p r1 r2 q w0 w h hB h1).mono ?_
  rintro e w' ⟨rfl, g1, g2, g3⟩
  exact ⟨r1, r2, q, rfl, ⟨g1, g2, g3, h3⟩, h2, h4⟩
/-- what a value that is read comes to. -/
def ValP (b : List Int) (w0 w : World) (g p : Nat) (o : Option (S24 × List Int)) (e : Ending) (w' : World) : Prop :=
  ∃ (x : S24) (v3 : Value) (ok : Bool) (q : Nat), e = .returned (.tuple #[.agg #[.int .i64 x.f0, .int .i64 x.f1, v3], .bool ok]) ∧ Rst b w0 w g w' q ∧ p ≤ q ∧ Kd.N k24 24 w' w0.heap.size (fun k => w.heap.size ≤ k) v3 x.f2 ∧
    match o with | some (y, r) => ok = true ∧ x = y ∧ b.drop q = r ∧ p < q | none => ok = false
set_option maxHeartbeats 8000000 in
set_option maxRecDepth 100000 in
theorem value_of (b : List Int) (hb : Bytes b) (hl : b.length ≤ 140737488351232) (f : List Int → Option (S24 × List Int)) (w0 w : World) (g p : Nat) (h : PC.IsS107 w0 w g b (p : Int)) (hB : Below w0.heap.size w0 w) (hp : p ≤ b.length)
    (ih : ∀ (c : Int) (W : World) (q : Nat), p < q → c = 2 ∨ c = 3 → PC.IsS107 w0 W g b (q : Int) → Below w0.heap.size w0 W → q ≤ b.length →
      Calls Try.prog 92 #[.pointer (some ⟨g, 0, none⟩), .agg #[.int .i64 c, .int .i64 0, .slice none 0 0]] W (ValP b w0 W g q (dvK f c (b.drop q)))) :
    Calls Try.prog 71 #[.pointer (some ⟨g, 0, none⟩)] w (ValP b w0 w g p (match b.drop p with | [] => none | c :: s => dvK f c s)) := by
  have hu24 := Try.underlying24
  have HI := Lib.hid h; have HB := Lib.hid hB; have IH := Lib.hid ih; have HBY := Lib.hid hb
  obtain ⟨ga, hga⟩ : ∃ ga, w.heap.size = ga := ⟨_, rfl⟩
  have G : Hid (∃ w1 : World, w.alloc (.cells #[.int .i64 0, .int .i64 0, .slice none 0 0] 24) = w1 ∧ Var w1 ga z24 none 0 ∧ Rst b w0 w g w1 p) :=
    Lib.hid ⟨_, rfl, by rw [← hga]; exact blk_new _ _, (Rst.start h hB hp).later (below_alloc (Below.refl _ _) _)⟩
  have wga : w.heap.size ≤ ga := by omega
  have GA := Lib.hid hga
  clear h hB ih hb hga
  obtain ⟨o, ho⟩ : ∃ o, (match b.drop p with | [] => none | c :: s => dvK f c s) = o := ⟨_, rfl⟩
  rw [ho]
  by_cases hlt : p < b.length
  · have hd := List.drop_eq_getElem_cons hlt
    rw [hd] at ho
    simp only at ho
    have hc := HBY.out b[p] (List.getElem_mem hlt)
    have NX := Lib.hid (fun W h hB => next_yes_is b w0 W g p h hB hlt (by omega))
    obtain ⟨c, ec⟩ : ∃ c, b[p] = c := ⟨_, rfl⟩
    rw [ec] at hc ho NX
    obtain ⟨hc0, hc1⟩ := hc
    have HO := Lib.hid ho
    clear ho hd ec
    go_enter Try.func71, Try.ntmps71
    go_upto_region 1 with (fail)
    rw [GA.out]
    obtain ⟨w1, hw1, v1, s1⟩ := G.out
    rw [hw1]
    have V1 := Lib.hid v1; have S1 := Lib.hid s1
    clear G hw1 v1 s1
    go_wp2_with fail
    refine (NX.out w1 S1.out.is S1.out.below).mono ?_
    rintro e w2 ⟨rfl, s2⟩
    have V2 := Lib.hid (s2.var V1.out (S1.out.ne V1.out))
    have S2 := Lib.hid (S1.out.call s2)
    clear s2 V1 S1
    go_upto_region 3 with (fail)
    obtain ⟨gv, hgv⟩ : ∃ gv, w2.heap.size = gv := ⟨_, rfl⟩
    have H3 : ∃ w3 : World, w2.alloc (.cells #[.int .i64 c, .int .i64 0, .slice none 0 0] 24) = w3 ∧ Var w3 ga z24 none 0 ∧ Var w3 gv ⟨c, 0, []⟩ none 0 ∧ Rst b w0 w g w3 (p + 1) :=
      ⟨_, rfl, V2.out.alloc _, by rw [← hgv]; exact blk_new w2 _, S2.out.later (below_alloc (Below.refl _ _) _)⟩
    have wgv : w.heap.size ≤ gv := by have := S2.out.keep.1; omega
    have nav : ga ≠ gv := by have := blk_lt V2.out; omega
    rw [hgv]
    obtain ⟨w3, hw3, v3, x3, s3⟩ := H3
    rw [hw3]
    have V3 := Lib.hid v3; have X3 := Lib.hid x3; have S3 := Lib.hid s3
    have NAV := Lib.hid nav
    obtain ⟨k0, k1, k2, f0, f1, f2⟩ := x3.cells
    obtain ⟨m0, m1, m2, t0, t1, t2⟩ := v3.cells
    simp only [List.length_nil] at k2
    clear hgv hw3 v3 x3 s3 V2 S2 nav
    by_cases h0 : c = 0
    · subst h0
      clear NX
      go_wp2_with fail
      refine (number_is b w0 w3 g (p + 1) HBY.out (by omega) S3.out.is S3.out.below S3.out.le).mono ?_
      rintro e w4 ⟨r1, r2, q, rfl, s4, hpq, hm⟩
      have V4 := Lib.hid (s4.var V3.out (S3.out.ne V3.out)); have X4 := Lib.hid (s4.var X3.out (S3.out.ne X3.out))
      have S4 := Lib.hid (S3.out.call s4)
      have HM := Lib.hid hm; have PQ := Lib.hid hpq
      clear hm hpq s4 k0 k1 k2 f0 f1 f2 m0 m1 m2 t0 t1 t2 V3 X3 S3
      obtain ⟨k0, k1, k2, f0, f1, f2⟩ := X4.out.cells
      obtain ⟨m0, m1, m2, t0, t1, t2⟩ := V4.out.cells
      simp only [List.length_nil] at k2
      go_upto_region 7 with (fail)
      have H5 : ∃ w5 : World, w4.setCell ⟨gv, 1, none⟩ (.int .i64 r1) = w5 ∧ Var w5 ga z24 none 0 ∧ Var w5 gv ⟨0, r1, []⟩ none 0 ∧ Rst b w0 w g w5 q :=
        ⟨_, rfl, V4.out.far NAV.out _, X4.out.set1 r1, S4.out.set wgv (S4.out.ne X4.out) (Nat.le_trans HB.out.size wgv) _⟩
      obtain ⟨w5, hw5, v5, x5, s5⟩ := H5
      rw [hw5]
      have V5 := Lib.hid v5; have S5 := Lib.hid s5
      clear k0 k1 k2 f0 f1 f2 m0 m1 m2 t0 t1 t2
      obtain ⟨k0, k1, k2, f0, f1, f2⟩ := x5.cells
      obtain ⟨m0, m1, m2, t0, t1, t2⟩ := v5.cells
      simp only [List.length_nil] at k2
      clear hw5 v5 x5 s5 V4 X4 S4
      go_wp2_with fail
      refine bodyPost_ret (results_ct rfl _ _ ga 24 #[.int .i64 0, .int .i64 r1, .slice none 0 0] (0, 0) _ rfl (V5.out.set ⟨0, r1, []⟩ none 0) Try.underlying24 rfl (by kernel_rfl)) rfl ?_
      refine ⟨⟨0, r1, []⟩, .slice none 0 0, r2, q, rfl, ((S5.out.set wga (S5.out.ne V5.out) (Nat.le_trans HB.out.size wga) _).set wga (S5.out.ne V5.out) (Nat.le_trans HB.out.size wga) _).set wga (S5.out.ne V5.out) (Nat.le_trans HB.out.size wga) _, by have := PQ.out; omega, Kd.N_nil _ _ _ _ _, ?_⟩
      have hm := HM.out
      have ho := HO.out
      unfold dvK at ho
      rw [if_pos rfl] at ho
      rw [← ho]
      revert hm
      generalize num (b.drop (p + 1)) = m
      intro hm
      match m, hm with
      | none, hm => exact hm
      | some (n, r), hm => exact ⟨hm.1, by rw [hm.2.1], hm.2.2.1, by have := hm.2.2.2; omega⟩
    · have p0 : (c == 0) = false := beq_eq_false_iff_ne.2 h0
      by_cases h1 : c = 1
      · subst h1
        clear NX h0
        by_cases hlt2 : p + 1 < b.length
        · have hd2 := List.drop_eq_getElem_cons hlt2
          have HO2 := HO.out
          rw [hd2] at HO2
          have NX2 := Lib.hid (fun W h hB => next_yes_is b w0 W g (p + 1) h hB hlt2 (by omega))
          have hc2 := HBY.out b[p + 1] (List.getElem_mem hlt2)
          obtain ⟨c2, ec2⟩ : ∃ c2, b[p + 1] = c2 := ⟨_, rfl⟩
          rw [ec2] at HO2 NX2 hc2
          obtain ⟨hd0, hd1⟩ := hc2
          have HQ := Lib.hid HO2
          clear HO2 hd2 HO ec2
          go_wp2_with fail
          refine (NX2.out w3 S3.out.is S3.out.below).mono ?_
          rintro e w4 ⟨rfl, s4⟩
          have V4 := Lib.hid (s4.var V3.out (S3.out.ne V3.out)); have X4 := Lib.hid (s4.var X3.out (S3.out.ne X3.out))
          have S4 := Lib.hid (S3.out.call s4)
          clear s4 k0 k1 k2 f0 f1 f2 m0 m1 m2 t0 t1 t2 V3 X3 S3 NX2
          obtain ⟨k0, k1, k2, f0, f1, f2⟩ := X4.out.cells
          simp only [List.length_nil] at k2
          go_upto_region 11 with (fail)
          have H5 : ∃ w5 : World, w4.setCell ⟨gv, 1, none⟩ (.int .i64 c2) = w5 ∧ Var w5 ga z24 none 0 ∧ Var w5 gv ⟨1, c2, []⟩ none 0 ∧ Rst b w0 w g w5 (p + 1 + 1) :=
            ⟨_, rfl, V4.out.far NAV.out _, X4.out.set1 c2, S4.out.set wgv (S4.out.ne X4.out) (Nat.le_trans HB.out.size wgv) _⟩
          obtain ⟨w5, hw5, v5, x5, s5⟩ := H5
          rw [hw5]
          have V5 := Lib.hid v5; have S5 := Lib.hid s5
          clear k0 k1 k2 f0 f1 f2
          obtain ⟨k0, k1, k2, f0, f1, f2⟩ := x5.cells
          obtain ⟨m0, m1, m2, t0, t1, t2⟩ := v5.cells
          simp only [List.length_nil] at k2
          clear hw5 v5 x5 s5 V4 X4 S4
          by_cases hle : c2 ≤ 1
          · have p4 : decide (c2 ≤ 1) = true := decide_eq_true hle
            have HLE := Lib.hid hle
            clear hle
            go_wp2_with fail
            refine bodyPost_ret (results_ct rfl _ _ ga 24 #[.int .i64 1, .int .i64 c2, .slice none 0 0] (0, 0) _ rfl (V5.out.set ⟨1, c2, []⟩ none 0) Try.underlying24 rfl (by kernel_rfl)) rfl ?_
            refine ⟨⟨1, c2, []⟩, .slice none 0 0, true, p + 1 + 1, rfl, ((S5.out.set wga (S5.out.ne V5.out) (Nat.le_trans HB.out.size wga) _).set wga (S5.out.ne V5.out) (Nat.le_trans HB.out.size wga) _).set wga (S5.out.ne V5.out) (Nat.le_trans HB.out.size wga) _, by omega, Kd.N_nil _ _ _ _ _, ?_⟩
            have ho := HQ.out
            simp only [dvK] at ho
            rw [if_neg (by decide), if_pos trivial, if_pos HLE.out] at ho
            rw [← ho]
            exact ⟨rfl, rfl, rfl, by omega⟩
          · have p4 : decide (c2 ≤ 1) = false := decide_eq_false hle
            have HLE := Lib.hid hle
            clear hle
            go_wp2_with fail
            refine bodyPost_ret (results_ct rfl _ _ ga 24 #[.int .i64 1, .int .i64 c2, .slice none 0 0] (0, 0) _ rfl (V5.out.set ⟨1, c2, []⟩ none 0) Try.underlying24 rfl (by kernel_rfl)) rfl ?_
            refine ⟨⟨1, c2, []⟩, .slice none 0 0, false, p + 1 + 1, rfl, ((S5.out.set wga (S5.out.ne V5.out) (Nat.le_trans HB.out.size wga) _).set wga (S5.out.ne V5.out) (Nat.le_trans HB.out.size wga) _).set wga (S5.out.ne V5.out) (Nat.le_trans HB.out.size wga) _, by omega, Kd.N_nil _ _ _ _ _, ?_⟩
            have ho := HQ.out
            simp only [dvK] at ho
            rw [if_neg (by decide), if_pos trivial, if_neg (by have := HLE.out; omega)] at ho
            rw [← ho]
        · have NX2 := Lib.hid (fun W h hB => next_no_is b w0 W g (p + 1) h hB (by omega) hlt2)
          have HQ := Lib.hid (show o = none by
            have ho := HO.out
            rw [List.drop_eq_nil_of_le (by omega)] at ho
            simp only [dvK] at ho
            rw [if_neg (by decide), if_pos trivial] at ho
            exact ho.symm)
          clear HO
          go_wp2_with fail
          refine (NX2.out w3 S3.out.is S3.out.below).mono ?_
          rintro e w4 ⟨rfl, s4⟩
          have V4 := Lib.hid (s4.var V3.out (S3.out.ne V3.out)); have X4 := Lib.hid (s4.var X3.out (S3.out.ne X3.out))
          have S4 := Lib.hid (S3.out.call s4)
          clear s4 k0 k1 k2 f0 f1 f2 m0 m1 m2 t0 t1 t2 V3 X3 S3 NX2
          obtain ⟨k0, k1, k2, f0, f1, f2⟩ := X4.out.cells
          simp only [List.length_nil] at k2
          go_upto_region 11 with (fail)
          have H5 : ∃ w5 : World, w4.setCell ⟨gv, 1, none⟩ (.int .i64 0) = w5 ∧ Var w5 ga z24 none 0 ∧ Var w5 gv ⟨1, 0, []⟩ none 0 ∧ Rst b w0 w g w5 (p + 1) :=
            ⟨_, rfl, V4.out.far NAV.out _, X4.out.set1 0, S4.out.set wgv (S4.out.ne X4.out) (Nat.le_trans HB.out.size wgv) _⟩
          obtain ⟨w5, hw5, v5, x5, s5⟩ := H5
          rw [hw5]
          have V5 := Lib.hid v5; have S5 := Lib.hid s5
          clear k0 k1 k2 f0 f1 f2
          obtain ⟨k0, k1, k2, f0, f1, f2⟩ := x5.cells
          obtain ⟨m0, m1, m2, t0, t1, t2⟩ := v5.cells
          simp only [List.length_nil] at k2
          clear hw5 v5 x5 s5 V4 X4 S4
          go_wp2_with fail
          refine bodyPost_ret (results_ct rfl _ _ ga 24 #[.int .i64 1, .int .i64 0, .slice none 0 0] (0, 0) _ rfl (V5.out.set ⟨1, 0, []⟩ none 0) Try.underlying24 rfl (by kernel_rfl)) rfl ?_
          refine ⟨⟨1, 0, []⟩, .slice none 0 0, false, p + 1, rfl, ((S5.out.set wga (S5.out.ne V5.out) (Nat.le_trans HB.out.size wga) _).set wga (S5.out.ne V5.out) (Nat.le_trans HB.out.size wga) _).set wga (S5.out.ne V5.out) (Nat.le_trans HB.out.size wga) _, by omega, Kd.N_nil _ _ _ _ _, ?_⟩
          rw [HQ.out]
      · have p1 : (c == 1) = false := beq_eq_false_iff_ne.2 h1
        by_cases h23 : c = 2 ∨ c = 3
        · have IHC := Lib.hid (IH.out c w3 (p + 1) (by omega) h23 S3.out.is S3.out.below S3.out.le)
          rw [HO.out] at IHC
          clear h0 h1 k0 k1 k2 f0 f1 f2 m0 m1 m2 t0 t1 t2
          obtain ⟨k0, k1, k2, f0, f1, f2⟩ := X3.out.cells
          simp only [List.length_nil] at k2
          rcases h23 with rfl | rfl
          all_goals
            go_wp2_with fail
            refine IHC.out.mono ?_
            rintro e w4 ⟨x, v, ok, q, rfl, s4, hpq, hN, hm⟩
            obtain ⟨B, d, rfl⟩ := Kd.N_slice hN
            have V4 := Lib.hid (s4.var V3.out (S3.out.ne V3.out))
            have S4 := Lib.hid (S3.out.call s4)
            have N4 := Lib.hid (Kd.N_mono hN (ok' := fun k => w.heap.size ≤ k ∧ k ≠ ga) (fun k hk => ⟨Nat.le_trans S3.out.keep.1 hk, by have := blk_lt V3.out; omega⟩))
            have HM := Lib.hid hm; have PQ := Lib.hid hpq
            clear hm hpq hN s4 k0 k1 k2 f0 f1 f2 V3 X3 S3
            obtain ⟨m0, m1, m2, t0, t1, t2⟩ := V4.out.cells
            go_wp2_with fail
            refine bodyPost_ret (results_ct rfl _ _ ga 24 #[.int .i64 x.f0, .int .i64 x.f1, .slice B x.f2.length d] (0, 0) _ rfl (V4.out.set x B d) Try.underlying24 rfl (by kernel_rfl)) rfl ?_
            refine ⟨x, .slice B x.f2.length d, ok, q, rfl, ((S4.out.set wga (S4.out.ne V4.out) (Nat.le_trans HB.out.size wga) _).set wga (S4.out.ne V4.out) (Nat.le_trans HB.out.size wga) _).set wga (S4.out.ne V4.out) (Nat.le_trans HB.out.size wga) _, by have := PQ.out; omega, ?_, ?_⟩
            · exact Kd.N_mono (Kd.N_far (Kd.N_far (Kd.N_far N4.out (fun _ hk => hk.2) _) (fun _ hk => hk.2) _) (fun _ hk => hk.2) _) (fun _ hk => hk.1)
            · have hm := HM.out
              revert hm
              generalize o = m
              intro hm
              match m, hm with
              | none, hm => exact hm
              | some (n, r), hm => exact ⟨hm.1, hm.2.1, hm.2.2.1, by have := hm.2.2.2; omega⟩
        · have p2 : (c == 2) = false := beq_eq_false_iff_ne.2 (fun h => h23 (.inl h))
          have p3 : (c == 3) = false := beq_eq_false_iff_ne.2 (fun h => h23 (.inr h))
          have HQ := Lib.hid (show o = none by
            have ho := HO.out
            unfold dvK at ho
            rw [if_neg h0, if_neg h1, if_neg h23] at ho
            exact ho.symm)
          clear h0 h1 h23 HO
          go_wp2_with fail
          refine bodyPost_ret (results_ct rfl _ _ ga 24 #[.int .i64 c, .int .i64 0, .slice none 0 0] (0, 0) _ rfl (V3.out.set ⟨c, 0, []⟩ none 0) Try.underlying24 rfl (by kernel_rfl)) rfl ?_
          refine ⟨⟨c, 0, []⟩, .slice none 0 0, false, p + 1, rfl, ((S3.out.set wga (S3.out.ne V3.out) (Nat.le_trans HB.out.size wga) _).set wga (S3.out.ne V3.out) (Nat.le_trans HB.out.size wga) _).set wga (S3.out.ne V3.out) (Nat.le_trans HB.out.size wga) _, by omega, Kd.N_nil _ _ _ _ _, ?_⟩
          rw [HQ.out]
  · have HQ := Lib.hid (show o = none by
      rw [List.drop_eq_nil_of_le (by omega)] at ho
      exact ho.symm)
    have NX := Lib.hid (fun W h hB => next_no_is b w0 W g p h hB hp hlt)
    clear ho hlt
    go_enter Try.func71, Try.ntmps71
    go_upto_region 1 with (fail)
    rw [GA.out]
    obtain ⟨w1, hw1, v1, s1⟩ := G.out
    rw [hw1]
    have V1 := Lib.hid v1; have S1 := Lib.hid s1
    clear G hw1 v1 s1
    go_wp2_with fail
    refine (NX.out w1 S1.out.is S1.out.below).mono ?_
    rintro e w2 ⟨rfl, s2⟩
    have V2 := Lib.hid (s2.var V1.out (S1.out.ne V1.out))
    have S2 := Lib.hid (S1.out.call s2)
    clear s2 V1 S1
    go_upto_region 3 with (fail)
    obtain ⟨gv, hgv⟩ : ∃ gv, w2.heap.size = gv := ⟨_, rfl⟩
    have H3 : ∃ w3 : World, w2.alloc (.cells #[.int .i64 0, .int .i64 0, .slice none 0 0] 24) = w3 ∧ Var w3 ga z24 none 0 ∧ Var w3 gv ⟨0, 0, []⟩ none 0 ∧ Rst b w0 w g w3 p :=
      ⟨_, rfl, V2.out.alloc _, by rw [← hgv]; exact blk_new w2 _, S2.out.later (below_alloc (Below.refl _ _) _)⟩
    rw [hgv]
    obtain ⟨w3, hw3, v3, x3, s3⟩ := H3
    rw [hw3]
    have V3 := Lib.hid v3; have S3 := Lib.hid s3
    obtain ⟨k0, k1, k2, f0, f1, f2⟩ := x3.cells
    obtain ⟨m0, m1, m2, t0, t1, t2⟩ := v3.cells
    simp only [List.length_nil] at k2
    clear hgv hw3 v3 x3 s3 V2 S2
    go_wp2_with fail
    refine bodyPost_ret (results_ct rfl _ _ ga 24 #[.int .i64 0, .int .i64 0, .slice none 0 0] (0, 0) _ rfl (V3.out.set ⟨0, 0, []⟩ none 0) Try.underlying24 rfl (by kernel_rfl)) rfl ?_
    refine ⟨⟨0, 0, []⟩, .slice none 0 0, false, p, rfl, ((S3.out.set wga (S3.out.ne V3.out) (Nat.le_trans HB.out.size wga) _).set wga (S3.out.ne V3.out) (Nat.le_trans HB.out.size wga) _).set wga (S3.out.ne V3.out) (Nat.le_trans HB.out.size wga) _, by omega, Kd.N_nil _ _ _ _ _, ?_⟩
    rw [HQ.out]
end Go.Proofs.Ytggdpeeiioibgaa.E
