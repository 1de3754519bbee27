/- Marline, layer 08: what the reference comes to: plain Lean. Conditions: as each says. -/
import Derived.Test.YtggdpeeiioibgaaC2
namespace Go.Proofs.Ytggdpeeiioibgaa.E
open Go.RowKit Go.Proofs.YtggdpeeiioibgaaW.PrintWords Go.Proofs.YtggdpeeiioibgaaW.PrintLast Go.Proofs.YtggdpeeiioibgaaW.PrintMore Go.Proofs.Ytggdpeeiioibgaa.Kinds Go.Proofs.Ytggdpeeiioibgaa.Obj
set_option linter.unusedVariables false
set_option linter.unusedSimpArgs false

theorem i64_0 : i64 0 := ⟨by decide, by decide⟩
theorem i64_1 : i64 1 := ⟨by decide, by decide⟩
theorem leb_small (k c : Nat) (h : c < 128) : leb k c = [(c : Int)] := by
  cases k with
  | zero => simp only [leb]; rw [Int.emod_eq_of_lt (by omega) (by omega)]
  | succ k => simp only [leb]; rw [if_pos h]
theorem leb_big (k q : Nat) (h : ¬ q < 128) : leb (k + 1) q = ((q % 128 + 128 : Nat) : Int) :: leb k (q / 128) := by
  simp only [leb]; rw [if_neg h]
theorem dec_sound : ∀ (d i x : Nat) (s : List Int) (m : Nat) (r : List Int), Bytes s → i + d = 10 → x < 128 ^ i → dec d i x s = some (m, r) →
    ∃ q, m = x + q * 128 ^ i ∧ s = leb (d - 1) q ++ r ∧ (0 < i → 0 < q) ∧ m < 18446744073709551616 := by
  intro d
  induction d with
  | zero => intro i x s m r hb hi hx h; simp [dec] at h
  | succ d ih =>
    intro i x s m r hb hi hx h
    cases s with
    | nil => simp [dec] at h
    | cons c s =>
      obtain ⟨h0, h1⟩ := hb c (List.mem_cons_self)
      have hbs : Bytes s := fun y hy => hb y (List.mem_cons_of_mem _ hy)
      obtain ⟨y, hy⟩ : ∃ y : Nat, c % 128 = (y : Int) := ⟨(c % 128).toNat, by omega⟩
      have hy2 : y < 128 := by omega
      simp only [dec, hy, Int.toNat_natCast] at h
      split at h
      · cases h
      · rename_i hbad
        have hbad2 : ¬ (i = 9 ∧ 1 < y) := by omega
        split at h
        · rename_i hbig
          obtain ⟨q, e1, e2, e3, e4⟩ := ih (i + 1) (x + y * 128 ^ i) s m r hbs (by omega) (acc_pow x y i hx hy2) h
          have e5 := e3 (by omega)
          refine ⟨y + 128 * q, ?_, ?_, fun _ => by omega, e4⟩
          · rw [e1, Nat.pow_succ, Nat.add_mul, Nat.add_assoc]
            congr 2
            rw [Nat.mul_comm (128 ^ i) 128, ← Nat.mul_assoc, Nat.mul_comm q 128]
          · cases d with
            | zero => simp [dec] at h
            | succ d =>
              have e6 : (y + 128 * q) % 128 + 128 = y + 128 := by omega
              have e7 : (y + 128 * q) / 128 = q := by omega
              show c :: s = leb (d + 1) (y + 128 * q) ++ r
              rw [leb_big d _ (by omega), e6, e7, e2]
              show _ = ((y + 128 : Nat) : Int) :: (leb d q ++ r)
              congr 1
              omega
        · rename_i hsm
          split at h
          · cases h
          · rename_i hz
            simp only [Option.some.injEq, Prod.mk.injEq] at h
            obtain ⟨rfl, rfl⟩ := h
            have ec : c = (y : Int) := by omega
            refine ⟨y, rfl, ?_, fun hi0 => ?_, acc_lt x y i (by omega) hx hy2 hbad2⟩
            · rw [leb_small _ y hy2, ec]; rfl
            · have : ¬ c = 0 := fun hc => hz ⟨hc, hi0⟩
              omega
theorem unz_zig (m : Nat) (h : m < 18446744073709551616) : Go.Lib.zigzag (unz m) = m ∧ i64 (unz m) := by
  unfold unz Go.Lib.zigzag i64
  split
  · refine ⟨?_, ?_⟩
    · rw [if_neg (by omega)]; omega
    · omega
  · refine ⟨?_, ?_⟩
    · rw [if_pos (by omega)]; omega
    · omega
theorem zig_unz (n : Int) (h : i64 n) : unz (Go.Lib.zigzag n) = n := by
  obtain ⟨h0, h1⟩ := h
  unfold unz Go.Lib.zigzag
  split
  · rw [if_neg (by omega)]; omega
  · rw [if_pos (by omega)]; omega
theorem num_sound (s : List Int) (n : Int) (r : List Int) (hb : Bytes s) (h : num s = some (n, r)) : s = grp n ++ r ∧ i64 n := by
  unfold num at h
  cases hd : dec 10 0 0 s with
  | none => rw [hd] at h; cases h
  | some z =>
    obtain ⟨m, r2⟩ := z
    rw [hd] at h
    simp only [Option.map_some, Option.some.injEq, Prod.mk.injEq] at h
    obtain ⟨rfl, rfl⟩ := h
    obtain ⟨q, e1, e2, _, e4⟩ := dec_sound 10 0 0 s m r2 hb rfl (by decide) hd
    have e5 : m = q := by simpa using e1
    subst e5
    obtain ⟨e6, e7⟩ := unz_zig m e4
    exact ⟨by unfold grp; rw [e6]; exact e2, e7⟩
theorem dec_complete : ∀ (d i x q : Nat) (r : List Int), i + d = 9 → x < 128 ^ i → x + q * 128 ^ i < 18446744073709551616 → (0 < i → 0 < q) → dec (d + 1) i x (leb d q ++ r) = some (x + q * 128 ^ i, r) := by
  intro d
  induction d with
  | zero =>
    intro i x q r hi hx hm hq
    obtain rfl : i = 9 := by omega
    have h9 : (128 : Nat) ^ 9 = 9223372036854775808 := by decide
    have hq2 : q ≤ 1 := by
      rcases Nat.lt_or_ge 1 q with h | h
      · have : 2 * 128 ^ 9 ≤ q * 128 ^ 9 := Nat.mul_le_mul_right _ h
        omega
      · exact h
    have := hq (by decide)
    obtain rfl : q = 1 := by omega
    simp [leb, dec]
  | succ d ih =>
    intro i x q r hi hx hm hq
    by_cases h : q < 128
    · rw [leb_small _ q h]
      have e1 : ((q : Int) % 128) = (q : Int) := Int.emod_eq_of_lt (by omega) (by omega)
      show dec (d + 1 + 1) i x ((q : Int) :: r) = _
      simp only [dec, e1, Int.toNat_natCast]
      rw [if_neg (by omega), if_neg (by omega), if_neg (by rintro ⟨h1, h2⟩; have := hq h2; omega)]
    · rw [leb_big d q h]
      show dec (d + 1 + 1) i x (((q % 128 + 128 : Nat) : Int) :: (leb d (q / 128) ++ r)) = _
      have e1 : (((q % 128 + 128 : Nat) : Int) % 128) = ((q % 128 : Nat) : Int) := by omega
      have e2 : q = q % 128 + 128 * (q / 128) := by omega
      have e3 : x + q % 128 * 128 ^ i + q / 128 * 128 ^ (i + 1) = x + q * 128 ^ i := by
        rw [Nat.pow_succ, Nat.add_assoc]
        congr 1
        calc q % 128 * 128 ^ i + q / 128 * (128 ^ i * 128) = (q % 128 + 128 * (q / 128)) * 128 ^ i := by
              rw [Nat.add_mul]; congr 1; rw [Nat.mul_comm (128 ^ i) 128, ← Nat.mul_assoc, Nat.mul_comm (q / 128) 128]
          _ = q * 128 ^ i := by rw [← e2]
      rw [dec, e1]
      simp only [Int.toNat_natCast]
      rw [if_neg (by omega), if_pos (by omega), ih (i + 1) (x + q % 128 * 128 ^ i) (q / 128) r (by omega) (acc_pow x _ i hx (by omega)) (by rw [e3]; exact hm) (fun _ => by omega), e3]
theorem num_complete (n : Int) (r : List Int) (h : i64 n) : num (grp n ++ r) = some (n, r) := by
  unfold num grp
  have h1 := Go.Lib.zigzag_lt h.1 h.2
  have := dec_complete 9 0 0 (Go.Lib.zigzag n) r rfl (by decide) (by simpa using h1) (fun h => by omega)
  rw [this]
  simp only [Option.map_some, Nat.pow_zero, Nat.mul_one, Nat.zero_add, zig_unz n h]
theorem bytes_app {a b : List Int} (h : Bytes (a ++ b)) : Bytes a ∧ Bytes b := ⟨fun c hc => h c (List.mem_append_left _ hc), fun c hc => h c (List.mem_append_right _ hc)⟩
/-- read a value: it is right, its bytes stand there. -/
def Sound (x : S24) (s r : List Int) : Prop := s = enc x ++ r ∧ right x = true ∧ Num x ∧ sz x + r.length ≤ s.length
theorem dvL_sound (f : List Int → Option (S24 × List Int)) (hf : ∀ s x r, Bytes s → f s = some (x, r) → Sound x s r) : ∀ (m : Nat) (s : List Int) (l : List S24) (r : List Int), Bytes s → dvL f m s = some (l, r) →
    s = encL l ++ r ∧ rightL l = true ∧ (∀ y ∈ l, Num y) ∧ l.length = m ∧ szL l + r.length ≤ s.length := by
  intro m
  induction m with
  | zero =>
    intro s l r hb h
    simp only [dvL, Option.some.injEq, Prod.mk.injEq] at h
    obtain ⟨rfl, rfl⟩ := h
    exact ⟨rfl, rfl, fun y hy => by simp at hy, rfl, by simp [szL]⟩
  | succ m ih =>
    intro s l r hb h
    simp only [dvL] at h
    cases h1 : f s with
    | none => rw [h1] at h; cases h
    | some z =>
      obtain ⟨x, r1⟩ := z
      rw [h1] at h
      simp only at h
      obtain ⟨e1, e2, e3, e4⟩ := hf s x r1 hb h1
      cases h2 : dvL f m r1 with
      | none => rw [h2] at h; cases h
      | some z =>
        obtain ⟨l2, r2⟩ := z
        rw [h2] at h
        simp only [Option.some.injEq, Prod.mk.injEq] at h
        obtain ⟨rfl, rfl⟩ := h
        obtain ⟨g1, g2, g3, g4, g5⟩ := ih r1 l2 r2 (by rw [e1] at hb; exact (bytes_app hb).2) h2
        refine ⟨by rw [e1, g1]; simp only [encL, List.append_assoc], by simp only [rightL]; rw [e2, g2]; rfl, fun y hy => ?_, by simp [g4], by simp only [szL]; omega⟩
        rcases List.mem_cons.1 hy with rfl | hy
        · exact e3
        · exact g3 y hy
theorem dv_sound : ∀ (n : Nat) (s : List Int) (x : S24) (r : List Int), Bytes s → dv n s = some (x, r) → Sound x s r := by
  intro n
  induction n with
  | zero => intro s x r hb h; simp [dv] at h
  | succ n ih =>
    intro s x r hb h
    cases s with
    | nil => simp [dv] at h
    | cons c s =>
      obtain ⟨h0, h1⟩ := hb c (List.mem_cons_self)
      have hbs : Bytes s := fun y hy => hb y (List.mem_cons_of_mem _ hy)
      simp only [dv, dvK] at h
      split at h
      · rename_i hc
        cases hn : num s with
        | none => rw [hn] at h; cases h
        | some z =>
          obtain ⟨k, r1⟩ := z
          rw [hn] at h
          simp only [Option.some.injEq, Prod.mk.injEq] at h
          obtain ⟨rfl, rfl⟩ := h
          obtain ⟨e1, e2⟩ := num_sound s k r1 hbs hn
          have e3 := leb_pos 9 (Go.Lib.zigzag k)
          have e4 : 0 < (grp k).length := e3
          refine ⟨by rw [e1]; simp [enc, hc], by simp [right], .mk _ i64_0 e2 (fun y hy => by simp at hy), ?_⟩
          have := congrArg List.length e1
          rw [List.length_append] at this
          simp [sz, szL]; omega
      · rename_i hc0
        split at h
        · rename_i hc
          cases s with
          | nil => simp at h
          | cons d r1 =>
            obtain ⟨g0, g1⟩ := hbs d (List.mem_cons_self)
            simp only at h
            split at h
            · rename_i hd
              simp only [Option.some.injEq, Prod.mk.injEq] at h
              obtain ⟨rfl, rfl⟩ := h
              refine ⟨by simp [enc, hc]; omega, ?_, .mk _ i64_1 ⟨by show _ ≤ d; omega, by show d ≤ _; omega⟩ (fun y hy => by simp at hy), by simp [sz, szL]; omega⟩
              have hd2 : d = 0 ∨ d = 1 := by omega
              rcases hd2 with rfl | rfl <;> simp [right]
            · cases h
        · rename_i hc1
          split at h
          · rename_i hc
            cases hn : num s with
            | none => rw [hn] at h; cases h
            | some z =>
              obtain ⟨k, r1⟩ := z
              rw [hn] at h
              simp only at h
              split at h
              · cases h
              · rename_i hk
                obtain ⟨e1, e2⟩ := num_sound s k r1 hbs hn
                cases hl : dvL (dv n) k.toNat r1 with
                | none => rw [hl] at h; cases h
                | some z =>
                  obtain ⟨l, r2⟩ := z
                  rw [hl] at h
                  simp only [Option.some.injEq, Prod.mk.injEq] at h
                  obtain ⟨rfl, rfl⟩ := h
                  obtain ⟨g1, g2, g3, g4, g5⟩ := dvL_sound (dv n) ih k.toNat r1 l r2 (by rw [e1] at hbs; exact (bytes_app hbs).2) hl
                  have ek : (l.length : Int) = k := by omega
                  refine ⟨?_, ?_, .mk _ ⟨by show _ ≤ c; omega, by show c ≤ _; omega⟩ ⟨by show (_ : Int) ≤ 0; omega, by show (0 : Int) ≤ _; omega⟩ g3, ?_⟩
                  · rw [e1, g1]
                    simp only [enc]
                    rw [if_neg hc0, if_neg hc1, ek, Int.emod_eq_of_lt h0 h1]
                    simp
                  · simp only [right]
                    rw [if_neg hc0, if_neg hc1, if_pos hc]
                    simp [g2]
                  · have := congrArg List.length e1
                    rw [List.length_append] at this
                    have e4 := leb_pos 9 (Go.Lib.zigzag k)
                    have e5 : 0 < (grp k).length := e4
                    simp only [sz, List.length_cons]; omega
          · cases h
theorem encL_szL : ∀ l : List S24, (∀ y ∈ l, sz y ≤ (enc y).length) → szL l ≤ (encL l).length
  | [], _ => by simp [szL]
  | x :: l, h => by
    have h1 := h x (List.mem_cons_self)
    have h2 := encL_szL l (fun y hy => h y (List.mem_cons_of_mem _ hy))
    simp only [szL, encL, List.length_append]; omega
theorem enc_sz_n : ∀ (n : Nat) (x : S24), sz x ≤ n → right x = true → sz x ≤ (enc x).length := by
  intro n
  induction n with
  | zero => intro x h; have := sz_pos x; omega
  | succ n ih =>
    intro x h hr
    obtain ⟨k, v, l⟩ := x
    have hs : sz ⟨k, v, l⟩ = szL l + 1 := by simp [sz]
    have hl : szL l ≤ (encL l).length ∨ l = [] := by
      by_cases hk : k = 0
      · subst hk
        right
        simpa [right] using hr
      · by_cases hk1 : k = 1
        · subst hk1
          right
          simp [right] at hr
          exact hr.1
        · left
          have hrl : rightL l = true := by
            simp only [right] at hr
            rw [if_neg hk, if_neg hk1] at hr
            split at hr
            · simp at hr; exact hr.2
            · cases hr
          have hmem : ∀ (l : List S24), rightL l = true → ∀ y ∈ l, right y = true := by
            intro l
            induction l with
            | nil => intro _ y hy; simp at hy
            | cons z l ih2 =>
              intro hrl y hy
              simp only [rightL, Bool.and_eq_true] at hrl
              rcases List.mem_cons.1 hy with rfl | hy
              · exact hrl.1
              · exact ih2 hrl.2 y hy
          exact encL_szL l (fun y hy => ih y (by have := szL_mem l y hy; omega) (hmem l hrl y hy))
    rcases hl with hl | rfl
    · by_cases hk : k = 0
      · subst hk
        have : l = [] := by simpa [right] using hr
        subst this
        rw [hs]; simp [szL, enc]
      · by_cases hk1 : k = 1
        · subst hk1
          have : l = [] := by simp [right] at hr; exact hr.1
          subst this
          rw [hs]; simp [szL, enc]
        · rw [hs]
          simp only [enc]
          rw [if_neg hk, if_neg hk1]
          simp only [List.length_cons, List.length_append]; omega
    · rw [hs]; simp [szL, enc]
theorem enc_sz (x : S24) (h : right x = true) : sz x ≤ (enc x).length := enc_sz_n _ x (Nat.le_refl _) h
theorem rightL_mem : ∀ (l : List S24), rightL l = true → ∀ y ∈ l, right y = true := by
  intro l
  induction l with
  | nil => intro _ y hy; simp at hy
  | cons z l ih2 =>
    intro hrl y hy
    simp only [rightL, Bool.and_eq_true] at hrl
    rcases List.mem_cons.1 hy with rfl | hy
    · exact hrl.1
    · exact ih2 hrl.2 y hy
theorem dvL_complete (f : List Int → Option (S24 × List Int)) : ∀ (l : List S24) (r : List Int), (∀ y ∈ l, ∀ s, f (enc y ++ s) = some (y, s)) → dvL f l.length (encL l ++ r) = some (l, r) := by
  intro l
  induction l with
  | nil => intro r _; rfl
  | cons x l ih =>
    intro r h
    simp only [List.length_cons, encL, List.append_assoc, dvL]
    rw [h x (List.mem_cons_self)]
    simp only
    rw [ih r (fun y hy => h y (List.mem_cons_of_mem _ hy))]
/-- a right value is read from its bytes. -/
theorem dv_complete : ∀ (n : Nat) (x : S24) (r : List Int), sz x ≤ n → right x = true → Num x → szL x.f2 ≤ 1000000000000 → dv n (enc x ++ r) = some (x, r) := by
  intro n
  induction n with
  | zero => intro x r h; have := sz_pos x; omega
  | succ n ih =>
    intro x r h hr hn hz
    obtain ⟨k, v, l⟩ := x
    have hs : sz ⟨k, v, l⟩ = szL l + 1 := by simp [sz]
    have hv := hn.f1
    have hll := szL_len l
    simp only [right] at hr
    by_cases hk : k = 0
    · subst hk
      rw [if_pos rfl] at hr
      have : l = [] := List.length_eq_zero_iff.1 (by simpa using hr)
      subst this
      show dv (n + 1) (0 % 256 :: (grp v ++ r)) = _
      simp only [dv, dvK]
      rw [if_pos (by decide), num_complete v r hv]
    · rw [if_neg hk] at hr
      by_cases hk1 : k = 1
      · subst hk1
        rw [if_pos rfl] at hr
        simp only [Bool.and_eq_true, Bool.or_eq_true, decide_eq_true_eq] at hr
        have : l = [] := List.length_eq_zero_iff.1 hr.1
        subst this
        show dv (n + 1) (1 % 256 :: ((v % 256) :: r)) = _
        simp only [dv, dvK]
        rw [if_neg (by decide), if_pos (by decide)]
        rcases hr.2 with rfl | rfl <;> rfl
      · rw [if_neg hk1] at hr
        split at hr
        · rename_i h23
          simp only [Bool.and_eq_true, decide_eq_true_eq] at hr
          obtain ⟨rfl, hrl⟩ := hr
          have hm := rightL_mem l hrl
          have hz2 : szL l ≤ 1000000000000 := hz
          have he : enc ⟨k, 0, l⟩ ++ r = k :: (grp (l.length : Int) ++ (encL l ++ r)) := by
            have : k % 256 = k := by omega
            simp only [enc]
            rw [if_neg hk, if_neg hk1, this]
            simp
          rw [he]
          have h5 : l.length ≤ (encL l).length := Nat.le_trans hll (encL_szL l (fun y hy => enc_sz y (hm y hy)))
          simp only [dv, dvK]
          rw [if_neg hk, if_neg hk1, if_pos h23, num_complete _ _ ⟨by omega, by omega⟩]
          simp only
          rw [if_neg (by rw [List.length_append]; omega), Int.toNat_natCast, dvL_complete (dv n) l r (fun y hy s => ih y s (by have := szL_mem l y hy; omega) (hm y hy) (hn.kid hy) (by have := szL_mem l y hy; have := sz_eq y; omega))]
        · cases hr
/-- more behind it, and more rounds: the same value. -/
theorem dv_ext (n m : Nat) (s t : List Int) (x : S24) (r : List Int) (hb : Bytes s) (hl : s.length ≤ 1000000000000) (h : dv n s = some (x, r)) (hm : sz x ≤ m) : dv m (s ++ t) = some (x, r ++ t) := by
  obtain ⟨e1, e2, e3, e4⟩ := dv_sound n s x r hb h
  rw [e1, List.append_assoc]
  exact dv_complete m x (r ++ t) hm e2 e3 (by have := sz_eq x; omega)
end Go.Proofs.Ytggdpeeiioibgaa.E
namespace Go.Proofs.Ytggdpeeiioibgaa.E
open Go.RowKit Go.Proofs.YtggdpeeiioibgaaW.PrintWords Go.Proofs.YtggdpeeiioibgaaW.PrintLast Go.Proofs.YtggdpeeiioibgaaW.PrintMore Go.Proofs.Ytggdpeeiioibgaa.Kinds Go.Proofs.Ytggdpeeiioibgaa.Obj
set_option linter.unusedVariables false
set_option linter.unusedSimpArgs false

theorem wrap_nat2 (i : Nat) (h : i ≤ 9000000000000000000) : wrap64 ((i : Int) + 1) = ((i + 1 : Nat) : Int) := by unfold wrap64; omega
theorem rright_l (n : Nat) (ih : ∀ x : S24, sz x ≤ n → sz x ≤ 1000000000000 → ∀ k, 4 * sz x ≤ k → PC.marlineref06_Right.f k x.f0 x.f1 x.f2 = some (right x)) (a b : Int) (l : List S24) (hn : szL l ≤ n) (hb : szL l ≤ 1000000000000) :
    ∀ (d i q : Nat), i + d = l.length → 4 * szL (l.drop i) + 1 ≤ q → PC.marlineref06_Right.l0 q (i : Int) a b l = some (rightL (l.drop i)) := by
  intro d
  induction d with
  | zero =>
    intro i q hi hq
    obtain ⟨q, rfl⟩ : ∃ m, q = m + 1 := ⟨q - 1, by omega⟩
    simp only [PC.marlineref06_Right.l0]
    rw [if_neg (by omega), List.drop_of_length_le (by omega)]
    rfl
  | succ d ihd =>
    intro i q hi hq
    obtain ⟨q, rfl⟩ : ∃ m, q = m + 1 := ⟨q - 1, by omega⟩
    have hlt : i < l.length := by omega
    have h1 := szL_drop l i hlt
    have h4 := szL_mem l _ (rd_mem l i hlt)
    have h6 := szL_len l
    have h7 := sz_pos (rd_T24 l i)
    simp only [PC.marlineref06_Right.l0]
    rw [if_pos (by omega), if_pos (by omega), ih (rd_T24 l i) (by omega) (by omega) q (by omega), Option.bind_some, wrap_nat2 i (by omega), rightL_step l i hlt, ihd (i + 1) q (by omega) (by omega)]
    cases right (rd_T24 l i) <;> rfl
theorem rright_n : ∀ (n : Nat) (x : S24), sz x ≤ n → sz x ≤ 1000000000000 → ∀ k, 4 * sz x ≤ k → PC.marlineref06_Right.f k x.f0 x.f1 x.f2 = some (right x) := by
  intro n
  induction n with
  | zero => intro x h; have := sz_pos x; omega
  | succ n ih =>
    intro x h hb k hk
    obtain ⟨a, b, l⟩ := x
    have hs : sz ⟨a, b, l⟩ = szL l + 1 := by simp [sz]
    rw [hs] at h hb hk
    obtain ⟨k, rfl⟩ : ∃ m, k = m + 3 := ⟨k - 3, by omega⟩
    have hl := rright_l n ih a b l (by omega) (by omega) l.length 0 k (by omega) (by simpa using by omega)
    simp only [PC.marlineref06_Right.f, right]
    by_cases h0 : a = 0
    · rw [if_pos h0, if_pos h0]
      simp only [PC.marlineref06_Right.j0]
      rw [if_pos trivial]
      by_cases hz : l.length = 0
      · rw [if_pos (by omega), if_pos h0, decide_eq_true hz]
      · rw [if_neg (by omega), decide_eq_false hz]
    · rw [if_neg h0, if_neg h0]
      simp only [PC.marlineref06_Right.j0]
      by_cases h1 : a = 1
      · subst h1
        rw [if_pos (by decide), if_pos rfl]
        by_cases hz : l.length = 0
        · rw [if_pos (by omega), if_neg h0, decide_eq_true hz]
          by_cases hb0 : b = 0
          · rw [if_pos hb0]; simp [hb0]
          · rw [if_neg hb0]
            simp only [Bool.true_and, decide_eq_false hb0, Bool.false_or]
            congr 1
        · rw [if_neg (by omega), decide_eq_false hz]; rfl
      · have p1 : (a == 1) = false := beq_eq_false_iff_ne.2 h1
        rw [p1, if_neg (by decide), if_neg h1]
        have hj : ∀ c, PC.marlineref06_Right.j1 (k + 1) c a b l = if c = true then some false else some (rightL l) := by
          intro c
          simp only [PC.marlineref06_Right.j1]
          have e : ((0 : Nat) : Int) = 0 := rfl
          rw [← e, hl, List.drop_zero]
        by_cases h2 : a = 2
        · rw [if_pos h2, hj, if_pos (show a = 2 ∨ a = 3 from .inl h2)]
          by_cases hb0 : b = 0
          · simp [hb0]
          · simp [hb0]
        · rw [if_neg h2]
          by_cases h3 : a = 3
          · rw [if_pos h3, hj, if_pos (show a = 2 ∨ a = 3 from .inr h3)]
            by_cases hb0 : b = 0
            · simp [hb0]
            · simp [hb0]
          · rw [if_neg h3, hj, if_neg (show ¬ (a = 2 ∨ a = 3) by omega)]
            rfl
theorem rright_ev (x : S24) (hz : sz x ≤ 1000000000000) : ∀ k, 4 * sz x ≤ k → PC.marlineref06_Right.f k x.f0 x.f1 x.f2 = some (right x) := rright_n _ x (Nat.le_refl _) hz
theorem rbytes_l (n : Nat) (ih : ∀ x : S24, sz x ≤ n → sz x ≤ 1000000000000 → Num x → right x = true → ∀ k, 4 * sz x + 13 ≤ k → PC.marlineref08_Bytes.f k x.f0 x.f1 x.f2 = some (enc x)) (a b : Int) (l : List S24) (hn : szL l ≤ n) (hb : szL l ≤ 1000000000000) (hnum : ∀ y ∈ l, Num y) (hr : rightL l = true) :
    ∀ (d i q : Nat) (acc : List Int), i + d = l.length → 4 * szL (l.drop i) + 14 ≤ q → acc.length ≤ 100 + 11 * szL (l.take i) → PC.marlineref08_Bytes.l0 q acc (i : Int) a b l = some (acc ++ encL (l.drop i)) := by
  intro d
  induction d with
  | zero =>
    intro i q acc hi hq ha
    obtain ⟨q, rfl⟩ : ∃ m, q = m + 1 := ⟨q - 1, by omega⟩
    simp only [PC.marlineref08_Bytes.l0]
    rw [if_neg (by omega), List.drop_of_length_le (by omega)]
    simp [encL]
  | succ d ihd =>
    intro i q acc hi hq ha
    obtain ⟨q, rfl⟩ : ∃ m, q = m + 1 := ⟨q - 1, by omega⟩
    have hlt : i < l.length := by omega
    have h1 := szL_drop l i hlt
    have h2 := szL_take l i hlt
    have h3 := szL_split l (i + 1)
    have hm := rd_mem l i hlt
    have h4 := szL_mem l _ hm
    have h6 := szL_len l
    have h7 := sz_pos (rd_T24 l i)
    have h8 := enc_len (rd_T24 l i)
    simp only [PC.marlineref08_Bytes.l0]
    rw [if_pos (by omega), if_pos (by omega), ih (rd_T24 l i) (by omega) (by omega) (hnum _ hm) (rightL_mem l hr _ hm) q (by omega), Option.bind_some, if_pos (by omega), wrap_nat2 i (by omega), ihd (i + 1) q _ (by omega) (by omega) (by rw [List.length_append]; omega)]
    rw [List.drop_eq_getElem_cons hlt, ← rd_eq l i hlt]
    simp only [encL, List.append_assoc]
theorem rbytes_n : ∀ (n : Nat) (x : S24), sz x ≤ n → sz x ≤ 1000000000000 → Num x → right x = true → ∀ k, 4 * sz x + 13 ≤ k → PC.marlineref08_Bytes.f k x.f0 x.f1 x.f2 = some (enc x) := by
  intro n
  induction n with
  | zero => intro x h; have := sz_pos x; omega
  | succ n ih =>
    intro x h hb hn hr k hk
    have hn1 := hn.f1
    have hkid := fun y hy => hn.kid (y := y) hy
    have hR := rright_ev x hb
    obtain ⟨a, b, l⟩ := x
    have hs : sz ⟨a, b, l⟩ = szL l + 1 := by simp [sz]
    have hl6 := szL_len l
    rw [hs] at h hb hk hR
    obtain ⟨k, rfl⟩ : ∃ m, k = m + 1 := ⟨k - 1, by omega⟩
    have hR2 := hR k (by omega)
    simp only at hR2
    rw [hr] at hR2
    simp only [PC.marlineref08_Bytes.f]
    rw [hR2, Option.bind_some, if_pos rfl, Option.bind_some]
    simp only [enc]
    by_cases h0 : a = 0
    · rw [if_pos h0, if_pos h0, rgroups_ev b hn1 k (by omega), Option.bind_some, if_pos (by have := grp_len b; simp; omega)]
      rfl
    · rw [if_neg h0, if_neg h0]
      by_cases h1 : a = 1
      · rw [if_pos h1, if_pos h1, if_pos (by simp)]
        rfl
      · rw [if_neg h1, if_neg h1, rgroups_ev (l.length : Int) ⟨by omega, by omega⟩ k (by omega), Option.bind_some, if_pos (by have := grp_len (l.length : Int); simp; omega)]
        have hrl : rightL l = true := by
          simp only [right] at hr
          rw [if_neg h0, if_neg h1] at hr
          split at hr
          · simp at hr; exact hr.2
          · cases hr
        have := rbytes_l n ih a b l (by omega) (by omega) hkid hrl l.length 0 k ([a % 256] ++ grp (l.length : Int)) (by omega) (by simpa using by omega) (by have := grp_len (l.length : Int); simp; omega)
        rw [List.drop_zero] at this
        exact this.trans (by simp)
theorem rbytes_ev (x : S24) (hz : sz x ≤ 1000000000000) (hn : Num x) : ∀ k, 4 * sz x + 14 ≤ k → PC.marlineref08_Bytes.f k x.f0 x.f1 x.f2 = some (bytes x) := by
  intro k hk
  unfold bytes
  by_cases hr : right x = true
  · rw [if_pos hr]
    exact rbytes_n _ x (Nat.le_refl _) hz hn hr k (by omega)
  · obtain ⟨k, rfl⟩ : ∃ m, k = m + 1 := ⟨k - 1, by omega⟩
    rw [if_neg hr]
    simp only [PC.marlineref08_Bytes.f]
    rw [rright_ev x hz k (by omega), Option.bind_some, if_neg hr]
end Go.Proofs.Ytggdpeeiioibgaa.E
