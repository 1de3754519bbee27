/- Marline, values: the document's text, plain. Conditions: right values, sizes up to 1048576. -/
import Derived.Test.YtfofpammnfcmiaaDoorV6
import Derived.Lib.ItoaLen
namespace Go.Proofs.YtfofpammnfcmiaaDoor.Vl
open Go.RowKit Go.Proofs.YtfofpammnfcmiaaDoorW.PrintWords Go.Proofs.YtfofpammnfcmiaaDoorW.PrintLast Go.Proofs.YtfofpammnfcmiaaDoorW.PrintMore Go.Proofs.YtfofpammnfcmiaaDoor.Kinds Go.Proofs.YtfofpammnfcmiaaDoor.Obj
set_option linter.unusedVariables false
set_option linter.unusedSimpArgs false
set_option maxRecDepth 100000
/-- bytes as a text. -/
def ba (l : List UInt8) : ByteArray := ⟨l.toArray⟩
theorem ba_size (l : List UInt8) : (ba l).size = l.length := by show l.toArray.size = _; simp
theorem ba_add (a b : List UInt8) : ba a ++ ba b = ba (a ++ b) := by
  exact ByteArray.ext (by simp [ba])
theorem jt_len (xs : List (List UInt8)) : (jt xs).length ≤ (xs.map (fun y => y.length + 2)).sum := by
  cases xs with
  | nil => exact Nat.le_refl _
  | cons x r =>
    have : ∀ r : List (List UInt8), ((r.map (fun y => (44 : UInt8) :: 32 :: y)).flatten).length = (r.map (fun y => y.length + 2)).sum := by
      intro r
      induction r with
      | nil => rfl
      | cons y r ih => simp only [List.map_cons, List.flatten_cons, List.length_append, List.length_cons, List.sum_cons, ih]
    simp only [jt, List.length_append, this, List.map_cons, List.sum_cons]
    omega
theorem txt_len : ∀ (m : Nat) (x : S67), sz x ≤ m → Wv x → (txt x).length + 2 ≤ 24 * sz x := by
  intro m
  induction m with
  | zero => intro x h; have := sz_pos x; omega
  | succ m ih =>
    intro x hx hw
    have he := sz_eq x
    have hpx := sz_pos x
    have hs : ∀ l : List S67, (∀ y ∈ l, Wv y) → szL l ≤ m → ((txts l).map (fun y => y.length + 2)).sum ≤ 24 * szL l := by
      intro l
      induction l with
      | nil => intro _ _; exact Nat.le_refl _
      | cons y l ihl =>
        intro h1 h2
        simp only [szL] at h2
        have g1 := ih y (by omega) (h1 y List.mem_cons_self)
        have g2 := ihl (fun z hz => h1 z (List.mem_cons_of_mem _ hz)) (by omega)
        simp only [txts, List.map_cons, List.sum_cons, szL]
        omega
    have hk := hs x.f2 (fun y hy => hw.kid hy) (by omega)
    have hj := jt_len (txts x.f2)
    have hn2 := Lib.itoa_length_le x.f1 hw.n.1 hw.n.2
    obtain ⟨xk, xn, xl⟩ := x
    simp only at *
    unfold txt
    by_cases h0 : xk = 0
    · rw [if_pos h0]; omega
    · rw [if_neg h0]
      by_cases h1 : xk = 1
      · rw [if_pos h1]
        by_cases h2 : xn = 0
        · rw [if_pos h2]; show 5 + 2 ≤ _; omega
        · rw [if_neg h2]; show 4 + 2 ≤ _; omega
      · rw [if_neg h1]
        simp only [List.length_cons, List.length_append, List.length_nil]
        omega
theorem txts_take (l : List S67) (i : Nat) (h : i < l.length) : txts (l.take (i + 1)) = txts (l.take i) ++ [txt (rd_T67 l (i : Int))] := by
  rw [List.take_succ_eq_append_getElem h, rd67_at l i h, txts_map, txts_map, List.map_append]; rfl
theorem txts_nil (l : List S67) : txts l = [] ↔ l = [] := by cases l <;> simp [txts]
theorem jtt_take (l : List S67) (i : Nat) (h : i < l.length) : jt (txts (l.take (i + 1))) = jt (txts (l.take i)) ++ (if i = 0 then [] else [44, 32]) ++ txt (rd_T67 l (i : Int)) := by
  rw [txts_take l i h, jt_snoc]
  by_cases h0 : i = 0
  · subst h0; simp [txts]
  · rw [if_neg h0, if_neg (fun e => h0 (by have := (txts_nil _).1 e; have := congrArg List.length this; rw [List.length_take] at this; simp only [List.length_nil] at this; omega))]
    simp
theorem szL_take (l : List S67) (i : Nat) (h : i < l.length) : szL (l.take (i + 1)) = szL (l.take i) + sz (rd_T67 l (i : Int)) := by
  rw [List.take_succ_eq_append_getElem h, rd67_at l i h]
  generalize l.take i = a
  induction a with
  | nil => simp [szL]
  | cons y a ih => simp only [List.cons_append, szL, ih]; omega
theorem szL_take_le (l : List S67) (i : Nat) : szL (l.take i) ≤ szL l := by
  induction i generalizing l with
  | zero => rw [List.take_zero]; exact Nat.zero_le _
  | succ i ih =>
    cases l with
    | nil => exact Nat.le_refl _
    | cons x l => have := ih l; simp only [List.take_succ_cons, szL]; omega
theorem jt_sz (m : Nat) (l : List S67) (hw : ∀ y ∈ l, Wv y) : (jt (txts l)).length ≤ 24 * szL l := by
  have hs : ∀ l : List S67, (∀ y ∈ l, Wv y) → ((txts l).map (fun y => y.length + 2)).sum ≤ 24 * szL l := by
    intro l
    induction l with
    | nil => intro _; exact Nat.le_refl _
    | cons y l ihl =>
      intro h1
      have g1 := txt_len _ y (Nat.le_refl _) (h1 y List.mem_cons_self)
      have g2 := ihl (fun z hz => h1 z (List.mem_cons_of_mem _ hz))
      simp only [txts, List.map_cons, List.sum_cons, szL]
      omega
  exact Nat.le_trans (jt_len _) (hs l hw)
theorem reftxt_is : ∀ (m : Nat) (x : S67), sz x ≤ m → m ≤ 1048576 → Wv x → right x = true → ∀ k, 2 * sz x + 1 ≤ k → PV.marlineref06_Text.f k x.f0 x.f1 x.f2 = some (ba (txt x)) := by
  intro m
  induction m with
  | zero => intro x h; have := sz_pos x; omega
  | succ m ih =>
    intro x hx hm hw hr k hk
    have he := sz_eq x
    have hpx := sz_pos x
    obtain ⟨k, rfl⟩ : ∃ k', k = k' + 1 := ⟨k - 1, by omega⟩
    have hlen := szL_len x.f2
    rcases right_kinds x hr with h0 | ⟨h0, h1⟩ | ⟨h0, h1⟩
    · have hn := hw.n
      obtain ⟨xk, xn, xl⟩ := x
      simp only at *
      subst h0
      rw [PV.marlineref06_Text.f, if_pos rfl, PV.marlineref01_Text.f, if_pos hn, Option.bind_some]
      rfl
    · obtain ⟨xk, xn, xl⟩ := x
      simp only at *
      subst h0
      rw [PV.marlineref06_Text.f, if_neg (by decide), if_pos rfl]
      rcases h1 with h1 | h1
      · subst h1; rfl
      · subst h1; rfl
    · have key : ∀ (d i K : Nat), i + d = x.f2.length → d + 1 + 2 * szL (x.f2.drop i) + 1 ≤ K + d →
          PV.marlineref06_Text.l0 K (ba (jt (txts (x.f2.take i)))) (i : Int) x.f0 x.f1 x.f2 = some (ba (txt x)) := by
        intro d
        induction d with
        | zero =>
          intro i K hi hK
          obtain ⟨K, rfl⟩ : ∃ K', K = K' + 1 := ⟨K - 1, by omega⟩
          have hj := jt_sz m x.f2 (fun y hy => hw.kid hy)
          rw [PV.marlineref06_Text.l0, if_neg (by omega), List.take_of_length_le (by omega)]
          have e1 : (1 + (ba (jt (txts x.f2))).size ≤ 9223372036854775807) := by rw [ba_size]; omega
          have e2 : ∀ c : UInt8, (((⟨#[c]⟩ : ByteArray) ++ ba (jt (txts x.f2))).size + 1 ≤ 9223372036854775807) := by
            intro c
            show (ba [c] ++ ba (jt (txts x.f2))).size + 1 ≤ _
            rw [ba_add, ba_size, List.length_append]; simp only [List.length_cons, List.length_nil]; omega
          have et : ∀ a b : UInt8, (((⟨#[a]⟩ : ByteArray) ++ ba (jt (txts x.f2))) ++ (⟨#[b]⟩ : ByteArray)) = ba (a :: (jt (txts x.f2) ++ [b])) := by
            intro a b
            show (ba [a] ++ ba (jt (txts x.f2))) ++ ba [b] = _
            rw [ba_add, ba_add]; simp
          obtain ⟨xk, xn, xl⟩ := x
          simp only at *
          unfold txt
          rcases h0 with h0 | h0
          · subst h0
            rw [if_neg (by decide), if_pos e1, if_pos (e2 _), et, if_neg (by decide), if_neg (by decide), if_neg (by decide), if_neg (by decide)]
          · subst h0
            rw [if_pos rfl, if_pos e1, if_pos (e2 _), et, if_neg (by decide), if_neg (by decide), if_pos rfl, if_pos rfl]
        | succ d ihd =>
          intro i K hi hK
          have hi2 : i < x.f2.length := by omega
          have hdr := szL_drop x.f2 i (by omega)
          have hle := szL_drop_le x.f2 i
          have hpos := sz_pos (rd_T67 x.f2 (i : Int))
          have htk := szL_take x.f2 i hi2
          have htl := szL_take_le x.f2 (i + 1)
          have hjl := jt_sz m (x.f2.take i) (fun y hy => hw.kid (List.mem_of_mem_take hy))
          have hmem : rd_T67 x.f2 (i : Int) ∈ x.f2 := by rw [rd67_at x.f2 i hi2]; exact List.getElem_mem _
          have hyw := hw.kid hmem
          have htx := txt_len _ (rd_T67 x.f2 (i : Int)) (Nat.le_refl _) hyw
          have hjt := jtt_take x.f2 i hi2
          obtain ⟨J, hJ⟩ : ∃ J, (jt (txts (x.f2.take i))).length = J := ⟨_, rfl⟩
          obtain ⟨X, hX⟩ : ∃ X, (txt (rd_T67 x.f2 (i : Int))).length = X := ⟨_, rfl⟩
          have hb : J + 2 + X ≤ 9223372036854775807 := by
            rw [hJ] at hjl; rw [hX] at htx
            clear hjt ihd ih
            generalize szL (x.f2.take (i + 1)) = T1 at *
            generalize szL (x.f2.take i) = T0 at *
            omega
          clear htk htl hjl htx
          obtain ⟨K, rfl⟩ : ∃ K', K = K' + 1 := ⟨K - 1, by omega⟩
          have hrec := ih (rd_T67 x.f2 (i : Int)) (by omega) (by omega) hyw (rightL_mem _ h1 _ hmem) K (by omega)
          have hnext := ihd (i + 1) K (by omega) (by omega)
          have hwx := w_ixv (i := i) (n := x.f2.length) (by omega) (by omega)
          rw [PV.marlineref06_Text.l0, if_pos (by omega)]
          by_cases hz : i = 0
          · subst hz
            rw [if_neg (by decide), if_pos (by decide), hrec, Option.bind_some, if_pos (by rw [ba_size, ba_size, hJ, hX]; omega), hwx, ba_add]
            rw [if_pos rfl, List.append_nil] at hjt
            rw [← hjt]; exact hnext
          · have hip : (i : Int) > 0 := Int.natCast_pos.2 (Nat.pos_of_ne_zero hz)
            have hb1 : J + 2 ≤ 9223372036854775807 := Nat.le_trans (Nat.le_add_right _ _) hb
            rw [if_pos hip, if_pos (by rw [ba_size, hJ]; exact hb1), if_pos (Int.le_of_lt hip), hrec, Option.bind_some]
            rw [if_neg hz] at hjt
            rw [show (⟨#[44, 32]⟩ : ByteArray) = ba [44, 32] from rfl, ba_add, if_pos (by rw [ba_size, ba_size, List.length_append, hJ, hX]; exact hb), hwx, ba_add, ← hjt]
            exact hnext
      have hkd := key x.f2.length 0 k (by omega) (by rw [List.drop_zero]; omega)
      obtain ⟨xk, xn, xl⟩ := x
      simp only at *
      rw [PV.marlineref06_Text.f, if_neg (by omega), if_neg (by omega)]
      exact hkd
end Go.Proofs.YtfofpammnfcmiaaDoor.Vl
