/- Marline, layer 08: the law of values one behind the other. Conditions: as each says. -/
import Derived.Test.YtggdpeeiioibgaaCv
import Derived.Test.YtggdpeeiioibgaaPG8
namespace Go.Proofs.Ytggdpeeiioibgaa.Opn
open Go.RowKit Go.Proofs.YtggdpeeiioibgaaW.PrintWords Go.Proofs.YtggdpeeiioibgaaW.PrintLast Go.Proofs.Ytggdpeeiioibgaa.Open Go.Proofs.Ytggdpeeiioibgaa.Kinds Go.Proofs.Ytggdpeeiioibgaa.E
theorem opens22b (fuel : Nat) : OpensAt fuel Try.prog 22 (Kd.slice 24 k24) (fun xs => (xs.length * 40 ≤ 140737488351232 ∧ ∀ y ∈ xs, wf24 y)) (fun xs => (xs.map sz).sum + 1) :=
  at_slice Try.underlying22 (by kernel_rfl) (by kernel_rfl) (fun q_ _ => (opens24b q_))
end Go.Proofs.Ytggdpeeiioibgaa.Opn
namespace Go.Proofs.Ytggdpeeiioibgaa.E
open Go.RowKit Go.Proofs.YtggdpeeiioibgaaW.PrintWords Go.Proofs.YtggdpeeiioibgaaW.PrintLast Go.Proofs.YtggdpeeiioibgaaW.PrintMore Go.Proofs.Ytggdpeeiioibgaa.Kinds Go.Proofs.Ytggdpeeiioibgaa.Obj
set_option linter.unusedVariables false
set_option linter.unusedSimpArgs false

theorem enc_cons (x : S24) (r : List Int) : ∃ c s, enc x ++ r = c :: s := by
  obtain ⟨a, b, l⟩ := x
  exact ⟨_, _, rfl⟩
theorem upk_complete (N : Nat) : ∀ (l : List S24), (∀ y ∈ l, right y = true ∧ Num y ∧ sz y ≤ N ∧ sz y ≤ 1000000000000) → ∀ n, l.length < n → upk N n (encL l) = some l := by
  intro l
  induction l with
  | nil =>
    intro _ n hn
    obtain ⟨n, rfl⟩ : ∃ m, n = m + 1 := ⟨n - 1, by simp at hn; omega⟩
    rfl
  | cons x l ih =>
    intro h n hn
    obtain ⟨n, rfl⟩ : ∃ m, n = m + 1 := ⟨n - 1, by simp at hn; omega⟩
    obtain ⟨h1, h2, h3, h4⟩ := h x (List.mem_cons_self)
    obtain ⟨c, s, he⟩ := enc_cons x (encL l)
    have hd := dv_complete N x (encL l) h3 h1 h2 (by have := sz_eq x; omega)
    simp only [encL]
    rw [he] at hd ⊢
    simp only [upk]
    rw [hd]
    simp only
    rw [ih (fun y hy => h y (List.mem_cons_of_mem _ hy)) n (by simp at hn; omega)]
theorem upk_sound (N : Nat) : ∀ (n : Nat) (s : List Int) (l : List S24), Bytes s → upk N n s = some l → s = encL l ∧ (∀ y ∈ l, right y = true ∧ Num y) ∧ szL l ≤ s.length := by
  intro n
  induction n with
  | zero => intro s l hb h; simp [upk] at h
  | succ n ih =>
    intro s l hb h
    cases s with
    | nil =>
      simp only [upk, Option.some.injEq] at h
      subst h
      exact ⟨rfl, fun y hy => by simp at hy, by simp [szL]⟩
    | cons c s =>
      simp only [upk] at h
      cases hd : dv N (c :: s) with
      | none => rw [hd] at h; cases h
      | some z =>
        obtain ⟨x, r⟩ := z
        rw [hd] at h
        simp only at h
        obtain ⟨e1, e2, e3, e4⟩ := dv_sound N (c :: s) x r hb hd
        cases hu : upk N n r with
        | none => rw [hu] at h; cases h
        | some l2 =>
          rw [hu] at h
          simp only [Option.some.injEq] at h
          subst h
          obtain ⟨g1, g2, g3⟩ := ih r l2 (by rw [e1] at hb; exact (bytes_app hb).2) hu
          refine ⟨by rw [e1, g1]; rfl, fun y hy => ?_, by simp only [szL]; omega⟩
          rcases List.mem_cons.1 hy with rfl | hy
          · exact ⟨e2, e3⟩
          · exact g2 y hy
theorem filter_all {l : List S24} (h : ∀ y ∈ l, right y = true) : l.filter right = l := List.filter_eq_self.2 h
theorem szL_mem_len (l : List S24) (y : S24) (h : y ∈ l) : sz y ≤ szL l := szL_mem l y h
theorem encL_len2 (l : List S24) (h : ∀ y ∈ l, right y = true) : szL l ≤ (encL l).length := encL_szL l (fun y hy => enc_sz y (h y hy))
theorem unpack_pack (l : List S24) (hn : ∀ y ∈ l, Num y) (hz : szL l ≤ 1000000000000) : unpack (pack l) = (l.filter right, 0) := by
  have hm : ∀ y ∈ l.filter right, right y = true ∧ Num y := fun y hy => by
    obtain ⟨h1, h2⟩ := List.mem_filter.1 hy
    exact ⟨h2, hn y h1⟩
  have hs := szL_filter right l
  have hl := encL_len2 (l.filter right) (fun y hy => (hm y hy).1)
  have hll := szL_len (l.filter right)
  unfold unpack pack
  rw [upk_complete ((encL (l.filter right)).length + 1) (l.filter right) (fun y hy => ⟨(hm y hy).1, (hm y hy).2, by have := szL_mem _ y hy; omega, by have := szL_mem _ y hy; omega⟩) _ (by omega)]
theorem unpack_cases (b : List Int) (hb : Bytes b) : (∃ l, unpack b = (l, 0) ∧ b = encL l ∧ (∀ y ∈ l, right y = true ∧ Num y) ∧ szL l ≤ b.length) ∨ unpack b = ([], 1) := by
  unfold unpack
  cases h : upk (b.length + 1) (b.length + 1) b with
  | none => exact .inr rfl
  | some l => exact .inl ⟨l, rfl, upk_sound _ _ b l hb h⟩
theorem cpack_ev (l : List S24) (hn : ∀ y ∈ l, Num y) (hz : szL l ≤ 1000000000000) : E.CPack.f l = some (pack l) := by
  unfold E.CPack.f
  rw [if_pos ⟨hn, by omega⟩]
theorem cunpack_ev (b : List Int) (hb : Bytes b) (hl : b.length ≤ 1000000000000) (l : List S24) (e : Int) (h : unpack b = (l, e)) : E.CUnpack.f b = some (l, e) := by
  unfold E.CUnpack.f
  rw [if_pos ⟨hb, hl⟩, h]
theorem sameAll_refl (l : List S24) : E.SameAll.f l l = some true := by
  unfold E.SameAll.f
  rw [(sameL_iff l l).2 rfl]
theorem filter_step (l : List S24) (i : Nat) (h : i < l.length) : (l.take (i + 1)).filter right = if right (rd_T24 l i) = true then (l.take i).filter right ++ [rd_T24 l i] else (l.take i).filter right := by
  rw [List.take_succ_eq_append_getElem h, List.filter_append, rd_eq l i h]
  by_cases hr : right l[i] = true
  · rw [if_pos hr]; simp [hr]
  · rw [if_neg hr]; simp [hr]
theorem packs_end (l : List S24) (b : List Int) (hn : ∀ y ∈ l, Num y) (hz : szL l ≤ 1048576) (hb : Bytes b) (hl : b.length ≤ 200) :
    ((E.CPack.f l).bind fun t139 => ((E.CUnpack.f t139).bind fun bt142 => ((E.CUnpack.f b).bind fun bt146 => (if bt146.2 = 0 then ((E.CPack.f bt146.1).bind fun t150 => (if (strOfNums t150).toList = (strOfNums b).toList then (if (strOfNums t139).toList = (strOfNums (encL (l.filter right))).toList then (if bt142.2 = 0 then ((E.SameAll.f bt142.1 (l.filter right)).bind fun t153 => (some t153)) else (some false)) else (some false)) else (some false))) else (if bt146.2 = 1 then (if (bt146.1.length : Int) = 0 then (if (strOfNums t139).toList = (strOfNums (encL (l.filter right))).toList then (if bt142.2 = 0 then ((E.SameAll.f bt142.1 (l.filter right)).bind fun t154 => (some t154)) else (some false)) else (some false)) else (some false)) else (some false)))))) = some true := by
  have hp := pack_len l
  have hbp : Bytes (pack l) := bytes_encL _
  rw [cpack_ev l hn (by omega), Option.bind_some, cunpack_ev (pack l) hbp (by omega) _ _ (unpack_pack l hn (by omega)), Option.bind_some]
  have heq : (strOfNums (pack l)).toList = (strOfNums (encL (l.filter right))).toList := rfl
  rcases unpack_cases b hb with ⟨m, h1, h2, h3, h4⟩ | h1
  · rw [cunpack_ev b hb (by omega) m 0 h1, Option.bind_some, if_pos rfl, cpack_ev m (fun y hy => (h3 y hy).2) (by omega), Option.bind_some]
    have e : pack m = b := by unfold pack; rw [filter_all (fun y hy => (h3 y hy).1)]; exact h2.symm
    rw [e, if_pos rfl, if_pos heq, if_pos rfl, sameAll_refl]
    rfl
  · rw [cunpack_ev b hb (by omega) [] 1 h1, Option.bind_some, if_neg (by decide), if_pos rfl, if_pos (show ((([] : List S24), (1 : Int)).1.length : Int) = 0 from rfl), if_pos heq, if_pos rfl, sameAll_refl]
    rfl
theorem szw_le (x : S24) (h : sz x ≤ 1000000000000) : szw x = (sz x : Int) := by unfold szw wrap64; omega
theorem packs_b1 {d i n z q k : Nat} (hi : i + (d + 1) = n) (hk : d + 1 + 4 * z + 40 ≤ k + 1) (hs : q ≤ z) : i < n ∧ 2 * q ≤ k ∧ 4 * q ≤ k ∧ 4 * q + 14 ≤ k ∧ i + 1 + d = n ∧ d + 4 * z + 40 ≤ k := by omega
theorem packs_b2 {i n z zt q e m f : Nat} (hz : z ≤ 1048576) (hll : n ≤ z) (hi : i < n) (hfl : f ≤ n) (hel : e ≤ 11 * m) (hel2 : m ≤ zt) (hel3 : zt ≤ z) (hs : q ≤ z) (en : Nat) (hen : en ≤ 11 * q) : q ≤ 1000000000000 ∧ f < 3518437208883 ∧ e + en < 140737488355328 ∧ i ≤ 9000000000000000000 := by omega
theorem packs_l0 (l : List S24) (b : List Int) (ho : ∀ y ∈ l, Ok y) (hn : ∀ y ∈ l, Num y) (hz : szL l ≤ 1048576) (hb : Bytes b) (hl : b.length ≤ 200) : ∀ d i k, i + d = l.length → d + 4 * szL l + 40 ≤ k →
    PG.lawCP.l0 k l b ((l.take i).filter right) (encL ((l.take i).filter right)) (i : Int) = some true := by
  intro d
  induction d with
  | zero =>
    intro i k hi hk
    obtain ⟨k, rfl⟩ : ∃ m, k = m + 1 := ⟨k - 1, by omega⟩
    have he := packs_end l b hn hz hb hl
    simp only [PG.lawCP.l0]
    rw [if_neg (by omega), List.take_of_length_le (by omega)]
    exact he
  | succ d ih =>
    intro i k hi hk
    obtain ⟨k, rfl⟩ : ∃ m, k = m + 1 := ⟨k - 1, by omega⟩
    have hm := rd_mem l i (by omega)
    have hs := szL_mem l _ hm
    obtain ⟨hlt, c1, c2, c3, c4, c5⟩ := packs_b1 hi hk hs
    have hfs := filter_step l i hlt
    obtain ⟨c6, c7, c8, c9⟩ := packs_b2 hz (szL_len l) hlt (Nat.le_trans (List.length_filter_le right (l.take i)) (by rw [List.length_take]; exact Nat.min_le_right _ _)) (encL_len ((l.take i).filter right)) (szL_filter right (l.take i)) (Nat.le.intro (szL_split l i).symm) hs _ (enc_len (rd_T24 l i))
    have hsw := szw_le (rd_T24 l i) c6
    have ho1 := ho _ hm
    have hn1 := hn _ hm
    have ih2 := ih (i + 1) k c4 c5
    have hlt2 : (i : Int) < (l.length : Int) := Int.ofNat_lt.2 hlt
    have h0i : (0 : Int) ≤ (i : Int) := Int.natCast_nonneg i
    have hw := wrap_nat2 i c9
    clear hi hk hs hz hl ih
    simp only [PG.lawCP.l0]
    rw [if_pos hlt2, if_pos h0i, small_ev _ ho1 k c1, Option.bind_some, hsw]
    by_cases h300 : (sz (rd_T24 l i) : Int) > 300
    · rw [if_pos h300, if_pos rfl]
    · rw [if_neg h300, if_neg (by decide), rright_ev _ c6 k c2, Option.bind_some]
      by_cases hr : right (rd_T24 l i) = true
      · rw [if_pos hr] at hfs
        have hby : bytes (rd_T24 l i) = enc (rd_T24 l i) := by unfold bytes; rw [if_pos hr]
        rw [if_pos hr, if_pos c7, rbytes_ev _ c6 hn1 k c3, Option.bind_some, hby, if_pos c8, hw, s24_eta]
        rw [hfs, encL_append] at ih2
        simpa [encL] using ih2
      · rw [if_neg hr] at hfs
        rw [if_neg hr, hw]
        rw [hfs] at ih2
        exact ih2
theorem packs_pure (l : List S24) (b : List Int) (ho : ∀ y ∈ l, Ok y) (hn : ∀ y ∈ l, Num y) (hz : szL l ≤ 1048576) (hb : Bytes b) (hl : b.length ≤ 140737488351232) : ∃ k, PG.lawCP.f k l b = some true := by
  refine ⟨l.length + 4 * szL l + 72, ?_⟩
  obtain ⟨k, hk⟩ : ∃ k, l.length + 4 * szL l + 72 = k + 1 := ⟨l.length + 4 * szL l + 71, rfl⟩
  rw [hk]
  have hj : PG.lawCP.j0 (k + 1) l b true = some true := by
    simp only [PG.lawCP.j0]
    rw [if_pos trivial, works8 k (by omega)]
    rfl
  unfold PG.lawCP.f
  rw [works8 (k + 1) (by omega), Option.bind_some, if_pos rfl]
  by_cases h30 : (l.length : Int) > 30
  · rw [if_pos h30, hj]
  · rw [if_neg h30]
    by_cases h200 : (b.length : Int) > 200
    · rw [decide_eq_true h200, hj]
    · rw [decide_eq_false h200]
      simp only [PG.lawCP.j0]
      rw [if_neg (by decide)]
      exact packs_l0 l b ho hn hz hb (by omega) l.length 0 k (by omega) (by omega)
theorem packs_walk (l : List S24) (A : Option Addr) (c : Nat) (b : List Int) (A1 : Option Addr) (c1 : Nat) (w : World) (hC : Kd.C k24 w A l.length l) (hl : l.length ≤ c) (hw : l.length * 40 ≤ 140737488351232 ∧ ∀ y ∈ l, Opn.wf24 y) (hz : szL l ≤ 1048576)
    (hC1 : Kd.C (Kd.int .u8) w A1 b.length b) (hl1 : b.length ≤ c1) (hw1 : b.length * 1 ≤ 140737488351232 ∧ ∀ y ∈ b, (0 ≤ y ∧ y ≤ 255)) :
    Calls Try.prog 8 #[.slice A l.length c, .slice A1 b.length c1] w fun e w' => e = .returned (.bool true) ∧ Below w.heap.size w w' := by
  obtain ⟨k, hk⟩ := packs_pure l b (fun y hy => Opn.ok_of (hw.2 y hy)) (fun y hy => num_of (hw.2 y hy)) hz (fun y hy => ⟨(hw1.2 y hy).1, by have := (hw1.2 y hy).2; omega⟩) (by omega)
  exact PG.lawCP.calls k (fun k => k < w.heap.size) A c l A1 c1 b true w (Kd.V_mk hl (Kd.C_F k24_heap hC)) hC1 hl1 hk
end Go.Proofs.Ytggdpeeiioibgaa.E
