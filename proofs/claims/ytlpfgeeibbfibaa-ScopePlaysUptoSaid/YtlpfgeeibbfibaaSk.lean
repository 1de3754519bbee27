/- Marline, layer 19: nodes, what the document's functions come to on them; names by blocks. Conditions: as each says. -/
import Derived.Test.YtlpfgeeibbfibaaSh
import Derived.Test.YtlpfgeeibbfibaaPAx1
namespace Go.Proofs.Ytlpfgeeibbfibaa.E
open Go.RowKit Go.Proofs.YtlpfgeeibbfibaaW.PrintWords Go.Proofs.YtlpfgeeibbfibaaW.PrintLast Go.Proofs.YtlpfgeeibbfibaaW.PrintMore Go.Proofs.Ytlpfgeeibbfibaa.Kinds Go.Proofs.Ytlpfgeeibbfibaa.Obj
set_option linter.unusedVariables false
set_option linter.unusedSimpArgs false
set_option maxRecDepth 100000
mutual
/-- how many nodes there are. -/
def ns : S30 → Nat
  | ⟨_, _, _, _, l⟩ => 1 + nsL l
def nsL : List S30 → Nat
  | [] => 0
  | x :: r => ns x + nsL r
end
theorem ns_eq (x : S30) : ns x = 1 + nsL x.f4 := by cases x; simp [ns]
theorem ns_pos (x : S30) : 1 ≤ ns x := by rw [ns_eq]; omega
theorem nsL_sum : ∀ l : List S30, nsL l = (l.map ns).sum
  | [] => rfl
  | x :: l => by simp only [nsL, List.map_cons, List.sum_cons, nsL_sum l]
theorem nsL_len : ∀ l : List S30, l.length ≤ nsL l
  | [] => Nat.le_refl _
  | x :: l => by have := nsL_len l; have := ns_pos x; simp only [nsL, List.length_cons]; omega
theorem rd30_at (l : List S30) (i : Nat) (h : i < l.length) : rd_T30 l (i : Int) = l[i] := by
  unfold rd_T30; rw [Int.toNat_natCast, List.getD_eq_getElem?_getD, List.getElem?_eq_getElem h]; rfl
theorem nsL_drop (l : List S30) (i : Nat) (h : i < l.length) : nsL (l.drop i) = ns (rd_T30 l (i : Int)) + nsL (l.drop (i + 1)) := by
  rw [List.drop_eq_getElem_cons h, rd30_at l i h]; rfl
theorem nsL_drop_le (l : List S30) (i : Nat) : nsL (l.drop i) ≤ nsL l := by
  induction i generalizing l with
  | zero => exact Nat.le_refl _
  | succ i ih =>
    cases l with
    | nil => exact Nat.zero_le _
    | cons x l => have := ih l; simp only [List.drop_succ_cons, nsL]; omega
theorem w_ix {i n : Nat} (h : i < n) (hn : n ≤ 1048576) : wrap64 ((i : Int) + 1) = ((i + 1 : Nat) : Int) := by unfold wrap64; omega
theorem walk_some : ∀ (m : Nat) (x : S30), ns x ≤ m → m ≤ 1048576 → ∀ k, 2 * ns x ≤ k → ∃ r, PA.marlineref11_Walk.f k x.f0 x.f1 x.f2 x.f3 x.f4 = some r ∧ r.length = ns x := by
  intro m
  induction m with
  | zero => intro x h; have := ns_pos x; omega
  | succ m ih =>
    intro x hx hm k hk
    have he := ns_eq x
    obtain ⟨k, rfl⟩ : ∃ k', k = k' + 1 := ⟨k - 1, by omega⟩
    have hlen := nsL_len x.f4
    have key : ∀ (d i : Nat) (acc : List S30) (K : Nat), i + d = x.f4.length → d + 1 + 2 * nsL (x.f4.drop i) ≤ K + d → acc.length + nsL (x.f4.drop i) = ns x →
        ∃ r, PA.marlineref11_Walk.l0 K acc (i : Int) x.f0 x.f1 x.f2 x.f3 x.f4 = some r ∧ r.length = ns x := by
      intro d
      induction d with
      | zero =>
        intro i acc K hi hK ha
        obtain ⟨K, rfl⟩ : ∃ K', K = K' + 1 := ⟨K - 1, by omega⟩
        rw [PA.marlineref11_Walk.l0, if_neg (by omega)]
        rw [List.drop_of_length_le (by omega)] at ha
        exact ⟨acc, rfl, by simpa [nsL] using ha⟩
      | succ d ihd =>
        intro i acc K hi hK ha
        have hdr := nsL_drop x.f4 i (by omega)
        have hle := nsL_drop_le x.f4 i
        have hpos := ns_pos (rd_T30 x.f4 (i : Int))
        obtain ⟨K, rfl⟩ : ∃ K', K = K' + 1 := ⟨K - 1, by omega⟩
        obtain ⟨r1, h1, h2⟩ := ih (rd_T30 x.f4 (i : Int)) (by omega) (by omega) K (by omega)
        obtain ⟨r, h3, h4⟩ := ihd (i + 1) (acc ++ r1) K (by omega) (by omega) (by rw [List.length_append]; omega)
        refine ⟨r, ?_, h4⟩
        rw [PA.marlineref11_Walk.l0, if_pos (by omega), if_pos (by omega), h1, Option.bind_some, if_pos (by omega), w_ix (n := x.f4.length) (by omega) (by omega)]
        exact h3
    rw [PA.marlineref11_Walk.f]
    exact key x.f4.length 0 _ k (by omega) (by rw [List.drop_zero]; omega) (by rw [List.drop_zero]; simp only [List.length_cons, List.length_nil]; omega)
theorem small_some (x : S30) (h : ns x ≤ 1048576) : ∃ r, PA.marlinelaw11_Small.f (2 * ns x) x.f0 x.f1 x.f2 x.f3 x.f4 = some r := by
  obtain ⟨r, h1, _⟩ := walk_some _ x (Nat.le_refl _) h _ (Nat.le_refl _)
  unfold PA.marlinelaw11_Small.f
  rw [h1, Option.bind_some]
  split
  · exact ⟨_, rfl⟩
  · exact ⟨_, rfl⟩
theorem node_same : ∀ (m : Nat) (x : S30), ns x ≤ m → m ≤ 1048576 → ∀ k, 3 * ns x ≤ k → PA.marlineref11_Same.f k x.f0 x.f1 x.f2 x.f3 x.f4 x.f0 x.f1 x.f2 x.f3 x.f4 = some true := by
  intro m
  induction m with
  | zero => intro x h; have := ns_pos x; omega
  | succ m ih =>
    intro x hx hm k hk
    have he := ns_eq x
    obtain ⟨k, rfl⟩ : ∃ k', k = k' + 2 := ⟨k - 2, by omega⟩
    have hlen := nsL_len x.f4
    have key : ∀ (d i : Nat) (K : Nat), i + d = x.f4.length → 1 + 3 * nsL (x.f4.drop i) ≤ K →
        PA.marlineref11_Same.l0 K (i : Int) x.f0 x.f1 x.f2 x.f3 x.f4 x.f0 x.f1 x.f2 x.f3 x.f4 = some true := by
      intro d
      induction d with
      | zero =>
        intro i K hi hK
        obtain ⟨K, rfl⟩ : ∃ K', K = K' + 1 := ⟨K - 1, by omega⟩
        rw [PA.marlineref11_Same.l0, if_neg (by omega)]
      | succ d ihd =>
        intro i K hi hK
        have hdr := nsL_drop x.f4 i (by omega)
        have hle := nsL_drop_le x.f4 i
        have hpos := ns_pos (rd_T30 x.f4 (i : Int))
        obtain ⟨K, rfl⟩ : ∃ K', K = K' + 1 := ⟨K - 1, by omega⟩
        rw [PA.marlineref11_Same.l0, if_pos (by omega), if_pos (by omega), if_pos (by omega), ih (rd_T30 x.f4 (i : Int)) (by omega) (by omega) K (by omega), Option.bind_some, if_pos rfl, w_ix (n := x.f4.length) (by omega) (by omega)]
        exact ihd (i + 1) K (by omega) (by omega)
    rw [PA.marlineref11_Same.f, if_pos rfl, if_pos rfl, if_pos rfl, PA.marlineref11_Same.j0, if_neg (by simp)]
    exact key x.f4.length 0 k (by omega) (by rw [List.drop_zero]; omega)
/-- the document's names as the scope's. -/
def nmOf (y : S41) : S53 := ⟨y.f0, y.f1⟩
theorem rd41_at (L : List S41) (i : Nat) (h : i < L.length) : rd_T41 L (i : Int) = L[i] := by
  unfold rd_T41; rw [Int.toNat_natCast, List.getD_eq_getElem?_getD, List.getElem?_eq_getElem h]; rfl
theorem rd53_map (L : List S41) (i : Nat) (h : i < L.length) : rd_T53 (L.map nmOf) (i : Int) = nmOf (rd_T41 L (i : Int)) := by
  rw [rd41_at L i h]
  unfold rd_T53
  rw [Int.toNat_natCast, List.getD_eq_getElem?_getD, List.getElem?_map, List.getElem?_eq_getElem h]; rfl
def atOf (o : Option Nat) : Int := match o with | some i => (i : Int) | none => -1
theorem refget_is (L : List S41) (nm : ByteArray) (hL : L.length ≤ 1000) : PA.marlineref19_Get.f (L.length + 1) L nm = some (atOf (idx nm (L.map nmOf) 0)) := by
  have key : ∀ (d i K : Nat), i + d = L.length → d < K → PA.marlineref19_Get.l0 K L nm (i : Int) = some (atOf (idx nm ((L.map nmOf).drop i) i)) := by
    intro d
    induction d with
    | zero =>
      intro i K hi hK
      obtain ⟨K, rfl⟩ : ∃ K', K = K' + 1 := ⟨K - 1, by omega⟩
      rw [PA.marlineref19_Get.l0, if_neg (by omega), List.drop_of_length_le (by rw [List.length_map]; omega)]
      rfl
    | succ d ih =>
      intro i K hi hK
      obtain ⟨K, rfl⟩ : ∃ K', K = K' + 1 := ⟨K - 1, by omega⟩
      rw [PA.marlineref19_Get.l0, if_pos (by omega), if_pos (by omega), idx_step nm _ i (by rw [List.length_map]; omega), rd53_map L i (by omega), show (nmOf (rd_T41 L (i : Int))).f0 = (rd_T41 L (i : Int)).f0 from rfl]
      by_cases h : (rd_T41 L (i : Int)).f0.toList = nm.toList
      · rw [if_pos h, if_pos h]; rfl
      · rw [if_neg h, if_neg h, w_ix (i := i) (n := L.length) (by omega) (by omega)]
        exact ih (i + 1) K (by omega) (by omega)
  exact key L.length 0 _ (by omega) (by omega)
theorem eta41 (y : S41) : (⟨y.f0, ⟨y.f1.f0, y.f1.f1, y.f1.f2, y.f1.f3, y.f1.f4⟩, y.f2⟩ : S41) = y := by
  cases y with
  | mk a b c => cases b; rfl
theorem refclose_is (L : List S41) (deep : Int) (hL : L.length ≤ 1000) : PA.marlineref19_Close.f (L.length + 1) L deep = some (L.filter (fun y => decide (y.f2 < deep))) := by
  have key : ∀ (d i K : Nat) (acc : List S41), i + d = L.length → d < K → acc.length ≤ i → PA.marlineref19_Close.l0 K L deep acc (i : Int) = some (acc ++ (L.drop i).filter (fun y => decide (y.f2 < deep))) := by
    intro d
    induction d with
    | zero =>
      intro i K acc hi hK ha
      obtain ⟨K, rfl⟩ : ∃ K', K = K' + 1 := ⟨K - 1, by omega⟩
      rw [PA.marlineref19_Close.l0, if_neg (by omega), List.drop_of_length_le (by omega)]
      simp
    | succ d ih =>
      intro i K acc hi hK ha
      obtain ⟨K, rfl⟩ : ∃ K', K = K' + 1 := ⟨K - 1, by omega⟩
      have hi2 : i < L.length := by omega
      have e := rd41_at L i hi2
      rw [PA.marlineref19_Close.l0, if_pos (by omega), if_pos (by omega), List.drop_eq_getElem_cons hi2, List.filter_cons, ← e]
      by_cases h : (rd_T41 L (i : Int)).f2 < deep
      · rw [if_pos h, if_pos (by omega), if_pos (by simpa using h), w_ix (i := i) (n := L.length) (by omega) (by omega), ih (i + 1) K _ (by omega) (by omega) (by rw [List.length_append]; simp only [List.length_cons, List.length_nil]; omega)]
        rw [List.append_assoc, eta41]; rfl
      · rw [if_neg h, if_neg (by simpa using h), w_ix (i := i) (n := L.length) (by omega) (by omega)]
        exact ih (i + 1) K acc (by omega) (by omega) (by omega)
  have := key L.length 0 (L.length + 1) [] (by omega) (by omega) (Nat.le_refl _)
  simpa [PA.marlineref19_Close.f] using this
/-- where the blocks' names begin: names lie block by block. -/
def Blk (L : List S41) (bs : List Nat) : Prop := ∀ (i b : Nat), bs[i]? = some b → b ≤ L.length ∧ ∀ j y, L[j]? = some y → (j < b ↔ y.f2 ≤ (i : Int))
structure Inv (L : List S41) (bs : List Nat) : Prop where
  pos : 1 ≤ bs.length
  blk : Blk L bs
  top : ∀ y ∈ L, y.f2 ≤ (bs.length : Int)
theorem inv_new : Inv [] [0] := ⟨Nat.le_refl _, fun i b h => by
  match i, h with
  | 0, h => injection h with h; subst h; exact ⟨Nat.le_refl _, fun j y hy => by simp at hy⟩
  | i + 1, h => simp at h, fun y hy => by simp at hy⟩
theorem inv_open {L : List S41} {bs : List Nat} (h : Inv L bs) : Inv L (bs ++ [L.length]) := by
  refine ⟨by rw [List.length_append]; simp, fun i b hb => ?_, fun y hy => ?_⟩
  · rcases Nat.lt_or_ge i bs.length with hlt | hge
    · rw [List.getElem?_append_left hlt] at hb
      exact h.blk i b hb
    · rw [List.getElem?_append_right hge] at hb
      have hi : i = bs.length := by have := (List.getElem?_eq_some_iff.1 hb).1; simp at this; omega
      subst hi
      rw [Nat.sub_self] at hb
      injection hb with hb
      subst hb
      refine ⟨Nat.le_refl _, fun j y hy => ⟨fun _ => h.top y (List.mem_of_getElem? hy), fun _ => (List.getElem?_eq_some_iff.1 hy).1⟩⟩
  · have := h.top y hy
    rw [List.length_append]; simp; omega
theorem inv_put {L : List S41} {bs : List Nat} (h : Inv L bs) (nm : ByteArray) (x : S30) : Inv (L ++ [⟨nm, x, (bs.length : Int)⟩]) bs := by
  refine ⟨h.pos, fun i b hb => ?_, fun y hy => ?_⟩
  · obtain ⟨h1, h2⟩ := h.blk i b hb
    have hi := (List.getElem?_eq_some_iff.1 hb).1
    refine ⟨by rw [List.length_append]; omega, fun j y hy => ?_⟩
    rcases Nat.lt_or_ge j L.length with hlt | hge
    · rw [List.getElem?_append_left hlt] at hy
      exact h2 j y hy
    · rw [List.getElem?_append_right hge] at hy
      have hj : j - L.length = 0 := by have := (List.getElem?_eq_some_iff.1 hy).1; simp at this; omega
      rw [hj] at hy
      injection hy with hy
      subst hy
      show j < b ↔ (bs.length : Int) ≤ (i : Int)
      omega
  · rcases List.mem_append.1 hy with hy | hy
    · exact h.top y hy
    · rw [List.mem_singleton.1 hy]; exact Int.le_refl _
theorem take_filter (L : List S41) (p : S41 → Bool) : ∀ b, b ≤ L.length → (∀ j y, L[j]? = some y → (j < b ↔ p y = true)) → L.filter p = L.take b := by
  induction L with
  | nil => intro b _ _; simp
  | cons y L ih =>
    intro b hb h
    have h0 := h 0 y rfl
    cases b with
    | zero =>
      rw [List.take_zero, List.filter_eq_nil_iff]
      intro z hz
      obtain ⟨j, hj⟩ := List.mem_iff_getElem?.1 hz
      have := h j z hj
      intro hp
      exact absurd (this.2 hp) (by omega)
    | succ b =>
      rw [List.filter_cons, if_pos (h0.1 (by omega)), List.take_succ_cons, ih b (by simpa using hb) (fun j z hz => by have := h (j + 1) z hz; rw [← this]; omega)]
theorem inv_close {L : List S41} {bs : List Nat} {b : Nat} (h : Inv L (bs ++ [b])) (h1 : 1 ≤ bs.length) : b ≤ L.length ∧ L.filter (fun y => decide (y.f2 < ((bs.length + 1 : Nat) : Int))) = L.take b ∧ Inv (L.take b) bs := by
  obtain ⟨hb, hj⟩ := h.blk bs.length b (by rw [List.getElem?_append_right (Nat.le_refl _), Nat.sub_self]; rfl)
  refine ⟨hb, take_filter L _ b hb (fun j y hy => by rw [hj j y hy]; simp; omega), ⟨h1, fun i c hc => ?_, fun y hy => ?_⟩⟩
  · have hi := (List.getElem?_eq_some_iff.1 hc).1
    obtain ⟨g1, g2⟩ := h.blk i c (by rw [List.getElem?_append_left hi]; exact hc)
    have hcb : c ≤ b := by
      rcases Nat.lt_or_ge b c with hlt | hge
      · have hbl : b < L.length := by omega
        have e : L[b]? = some L[b] := List.getElem?_eq_getElem hbl
        have a1 := (g2 b _ e).1 hlt
        have a2 := (hj b _ e).2 (by omega)
        omega
      · exact hge
    refine ⟨by rw [List.length_take]; omega, fun j y hy => ?_⟩
    rw [List.getElem?_take] at hy
    split at hy
    · exact g2 j y hy
    · cases hy
  · obtain ⟨j, hy⟩ := List.mem_iff_getElem?.1 hy
    rw [List.getElem?_take] at hy
    split at hy
    · rename_i hlt
      exact (hj j y hy).1 hlt
    · cases hy
end Go.Proofs.Ytlpfgeeibbfibaa.E
