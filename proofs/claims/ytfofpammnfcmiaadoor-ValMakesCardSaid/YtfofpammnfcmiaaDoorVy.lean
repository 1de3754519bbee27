/- Marline, values: sizes that wrap; whether a value is right, of any size; what the laid variables give; how values are opened. Conditions: as each says. -/
import Derived.Test.YtfofpammnfcmiaaDoorVf
import Derived.Test.YtfofpammnfcmiaaDoorOpen
import Derived.Test.YtfofpammnfcmiaaDoorRows
import Derived.Stop.LaidErr
import Derived.Lib.LaidTab
import Derived.WideShapes
namespace Go.Proofs.YtfofpammnfcmiaaDoor.Vl
open Go.RowKit Go.Proofs.YtfofpammnfcmiaaDoorW.PrintWords Go.Proofs.YtfofpammnfcmiaaDoorW.PrintLast Go.Proofs.YtfofpammnfcmiaaDoorW.PrintMore Go.Proofs.YtfofpammnfcmiaaDoor.Kinds Go.Proofs.YtfofpammnfcmiaaDoor.Obj
set_option linter.unusedVariables false
set_option linter.unusedSimpArgs false
set_option maxRecDepth 100000
open Go.Proofs.YtfofpammnfcmiaaDoor.E
/-- every row of a value's kids, and below, is one that memory holds. -/
inductive Rs : S67 → Prop
  | mk (x : S67) : x.f2.length ≤ 140737488355328 → (∀ y ∈ x.f2, Rs y) → Rs x
theorem Rs.len {x : S67} (h : Rs x) : x.f2.length ≤ 140737488355328 := by cases h; assumption
theorem Rs.kid {x y : S67} (h : Rs x) (hy : y ∈ x.f2) : Rs y := by cases h with | mk _ _ h2 => exact h2 y hy
theorem wrap_add (a b : Nat) : wrap64 (wrap64 (a : Int) + wrap64 (b : Int)) = wrap64 ((a + b : Nat) : Int) := by unfold wrap64; omega
theorem w_ixb {i n : Nat} (h : i < n) (hn : n ≤ 140737488355328) : wrap64 ((i : Int) + 1) = ((i + 1 : Nat) : Int) := by unfold wrap64; omega
theorem size_w : ∀ (m : Nat) (x : S67), sz x ≤ m → Rs x → ∀ k, 2 * sz x ≤ k → PV.marlineref06_Size.f k x.f0 x.f1 x.f2 = some (wrap64 (sz x : Int)) := by
  intro m
  induction m with
  | zero => intro x h; have := sz_pos x; omega
  | succ m ih =>
    intro x hx hs k hk
    have he := sz_eq x
    obtain ⟨k, rfl⟩ : ∃ k', k = k' + 1 := ⟨k - 1, by have := sz_pos x; omega⟩
    have hlen := szL_len x.f2
    have hl47 := hs.len
    have key : ∀ (d i a K : Nat), i + d = x.f2.length → d + 1 + 2 * szL (x.f2.drop i) ≤ K + d → a + szL (x.f2.drop i) = sz x →
        PV.marlineref06_Size.l0 K (wrap64 (a : Int)) (i : Int) x.f0 x.f1 x.f2 = some (wrap64 (sz x : Int)) := by
      intro d
      induction d with
      | zero =>
        intro i a K hi hK ha
        obtain ⟨K, rfl⟩ : ∃ K', K = K' + 1 := ⟨K - 1, by omega⟩
        rw [List.drop_of_length_le (by omega)] at ha
        rw [PV.marlineref06_Size.l0, if_neg (by omega), ← ha]; rfl
      | succ d ihd =>
        intro i a K hi hK ha
        have hdr := szL_drop x.f2 i (by omega)
        have hle := szL_drop_le x.f2 i
        have hpos := sz_pos (rd_T67 x.f2 (i : Int))
        obtain ⟨K, rfl⟩ : ∃ K', K = K' + 1 := ⟨K - 1, by omega⟩
        have g2 := ih (rd_T67 x.f2 (i : Int)) (by omega) (hs.kid (rd_mem x.f2 i (by omega))) K (by omega)
        have g4 := ihd (i + 1) (a + sz (rd_T67 x.f2 (i : Int))) K (by omega) (by omega) (by omega)
        rw [PV.marlineref06_Size.l0, if_pos (by omega), if_pos (by omega), g2, Option.bind_some, wrap_add, w_ixb (i := i) (n := x.f2.length) (by omega) hl47]
        exact g4
    rw [PV.marlineref06_Size.f]
    have g := key x.f2.length 0 1 k (by omega) (by rw [List.drop_zero]; omega) (by rw [List.drop_zero]; omega)
    rw [show wrap64 ((1 : Nat) : Int) = 1 by unfold wrap64; omega] at g
    exact g
theorem small_w (x : S67) (h : Rs x) (k : Nat) (hk : 2 * sz x ≤ k) : PV.marlinelaw06_Small.f k x.f0 x.f1 x.f2 = some (if wrap64 (sz x : Int) > 300 then 0 else 1) := by
  unfold PV.marlinelaw06_Small.f
  rw [size_w _ x (Nat.le_refl _) h _ hk, Option.bind_some]
  by_cases h3 : wrap64 (sz x : Int) > 300
  · rw [if_pos h3, if_pos h3]
  · rw [if_neg h3, if_neg h3]
theorem refright_w : ∀ (m : Nat) (x : S67), sz x ≤ m → Rs x → ∀ k, 4 * sz x ≤ k → PV.marlineref06_Right.f k x.f0 x.f1 x.f2 = some (right x) := by
  intro m
  induction m with
  | zero => intro x h; have := sz_pos x; omega
  | succ m ih =>
    intro x hx hs k hk
    have he := sz_eq x
    have hpx := sz_pos x
    obtain ⟨k, rfl⟩ : ∃ k', k = k' + 3 := ⟨k - 3, by omega⟩
    have hlen := szL_len x.f2
    have hl47 := hs.len
    have key : ∀ (d i K : Nat), i + d = x.f2.length → d + 1 + 4 * szL (x.f2.drop i) ≤ K + d →
        PV.marlineref06_Right.l0 K (i : Int) x.f0 x.f1 x.f2 = some (rightL (x.f2.drop i)) := by
      intro d
      induction d with
      | zero =>
        intro i K hi hK
        obtain ⟨K, rfl⟩ : ∃ K', K = K' + 1 := ⟨K - 1, by omega⟩
        rw [PV.marlineref06_Right.l0, if_neg (by omega), List.drop_of_length_le (by omega)]
        rfl
      | succ d ihd =>
        intro i K hi hK
        have hdr := szL_drop x.f2 i (by omega)
        have hle := szL_drop_le x.f2 i
        have hpos := sz_pos (rd_T67 x.f2 (i : Int))
        obtain ⟨K, rfl⟩ : ∃ K', K = K' + 1 := ⟨K - 1, by omega⟩
        rw [PV.marlineref06_Right.l0, if_pos (by omega), if_pos (by omega), ih (rd_T67 x.f2 (i : Int)) (by omega) (hs.kid (rd_mem x.f2 i (by omega))) K (by omega), Option.bind_some, rightL_drop x.f2 i (by omega)]
        cases hr : right (rd_T67 x.f2 (i : Int)) with
        | true =>
          rw [if_pos rfl, w_ixb (i := i) (n := x.f2.length) (by omega) hl47, ihd (i + 1) K (by omega) (by omega), Bool.true_and]
        | false => rw [if_neg Bool.false_ne_true, Bool.false_and]
    have hk0 := key x.f2.length 0 k (by omega) (by rw [List.drop_zero]; omega)
    rw [List.drop_zero] at hk0
    obtain ⟨xk, xn, xl⟩ := x
    simp only at *
    rw [PV.marlineref06_Right.f]
    by_cases h0 : xk = 0
    · subst h0
      rw [if_pos rfl, PV.marlineref06_Right.j0, if_pos rfl]
      unfold right
      cases xl with
      | nil => rfl
      | cons a b => rw [if_neg (show ¬ (((a :: b).length : Nat) : Int) = 0 by simp only [List.length_cons]; omega)]; rfl
    · rw [if_neg h0]
      by_cases h1 : xk = 1
      · subst h1
        rw [PV.marlineref06_Right.j0, if_pos (by decide)]
        unfold right
        rw [if_neg (show ¬ (1 : Int) = 0 by decide), if_neg (show ¬ (1 : Int) = 0 by decide), if_pos (rfl : (1 : Int) = 1)]
        cases xl with
        | nil =>
          rw [if_pos (show ((([] : List S67).length : Nat) : Int) = 0 from rfl)]
          by_cases n0 : xn = 0
          · subst n0; rfl
          · rw [if_neg n0, decide_eq_false n0]
            by_cases n1 : xn = 1
            · subst n1; rfl
            · have : (xn == 1) = false := beq_eq_false_iff_ne.2 n1
              rw [this, decide_eq_false n1]; rfl
        | cons a b => rw [if_neg (show ¬ (((a :: b).length : Nat) : Int) = 0 by simp only [List.length_cons]; omega)]; rfl
      · rw [PV.marlineref06_Right.j0, if_neg (by simpa using h1)]
        unfold right
        rw [if_neg h0, if_neg h1]
        by_cases h2 : xk = 2 ∨ xk = 3
        · rw [if_pos h2]
          have hj : (if xk = 2 then PV.marlineref06_Right.j1 (k + 1) (xn != 0) xk xn xl else if xk = 3 then PV.marlineref06_Right.j1 (k + 1) (xn != 0) xk xn xl else PV.marlineref06_Right.j1 (k + 1) true xk xn xl) = PV.marlineref06_Right.j1 (k + 1) (xn != 0) xk xn xl := by
            rcases h2 with h2 | h2
            · rw [if_pos h2]
            · rw [if_neg (by omega), if_pos h2]
          rw [hj, PV.marlineref06_Right.j1]
          by_cases n0 : xn = 0
          · subst n0
            rw [if_neg (by decide)]
            exact hk0
          · rw [if_pos (by simpa using n0), decide_eq_false n0]; rfl
        · rw [if_neg h2, if_neg (fun h => h2 (.inl h)), if_neg (fun h => h2 (.inr h)), PV.marlineref06_Right.j1, if_pos rfl]
theorem wsmall_calls (x : S67) (A : Option Addr) (c : Nat) (w : World) (hz : Rs x) (h1 : x.f2.length ≤ c) (h2 : Kd.C k67 w A x.f2.length x.f2) :
    Calls Tryd.prog 41 #[v67 x.f0 x.f1 A x.f2.length c] w fun e w' => e = .returned (.int .i64 (if wrap64 (sz x : Int) > 300 then 0 else 1)) ∧ Below w.heap.size w w' :=
  PV.marlinelaw06_Small.calls (2 * sz x) x.f0 x.f1 A c x.f2 _ w h2 h1 (small_w x hz _ (Nat.le_refl _))
theorem wright_calls (x : S67) (A : Option Addr) (c : Nat) (w : World) (hz : Rs x) (h1 : x.f2.length ≤ c) (h2 : Kd.C k67 w A x.f2.length x.f2) :
    Calls Tryd.prog 43 #[v67 x.f0 x.f1 A x.f2.length c] w fun e w' => e = .returned (.bool (right x)) ∧ Below w.heap.size w w' :=
  PV.marlineref06_Right.calls (4 * sz x) x.f0 x.f1 A c x.f2 _ w h2 h1 (refright_w _ x (Nat.le_refl _) hz _ (Nat.le_refl _))
end Go.Proofs.YtfofpammnfcmiaaDoor.Vl
namespace Go.Proofs.YtfofpammnfcmiaaDoor.Vl
open Go.RowKit
set_option linter.unusedVariables false
theorem vpow {n1 n2 : String} {d1 d2 : DataW Unit} {rest : List (String × DataW Unit)} {W : World} (h : laidMet Tryd.prog ((n1, d1) :: (n2, d2) :: ("internal/strconv.uint64pow10", Rows.laid_internal_strconv_uint64pow10) :: rest) W) : E.Pow W := by
  have h1 := h.tail.tail
  have e : (Rows.laid_internal_strconv_uint64pow10 : DataW Unit) = Lib.tabData .u64 Lib.pow10Tab := rfl
  rw [e] at h1
  exact Lib.tabIs_of_head (g := 8) (t := 184) (e := 123) (n := 20) (by kernel_rfl) (by kernel_rfl) Tryd.underlying184 Tryd.underlying123 (by kernel_rfl) (by kernel_rfl) h1
theorem vstar : "*" ++ "errors.errorString" = "*errors.errorString" := by decide
theorem vrow193 (u : TypeId) (h : Tryd.prog.typeName? 3 u = some "*errors.errorString") : u = 193 :=
  typeName_ptr_named (nm := "errors.errorString") (by rw [vstar]; kernel_rfl) (by kernel_rfl) (by decide) u (by rw [vstar]; exact h)
theorem verrs {n1 n2 n3 : String} {d1 d2 d3 : DataW Unit} {rest : List (String × DataW Unit)} {W : World} (h : laidMet Tryd.prog ((n1, d1) :: (n2, d2) :: (n3, d3) :: ("strconv.ErrRange", Rows.laid_strconv_ErrRange) :: ("strconv.ErrSyntax", Rows.laid_strconv_ErrSyntax) :: rest) W) : E.Errs W := by
  have h1 := h.tail.tail.tail
  have h2 := h1.tail
  obtain ⟨a, s, hv, _⟩ := laid_sentinel h1 (g := 5) (ti := 128) (tp := 193) (te := 195) (ts := 9) (by kernel_rfl) (by kernel_rfl) Tryd.underlying128 vrow193 Tryd.underlying193 Tryd.underlying195 rfl rfl Tryd.underlying9 (by kernel_rfl) (by kernel_rfl)
  obtain ⟨b, u, hw, _⟩ := laid_sentinel h2 (g := 4) (ti := 128) (tp := 193) (te := 195) (ts := 9) (by kernel_rfl) (by kernel_rfl) Tryd.underlying128 vrow193 Tryd.underlying193 Tryd.underlying195 rfl rfl Tryd.underlying9 (by kernel_rfl) (by kernel_rfl)
  exact ⟨⟨_, by simpa using World.var?_cell (g := 4) (by kernel_rfl) hw 0, .inr ⟨_, _, rfl⟩⟩, ⟨_, by simpa using World.var?_cell (g := 5) (by kernel_rfl) hv 0, .inr ⟨_, _, rfl⟩⟩⟩
end Go.Proofs.YtfofpammnfcmiaaDoor.Vl
namespace Go.Proofs.YtfofpammnfcmiaaDoor.Opn
open Go.RowKit Go.Proofs.YtfofpammnfcmiaaDoorW.PrintWords Go.Proofs.YtfofpammnfcmiaaDoorW.PrintLast Go.Proofs.YtfofpammnfcmiaaDoor.Open Go.Proofs.YtfofpammnfcmiaaDoor.Kinds Go.Proofs.YtfofpammnfcmiaaDoor.Vl
set_option linter.unusedVariables false
/-- what is known of a value that was read, and of all below it. -/
inductive wf67 : S67 → Prop
  | mk (x : S67) : (-9223372036854775808 ≤ x.f0 ∧ x.f0 ≤ 9223372036854775807) → (-9223372036854775808 ≤ x.f1 ∧ x.f1 ≤ 9223372036854775807) → x.f2.length * 40 ≤ 140737488351232 → (∀ y ∈ x.f2, wf67 y) → wf67 x
theorem szL_sum : ∀ l : List S67, szL l = (l.map sz).sum
  | [] => rfl
  | x :: l => by simp only [szL, List.map_cons, List.sum_cons, szL_sum l]
set_option maxRecDepth 100000 in
theorem opens67b : ∀ fuel, OpensAt fuel Tryd.prog 67 k67 wf67 sz := by
  intro fuel
  induction fuel using Nat.strongRecOn with
  | _ fuel ih =>
  intro H enc W base spare held cs y hy hw
  obtain ⟨x, hK, hwf, hB⟩ := at_struct (fuel := fuel) (fun x : S67 => (x.f0, x.f1, x.f2)) (fun z => ⟨z.1, z.2.1, z.2.2⟩) (fun _ => rfl) Tryd.underlying67 (by kernel_rfl) (fun m hm => (fields_cons rfl (by kernel_rfl) rfl (at_ini64 Tryd.underlying3) (fields_cons rfl (by kernel_rfl) rfl (at_ini64 Tryd.underlying3) (fields_one rfl (by kernel_rfl) (at_slice Tryd.underlying65 (by kernel_rfl) (by kernel_rfl) (fun q_ hq_ => ih q_ (by omega))))))) enc W base spare held cs y hy hw
  obtain ⟨_, _, rfl, rfl, ⟨_, _, rfl, rfl, ⟨A2, c2, rfl, hl2, hC2⟩⟩⟩ := hK
  obtain ⟨w0, w1, w2⟩ := hwf
  refine ⟨x, k67_mk W x hl2 hC2, .mk x w0 w1 w2.1 w2.2, Nat.le_trans ?_ hB⟩
  have e := szL_sum x.f2
  have e1 := sz_eq x
  show sz x ≤ 1 + (1 + ((x.f2.map sz).sum + 1)) + 1
  omega
theorem opens65b (fuel : Nat) : OpensAt fuel Tryd.prog 65 (Kd.slice 67 k67) (fun xs => xs.length * 40 ≤ 140737488351232 ∧ ∀ x ∈ xs, wf67 x) (fun xs => (xs.map sz).sum + 1) :=
  at_slice Tryd.underlying65 (by kernel_rfl) (by kernel_rfl) (fun q_ _ => opens67b q_)
/-- a value that was read. -/
theorem open67 {W : World} {x : S67} {cs : Array Value} (h : k67.K W x cs.toList) : ∃ A c, cs = #[.int .i64 x.f0, .int .i64 x.f1, .slice A x.f2.length c] ∧ x.f2.length ≤ c ∧ Kd.C k67 W A x.f2.length x.f2 := by
  obtain ⟨A, c, he, h1, h2⟩ := k67_open h
  exact ⟨A, c, by cases cs; simpa using he, h1, h2⟩
theorem wv_wf {x : S67} (h : wf67 x) : Wv x := by
  induction h with
  | mk x _ h1 _ _ ih => exact .mk x h1 (fun y hy => ih y hy)
theorem sz_sum {l : List S67} {n : Nat} (h : (l.map sz).sum + 1 ≤ n) : szL l + 1 ≤ n := by rw [szL_sum]; exact h
end Go.Proofs.YtfofpammnfcmiaaDoor.Opn
