/- Marline, values: any value's text, by the program. Conditions: as each says. -/
import Derived.Test.YtfofpammnfcmiaaDoorV4
namespace Go.Proofs.YtfofpammnfcmiaaDoor.Vl
open Go.RowKit Go.Proofs.YtfofpammnfcmiaaDoorW.PrintWords Go.Proofs.YtfofpammnfcmiaaDoorW.PrintLast Go.Proofs.YtfofpammnfcmiaaDoorW.PrintMore Go.Proofs.YtfofpammnfcmiaaDoor.Kinds Go.Proofs.YtfofpammnfcmiaaDoor.Obj Go.Proofs.YtfofpammnfcmiaaDoor.E
set_option linter.unusedVariables false
set_option linter.unusedSimpArgs false
set_option maxRecDepth 100000
theorem szL_len : ∀ l : List S67, l.length ≤ szL l
  | [] => Nat.le_refl _
  | x :: l => by have := szL_len l; have := sz_pos x; simp only [szL, List.length_cons]; omega
theorem right_kinds (x : S67) (h : right x = true) : x.f0 = 0 ∨ (x.f0 = 1 ∧ (x.f1 = 0 ∨ x.f1 = 1)) ∨ ((x.f0 = 2 ∨ x.f0 = 3) ∧ rightL x.f2 = true) := by
  obtain ⟨k, n, l⟩ := x
  simp only at *
  unfold right at h
  by_cases h0 : k = 0
  · exact .inl h0
  · rw [if_neg h0] at h
    by_cases h1 : k = 1
    · rw [if_pos h1, Bool.and_eq_true, Bool.or_eq_true] at h
      refine .inr (.inl ⟨h1, ?_⟩)
      exact h.2.imp of_decide_eq_true of_decide_eq_true
    · rw [if_neg h1] at h
      by_cases h2 : k = 2 ∨ k = 3
      · rw [if_pos h2, Bool.and_eq_true] at h
        exact .inr (.inr ⟨h2, h.2⟩)
      · rw [if_neg h2] at h; cases h
theorem write_n (W0 : World) (b : Nat) (hP : Pow W0) : ∀ (n : Nat) (x : S67) (A : Option Addr) (c : Nat) (bs : List Value) (w : World), sz x < n → sz x ≤ 1048576 → right x = true → Wv x → x.f2.length ≤ c → Kd.C k67 W0 A x.f2.length x.f2 → Lib.IsBuilderF 112 5 W0.heap.size b bs w → bs.length + (txt x).length ≤ 140737488355328 → Below W0.heap.size W0 w →
    Calls Tryd.prog 75 #[.pointer (some ⟨b, 0, none⟩), v67 x.f0 x.f1 A x.f2.length c] w (WrP W0.heap.size b bs (txt x) w) := by
  intro n
  induction n with
  | zero => intro x A c bs w h; omega
  | succ n ih =>
    intro x A c bs w h hsz hr hwv hc hC hi hlen hW
    have hz := sz_eq x
    have hl := szL_len x.f2
    rcases right_kinds x hr with h0 | ⟨h0, h1⟩ | ⟨h0, h1⟩
    · exact write_int x A c _ b bs w h0 hwv.n hi hlen hW.size (Pow.below hP hW)
    · exact write_bool x A c _ b bs w h0 h1 hi hlen hW.size
    · refine write_list W0 x A c b bs w h0 hi hlen hW hC (by omega) (fun y D d bs' W hy g1 g2 g3 g4 g5 => ?_)
      have hm := szL_mem x.f2 y hy
      exact ih y D d bs' W (by omega) (by omega) (rightL_mem _ h1 y hy) (hwv.kid hy) g1 g2 g3 g4 g5
/-- any value's text. -/
def textV (x : S67) : List UInt8 := if right x = true then txt x else []
set_option maxHeartbeats 4000000 in
theorem textv_calls (x : S67) (A : Option Addr) (c : Nat) (w : World) (hsz : sz x ≤ 1048576) (hwv : Wv x) (hc : x.f2.length ≤ c) (hC : Kd.C k67 w A x.f2.length x.f2) (hlen : (txt x).length ≤ 140737488355328) (hP : Pow w) :
    Calls Tryd.prog 46 #[v67 x.f0 x.f1 A x.f2.length c] w fun e w' => e = .returned (.string ⟨(textV x).toArray⟩) ∧ Below w.heap.size w w' := by
  have hu67 := Tryd.underlying67
  obtain ⟨w1, hw1, k1, b1⟩ : ∃ w1 : World, w.alloc (.cells #[.int .i64 x.f0, .int .i64 x.f1, .slice A x.f2.length c] 67) = w1 ∧ w1.heap[w.heap.size]? = some (.cells #[.int .i64 x.f0, .int .i64 x.f1, .slice A x.f2.length c] 67 (0, 0)) ∧ Below w.heap.size w w1 := ⟨_, rfl, blk_new w _, blk67 x A c w⟩
  have RC := Lib.hid (right_calls x A c w1 hc (Kd.C_below hC b1))
  obtain ⟨go, hgo⟩ : ∃ go, w.heap.size = go := ⟨_, rfl⟩
  rw [hgo] at k1
  have HW1 := Lib.hid hw1; have HGO := Lib.hid hgo
  have u0 : w1.cell? ⟨go, 0, none⟩ = some (.int .i64 x.f0) := (blk_cell k1 0).trans rfl
  have u1 : w1.cell? ⟨go, 1, none⟩ = some (.int .i64 x.f1) := (blk_cell k1 1).trans rfl
  have u2 : w1.cell? ⟨go, 2, none⟩ = some (.slice A x.f2.length c) := (blk_cell k1 2).trans rfl
  have K1 := Lib.hid k1; have B1 := Lib.hid b1
  have HP := Lib.hid hP; have HC := Lib.hid hC; have HCC := Lib.hid hc; have HWV := Lib.hid hwv; have HSZ := Lib.hid hsz; have HLEN := Lib.hid hlen
  clear hw1 k1 b1 hgo hP hC hc hwv hsz hlen
  go_enter Tryd.func46, Tryd.ntmps46
  go_upto_region 1 with (fail)
  rw [HW1.out, HGO.out]
  go_wp2_with fail
  refine RC.out.mono ?_
  rintro e w2 ⟨rfl, b2⟩
  have B2 := Lib.hid (B1.out.trans (b2.mono B1.out.size))
  have k2 := (b2.block go (Array.getElem?_eq_some_iff.1 K1.out).1).trans K1.out
  have u0 : w2.cell? ⟨go, 0, none⟩ = some (.int .i64 x.f0) := (blk_cell k2 0).trans rfl
  have u1 : w2.cell? ⟨go, 1, none⟩ = some (.int .i64 x.f1) := (blk_cell k2 1).trans rfl
  have u2 : w2.cell? ⟨go, 2, none⟩ = some (.slice A x.f2.length c) := (blk_cell k2 2).trans rfl
  have K2 := Lib.hid k2
  clear b2 k2 RC
  cases hr : right x with
  | false =>
    have et : textV x = [] := by unfold textV; rw [if_neg (by rw [hr]; exact Bool.false_ne_true)]
    have ET := Lib.hid et
    clear et hr
    go_wp2_with fail
    go_ret
    exact ⟨by rw [ET.out]; rfl, B2.out⟩
  | true =>
    have et : textV x = txt x := by unfold textV; rw [if_pos hr]
    have ET := Lib.hid et
    have HR := Lib.hid hr
    clear et hr
    obtain ⟨w3, hw3, f3, k3, b3⟩ : ∃ w3 : World, w2.alloc (.cells #[.pointer none, .slice none 0 0] 112) = w3 ∧ Lib.IsBuilderF 112 5 w2.heap.size w2.heap.size [] w3 ∧ w3.heap[go]? = some (.cells #[.int .i64 x.f0, .int .i64 x.f1, .slice A x.f2.length c] 67 (0, 0)) ∧ Below w2.heap.size w2 w3 :=
      ⟨_, rfl, Lib.IsBuilderF.of (Lib.fresh_isBuilder 112 5 w2), blk_alloc K2.out _, below_alloc (Below.refl _ _) _⟩
    have HW3 := Lib.hid hw3
    have WR := Lib.hid (write_n w2 w2.heap.size (Pow.below HP.out B2.out) _ x A c [] w3 (Nat.lt_succ_self _) HSZ.out HR.out HWV.out HCC.out (Kd.C_below HC.out B2.out) f3 (by show 0 + _ ≤ _; rw [Nat.zero_add]; exact HLEN.out) b3)
    have u0 : w3.cell? ⟨go, 0, none⟩ = some (.int .i64 x.f0) := (blk_cell k3 0).trans rfl
    have u1 : w3.cell? ⟨go, 1, none⟩ = some (.int .i64 x.f1) := (blk_cell k3 1).trans rfl
    have u2 : w3.cell? ⟨go, 2, none⟩ = some (.slice A x.f2.length c) := (blk_cell k3 2).trans rfl
    have B3 := Lib.hid b3
    clear hw3 f3 k3 b3
    go_upto_region 4 with (fail)
    rw [HW3.out]
    go_wp2_with fail
    refine WR.out.mono ?_
    rintro e w4 ⟨rfl, h4, b4, _⟩
    have H4 := Lib.hid h4
    have B4 := Lib.hid (B3.out.trans b4)
    clear h4 b4 WR
    go_wp2_with fail
    refine (Tryd.Builder_String_any w2.heap.size w2.heap.size (txt x) w4 H4.out B4.out.size).mono ?_
    rintro e w5 ⟨rfl, b5⟩
    have B5 := Lib.hid (B2.out.trans (Below.mono (B4.out.trans b5) B2.out.size))
    clear b5
    go_wp2_with fail
    go_ret
    exact ⟨by rw [ET.out]; rfl, B5.out⟩
end Go.Proofs.YtfofpammnfcmiaaDoor.Vl
