/- What the rows' laid variables give for values; how values are opened, and of what bulk they are; the laws in the rows' form. No condition. -/
import Derived.Test.YtfofpammnfcmiaaDoorVh
import Derived.Test.YtfofpammnfcmiaaDoorVg
import Derived.Test.YtfofpammnfcmiaaDoorVu
import Derived.Test.YtfofpammnfcmiaaDoorOpen
import Derived.Test.YtfofpammnfcmiaaDoorRows
import Derived.Stop.LaidErr
import Derived.Lib.LaidTab
import Derived.WideShapes
namespace Go.Proofs.YtfofpammnfcmiaaDoor.Vl
open Go.RowKit
set_option linter.unusedVariables false
theorem vpow {n1 n2 : String} {d1 d2 : DataW Unit} {rest : List (String × DataW Unit)} {W : World} (h : laidMet Tryd.prog ((n1, d1) :: (n2, d2) :: ("internal/strconv.uint64pow10", Rows.laid_internal_strconv_uint64pow10) :: rest) W) : E.Pow W := by
  have h1 := h.tail.tail
  have e : (Rows.laid_internal_strconv_uint64pow10 : DataW Unit) = Lib.tabData .u64 Lib.pow10Tab := rfl
  rw [e] at h1
  exact Lib.tabIs_of_head (g := 8) (t := 184) (e := 123) (n := 20) (by kernel_rfl) (by kernel_rfl) Tryd.underlying184 Tryd.underlying123 (by kernel_rfl) (by kernel_rfl) h1
theorem vstar : "*" ++ "errors.errorString" = "*errors.errorString" := by decide
theorem vrow193 (u : TypeId) (h : Tryd.prog.typeName? 3 u = some "*errors.errorString") : u = 193 :=
  typeName_ptr_named (nm := "errors.errorString") (by rw [vstar]; kernel_rfl) (by kernel_rfl) (by decide) u (by rw [vstar]; exact h)
theorem verrs {n1 n2 n3 : String} {d1 d2 d3 : DataW Unit} {rest : List (String × DataW Unit)} {W : World} (h : laidMet Tryd.prog ((n1, d1) :: (n2, d2) :: (n3, d3) :: ("strconv.ErrRange", Rows.laid_strconv_ErrRange) :: ("strconv.ErrSyntax", Rows.laid_strconv_ErrSyntax) :: rest) W) : E.Errs W := by
  have h1 := h.tail.tail.tail
  have h2 := h1.tail
  obtain ⟨a, s, hv, _⟩ := laid_sentinel h1 (g := 5) (ti := 128) (tp := 193) (te := 195) (ts := 9) (by kernel_rfl) (by kernel_rfl) Tryd.underlying128 vrow193 Tryd.underlying193 Tryd.underlying195 rfl rfl Tryd.underlying9 (by kernel_rfl) (by kernel_rfl)
  obtain ⟨b, u, hw, _⟩ := laid_sentinel h2 (g := 4) (ti := 128) (tp := 193) (te := 195) (ts := 9) (by kernel_rfl) (by kernel_rfl) Tryd.underlying128 vrow193 Tryd.underlying193 Tryd.underlying195 rfl rfl Tryd.underlying9 (by kernel_rfl) (by kernel_rfl)
  exact ⟨⟨_, by simpa using World.var?_cell (g := 4) (by kernel_rfl) hw 0, .inr ⟨_, _, rfl⟩⟩, ⟨_, by simpa using World.var?_cell (g := 5) (by kernel_rfl) hv 0, .inr ⟨_, _, rfl⟩⟩⟩
end Go.Proofs.YtfofpammnfcmiaaDoor.Vl
namespace Go.Proofs.YtfofpammnfcmiaaDoor.Opn
open Go.RowKit Go.Proofs.YtfofpammnfcmiaaDoorW.PrintWords Go.Proofs.YtfofpammnfcmiaaDoorW.PrintLast Go.Proofs.YtfofpammnfcmiaaDoor.Open Go.Proofs.YtfofpammnfcmiaaDoor.Kinds Go.Proofs.YtfofpammnfcmiaaDoor.Vl
set_option linter.unusedVariables false
/-- what is known of a value that was read, and of all below it. -/
inductive wf67 : S67 → Prop
  | mk (x : S67) : (-9223372036854775808 ≤ x.f0 ∧ x.f0 ≤ 9223372036854775807) → (-9223372036854775808 ≤ x.f1 ∧ x.f1 ≤ 9223372036854775807) → x.f2.length * 40 ≤ 140737488351232 → (∀ y ∈ x.f2, wf67 y) → wf67 x
theorem szL_sum : ∀ l : List S67, szL l = (l.map sz).sum
  | [] => rfl
  | x :: l => by simp only [szL, List.map_cons, List.sum_cons, szL_sum l]
set_option maxRecDepth 100000 in
theorem opens67b : ∀ fuel, OpensAt fuel Tryd.prog 67 k67 wf67 sz := by
  intro fuel
  induction fuel using Nat.strongRecOn with
  | _ fuel ih =>
  intro H enc W base spare held cs y hy hw
  obtain ⟨x, hK, hwf, hB⟩ := at_struct (fuel := fuel) (fun x : S67 => (x.f0, x.f1, x.f2)) (fun z => ⟨z.1, z.2.1, z.2.2⟩) (fun _ => rfl) Tryd.underlying67 (by kernel_rfl) (fun m hm => (fields_cons rfl (by kernel_rfl) rfl (at_ini64 Tryd.underlying3) (fields_cons rfl (by kernel_rfl) rfl (at_ini64 Tryd.underlying3) (fields_one rfl (by kernel_rfl) (at_slice Tryd.underlying65 (by kernel_rfl) (by kernel_rfl) (fun q_ hq_ => ih q_ (by omega))))))) enc W base spare held cs y hy hw
  obtain ⟨_, _, rfl, rfl, ⟨_, _, rfl, rfl, ⟨A2, c2, rfl, hl2, hC2⟩⟩⟩ := hK
  obtain ⟨w0, w1, w2⟩ := hwf
  refine ⟨x, k67_mk W x hl2 hC2, .mk x w0 w1 w2.1 w2.2, Nat.le_trans ?_ hB⟩
  have e := szL_sum x.f2
  have e1 := sz_eq x
  show sz x ≤ 1 + (1 + ((x.f2.map sz).sum + 1)) + 1
  omega
theorem opens65b (fuel : Nat) : OpensAt fuel Tryd.prog 65 (Kd.slice 67 k67) (fun xs => xs.length * 40 ≤ 140737488351232 ∧ ∀ x ∈ xs, wf67 x) (fun xs => (xs.map sz).sum + 1) :=
  at_slice Tryd.underlying65 (by kernel_rfl) (by kernel_rfl) (fun q_ _ => opens67b q_)
/-- a value that was read. -/
theorem open67 {W : World} {x : S67} {cs : Array Value} (h : k67.K W x cs.toList) : ∃ A c, cs = #[.int .i64 x.f0, .int .i64 x.f1, .slice A x.f2.length c] ∧ x.f2.length ≤ c ∧ Kd.C k67 W A x.f2.length x.f2 := by
  obtain ⟨A, c, he, h1, h2⟩ := k67_open h
  exact ⟨A, c, by cases cs; simpa using he, h1, h2⟩
theorem wv_wf {x : S67} (h : wf67 x) : Wv x := by
  induction h with
  | mk x _ h1 _ _ ih => exact .mk x h1 (fun y hy => ih y hy)
theorem sz_sum {l : List S67} {n : Nat} (h : (l.map sz).sum + 1 ≤ n) : szL l + 1 ≤ n := by rw [szL_sum]; exact h
end Go.Proofs.YtfofpammnfcmiaaDoor.Opn
namespace Go.Proofs.YtfofpammnfcmiaaDoor.Vl
open Go.RowKit Go.Proofs.YtfofpammnfcmiaaDoorW.PrintWords Go.Proofs.YtfofpammnfcmiaaDoor.Kinds Go.Proofs.YtfofpammnfcmiaaDoor.E
set_option linter.unusedVariables false
theorem tells_row (x : S67) (A : Option Addr) (c : Nat) (y : S67) (A2 : Option Addr) (c2 : Nat) (W : World) (wx : Opn.wf67 x) (hx : sz x ≤ 1048576) (h1 : x.f2.length ≤ c) (h2 : Kd.C k67 W A x.f2.length x.f2) (wy : Opn.wf67 y) (hy : sz y ≤ 1048576) (h3 : y.f2.length ≤ c2) (h4 : Kd.C k67 W A2 y.f2.length y.f2) (hP : Pow W) (hE : Errs W) :
    Calls Tryd.prog 14 #[.agg #[.int .i64 x.f0, .int .i64 x.f1, .slice A x.f2.length c], .agg #[.int .i64 y.f0, .int .i64 y.f1, .slice A2 y.f2.length c2]] W fun e w' => e = .returned (.bool true) ∧ Below W.heap.size W w' :=
  tells_walk x y A c A2 c2 W hx (Opn.wv_wf wx) h1 h2 hy h3 h4 hP hE
theorem reads_row (x : S67) (A : Option Addr) (c : Nat) (y : S67) (A2 : Option Addr) (c2 : Nat) (s : ByteArray) (W : World) (wx : Opn.wf67 x) (hx : sz x ≤ 1048576) (h1 : x.f2.length ≤ c) (h2 : Kd.C k67 W A x.f2.length x.f2) (wy : Opn.wf67 y) (hy : sz y ≤ 1048576) (h3 : y.f2.length ≤ c2) (h4 : Kd.C k67 W A2 y.f2.length y.f2) (_ : s.size ≤ 140737488351232) (hP : Pow W) (hE : Errs W) :
    Calls Tryd.prog 12 #[.agg #[.int .i64 x.f0, .int .i64 x.f1, .slice A x.f2.length c], .agg #[.int .i64 y.f0, .int .i64 y.f1, .slice A2 y.f2.length c2], .string s] W fun e w' => e = .returned (.bool true) ∧ Below W.heap.size W w' :=
  reads_walk x y A c A2 c2 s W hx (Opn.wv_wf wx) h1 h2 hy (Opn.wv_wf wy) h3 h4 hP hE
theorem makes_row (n : Int) (b : Bool) (l : List S67) (A : Option Addr) (c : Nat) (W : World) (_ : (Lit.int .i64 n).wf = true) (h2 : Kd.C k67 W A l.length l) (h1 : l.length ≤ c) (_ : l.length * 40 ≤ 140737488351232 ∧ ∀ x ∈ l, Opn.wf67 x) (hl : szL l ≤ 1048576) (hP : Pow W) (hE : Errs W) :
    Calls Tryd.prog 13 #[.int .i64 n, .bool b, .slice A l.length c] W fun e w' => e = .returned (.bool true) ∧ Below W.heap.size W w' :=
  makes_walk n b l A c W hl h1 h2 hP hE
end Go.Proofs.YtfofpammnfcmiaaDoor.Vl
