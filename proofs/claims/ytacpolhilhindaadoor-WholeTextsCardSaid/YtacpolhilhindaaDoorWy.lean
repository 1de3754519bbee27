/- Marline, layer 01: the library's two errors, as the row lists them, and the law of texts over them. No condition. -/
import Derived.Test.YtacpolhilhindaaDoorWx
import Derived.Test.YtacpolhilhindaaDoorWl
import Derived.LaidLaws
namespace Go.Proofs.YtacpolhilhindaaDoor.E
open Go.RowKit
set_option linter.unusedVariables false
theorem star : "*" ++ "errors.errorString" = "*errors.errorString" := by decide
theorem row105 (u : TypeId) (h : Tryd.prog.typeName? 3 u = some "*errors.errorString") : u = 105 :=
  typeName_ptr_named (nm := "errors.errorString") (by rw [star]; kernel_rfl) (by kernel_rfl) (by decide) u (by rw [star]; exact h)
theorem errs_of_laid {n1 n2 n3 : String} {d1 d2 d3 : DataW Unit} {W : World} (h : laidMet Tryd.prog [(n1, d1), (n2, d2), (n3, d3), ("strconv.ErrRange", Rows.laid_strconv_ErrRange), ("strconv.ErrSyntax", Rows.laid_strconv_ErrSyntax)] W) : Errs W := by
  have h1 := h.tail.tail.tail
  have h2 := h1.tail
  obtain ⟨a, s, hv, _⟩ := laid_sentinel h1 (g := 4) (ti := 52) (tp := 105) (te := 107) (ts := 9) (by kernel_rfl) (by kernel_rfl) Tryd.underlying52 row105 Tryd.underlying105 Tryd.underlying107 rfl rfl Tryd.underlying9 (by kernel_rfl) (by kernel_rfl)
  obtain ⟨b, u, hw, _⟩ := laid_sentinel h2 (g := 3) (ti := 52) (tp := 105) (te := 107) (ts := 9) (by kernel_rfl) (by kernel_rfl) Tryd.underlying52 row105 Tryd.underlying105 Tryd.underlying107 rfl rfl Tryd.underlying9 (by kernel_rfl) (by kernel_rfl)
  exact ⟨⟨_, by simpa using World.var?_cell (g := 3) (by kernel_rfl) hw 0, .inr ⟨_, _, rfl⟩⟩, ⟨_, by simpa using World.var?_cell (g := 4) (by kernel_rfl) hv 0, .inr ⟨_, _, rfl⟩⟩⟩
theorem texts_row (n : Int) (s : ByteArray) (g : Int) (W : World) (h0 : (Lit.int .i64 n).wf = true) (h1 : s.size ≤ 140737488351232) (h2 : (Lit.int .i64 g).wf = true) (hp : Pow W) (he : Errs W) :
    Calls Tryd.prog 5 #[.int .i64 n, .string s, .int .i64 g] W fun e w' => e = .returned (.bool true) ∧ Below W.heap.size W w' := texts_walk n s g W (in_of h0) (by omega) hp he
end Go.Proofs.YtacpolhilhindaaDoor.E
