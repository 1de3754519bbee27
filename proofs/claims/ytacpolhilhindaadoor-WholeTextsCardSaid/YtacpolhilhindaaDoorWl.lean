/- Marline, layer 01: the library's table of the powers of ten, as the rows list it. No condition. -/
import Derived.Test.YtacpolhilhindaaDoorWe
import Derived.Test.YtacpolhilhindaaDoorWf
import Derived.Test.YtacpolhilhindaaDoorRows
import Derived.Stop.LaidErr
import Derived.Lib.LaidTab
namespace Go.Proofs.YtacpolhilhindaaDoor.E
open Go.RowKit
set_option linter.unusedVariables false
theorem pow_of_laid {n1 n2 : String} {d1 d2 : DataW Unit} {rest : List (String × DataW Unit)} {W : World} (h : laidMet Tryd.prog ((n1, d1) :: (n2, d2) :: ("internal/strconv.uint64pow10", Rows.laid_internal_strconv_uint64pow10) :: rest) W) : Pow W := by
  have h1 := h.tail.tail
  have e : (Rows.laid_internal_strconv_uint64pow10 : DataW Unit) = Lib.tabData .u64 Lib.pow10Tab := rfl
  rw [e] at h1
  exact Lib.tabIs_of_head (g := 6) (t := 100) (e := 43) (n := 20) (by kernel_rfl) (by kernel_rfl) Tryd.underlying100 Tryd.underlying43 (by kernel_rfl) (by kernel_rfl) h1
theorem does_row (s a b : Int) (W : World) (h0 : (Lit.int .i64 s).wf = true) (h1 : (Lit.int .i64 a).wf = true) (h2 : (Lit.int .i64 b).wf = true) (hp : Pow W) : Calls Tryd.prog 4 #[.int .i64 s, .int .i64 a, .int .i64 b] W fun e w' => e = .returned (.bool true) ∧ Below W.heap.size W w' := does_walk s a b W (in_of h1) (in_of h2) hp
theorem parts_row (a b : Int) (W : World) (h1 : (Lit.int .i64 a).wf = true) (h2 : (Lit.int .i64 b).wf = true) (hp : Pow W) : Calls Tryd.prog 3 #[.int .i64 a, .int .i64 b] W fun e w' => e = .returned (.bool true) ∧ Below W.heap.size W w' := parts_walk a b W (in_of h1) (in_of h2) hp
end Go.Proofs.YtacpolhilhindaaDoor.E
