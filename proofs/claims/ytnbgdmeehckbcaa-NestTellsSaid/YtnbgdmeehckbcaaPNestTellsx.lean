-- Laid by a program of this session (a changed copy of the printer): the functions of one law, and what they come to.
import Derived.Test.YtnbgdmeehckbcaaPNestTellsx0
import Derived.Test.YtnbgdmeehckbcaaPNestTellsx1
import Derived.Test.YtnbgdmeehckbcaaPNestTellsx2
import Derived.Test.YtnbgdmeehckbcaaPNestTellsx3
namespace Go.Proofs.Ytnbgdmeehckbcaa.PNestTells
open Go.RowKit Go.Proofs.YtnbgdmeehckbcaaW.PrintWords Go.Proofs.YtnbgdmeehckbcaaW.PrintLast Go.Proofs.YtnbgdmeehckbcaaW.PrintMore
attribute [local go_sem] max2_int min2_int max_two min_two max_three min_three max_four min_four   -- for this text's walks alone
set_option linter.unusedVariables false
set_option linter.unusedSimpArgs false

end Go.Proofs.Ytnbgdmeehckbcaa.PNestTells
