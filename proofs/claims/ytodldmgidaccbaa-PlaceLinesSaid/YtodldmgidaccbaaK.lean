/- The kinds of values of this seat, written by the kit's program for them. -/
import Derived.Test.YtodldmgidaccbaaProg
import Derived.Test.YtodldmgidaccbaaWMore
import Derived.Test.YtodldmgidaccbaaWKept
import Derived.Test.YtodldmgidaccbaaWN
import Derived.Test.YtodldmgidaccbaaWFoot
import Derived.Test.YtodldmgidaccbaaWShare
import Derived.Test.YtodldmgidaccbaaWAt
namespace Go.Proofs.Ytodldmgidaccbaa.Kinds
open Go.RowKit Go.Proofs.YtodldmgidaccbaaW.PrintWords Go.Proofs.YtodldmgidaccbaaW.PrintLast
set_option linter.unusedVariables false
set_option linter.unusedSimpArgs false

end Go.Proofs.Ytodldmgidaccbaa.Kinds
