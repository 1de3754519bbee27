/- The kinds of values of this seat, written by the kit's program for them. -/
import Derived.Test.YtacpolhilhindaaDoorProg
import Derived.Test.YtacpolhilhindaaDoorWMore
import Derived.Test.YtacpolhilhindaaDoorWKept
import Derived.Test.YtacpolhilhindaaDoorWN
import Derived.Test.YtacpolhilhindaaDoorWFoot
import Derived.Test.YtacpolhilhindaaDoorWShare
import Derived.Test.YtacpolhilhindaaDoorWAt
namespace Go.Proofs.YtacpolhilhindaaDoor.Kinds
open Go.RowKit Go.Proofs.YtacpolhilhindaaDoorW.PrintWords Go.Proofs.YtacpolhilhindaaDoorW.PrintLast
set_option linter.unusedVariables false
set_option linter.unusedSimpArgs false

end Go.Proofs.YtacpolhilhindaaDoor.Kinds
