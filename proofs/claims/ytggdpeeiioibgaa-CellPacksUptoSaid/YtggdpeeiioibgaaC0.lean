/- Marline, layer 08: what its printed functions lean on. No condition. -/
import Derived.Test.YtggdpeeiioibgaaRt
import Derived.Test.YtggdpeeiioibgaaPT
import Derived.Test.YtggdpeeiioibgaaPAx1
namespace Go.Proofs.Ytggdpeeiioibgaa.E
end Go.Proofs.Ytggdpeeiioibgaa.E
