/- The reference's Resolve from the loop over rots on (printed by gen_zj.py). -/
import Derived.Test.YtghepahgkcigpaaRg0
import Derived.Test.YtghepahgkcigpaaRg24
import Derived.Test.YtghepahgkcigpaaRg16
import Derived.Deep.CutBlock
set_option linter.unusedSimpArgs false
namespace Go.Proofs.Ytghepahgkcigpaa
open Go.RowKit
end Go.Proofs.Ytghepahgkcigpaa
