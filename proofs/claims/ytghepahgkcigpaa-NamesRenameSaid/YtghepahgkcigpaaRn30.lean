/- The reference's Resolve from the loop over rots on (printed by gen_zj.py). -/
import Derived.Test.YtghepahgkcigpaaRn0
import Derived.Test.YtghepahgkcigpaaRn27
import Derived.Test.YtghepahgkcigpaaRn18
import Derived.Deep.CutBlock
set_option linter.unusedSimpArgs false
namespace Go.Proofs.Ytghepahgkcigpaa
open Go.RowKit
end Go.Proofs.Ytghepahgkcigpaa
