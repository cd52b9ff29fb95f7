/- The reference's farm (printed by gen_yk.py). -/
import Derived.Test.YtghepahgkcigpaaRg0
import Derived.Test.YtghepahgkcigpaaRg12
import Derived.Test.YtghepahgkcigpaaRg7
set_option linter.unusedSimpArgs false
namespace Go.Proofs.Ytghepahgkcigpaa
open Go.RowKit
end Go.Proofs.Ytghepahgkcigpaa
