/- The reference's rotation (printed by gen_yq.py). -/
import Derived.Test.YtghepahgkcigpaaRf0
import Derived.Test.YtghepahgkcigpaaRf12
set_option linter.unusedSimpArgs false
namespace Go.Proofs.Ytghepahgkcigpaa
open Go.RowKit
end Go.Proofs.Ytghepahgkcigpaa
