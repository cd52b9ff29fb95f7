/- The reference's rotation (printed by gen_yq.py). -/
import Derived.Test.YtghepahgkcigpaaRn0
import Derived.Test.YtghepahgkcigpaaRn12
set_option linter.unusedSimpArgs false
namespace Go.Proofs.Ytghepahgkcigpaa
open Go.RowKit
end Go.Proofs.Ytghepahgkcigpaa
