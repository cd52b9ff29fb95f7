/- The law's mapped: its loop over reaches (printed by gen_af.py). -/
import Derived.Test.YtghepahgkcigpaaRn0
import Derived.Test.YtghepahgkcigpaaRn23
import Derived.Deep.CutBlock
set_option maxRecDepth 100000
set_option linter.unusedSimpArgs false
namespace Go.Proofs.Ytghepahgkcigpaa
open Go.RowKit
set_option linter.unusedSimpArgs false
end Go.Proofs.Ytghepahgkcigpaa
