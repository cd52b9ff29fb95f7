/- The reference's head (printed by gen_yr.py). -/
import Derived.Test.YtghepahgkcigpaaRn0
import Derived.Test.YtghepahgkcigpaaRn12
set_option linter.unusedSimpArgs false
namespace Go.Proofs.Ytghepahgkcigpaa
open Go.RowKit
section
variable{F:NP}{l:List Nat}{B C:Nat}{wr W W':World}{ty:TypeId}{row row':LV}
theorem Tx.call(h:Tx F l B C wr ty row W)(a:C<=wr.heap.size)(hb:Below W.heap.size W W'):Tx F l B C wr ty row W':=⟨h.rnd.call hb a,(hb.block _ h.lt).trans h.x⟩
theorem Tx.set(h:Tx F l B C wr ty row W)(b:C<=wr.heap.size)(a:Au W W' wr.heap.size row' ty):Tx F l B C wr ty row' W':=⟨h.rnd.wrote a (.inr (yf _)) b,a.row⟩
end
end Go.Proofs.Ytghepahgkcigpaa
