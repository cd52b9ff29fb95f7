/- The reference's Resolve, whole (printed by gen_zo.py). -/
import Derived.Test.YtghepahgkcigpaaRn0
import Derived.Test.YtghepahgkcigpaaRn33
import Derived.Test.YtghepahgkcigpaaRn13
set_option linter.unusedSimpArgs false
namespace Go.Proofs.Ytghepahgkcigpaa
open Go.RowKit
structure R0 (w:World) (cs:List Value) (W:World):Prop where
 below:Below w.heap.size w W
 s:W.heap[w.heap.size]?=some (.cells cs.toArray 35 (0,0))
 z:W.heap[w.heap.size+1]?=some (.cells A5.toArray 35 (0,0))
 sz:w.heap.size+2<=W.heap.size
theorem R0.up{w W W':World}{cs:LV}(h:R0 w cs W)(hb:Below W.heap.size W W'):R0 w cs W':=by
 have h0:=h.sz
 exact ⟨h.below.trans (hb.mono h.below.size),(hb.block _ (by omega)).trans h.s,(hb.block _ (by omega)).trans h.z,yl h0 hb.size⟩
end Go.Proofs.Ytghepahgkcigpaa
