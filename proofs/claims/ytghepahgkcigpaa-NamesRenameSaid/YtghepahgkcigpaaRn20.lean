/- The reference's reach: what follows on the reference to the upper reach (printed by gen_ys.py). -/
import Derived.Test.YtghepahgkcigpaaRn0
import Derived.Test.YtghepahgkcigpaaRn12
set_option linter.unusedSimpArgs false
namespace Go.Proofs.Ytghepahgkcigpaa
open Go.RowKit
structure Xr (w:World) (ls:List Value) (F:Nat->Prop) (l:List Nat) (A:Nat) (p:List Value) (cf:List (List Value)) (ef:List Ex) (x4 x5 x6 x7:List Value) (y4 y5 y6 y7:Ex) (ca:List Value) (W:World):Prop where
 bx:Bx w 51 ls 51 (p++(x4++(x5++(x6++x7)))) W
 a:W.heap[A]?=some (.cells ca.toArray 26 (0,0))
 la:ca.length=6
 lA:w.heap.size+3<=A
 ve:VE F l W (cf++[x4,x5,x6,x7]) (ef++[y4,y5,y6,y7])
end Go.Proofs.Ytghepahgkcigpaa
