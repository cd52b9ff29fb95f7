/- The law's examples: num, small (printed by gen_ua.py). -/
import Derived.Test.YtghepahgkcigpaaQ0
import Derived.Test.YtghepahgkcigpaaQ12
set_option maxRecDepth 100000
set_option maxHeartbeats 16000000
set_option linter.unusedSimpArgs false
namespace Go.Proofs.Ytghepahgkcigpaa
open Go.RowKit
theorem Lz(n u:Int)(w:World):Calls Try.prog 66 #[.int .i64 n,.int .i64 u] w fun e w'=>e=.returned (.agg #[.int .i64 1,.int .i64 n,.int .i64 u,.string ⟨#[]⟩,.int .i64 0,.slice none 0 0])∧Below w.heap.size w w':=by
 go_enter Try.func66,Try.ntmps66
 go_wp2
 have a:(w.alloc (.cells #[iV 1,iV n,iV u,.string ⟨#[]⟩,iV 0,.slice none 0 0] 26)).rangeAt w.heap.size 0 [iV 1,iV n,iV u,.string ⟨#[]⟩,iV 0,.slice none 0 0]:=yV (World.alloc_heap_new w _) 0 6
 exact ⟨rfl,_,If rfl rfl (xL _ w.heap.size 0 26 _ _ a qF rfl (by kernel_rfl)),rfl,(yc _ _).alloc (ye _) _⟩
def Bk(B:Nat)(w:World)(g:Nat)(row:Array Value)(ty:TypeId):Prop:=B < g∧w.heap[g]?=some (.cells row ty (0,0))
def GA(B:Nat)(w w':World):Prop:=∀(b:Nat) (o:Obj),B < b->w.heap[b]?=some o->w'.heap[b]?=some o
theorem Bk.le{B:Nat}{w w':World}{g:Nat}{row:Array Value}{ty:TypeId}(h:Bk B w g row ty)(hl:GA B w w'):Bk B w' g row ty:=⟨h.1,hl _ _ h.1 h.2⟩
theorem GA.below{B:Nat}{w w':World}(h:Below w.heap.size w w'):GA B w w':=fun b _ _ hb=>(h.block b (yd.1 hb).1).trans hb
theorem GA.refl(B:Nat)(w:World):GA B w w:=fun _ _ _ h=>h
def AY(B:Nat)(j:Nat)(v:Value)(w:World):Prop:=match j with
 |0=>v=.agg #[.int .i64 1,.int .i64 2,.int .i64 4,.string ⟨#[]⟩,.int .i64 0,.slice none 0 0]
 |1=>v=.agg #[.int .i64 1,.int .i64 3,.int .i64 1,.string ⟨#[]⟩,.int .i64 0,.slice none 0 0]
 |2=>v=.agg #[.string ⟨#[116]⟩,.int .i64 1,.int .i64 3,.int .i64 1,.string ⟨#[]⟩,.int .i64 0,.slice none 0 0]
 |3=>v=.agg #[.string ⟨#[116]⟩,.int .i64 0]
 |4=>v=.agg #[.int .i64 2,.int .i64 0,.int .i64 0,.string ⟨#[116]⟩,.int .i64 0,.slice none 0 0]
 |5=>v=.agg #[.int .i64 1,.int .i64 1,.int .i64 1,.string ⟨#[]⟩,.int .i64 0,.slice none 0 0]
 |6=>∃a:Nat,v=.slice (some ⟨a,0,none⟩) 2 2∧Bk B w a #[.int .i64 2,.int .i64 0,.int .i64 0,.string ⟨#[116]⟩,.int .i64 0,.slice none 0 0,.int .i64 1,.int .i64 1,.int .i64 1,.string ⟨#[]⟩,.int .i64 0,.slice none 0 0] 26
 |7=>∃a:Nat,v=.agg #[.int .i64 3,.int .i64 0,.int .i64 0,.string ⟨#[]⟩,.int .i64 0,.slice (some ⟨a,0,none⟩) 2 2]∧Bk B w a #[.int .i64 2,.int .i64 0,.int .i64 0,.string ⟨#[116]⟩,.int .i64 0,.slice none 0 0,.int .i64 1,.int .i64 1,.int .i64 1,.string ⟨#[]⟩,.int .i64 0,.slice none 0 0] 26
 |8=>∃a:Nat,v=.agg #[.string ⟨#[117]⟩,.int .i64 3,.int .i64 0,.int .i64 0,.string ⟨#[]⟩,.int .i64 0,.slice (some ⟨a,0,none⟩) 2 2]∧Bk B w a #[.int .i64 2,.int .i64 0,.int .i64 0,.string ⟨#[116]⟩,.int .i64 0,.slice none 0 0,.int .i64 1,.int .i64 1,.int .i64 1,.string ⟨#[]⟩,.int .i64 0,.slice none 0 0] 26
 |9=>∃a c:Nat,v=.slice (some ⟨c,0,none⟩) 2 2∧Bk B w a #[.int .i64 2,.int .i64 0,.int .i64 0,.string ⟨#[116]⟩,.int .i64 0,.slice none 0 0,.int .i64 1,.int .i64 1,.int .i64 1,.string ⟨#[]⟩,.int .i64 0,.slice none 0 0] 26∧Bk B w c #[.string ⟨#[116]⟩,.int .i64 1,.int .i64 3,.int .i64 1,.string ⟨#[]⟩,.int .i64 0,.slice none 0 0,.string ⟨#[117]⟩,.int .i64 3,.int .i64 0,.int .i64 0,.string ⟨#[]⟩,.int .i64 0,.slice (some ⟨a,0,none⟩) 2 2] 55
 |10=>v=.agg #[.string ⟨#[99,111,114,110]⟩,.int .i64 0,.int .i64 0,.int .i64 0,.string ⟨#[]⟩,.int .i64 0,.slice none 0 0]
 |11=>v=.agg #[.string ⟨#[114,105,99,101]⟩,.int .i64 0,.int .i64 0,.int .i64 0,.string ⟨#[]⟩,.int .i64 0,.slice none 0 0]
 |12=>∃i:Nat,v=.slice (some ⟨i,0,none⟩) 2 2∧Bk B w i #[.string ⟨#[99,111,114,110]⟩,.int .i64 0,.int .i64 0,.int .i64 0,.string ⟨#[]⟩,.int .i64 0,.slice none 0 0,.string ⟨#[114,105,99,101]⟩,.int .i64 0,.int .i64 0,.int .i64 0,.string ⟨#[]⟩,.int .i64 0,.slice none 0 0] 57
 |13=>v=.agg #[.string ⟨#[104,101,97,100]⟩,.string ⟨#[]⟩,.int .i64 0,.int .i64 1,.int .i64 1,.int .i64 3,.string ⟨#[]⟩,.int .i64 0,.slice none 0 0,.int .i64 2,.int .i64 0,.int .i64 0,.string ⟨#[117]⟩,.int .i64 0,.slice none 0 0,.int .i64 0,.int .i64 0,.int .i64 0,.string ⟨#[]⟩,.int .i64 0,.slice none 0 0,.int .i64 0,.int .i64 0,.int .i64 0,.string ⟨#[]⟩,.int .i64 0,.slice none 0 0,.int .i64 0,.int .i64 0,.int .i64 0,.string ⟨#[]⟩,.int .i64 0,.slice none 0 0,.int .i64 0,.int .i64 0,.int .i64 0,.string ⟨#[]⟩,.int .i64 0,.slice none 0 0,.int .i64 0,.int .i64 0,.int .i64 0,.string ⟨#[]⟩,.int .i64 0,.slice none 0 0,.int .i64 0,.int .i64 0,.int .i64 0,.string ⟨#[]⟩,.int .i64 0,.slice none 0 0]
 |14=>v=.agg #[.string ⟨#[104,101,97,100]⟩,.int .i64 0]
 |15=>v=.agg #[.string ⟨#[116,97,105,108]⟩,.string ⟨#[104,101,97,100]⟩,.int .i64 0,.int .i64 0,.int .i64 0,.int .i64 0,.string ⟨#[]⟩,.int .i64 0,.slice none 0 0,.int .i64 0,.int .i64 0,.int .i64 0,.string ⟨#[]⟩,.int .i64 0,.slice none 0 0,.int .i64 0,.int .i64 0,.int .i64 0,.string ⟨#[]⟩,.int .i64 0,.slice none 0 0,.int .i64 0,.int .i64 0,.int .i64 0,.string ⟨#[]⟩,.int .i64 0,.slice none 0 0,.int .i64 0,.int .i64 0,.int .i64 0,.string ⟨#[]⟩,.int .i64 0,.slice none 0 0,.int .i64 0,.int .i64 0,.int .i64 0,.string ⟨#[]⟩,.int .i64 0,.slice none 0 0,.int .i64 0,.int .i64 0,.int .i64 0,.string ⟨#[]⟩,.int .i64 0,.slice none 0 0,.int .i64 0,.int .i64 0,.int .i64 0,.string ⟨#[]⟩,.int .i64 0,.slice none 0 0]
 |16=>∃g:Nat,v=.slice (some ⟨g,0,none⟩) 2 2∧Bk B w g #[.string ⟨#[104,101,97,100]⟩,.string ⟨#[]⟩,.int .i64 0,.int .i64 1,.int .i64 1,.int .i64 3,.string ⟨#[]⟩,.int .i64 0,.slice none 0 0,.int .i64 2,.int .i64 0,.int .i64 0,.string ⟨#[117]⟩,.int .i64 0,.slice none 0 0,.int .i64 0,.int .i64 0,.int .i64 0,.string ⟨#[]⟩,.int .i64 0,.slice none 0 0,.int .i64 0,.int .i64 0,.int .i64 0,.string ⟨#[]⟩,.int .i64 0,.slice none 0 0,.int .i64 0,.int .i64 0,.int .i64 0,.string ⟨#[]⟩,.int .i64 0,.slice none 0 0,.int .i64 0,.int .i64 0,.int .i64 0,.string ⟨#[]⟩,.int .i64 0,.slice none 0 0,.int .i64 0,.int .i64 0,.int .i64 0,.string ⟨#[]⟩,.int .i64 0,.slice none 0 0,.int .i64 0,.int .i64 0,.int .i64 0,.string ⟨#[]⟩,.int .i64 0,.slice none 0 0,.string ⟨#[116,97,105,108]⟩,.string ⟨#[104,101,97,100]⟩,.int .i64 0,.int .i64 0,.int .i64 0,.int .i64 0,.string ⟨#[]⟩,.int .i64 0,.slice none 0 0,.int .i64 0,.int .i64 0,.int .i64 0,.string ⟨#[]⟩,.int .i64 0,.slice none 0 0,.int .i64 0,.int .i64 0,.int .i64 0,.string ⟨#[]⟩,.int .i64 0,.slice none 0 0,.int .i64 0,.int .i64 0,.int .i64 0,.string ⟨#[]⟩,.int .i64 0,.slice none 0 0,.int .i64 0,.int .i64 0,.int .i64 0,.string ⟨#[]⟩,.int .i64 0,.slice none 0 0,.int .i64 0,.int .i64 0,.int .i64 0,.string ⟨#[]⟩,.int .i64 0,.slice none 0 0,.int .i64 0,.int .i64 0,.int .i64 0,.string ⟨#[]⟩,.int .i64 0,.slice none 0 0,.int .i64 0,.int .i64 0,.int .i64 0,.string ⟨#[]⟩,.int .i64 0,.slice none 0 0] 51
 |17=>v=.agg #[.string ⟨#[116,97,105,108]⟩,.int .i64 0]
 |18=>v=.agg #[.string ⟨#[114,105,99,101]⟩,.int .i64 0]
 |19=>v=.agg #[.string ⟨#[97,110,97]⟩,.string ⟨#[116,97,105,108]⟩,.int .i64 0,.bool false,.int .i64 0,.int .i64 0,.int .i64 0,.string ⟨#[]⟩,.int .i64 0,.slice none 0 0,.string ⟨#[114,105,99,101]⟩,.int .i64 0]
 |20=>v=.agg #[.string ⟨#[104,101,97,100]⟩,.int .i64 0]
 |21=>v=.agg #[.string ⟨#[98,101,97]⟩,.string ⟨#[104,101,97,100]⟩,.int .i64 0,.bool true,.int .i64 0,.int .i64 0,.int .i64 0,.string ⟨#[]⟩,.int .i64 0,.slice none 0 0,.string ⟨#[]⟩,.int .i64 0]
 |22=>∃e:Nat,v=.slice (some ⟨e,0,none⟩) 2 2∧Bk B w e #[.string ⟨#[97,110,97]⟩,.string ⟨#[116,97,105,108]⟩,.int .i64 0,.bool false,.int .i64 0,.int .i64 0,.int .i64 0,.string ⟨#[]⟩,.int .i64 0,.slice none 0 0,.string ⟨#[114,105,99,101]⟩,.int .i64 0,.string ⟨#[98,101,97]⟩,.string ⟨#[104,101,97,100]⟩,.int .i64 0,.bool true,.int .i64 0,.int .i64 0,.int .i64 0,.string ⟨#[]⟩,.int .i64 0,.slice none 0 0,.string ⟨#[]⟩,.int .i64 0] 59
 |23=>v=.agg #[.string ⟨#[116,97,105,108]⟩,.int .i64 0]
 |24=>v=.agg #[.string ⟨#[97,110,97]⟩,.int .i64 0]
 |25=>v=.agg #[.string ⟨#[97,110,97]⟩,.int .i64 0,.int .i64 0,.int .i64 0,.int .i64 0,.string ⟨#[]⟩,.int .i64 0,.slice none 0 0]
 |26=>∃b:Nat,v=.slice (some ⟨b,0,none⟩) 1 1∧Bk B w b #[.string ⟨#[97,110,97]⟩,.int .i64 0,.int .i64 0,.int .i64 0,.int .i64 0,.string ⟨#[]⟩,.int .i64 0,.slice none 0 0] 66
 |27=>∃b:Nat,v=.agg #[.string ⟨#[116,117,114,110,115]⟩,.string ⟨#[116,97,105,108]⟩,.int .i64 0,.int .i64 0,.int .i64 0,.int .i64 0,.int .i64 0,.string ⟨#[]⟩,.int .i64 0,.slice none 0 0,.int .i64 0,.int .i64 0,.int .i64 0,.string ⟨#[]⟩,.int .i64 0,.slice none 0 0,.int .i64 0,.int .i64 0,.int .i64 0,.string ⟨#[]⟩,.int .i64 0,.slice none 0 0,.slice (some ⟨b,0,none⟩) 1 1]∧Bk B w b #[.string ⟨#[97,110,97]⟩,.int .i64 0,.int .i64 0,.int .i64 0,.int .i64 0,.string ⟨#[]⟩,.int .i64 0,.slice none 0 0] 66
 |28=>∃b h:Nat,v=.slice (some ⟨h,0,none⟩) 1 1∧Bk B w b #[.string ⟨#[97,110,97]⟩,.int .i64 0,.int .i64 0,.int .i64 0,.int .i64 0,.string ⟨#[]⟩,.int .i64 0,.slice none 0 0] 66∧Bk B w h #[.string ⟨#[116,117,114,110,115]⟩,.string ⟨#[116,97,105,108]⟩,.int .i64 0,.int .i64 0,.int .i64 0,.int .i64 0,.int .i64 0,.string ⟨#[]⟩,.int .i64 0,.slice none 0 0,.int .i64 0,.int .i64 0,.int .i64 0,.string ⟨#[]⟩,.int .i64 0,.slice none 0 0,.int .i64 0,.int .i64 0,.int .i64 0,.string ⟨#[]⟩,.int .i64 0,.slice none 0 0,.slice (some ⟨b,0,none⟩) 1 1] 64
 |29=>v=.agg #[.string ⟨#[98,101,97]⟩,.int .i64 0]
 |30=>v=.agg #[.string ⟨#[116,97,105,108]⟩,.int .i64 0]
 |31=>v=.agg #[.int .i64 2,.string ⟨#[109,105,110,101]⟩,.string ⟨#[98,101,97]⟩,.int .i64 0,.string ⟨#[116,97,105,108]⟩,.int .i64 0,.int .i64 0,.int .i64 0,.int .i64 0,.int .i64 0,.string ⟨#[]⟩,.int .i64 0,.slice none 0 0,.int .i64 0,.int .i64 0,.int .i64 0,.string ⟨#[]⟩,.int .i64 0,.slice none 0 0,.int .i64 0,.int .i64 0,.int .i64 0,.string ⟨#[]⟩,.int .i64 0,.slice none 0 0,.int .i64 0,.int .i64 0,.int .i64 0,.string ⟨#[]⟩,.int .i64 0,.slice none 0 0,.int .i64 0,.int .i64 0,.int .i64 0,.string ⟨#[]⟩,.int .i64 0,.slice none 0 0]
 |32=>∃f:Nat,v=.slice (some ⟨f,0,none⟩) 1 1∧Bk B w f #[.int .i64 2,.string ⟨#[109,105,110,101]⟩,.string ⟨#[98,101,97]⟩,.int .i64 0,.string ⟨#[116,97,105,108]⟩,.int .i64 0,.int .i64 0,.int .i64 0,.int .i64 0,.int .i64 0,.string ⟨#[]⟩,.int .i64 0,.slice none 0 0,.int .i64 0,.int .i64 0,.int .i64 0,.string ⟨#[]⟩,.int .i64 0,.slice none 0 0,.int .i64 0,.int .i64 0,.int .i64 0,.string ⟨#[]⟩,.int .i64 0,.slice none 0 0,.int .i64 0,.int .i64 0,.int .i64 0,.string ⟨#[]⟩,.int .i64 0,.slice none 0 0,.int .i64 0,.int .i64 0,.int .i64 0,.string ⟨#[]⟩,.int .i64 0,.slice none 0 0] 68
 |33=>v=.agg #[.string ⟨#[98,101,97]⟩,.int .i64 0]
 |34=>v=.agg #[.string ⟨#[116,97,105,108]⟩,.int .i64 0]
 |35=>v=.agg #[.string ⟨#[99,108,101,97,110]⟩,.string ⟨#[98,101,97]⟩,.int .i64 0,.string ⟨#[116,97,105,108]⟩,.int .i64 0,.int .i64 0,.int .i64 0,.int .i64 0,.string ⟨#[]⟩,.int .i64 0,.slice none 0 0]
 |36=>∃d:Nat,v=.slice (some ⟨d,0,none⟩) 1 1∧Bk B w d #[.string ⟨#[99,108,101,97,110]⟩,.string ⟨#[98,101,97]⟩,.int .i64 0,.string ⟨#[116,97,105,108]⟩,.int .i64 0,.int .i64 0,.int .i64 0,.int .i64 0,.string ⟨#[]⟩,.int .i64 0,.slice none 0 0] 70
 |37=>∃a c i g e b h f d:Nat,v=.agg #[.string ⟨#[118,101,103,97]⟩,.int .i64 1,.int .i64 2,.int .i64 4,.string ⟨#[]⟩,.int .i64 0,.slice none 0 0,.int .i64 0,.int .i64 0,.int .i64 0,.string ⟨#[]⟩,.int .i64 0,.slice none 0 0,.int .i64 0,.int .i64 0,.int .i64 0,.string ⟨#[]⟩,.int .i64 0,.slice none 0 0,.slice (some ⟨c,0,none⟩) 2 2,.slice (some ⟨i,0,none⟩) 2 2,.slice (some ⟨g,0,none⟩) 2 2,.slice (some ⟨e,0,none⟩) 2 2,.slice (some ⟨h,0,none⟩) 1 1,.slice (some ⟨f,0,none⟩) 1 1,.slice (some ⟨d,0,none⟩) 1 1]∧Bk B w a #[.int .i64 2,.int .i64 0,.int .i64 0,.string ⟨#[116]⟩,.int .i64 0,.slice none 0 0,.int .i64 1,.int .i64 1,.int .i64 1,.string ⟨#[]⟩,.int .i64 0,.slice none 0 0] 26∧Bk B w c #[.string ⟨#[116]⟩,.int .i64 1,.int .i64 3,.int .i64 1,.string ⟨#[]⟩,.int .i64 0,.slice none 0 0,.string ⟨#[117]⟩,.int .i64 3,.int .i64 0,.int .i64 0,.string ⟨#[]⟩,.int .i64 0,.slice (some ⟨a,0,none⟩) 2 2] 55∧Bk B w i #[.string ⟨#[99,111,114,110]⟩,.int .i64 0,.int .i64 0,.int .i64 0,.string ⟨#[]⟩,.int .i64 0,.slice none 0 0,.string ⟨#[114,105,99,101]⟩,.int .i64 0,.int .i64 0,.int .i64 0,.string ⟨#[]⟩,.int .i64 0,.slice none 0 0] 57∧Bk B w g #[.string ⟨#[104,101,97,100]⟩,.string ⟨#[]⟩,.int .i64 0,.int .i64 1,.int .i64 1,.int .i64 3,.string ⟨#[]⟩,.int .i64 0,.slice none 0 0,.int .i64 2,.int .i64 0,.int .i64 0,.string ⟨#[117]⟩,.int .i64 0,.slice none 0 0,.int .i64 0,.int .i64 0,.int .i64 0,.string ⟨#[]⟩,.int .i64 0,.slice none 0 0,.int .i64 0,.int .i64 0,.int .i64 0,.string ⟨#[]⟩,.int .i64 0,.slice none 0 0,.int .i64 0,.int .i64 0,.int .i64 0,.string ⟨#[]⟩,.int .i64 0,.slice none 0 0,.int .i64 0,.int .i64 0,.int .i64 0,.string ⟨#[]⟩,.int .i64 0,.slice none 0 0,.int .i64 0,.int .i64 0,.int .i64 0,.string ⟨#[]⟩,.int .i64 0,.slice none 0 0,.int .i64 0,.int .i64 0,.int .i64 0,.string ⟨#[]⟩,.int .i64 0,.slice none 0 0,.string ⟨#[116,97,105,108]⟩,.string ⟨#[104,101,97,100]⟩,.int .i64 0,.int .i64 0,.int .i64 0,.int .i64 0,.string ⟨#[]⟩,.int .i64 0,.slice none 0 0,.int .i64 0,.int .i64 0,.int .i64 0,.string ⟨#[]⟩,.int .i64 0,.slice none 0 0,.int .i64 0,.int .i64 0,.int .i64 0,.string ⟨#[]⟩,.int .i64 0,.slice none 0 0,.int .i64 0,.int .i64 0,.int .i64 0,.string ⟨#[]⟩,.int .i64 0,.slice none 0 0,.int .i64 0,.int .i64 0,.int .i64 0,.string ⟨#[]⟩,.int .i64 0,.slice none 0 0,.int .i64 0,.int .i64 0,.int .i64 0,.string ⟨#[]⟩,.int .i64 0,.slice none 0 0,.int .i64 0,.int .i64 0,.int .i64 0,.string ⟨#[]⟩,.int .i64 0,.slice none 0 0,.int .i64 0,.int .i64 0,.int .i64 0,.string ⟨#[]⟩,.int .i64 0,.slice none 0 0] 51∧Bk B w e #[.string ⟨#[97,110,97]⟩,.string ⟨#[116,97,105,108]⟩,.int .i64 0,.bool false,.int .i64 0,.int .i64 0,.int .i64 0,.string ⟨#[]⟩,.int .i64 0,.slice none 0 0,.string ⟨#[114,105,99,101]⟩,.int .i64 0,.string ⟨#[98,101,97]⟩,.string ⟨#[104,101,97,100]⟩,.int .i64 0,.bool true,.int .i64 0,.int .i64 0,.int .i64 0,.string ⟨#[]⟩,.int .i64 0,.slice none 0 0,.string ⟨#[]⟩,.int .i64 0] 59∧Bk B w b #[.string ⟨#[97,110,97]⟩,.int .i64 0,.int .i64 0,.int .i64 0,.int .i64 0,.string ⟨#[]⟩,.int .i64 0,.slice none 0 0] 66∧Bk B w h #[.string ⟨#[116,117,114,110,115]⟩,.string ⟨#[116,97,105,108]⟩,.int .i64 0,.int .i64 0,.int .i64 0,.int .i64 0,.int .i64 0,.string ⟨#[]⟩,.int .i64 0,.slice none 0 0,.int .i64 0,.int .i64 0,.int .i64 0,.string ⟨#[]⟩,.int .i64 0,.slice none 0 0,.int .i64 0,.int .i64 0,.int .i64 0,.string ⟨#[]⟩,.int .i64 0,.slice none 0 0,.slice (some ⟨b,0,none⟩) 1 1] 64∧Bk B w f #[.int .i64 2,.string ⟨#[109,105,110,101]⟩,.string ⟨#[98,101,97]⟩,.int .i64 0,.string ⟨#[116,97,105,108]⟩,.int .i64 0,.int .i64 0,.int .i64 0,.int .i64 0,.int .i64 0,.string ⟨#[]⟩,.int .i64 0,.slice none 0 0,.int .i64 0,.int .i64 0,.int .i64 0,.string ⟨#[]⟩,.int .i64 0,.slice none 0 0,.int .i64 0,.int .i64 0,.int .i64 0,.string ⟨#[]⟩,.int .i64 0,.slice none 0 0,.int .i64 0,.int .i64 0,.int .i64 0,.string ⟨#[]⟩,.int .i64 0,.slice none 0 0,.int .i64 0,.int .i64 0,.int .i64 0,.string ⟨#[]⟩,.int .i64 0,.slice none 0 0] 68∧Bk B w d #[.string ⟨#[99,108,101,97,110]⟩,.string ⟨#[98,101,97]⟩,.int .i64 0,.string ⟨#[116,97,105,108]⟩,.int .i64 0,.int .i64 0,.int .i64 0,.int .i64 0,.string ⟨#[]⟩,.int .i64 0,.slice none 0 0] 70
 |_=>True
theorem O0{B:Nat}(j:Nat)(v:Value)(w w':World)(hl:GA B w w')(h:AY B j v w):AY B j v w':=by
 match j,h with
 |0,h=>exact h
 |1,h=>exact h
 |2,h=>exact h
 |3,h=>exact h
 |4,h=>exact h
 |5,h=>exact h
 |6,h=>
  obtain ⟨a,h0,b⟩:=h
  exact ⟨a,h0,b.le hl⟩
 |7,h=>
  obtain ⟨a,h0,b⟩:=h
  exact ⟨a,h0,b.le hl⟩
 |8,h=>
  obtain ⟨a,h0,b⟩:=h
  exact ⟨a,h0,b.le hl⟩
 |9,h=>
  obtain ⟨a,q,h0,b,r⟩:=h
  exact ⟨a,q,h0,b.le hl,r.le hl⟩
 |10,h=>exact h
 |11,h=>exact h
 |12,h=>
  obtain ⟨o,h0,k⟩:=h
  exact ⟨o,h0,k.le hl⟩
 |13,h=>exact h
 |14,h=>exact h
 |15,h=>exact h
 |16,h=>
  obtain ⟨i,h0,p⟩:=h
  exact ⟨i,h0,p.le hl⟩
 |17,h=>exact h
 |18,h=>exact h
 |19,h=>exact h
 |20,h=>exact h
 |21,h=>exact h
 |22,h=>
  obtain ⟨e,h0,m⟩:=h
  exact ⟨e,h0,m.le hl⟩
 |23,h=>exact h
 |24,h=>exact h
 |25,h=>exact h
 |26,h=>
  obtain ⟨d,h0,c⟩:=h
  exact ⟨d,h0,c.le hl⟩
 |27,h=>
  obtain ⟨d,h0,c⟩:=h
  exact ⟨d,h0,c.le hl⟩
 |28,h=>
  obtain ⟨d,s,h0,c,t⟩:=h
  exact ⟨d,s,h0,c.le hl,t.le hl⟩
 |29,h=>exact h
 |30,h=>exact h
 |31,h=>exact h
 |32,h=>
  obtain ⟨g,h0,n⟩:=h
  exact ⟨g,h0,n.le hl⟩
 |33,h=>exact h
 |34,h=>exact h
 |35,h=>exact h
 |36,h=>
  obtain ⟨l,h0,f⟩:=h
  exact ⟨l,h0,f.le hl⟩
 |37,h=>
  obtain ⟨a,q,o,i,e,d,s,g,l,h0,b,r,k,p,m,c,t,n,f⟩:=h
  exact ⟨a,q,o,i,e,d,s,g,l,h0,b.le hl,r.le hl,k.le hl,p.le hl,m.le hl,c.le hl,t.le hl,n.le hl,f.le hl⟩
 |_+38,_=>trivial
structure St (W:World) (B:Nat) (l:Array Bool) (w:World):Prop where
 one:l.getD 38 false=false->Below W.heap.size W w
 two:l.getD 38 false=true->∃w1 cells,AY B 37 (.agg cells) w1∧Below W.heap.size W w1∧w=w1.setRow B cells
theorem St.quiet{W:World}{B:Nat}{l:Array Bool}{w w2:World}{i:Nat}(h:St W B l w)(n:l.getD 38 false=false)(hi:i≠38)(hb:Below w.heap.size w w2):St W B (l.setIfInBounds i true) w2:=
 ⟨fun _=>(h.one n).trans (hb.mono (h.one n).size),fun a=>by rw[Al hi,n] at a;cases a⟩
def Hc:LV:=[.string ⟨#[104,101,97,100]⟩,.string ⟨#[]⟩,.int .i64 0,.int .i64 1,.int .i64 1,.int .i64 3,.string ⟨#[]⟩,.int .i64 0,.slice none 0 0,.int .i64 2,.int .i64 0,.int .i64 0,.string ⟨#[117]⟩,.int .i64 0,.slice none 0 0,.int .i64 0,.int .i64 0,.int .i64 0,.string ⟨#[]⟩,.int .i64 0,.slice none 0 0,.int .i64 0,.int .i64 0,.int .i64 0,.string ⟨#[]⟩,.int .i64 0,.slice none 0 0,.int .i64 0,.int .i64 0,.int .i64 0,.string ⟨#[]⟩,.int .i64 0,.slice none 0 0,.int .i64 0,.int .i64 0,.int .i64 0,.string ⟨#[]⟩,.int .i64 0,.slice none 0 0,.int .i64 0,.int .i64 0,.int .i64 0,.string ⟨#[]⟩,.int .i64 0,.slice none 0 0,.int .i64 0,.int .i64 0,.int .i64 0,.string ⟨#[]⟩,.int .i64 0,.slice none 0 0]
theorem RG{T:Act}{W0:World}{Q:QT}{B B2:Nat}{row0:Array Value}(ops:Array Oper)(R:GS Try.f21 3=some ops)
 (be:T.tmps.getD 0 undef=.pointer (some ⟨B,0,none⟩))(bg:T.tmps.getD 2 undef=.pointer (some ⟨B2,0,none⟩))(hz:T.tmps.size=46)(q:B < W0.heap.size)(al:B2 < W0.heap.size)(S:W0.heap[B]?=some (.cells row0 35 (0,0)))(J:row0.size=26)
 (az:W0.rangeAt B2 0 Hc)
 (hQ:∀(a:Act) w1 cells,a.tmps.size=46->a.defers=T.defers->(∀t,(t < 8∨45 < t)->a.tmps.getD t undef=T.tmps.getD t undef)->AY B 37 (.agg cells) w1->Below W0.heap.size W0 w1->Q .normal a (w1.setRow B cells)):
  (Code.region 3 ops true).wp Try.prog Q T W0:=by
 obtain rfl:=yh ((rfl:GS Try.f21 3=some _).symm.trans R)
 clear R
 refine Ee (by kernel_rfl) (fun l _ w=>St W0 B l w) (AY B) (fun _=>GA B) (by kernel_rfl) (by rw[hz];kernel_rfl) (by kernel_rfl) (fun _ j v w w' _ _ hl h=>O0 j v w w' hl h) ⟨fun _=>(yc _ _).drew,fun h=>(by cases h)⟩ ?_ ?_
 ·intro ix f a w' hM g o n
  have m:=ya hM.ext
  have bi:=(yd.1 n).1
  have bh:=hM.size
  match ix,bi with
  |0,_=>
   have c:f.getD 38 false=false:=by
    rw[yj];intro h6
    have:=A3 hM.down 40 38 0 (by kernel_rfl) h6
    rw[hM.Xj g] at this;cases this
   have i:=ya c
   clear c
   obtain rfl:=yh n
   go_simp
   refine (Lz 2 4 _).mono ?_
   rintro e w2 ⟨rfl,u⟩
   exact ⟨_,rfl,m.o.quiet i.o (by decide) u,GA.below u,rfl⟩
  |1,_=>
   have c:f.getD 38 false=false:=by
    rw[yj];intro h6
    have:=A3 hM.down 40 38 1 (by kernel_rfl) h6
    rw[hM.Xj g] at this;cases this
   have i:=ya c
   clear c
   obtain rfl:=yh n
   go_simp
   refine (Lz 3 1 _).mono ?_
   rintro e w2 ⟨rfl,u⟩
   exact ⟨_,rfl,m.o.quiet i.o (by decide) u,GA.below u,rfl⟩
  |2,_=>
   have c:f.getD 38 false=false:=by
    rw[yj];intro h6
    have:=A3 hM.down 40 38 2 (by kernel_rfl) h6
    rw[hM.Xj g] at this;cases this
   have i:=ya c
   clear c
   have d9:=hM.Xk g 1 9 (by kernel_rfl) (by kernel_rfl)
   unfold AY at d9
   simp only at d9
   obtain rfl:=yh n
   go_simp
   exact ⟨_,rfl,m.o.quiet i.o (by decide) (yc _ _),GA.refl _ _,rfl⟩
  |3,_=>
   have c:f.getD 38 false=false:=by
    rw[yj];intro h6
    have:=A3 hM.down 40 38 3 (by kernel_rfl) h6
    rw[hM.Xj g] at this;cases this
   have i:=ya c
   clear c
   obtain rfl:=yh n
   go_simp
   exact ⟨_,rfl,m.o.quiet i.o (by decide) (yc _ _),GA.refl _ _,rfl⟩
  |4,_=>
   have c:f.getD 38 false=false:=by
    rw[yj];intro h6
    have:=A3 hM.down 40 38 4 (by kernel_rfl) h6
    rw[hM.Xj g] at this;cases this
   have i:=ya c
   clear c
   have ap:=hM.Xk g 3 11 (by kernel_rfl) (by kernel_rfl)
   unfold AY at ap
   simp only at ap
   obtain rfl:=yh n
   go_simp
   exact ⟨_,rfl,m.o.quiet i.o (by decide) (yc _ _),GA.refl _ _,rfl⟩
  |5,_=>
   have c:f.getD 38 false=false:=by
    rw[yj];intro h6
    have:=A3 hM.down 40 38 5 (by kernel_rfl) h6
    rw[hM.Xj g] at this;cases this
   have i:=ya c
   clear c
   obtain rfl:=yh n
   go_simp
   refine (Lz 1 1 _).mono ?_
   rintro e w2 ⟨rfl,u⟩
   exact ⟨_,rfl,m.o.quiet i.o (by decide) u,GA.below u,rfl⟩
  |6,_=>
   have c:f.getD 38 false=false:=by
    rw[yj];intro h6
    have:=A3 hM.down 40 38 6 (by kernel_rfl) h6
    rw[hM.Xj g] at this;cases this
   have i:=ya c
   clear c
   have ai:=hM.Xk g 4 12 (by kernel_rfl) (by kernel_rfl)
   unfold AY at ai
   simp only at ai
   have ay:=hM.Xk g 5 13 (by kernel_rfl) (by kernel_rfl)
   unfold AY at ay
   simp only at ay
   obtain rfl:=yh n
   go_simp
   have k:Below w'.heap.size w' (w'.alloc (.cells #[iV 2,iV 0,iV 0,.string ⟨#[116]⟩,iV 0,.slice none 0 0,iV 1,iV 1,iV 1,.string ⟨#[]⟩,iV 0,.slice none 0 0] 26)):=(yc _ _).alloc (ye _) _
   have p:B < w'.heap.size:=yk q (m.o.one i.o).size
   exact ⟨_,rfl,m.o.quiet i.o (by decide) k,GA.below k,w'.heap.size,rfl,p,World.alloc_heap_new _ _⟩
  |7,_=>
   have c:f.getD 38 false=false:=by
    rw[yj];intro h6
    have:=A3 hM.down 40 38 7 (by kernel_rfl) h6
    rw[hM.Xj g] at this;cases this
   have i:=ya c
   clear c
   have N:=hM.Xk g 6 14 (by kernel_rfl) (by kernel_rfl)
   unfold AY at N
   simp only at N
   obtain ⟨s,N,r⟩:=N
   have y:=ya r
   clear r
   obtain rfl:=yh n
   go_simp
   exact ⟨_,rfl,m.o.quiet i.o (by decide) (yc _ _),GA.refl _ _,s,rfl,y.o⟩
  |8,_=>
   have c:f.getD 38 false=false:=by
    rw[yj];intro h6
    have:=A3 hM.down 40 38 8 (by kernel_rfl) h6
    rw[hM.Xj g] at this;cases this
   have i:=ya c
   clear c
   have G:=hM.Xk g 7 15 (by kernel_rfl) (by kernel_rfl)
   unfold AY at G
   simp only at G
   obtain ⟨s,G,r⟩:=G
   have y:=ya r
   clear r
   obtain rfl:=yh n
   go_simp
   exact ⟨_,rfl,m.o.quiet i.o (by decide) (yc _ _),GA.refl _ _,s,rfl,y.o⟩
  |9,_=>
   have c:f.getD 38 false=false:=by
    rw[yj];intro h6
    have:=A3 hM.down 40 38 9 (by kernel_rfl) h6
    rw[hM.Xj g] at this;cases this
   have i:=ya c
   clear c
   have a1:=hM.Xk g 2 10 (by kernel_rfl) (by kernel_rfl)
   unfold AY at a1
   simp only at a1
   have O:=hM.Xk g 8 16 (by kernel_rfl) (by kernel_rfl)
   unfold AY at O
   simp only at O
   obtain ⟨s,O,r⟩:=O
   have y:=ya r
   clear r
   obtain rfl:=yh n
   go_simp
   have k:Below w'.heap.size w' (w'.alloc (.cells #[.string ⟨#[116]⟩,iV 1,iV 3,iV 1,.string ⟨#[]⟩,iV 0,.slice none 0 0,.string ⟨#[117]⟩,iV 3,iV 0,iV 0,.string ⟨#[]⟩,iV 0,.slice (some (aV s 0)) 2 2] 55)):=(yc _ _).alloc (ye _) _
   have p:B < w'.heap.size:=yk q (m.o.one i.o).size
   exact ⟨_,rfl,m.o.quiet i.o (by decide) k,GA.below k,s,w'.heap.size,rfl,y.o.le (GA.below k),p,World.alloc_heap_new _ _⟩
  |10,_=>
   have c:f.getD 38 false=false:=by
    rw[yj];intro h6
    have:=A3 hM.down 40 38 10 (by kernel_rfl) h6
    rw[hM.Xj g] at this;cases this
   have i:=ya c
   clear c
   obtain rfl:=yh n
   go_simp
   exact ⟨_,rfl,m.o.quiet i.o (by decide) (yc _ _),GA.refl _ _,rfl⟩
  |11,_=>
   have c:f.getD 38 false=false:=by
    rw[yj];intro h6
    have:=A3 hM.down 40 38 11 (by kernel_rfl) h6
    rw[hM.Xj g] at this;cases this
   have i:=ya c
   clear c
   obtain rfl:=yh n
   go_simp
   exact ⟨_,rfl,m.o.quiet i.o (by decide) (yc _ _),GA.refl _ _,rfl⟩
  |12,_=>
   have c:f.getD 38 false=false:=by
    rw[yj];intro h6
    have:=A3 hM.down 40 38 12 (by kernel_rfl) h6
    rw[hM.Xj g] at this;cases this
   have i:=ya c
   clear c
   have a2:=hM.Xk g 10 18 (by kernel_rfl) (by kernel_rfl)
   unfold AY at a2
   simp only at a2
   have an:=hM.Xk g 11 19 (by kernel_rfl) (by kernel_rfl)
   unfold AY at an
   simp only at an
   obtain rfl:=yh n
   go_simp
   have k:Below w'.heap.size w' (w'.alloc (.cells #[.string ⟨#[99,111,114,110]⟩,iV 0,iV 0,iV 0,.string ⟨#[]⟩,iV 0,.slice none 0 0,.string ⟨#[114,105,99,101]⟩,iV 0,iV 0,iV 0,.string ⟨#[]⟩,iV 0,.slice none 0 0] 57)):=(yc _ _).alloc (ye _) _
   have p:B < w'.heap.size:=yk q (m.o.one i.o).size
   exact ⟨_,rfl,m.o.quiet i.o (by decide) k,GA.below k,w'.heap.size,rfl,p,World.alloc_heap_new _ _⟩
  |13,_=>
   have c:f.getD 38 false=false:=by
    rw[yj];intro h6
    have:=A3 hM.down 40 38 13 (by kernel_rfl) h6
    rw[hM.Xj g] at this;cases this
   have i:=ya c
   clear c
   have d:=hM.old g 2 (by kernel_rfl) _ bg
   have bo:=ya (A1 az ((m.o.one i.o).block _ al))
   clear az
   obtain rfl:=yh n
   refine wp_load_mid 51 _ rfl B2 0 (by simpa[Act.eval] using d) Hc _ bo.o qS rfl (by kernel_rfl) ?_
   exact ⟨_,rfl,m.o.quiet i.o (by decide) (yc _ _),GA.refl _ _,rfl⟩
  |14,_=>
   have c:f.getD 38 false=false:=by
    rw[yj];intro h6
    have:=A3 hM.down 40 38 14 (by kernel_rfl) h6
    rw[hM.Xj g] at this;cases this
   have i:=ya c
   clear c
   obtain rfl:=yh n
   go_simp
   exact ⟨_,rfl,m.o.quiet i.o (by decide) (yc _ _),GA.refl _ _,rfl⟩
  |15,_=>
   have c:f.getD 38 false=false:=by
    rw[yj];intro h6
    have:=A3 hM.down 40 38 15 (by kernel_rfl) h6
    rw[hM.Xj g] at this;cases this
   have i:=ya c
   clear c
   have W:=hM.Xk g 14 22 (by kernel_rfl) (by kernel_rfl)
   unfold AY at W
   simp only at W
   obtain rfl:=yh n
   go_simp
   exact ⟨_,rfl,m.o.quiet i.o (by decide) (yc _ _),GA.refl _ _,rfl⟩
  |16,_=>
   have c:f.getD 38 false=false:=by
    rw[yj];intro h6
    have:=A3 hM.down 40 38 16 (by kernel_rfl) h6
    rw[hM.Xj g] at this;cases this
   have i:=ya c
   clear c
   have av:=hM.Xk g 13 21 (by kernel_rfl) (by kernel_rfl)
   unfold AY at av
   simp only at av
   have ar:=hM.Xk g 15 23 (by kernel_rfl) (by kernel_rfl)
   unfold AY at ar
   simp only at ar
   obtain rfl:=yh n
   go_simp
   have k:Below w'.heap.size w' (w'.alloc (.cells #[.string ⟨#[104,101,97,100]⟩,.string ⟨#[]⟩,iV 0,iV 1,iV 1,iV 3,.string ⟨#[]⟩,iV 0,.slice none 0 0,iV 2,iV 0,iV 0,.string ⟨#[117]⟩,iV 0,.slice none 0 0,iV 0,iV 0,iV 0,.string ⟨#[]⟩,iV 0,.slice none 0 0,iV 0,iV 0,iV 0,.string ⟨#[]⟩,iV 0,.slice none 0 0,iV 0,iV 0,iV 0,.string ⟨#[]⟩,iV 0,.slice none 0 0,iV 0,iV 0,iV 0,.string ⟨#[]⟩,iV 0,.slice none 0 0,iV 0,iV 0,iV 0,.string ⟨#[]⟩,iV 0,.slice none 0 0,iV 0,iV 0,iV 0,.string ⟨#[]⟩,iV 0,.slice none 0 0,.string ⟨#[116,97,105,108]⟩,.string ⟨#[104,101,97,100]⟩,iV 0,iV 0,iV 0,iV 0,.string ⟨#[]⟩,iV 0,.slice none 0 0,iV 0,iV 0,iV 0,.string ⟨#[]⟩,iV 0,.slice none 0 0,iV 0,iV 0,iV 0,.string ⟨#[]⟩,iV 0,.slice none 0 0,iV 0,iV 0,iV 0,.string ⟨#[]⟩,iV 0,.slice none 0 0,iV 0,iV 0,iV 0,.string ⟨#[]⟩,iV 0,.slice none 0 0,iV 0,iV 0,iV 0,.string ⟨#[]⟩,iV 0,.slice none 0 0,iV 0,iV 0,iV 0,.string ⟨#[]⟩,iV 0,.slice none 0 0,iV 0,iV 0,iV 0,.string ⟨#[]⟩,iV 0,.slice none 0 0] 51)):=(yc _ _).alloc (ye _) _
   have p:B < w'.heap.size:=yk q (m.o.one i.o).size
   exact ⟨_,rfl,m.o.quiet i.o (by decide) k,GA.below k,w'.heap.size,rfl,p,World.alloc_heap_new _ _⟩
  |17,_=>
   have c:f.getD 38 false=false:=by
    rw[yj];intro h6
    have:=A3 hM.down 40 38 17 (by kernel_rfl) h6
    rw[hM.Xj g] at this;cases this
   have i:=ya c
   clear c
   obtain rfl:=yh n
   go_simp
   exact ⟨_,rfl,m.o.quiet i.o (by decide) (yc _ _),GA.refl _ _,rfl⟩
  |18,_=>
   have c:f.getD 38 false=false:=by
    rw[yj];intro h6
    have:=A3 hM.down 40 38 18 (by kernel_rfl) h6
    rw[hM.Xj g] at this;cases this
   have i:=ya c
   clear c
   obtain rfl:=yh n
   go_simp
   exact ⟨_,rfl,m.o.quiet i.o (by decide) (yc _ _),GA.refl _ _,rfl⟩
  |19,_=>
   have c:f.getD 38 false=false:=by
    rw[yj];intro h6
    have:=A3 hM.down 40 38 19 (by kernel_rfl) h6
    rw[hM.Xj g] at this;cases this
   have i:=ya c
   clear c
   have ak:=hM.Xk g 17 25 (by kernel_rfl) (by kernel_rfl)
   unfold AY at ak
   simp only at ak
   have ae:=hM.Xk g 18 26 (by kernel_rfl) (by kernel_rfl)
   unfold AY at ae
   simp only at ae
   obtain rfl:=yh n
   go_simp
   exact ⟨_,rfl,m.o.quiet i.o (by decide) (yc _ _),GA.refl _ _,rfl⟩
  |20,_=>
   have c:f.getD 38 false=false:=by
    rw[yj];intro h6
    have:=A3 hM.down 40 38 20 (by kernel_rfl) h6
    rw[hM.Xj g] at this;cases this
   have i:=ya c
   clear c
   obtain rfl:=yh n
   go_simp
   exact ⟨_,rfl,m.o.quiet i.o (by decide) (yc _ _),GA.refl _ _,rfl⟩
  |21,_=>
   have c:f.getD 38 false=false:=by
    rw[yj];intro h6
    have:=A3 hM.down 40 38 21 (by kernel_rfl) h6
    rw[hM.Xj g] at this;cases this
   have i:=ya c
   clear c
   have ac:=hM.Xk g 20 28 (by kernel_rfl) (by kernel_rfl)
   unfold AY at ac
   simp only at ac
   obtain rfl:=yh n
   go_simp
   exact ⟨_,rfl,m.o.quiet i.o (by decide) (yc _ _),GA.refl _ _,rfl⟩
  |22,_=>
   have c:f.getD 38 false=false:=by
    rw[yj];intro h6
    have:=A3 hM.down 40 38 22 (by kernel_rfl) h6
    rw[hM.Xj g] at this;cases this
   have i:=ya c
   clear c
   have b8:=hM.Xk g 19 27 (by kernel_rfl) (by kernel_rfl)
   unfold AY at b8
   simp only at b8
   have aw:=hM.Xk g 21 29 (by kernel_rfl) (by kernel_rfl)
   unfold AY at aw
   simp only at aw
   obtain rfl:=yh n
   go_simp
   have k:Below w'.heap.size w' (w'.alloc (.cells #[.string ⟨#[97,110,97]⟩,.string ⟨#[116,97,105,108]⟩,iV 0,.bool false,iV 0,iV 0,iV 0,.string ⟨#[]⟩,iV 0,.slice none 0 0,.string ⟨#[114,105,99,101]⟩,iV 0,.string ⟨#[98,101,97]⟩,.string ⟨#[104,101,97,100]⟩,iV 0,.bool true,iV 0,iV 0,iV 0,.string ⟨#[]⟩,iV 0,.slice none 0 0,.string ⟨#[]⟩,iV 0] 59)):=(yc _ _).alloc (ye _) _
   have p:B < w'.heap.size:=yk q (m.o.one i.o).size
   exact ⟨_,rfl,m.o.quiet i.o (by decide) k,GA.below k,w'.heap.size,rfl,p,World.alloc_heap_new _ _⟩
  |23,_=>
   have c:f.getD 38 false=false:=by
    rw[yj];intro h6
    have:=A3 hM.down 40 38 23 (by kernel_rfl) h6
    rw[hM.Xj g] at this;cases this
   have i:=ya c
   clear c
   obtain rfl:=yh n
   go_simp
   exact ⟨_,rfl,m.o.quiet i.o (by decide) (yc _ _),GA.refl _ _,rfl⟩
  |24,_=>
   have c:f.getD 38 false=false:=by
    rw[yj];intro h6
    have:=A3 hM.down 40 38 24 (by kernel_rfl) h6
    rw[hM.Xj g] at this;cases this
   have i:=ya c
   clear c
   obtain rfl:=yh n
   go_simp
   exact ⟨_,rfl,m.o.quiet i.o (by decide) (yc _ _),GA.refl _ _,rfl⟩
  |25,_=>
   have c:f.getD 38 false=false:=by
    rw[yj];intro h6
    have:=A3 hM.down 40 38 25 (by kernel_rfl) h6
    rw[hM.Xj g] at this;cases this
   have i:=ya c
   clear c
   have ao:=hM.Xk g 24 32 (by kernel_rfl) (by kernel_rfl)
   unfold AY at ao
   simp only at ao
   obtain rfl:=yh n
   go_simp
   exact ⟨_,rfl,m.o.quiet i.o (by decide) (yc _ _),GA.refl _ _,rfl⟩
  |26,_=>
   have c:f.getD 38 false=false:=by
    rw[yj];intro h6
    have:=A3 hM.down 40 38 26 (by kernel_rfl) h6
    rw[hM.Xj g] at this;cases this
   have i:=ya c
   clear c
   have b3:=hM.Xk g 25 33 (by kernel_rfl) (by kernel_rfl)
   unfold AY at b3
   simp only at b3
   obtain rfl:=yh n
   go_simp
   have k:Below w'.heap.size w' (w'.alloc (.cells #[.string ⟨#[97,110,97]⟩,iV 0,iV 0,iV 0,iV 0,.string ⟨#[]⟩,iV 0,.slice none 0 0] 66)):=(yc _ _).alloc (ye _) _
   have p:B < w'.heap.size:=yk q (m.o.one i.o).size
   exact ⟨_,rfl,m.o.quiet i.o (by decide) k,GA.below k,w'.heap.size,rfl,p,World.alloc_heap_new _ _⟩
  |27,_=>
   have c:f.getD 38 false=false:=by
    rw[yj];intro h6
    have:=A3 hM.down 40 38 27 (by kernel_rfl) h6
    rw[hM.Xj g] at this;cases this
   have i:=ya c
   clear c
   have am:=hM.Xk g 23 31 (by kernel_rfl) (by kernel_rfl)
   unfold AY at am
   simp only at am
   have D:=hM.Xk g 26 34 (by kernel_rfl) (by kernel_rfl)
   unfold AY at D
   simp only at D
   obtain ⟨z,D,x⟩:=D
   have C:=ya x
   clear x
   obtain rfl:=yh n
   go_simp
   exact ⟨_,rfl,m.o.quiet i.o (by decide) (yc _ _),GA.refl _ _,z,rfl,C.o⟩
  |28,_=>
   have c:f.getD 38 false=false:=by
    rw[yj];intro h6
    have:=A3 hM.down 40 38 28 (by kernel_rfl) h6
    rw[hM.Xj g] at this;cases this
   have i:=ya c
   clear c
   have P:=hM.Xk g 27 35 (by kernel_rfl) (by kernel_rfl)
   unfold AY at P
   simp only at P
   obtain ⟨z,P,x⟩:=P
   have C:=ya x
   clear x
   obtain rfl:=yh n
   go_simp
   have k:Below w'.heap.size w' (w'.alloc (.cells #[.string ⟨#[116,117,114,110,115]⟩,.string ⟨#[116,97,105,108]⟩,iV 0,iV 0,iV 0,iV 0,iV 0,.string ⟨#[]⟩,iV 0,.slice none 0 0,iV 0,iV 0,iV 0,.string ⟨#[]⟩,iV 0,.slice none 0 0,iV 0,iV 0,iV 0,.string ⟨#[]⟩,iV 0,.slice none 0 0,.slice (some (aV z 0)) 1 1] 64)):=(yc _ _).alloc (ye _) _
   have p:B < w'.heap.size:=yk q (m.o.one i.o).size
   exact ⟨_,rfl,m.o.quiet i.o (by decide) k,GA.below k,z,w'.heap.size,rfl,C.o.le (GA.below k),p,World.alloc_heap_new _ _⟩
  |29,_=>
   have c:f.getD 38 false=false:=by
    rw[yj];intro h6
    have:=A3 hM.down 40 38 29 (by kernel_rfl) h6
    rw[hM.Xj g] at this;cases this
   have i:=ya c
   clear c
   obtain rfl:=yh n
   go_simp
   exact ⟨_,rfl,m.o.quiet i.o (by decide) (yc _ _),GA.refl _ _,rfl⟩
  |30,_=>
   have c:f.getD 38 false=false:=by
    rw[yj];intro h6
    have:=A3 hM.down 40 38 30 (by kernel_rfl) h6
    rw[hM.Xj g] at this;cases this
   have i:=ya c
   clear c
   obtain rfl:=yh n
   go_simp
   exact ⟨_,rfl,m.o.quiet i.o (by decide) (yc _ _),GA.refl _ _,rfl⟩
  |31,_=>
   have c:f.getD 38 false=false:=by
    rw[yj];intro h6
    have:=A3 hM.down 40 38 31 (by kernel_rfl) h6
    rw[hM.Xj g] at this;cases this
   have i:=ya c
   clear c
   have ax:=hM.Xk g 29 37 (by kernel_rfl) (by kernel_rfl)
   unfold AY at ax
   simp only at ax
   have b7:=hM.Xk g 30 38 (by kernel_rfl) (by kernel_rfl)
   unfold AY at b7
   simp only at b7
   obtain rfl:=yh n
   go_simp
   exact ⟨_,rfl,m.o.quiet i.o (by decide) (yc _ _),GA.refl _ _,rfl⟩
  |32,_=>
   have c:f.getD 38 false=false:=by
    rw[yj];intro h6
    have:=A3 hM.down 40 38 32 (by kernel_rfl) h6
    rw[hM.Xj g] at this;cases this
   have i:=ya c
   clear c
   have b9:=hM.Xk g 31 39 (by kernel_rfl) (by kernel_rfl)
   unfold AY at b9
   simp only at b9
   obtain rfl:=yh n
   go_simp
   have k:Below w'.heap.size w' (w'.alloc (.cells #[iV 2,.string ⟨#[109,105,110,101]⟩,.string ⟨#[98,101,97]⟩,iV 0,.string ⟨#[116,97,105,108]⟩,iV 0,iV 0,iV 0,iV 0,iV 0,.string ⟨#[]⟩,iV 0,.slice none 0 0,iV 0,iV 0,iV 0,.string ⟨#[]⟩,iV 0,.slice none 0 0,iV 0,iV 0,iV 0,.string ⟨#[]⟩,iV 0,.slice none 0 0,iV 0,iV 0,iV 0,.string ⟨#[]⟩,iV 0,.slice none 0 0,iV 0,iV 0,iV 0,.string ⟨#[]⟩,iV 0,.slice none 0 0] 68)):=(yc _ _).alloc (ye _) _
   have p:B < w'.heap.size:=yk q (m.o.one i.o).size
   exact ⟨_,rfl,m.o.quiet i.o (by decide) k,GA.below k,w'.heap.size,rfl,p,World.alloc_heap_new _ _⟩
  |33,_=>
   have c:f.getD 38 false=false:=by
    rw[yj];intro h6
    have:=A3 hM.down 40 38 33 (by kernel_rfl) h6
    rw[hM.Xj g] at this;cases this
   have i:=ya c
   clear c
   obtain rfl:=yh n
   go_simp
   exact ⟨_,rfl,m.o.quiet i.o (by decide) (yc _ _),GA.refl _ _,rfl⟩
  |34,_=>
   have c:f.getD 38 false=false:=by
    rw[yj];intro h6
    have:=A3 hM.down 40 38 34 (by kernel_rfl) h6
    rw[hM.Xj g] at this;cases this
   have i:=ya c
   clear c
   obtain rfl:=yh n
   go_simp
   exact ⟨_,rfl,m.o.quiet i.o (by decide) (yc _ _),GA.refl _ _,rfl⟩
  |35,_=>
   have c:f.getD 38 false=false:=by
    rw[yj];intro h6
    have:=A3 hM.down 40 38 35 (by kernel_rfl) h6
    rw[hM.Xj g] at this;cases this
   have i:=ya c
   clear c
   have au:=hM.Xk g 33 41 (by kernel_rfl) (by kernel_rfl)
   unfold AY at au
   simp only at au
   have b4:=hM.Xk g 34 42 (by kernel_rfl) (by kernel_rfl)
   unfold AY at b4
   simp only at b4
   obtain rfl:=yh n
   go_simp
   exact ⟨_,rfl,m.o.quiet i.o (by decide) (yc _ _),GA.refl _ _,rfl⟩
  |36,_=>
   have c:f.getD 38 false=false:=by
    rw[yj];intro h6
    have:=A3 hM.down 40 38 36 (by kernel_rfl) h6
    rw[hM.Xj g] at this;cases this
   have i:=ya c
   clear c
   have aa:=hM.Xk g 35 43 (by kernel_rfl) (by kernel_rfl)
   unfold AY at aa
   simp only at aa
   obtain rfl:=yh n
   go_simp
   have k:Below w'.heap.size w' (w'.alloc (.cells #[.string ⟨#[99,108,101,97,110]⟩,.string ⟨#[98,101,97]⟩,iV 0,.string ⟨#[116,97,105,108]⟩,iV 0,iV 0,iV 0,iV 0,.string ⟨#[]⟩,iV 0,.slice none 0 0] 70)):=(yc _ _).alloc (ye _) _
   have p:B < w'.heap.size:=yk q (m.o.one i.o).size
   exact ⟨_,rfl,m.o.quiet i.o (by decide) k,GA.below k,w'.heap.size,rfl,p,World.alloc_heap_new _ _⟩
  |37,_=>
   have c:f.getD 38 false=false:=by
    rw[yj];intro h6
    have:=A3 hM.down 40 38 37 (by kernel_rfl) h6
    rw[hM.Xj g] at this;cases this
   have i:=ya c
   clear c
   have d8:=hM.Xk g 0 8 (by kernel_rfl) (by kernel_rfl)
   unfold AY at d8
   simp only at d8
   have E:=hM.Xk g 9 17 (by kernel_rfl) (by kernel_rfl)
   unfold AY at E
   simp only at E
   obtain ⟨s,b5,E,r,af⟩:=E
   have F:=hM.Xk g 12 20 (by kernel_rfl) (by kernel_rfl)
   unfold AY at F
   simp only at F
   obtain ⟨a7,F,Z⟩:=F
   have K:=hM.Xk g 16 24 (by kernel_rfl) (by kernel_rfl)
   unfold AY at K
   simp only at K
   obtain ⟨Y,K,a8⟩:=K
   have L:=hM.Xk g 22 30 (by kernel_rfl) (by kernel_rfl)
   unfold AY at L
   simp only at L
   obtain ⟨aj,L,aq⟩:=L
   have H:=hM.Xk g 28 36 (by kernel_rfl) (by kernel_rfl)
   unfold AY at H
   simp only at H
   obtain ⟨z,ag,H,x,ah⟩:=H
   have M:=hM.Xk g 32 40 (by kernel_rfl) (by kernel_rfl)
   unfold AY at M
   simp only at M
   obtain ⟨ab,M,a6⟩:=M
   have I:=hM.Xk g 36 44 (by kernel_rfl) (by kernel_rfl)
   unfold AY at I
   simp only at I
   obtain ⟨ad,I,X⟩:=I
   have y:=ya r;have bp:=ya af;have bb:=ya Z;have bj:=ya a8;have bm:=ya aq;have C:=ya x;have bq:=ya ah;have bk:=ya a6;have ba:=ya X
   clear r af Z a8 aq x ah a6 X
   obtain rfl:=yh n
   go_simp
   exact ⟨_,rfl,m.o.quiet i.o (by decide) (yc _ _),GA.refl _ _,s,b5,a7,Y,aj,z,ag,ab,ad,rfl,y.o,bp.o,bb.o,bj.o,bm.o,C.o,bq.o,bk.o,ba.o⟩
  |38,_=>
   have d:=hM.old g 0 (by kernel_rfl) _ be
   have c:=hM.Xj g
   have A:=hM.Xk g 37 45 (by kernel_rfl) (by kernel_rfl)
   have HP:=ya A
   obtain ⟨cells,V,a0,dv⟩:∃cells:Array Value,cells.size=26∧cells.all (·.oneCell')=true∧a.tmps[45]?.getD undef=.agg cells:=by
    unfold AY at A
    simp only at A
    obtain ⟨s,b5,a7,Y,aj,z,ag,ab,ad,A,_⟩:=A
    exact ⟨_,rfl,by simp[Value.oneCell'],A⟩
   have hb:=m.o.one c
   have bd:w'.heap[B]?=some (.cells row0 35 (0,0)):=(hb.block B q).trans S
   have HL:Hid (38 < f.size):=ya (by rw[bh];show 38 < 39;omega)
   refine wp_store_row 35 (.tmp 0) (.tmp 45) (by obtain rfl:=yh n;rfl) B cells (by simpa[Act.eval] using d) (by simpa[Act.eval] using dv) 35 row0 bd (by rw[V];kernel_rfl) (by rw[V];exact J) a0 ?_
   obtain rfl:=yh n
   refine ⟨undef,rfl,⟨fun h6=>?_,fun _=>⟨w',cells,?_,hb,rfl⟩⟩,fun b o bs bn=>?_,trivial⟩
   ·simp[HL.o] at h6
   ·rw[<-dv];exact HP.o
   ·rw[DH _ _ (by omega)];exact bn
 ·intro f a w' U hM
  obtain ⟨w1,cells,hp,hb,rfl⟩:=hM.ext.two (U 38 (show 38 < 39 by omega))
  exact hQ a w1 cells (hM.tmps.trans hz) hM.defers (G7 (lo:=8) (hi:=45) (by kernel_rfl) hM) hp hb
end Go.Proofs.Ytghepahgkcigpaa
