/- The law's example: num, op, example (printed by gen_ha.py). -/
import Derived.Test.YtjofgpfocadomaaGreatDoorUs0
import Derived.Test.YtjofgpfocadomaaGreatDoorUs17
import Derived.Test.YtjofgpfocadomaaGreatDoorUs8
import Derived.Test.YtjofgpfocadomaaGreatDoorUs10
set_option maxRecDepth 100000
set_option maxHeartbeats 16000000
set_option linter.unusedSimpArgs false
namespace Go.Proofs.YtjofgpfocadomaaGreatDoor
open Go.RowKit
set_option linter.unusedSimpArgs false
theorem Bj(n u:Int)(w:World):Calls Tryz.prog 23 #[.int .i64 n,.int .i64 u] w fun e w'=>e=.returned (.agg #[.int .i64 1,.int .i64 n,.int .i64 u,.string ⟨#[]⟩,.int .i64 0,.slice none 0 0])∧Below w.heap.size w w':=by
 go_enter Tryz.func23,Tryz.ntmps23
 go_wp2
 exact Bv (c:=[iV 1,iV n,iV u,.string ⟨#[]⟩,iV 0,.slice none 0 0]) rfl rfl (World.alloc_heap_new w _) qG rfl (by kernel_rfl) ⟨rfl,(yg _ _).alloc (yf _) _⟩
theorem Ii(op on nn u:Int)(rn:ByteArray)(ri:Int)(p:Option Addr)(m c:Nat)(a b i:Int)(f:ByteArray)(d:Int)(l:Option Addr)(j c2:Nat)(w:World):Calls Tryz.prog 22 #[.int .i64 op,.agg #[.int .i64 on,.int .i64 nn,.int .i64 u,.string rn,.int .i64 ri,.slice p m c],.agg #[.int .i64 a,.int .i64 b,.int .i64 i,.string f,.int .i64 d,.slice l j c2]] w fun e w'=>∃g,e=.returned (.agg #[.int .i64 op,.int .i64 0,.int .i64 0,.string ⟨#[]⟩,.int .i64 0,.slice (some ⟨g,0,none⟩) 2 2])∧w.heap.size<=g∧w'.heap[g]?=some (.cells #[.int .i64 on,.int .i64 nn,.int .i64 u,.string rn,.int .i64 ri,.slice p m c,.int .i64 a,.int .i64 b,.int .i64 i,.string f,.int .i64 d,.slice l j c2] 26 (0,0))∧Below w.heap.size w w':=by
 have h0:=Hj w (.cells #[iV on,iV nn,iV u,.string rn,iV ri,.slice p m c] 26) (.cells #[iV a,iV b,iV i,.string f,iV d,.slice l j c2] 26) (.cells #[iV 0,iV 0,iV 0,.string ⟨#[]⟩,iV 0,.slice none 0 0] 26)
 have h1:=Gn w (.cells #[iV on,iV nn,iV u,.string rn,iV ri,.slice p m c] 26) (.cells #[iV a,iV b,iV i,.string f,iV d,.slice l j c2] 26) (.cells #[iV 0,iV 0,iV 0,.string ⟨#[]⟩,iV 0,.slice none 0 0] 26)
 have h2:=Dh w (.cells #[iV on,iV nn,iV u,.string rn,iV ri,.slice p m c] 26) (.cells #[iV a,iV b,iV i,.string f,iV d,.slice l j c2] 26) (.cells #[iV 0,iV 0,iV 0,.string ⟨#[]⟩,iV 0,.slice none 0 0] 26)
 have hb:=G2 w (.cells #[iV on,iV nn,iV u,.string rn,iV ri,.slice p m c] 26) (.cells #[iV a,iV b,iV i,.string f,iV d,.slice l j c2] 26) (.cells #[iV 0,iV 0,iV 0,.string ⟨#[]⟩,iV 0,.slice none 0 0] 26)
 go_enter Tryz.func22,Tryz.ntmps22
 refine Ae fun K y=>?_
 go_wp2
 refine y.o _ _ ?_
 clear y K
 generalize ((w.alloc _).alloc _).alloc _=W at h0 h1 h2 hb ⊢
 have A:=yb hb
 have r:=(yg W.heap.size W).alloc (yf _) (.cells #[iV on,iV nn,iV u,.string rn,iV ri,.slice p m c,iV a,iV b,iV i,.string f,iV d,.slice l j c2] 26)
 have q:=World.alloc_heap_new W (.cells #[iV on,iV nn,iV u,.string rn,iV ri,.slice p m c,iV a,iV b,iV i,.string f,iV d,.slice l j c2] 26)
 have h:=(r.block _ (yd.1 h2).1).trans h2
 have t:=yb (And.intro q (hb.trans (r.mono hb.size)))
 have z:=yb h
 have x:Hid (w.heap.size+1+1 < W.heap.size):=yb (yd.1 h2).1
 obtain ⟨x0,H,P,L,M,J⟩:=Cg h0
 obtain ⟨I,C,O,B,E,G⟩:=Cg h1
 obtain ⟨N,Q,F,z3,z4,z5⟩:=Cg h
 have D:=fun k=>DX (n:=k) h
 clear h0 h1 h2 hb r q h
 go_wp2
 have s:=Co z.o (iV op) (iV 0) (iV 0) (.string ⟨#[]⟩) (iV 0) (.slice (some (aV W.heap.size 0)) 2 2)
 have v:=A.o.size
 refine Bv (c:=[iV op,iV 0,iV 0,.string ⟨#[]⟩,iV 0,.slice (some (aV W.heap.size 0)) 2 2]) rfl rfl s.row qG rfl (by kernel_rfl) ⟨W.heap.size,rfl,v,(s.block _ (by have:=x.o;omega)).trans t.o.1,s.below t.o.2 (by omega)⟩
def Bk(B:Nat)(w:World)(g:Nat)(row:Array Value)(ty:TypeId):Prop:=B < g∧w.heap[g]?=some (.cells row ty (0,0))
def G8(B:Nat)(w w':World):Prop:=∀(b:Nat) (o:Obj),B < b->w.heap[b]?=some o->w'.heap[b]?=some o
theorem Bk.le{B:Nat}{w w':World}{g:Nat}{row:Array Value}{ty:TypeId}(h:Bk B w g row ty)(a:G8 B w w'):Bk B w' g row ty:=⟨h.1,a _ _ h.1 h.2⟩
theorem G8.below{B:Nat}{w w':World}(h:Below w.heap.size w w'):G8 B w w':=fun b _ _ hb=>(h.block b (yd.1 hb).1).trans hb
theorem G8.refl(B:Nat)(w:World):G8 B w w:=fun _ _ _ h=>h
def Cz(B gf:Nat)(j:Nat)(v:Value)(w:World):Prop:=match j with
 |0=>v=.agg #[.int .i64 1,.int .i64 1,.int .i64 4,.string ⟨#[]⟩,.int .i64 0,.slice none 0 0]
 |1=>v=.agg #[.int .i64 1,.int .i64 5,.int .i64 2,.string ⟨#[]⟩,.int .i64 0,.slice none 0 0]
 |2=>v=.agg #[.string ⟨#[107]⟩,.int .i64 0]
 |3=>v=.agg #[.int .i64 2,.int .i64 0,.int .i64 0,.string ⟨#[107]⟩,.int .i64 0,.slice none 0 0]
 |4=>v=.agg #[.int .i64 1,.int .i64 3,.int .i64 2,.string ⟨#[]⟩,.int .i64 0,.slice none 0 0]
 |5=>v=.agg #[.string ⟨#[107]⟩,.int .i64 1,.int .i64 3,.int .i64 2,.string ⟨#[]⟩,.int .i64 0,.slice none 0 0]
 |6=>∃c:Nat,v=.slice (some ⟨c,0,none⟩) 1 1∧Bk B w c #[.string ⟨#[107]⟩,.int .i64 1,.int .i64 3,.int .i64 2,.string ⟨#[]⟩,.int .i64 0,.slice none 0 0] 50
 |7=>v=.agg #[.int .i64 1,.int .i64 7,.int .i64 1,.string ⟨#[]⟩,.int .i64 0,.slice none 0 0]
 |8=>v=.agg #[.int .i64 1,.int .i64 1,.int .i64 5,.string ⟨#[]⟩,.int .i64 0,.slice none 0 0]
 |9=>∃b:Nat,v=.agg #[.int .i64 6,.int .i64 0,.int .i64 0,.string ⟨#[]⟩,.int .i64 0,.slice (some ⟨b,0,none⟩) 2 2]∧Bk B w b #[.int .i64 1,.int .i64 7,.int .i64 1,.string ⟨#[]⟩,.int .i64 0,.slice none 0 0,.int .i64 1,.int .i64 1,.int .i64 5,.string ⟨#[]⟩,.int .i64 0,.slice none 0 0] 26
 |10=>∃b:Nat,v=.agg #[.string ⟨#[99]⟩,.int .i64 6,.int .i64 0,.int .i64 0,.string ⟨#[]⟩,.int .i64 0,.slice (some ⟨b,0,none⟩) 2 2]∧Bk B w b #[.int .i64 1,.int .i64 7,.int .i64 1,.string ⟨#[]⟩,.int .i64 0,.slice none 0 0,.int .i64 1,.int .i64 1,.int .i64 5,.string ⟨#[]⟩,.int .i64 0,.slice none 0 0] 26
 |11=>∃b f:Nat,v=.slice (some ⟨f,0,none⟩) 1 1∧Bk B w b #[.int .i64 1,.int .i64 7,.int .i64 1,.string ⟨#[]⟩,.int .i64 0,.slice none 0 0,.int .i64 1,.int .i64 1,.int .i64 5,.string ⟨#[]⟩,.int .i64 0,.slice none 0 0] 26∧Bk B w f #[.string ⟨#[99]⟩,.int .i64 6,.int .i64 0,.int .i64 0,.string ⟨#[]⟩,.int .i64 0,.slice (some ⟨b,0,none⟩) 2 2] 92
 |12=>v=.agg #[.int .i64 1,.int .i64 1,.int .i64 3,.string ⟨#[]⟩,.int .i64 0,.slice none 0 0]
 |13=>v=.agg #[.int .i64 6,.int .i64 0,.int .i64 0,.string ⟨#[]⟩,.int .i64 0,.slice (some ⟨gf,0,none⟩) 2 2]
 |14=>v=.agg #[.int .i64 1,.int .i64 90,.int .i64 1,.string ⟨#[]⟩,.int .i64 0,.slice none 0 0]
 |15=>v=.agg #[.int .i64 1,.int .i64 0,.int .i64 1,.string ⟨#[]⟩,.int .i64 0,.slice none 0 0]
 |16=>v=.agg #[.int .i64 1,.int .i64 2,.int .i64 1,.string ⟨#[]⟩,.int .i64 0,.slice none 0 0]
 |17=>v=.agg #[.int .i64 1,.int .i64 0,.int .i64 1,.string ⟨#[]⟩,.int .i64 0,.slice none 0 0,.int .i64 1,.int .i64 2,.int .i64 1,.string ⟨#[]⟩,.int .i64 0,.slice none 0 0]
 |18=>v=.agg #[.int .i64 1,.int .i64 0,.int .i64 0,.string ⟨#[]⟩,.int .i64 0,.slice none 0 0]
 |19=>v=.agg #[.int .i64 1,.int .i64 1,.int .i64 0,.string ⟨#[]⟩,.int .i64 0,.slice none 0 0]
 |20=>v=.agg #[.int .i64 1,.int .i64 8,.int .i64 0,.string ⟨#[]⟩,.int .i64 0,.slice none 0 0]
 |21=>∃a:Nat,v=.agg #[.int .i64 6,.int .i64 0,.int .i64 0,.string ⟨#[]⟩,.int .i64 0,.slice (some ⟨a,0,none⟩) 2 2]∧Bk B w a #[.int .i64 1,.int .i64 1,.int .i64 0,.string ⟨#[]⟩,.int .i64 0,.slice none 0 0,.int .i64 1,.int .i64 8,.int .i64 0,.string ⟨#[]⟩,.int .i64 0,.slice none 0 0] 26
 |22=>∃a:Nat,v=.agg #[.int .i64 1,.int .i64 0,.int .i64 0,.string ⟨#[]⟩,.int .i64 0,.slice none 0 0,.int .i64 6,.int .i64 0,.int .i64 0,.string ⟨#[]⟩,.int .i64 0,.slice (some ⟨a,0,none⟩) 2 2]∧Bk B w a #[.int .i64 1,.int .i64 1,.int .i64 0,.string ⟨#[]⟩,.int .i64 0,.slice none 0 0,.int .i64 1,.int .i64 8,.int .i64 0,.string ⟨#[]⟩,.int .i64 0,.slice none 0 0] 26
 |23=>∃a:Nat,v=.agg #[.string ⟨#[114]⟩,.string ⟨#[]⟩,.int .i64 0,.int .i64 1,.int .i64 1,.int .i64 3,.string ⟨#[]⟩,.int .i64 0,.slice none 0 0,.int .i64 6,.int .i64 0,.int .i64 0,.string ⟨#[]⟩,.int .i64 0,.slice (some ⟨gf,0,none⟩) 2 2,.int .i64 1,.int .i64 90,.int .i64 1,.string ⟨#[]⟩,.int .i64 0,.slice none 0 0,.int .i64 0,.int .i64 0,.int .i64 0,.string ⟨#[]⟩,.int .i64 0,.slice none 0 0,.int .i64 1,.int .i64 0,.int .i64 1,.string ⟨#[]⟩,.int .i64 0,.slice none 0 0,.int .i64 1,.int .i64 2,.int .i64 1,.string ⟨#[]⟩,.int .i64 0,.slice none 0 0,.int .i64 1,.int .i64 0,.int .i64 0,.string ⟨#[]⟩,.int .i64 0,.slice none 0 0,.int .i64 6,.int .i64 0,.int .i64 0,.string ⟨#[]⟩,.int .i64 0,.slice (some ⟨a,0,none⟩) 2 2]∧Bk B w a #[.int .i64 1,.int .i64 1,.int .i64 0,.string ⟨#[]⟩,.int .i64 0,.slice none 0 0,.int .i64 1,.int .i64 8,.int .i64 0,.string ⟨#[]⟩,.int .i64 0,.slice none 0 0] 26
 |24=>∃a d:Nat,v=.slice (some ⟨d,0,none⟩) 1 1∧Bk B w a #[.int .i64 1,.int .i64 1,.int .i64 0,.string ⟨#[]⟩,.int .i64 0,.slice none 0 0,.int .i64 1,.int .i64 8,.int .i64 0,.string ⟨#[]⟩,.int .i64 0,.slice none 0 0] 26∧Bk B w d #[.string ⟨#[114]⟩,.string ⟨#[]⟩,.int .i64 0,.int .i64 1,.int .i64 1,.int .i64 3,.string ⟨#[]⟩,.int .i64 0,.slice none 0 0,.int .i64 6,.int .i64 0,.int .i64 0,.string ⟨#[]⟩,.int .i64 0,.slice (some ⟨gf,0,none⟩) 2 2,.int .i64 1,.int .i64 90,.int .i64 1,.string ⟨#[]⟩,.int .i64 0,.slice none 0 0,.int .i64 0,.int .i64 0,.int .i64 0,.string ⟨#[]⟩,.int .i64 0,.slice none 0 0,.int .i64 1,.int .i64 0,.int .i64 1,.string ⟨#[]⟩,.int .i64 0,.slice none 0 0,.int .i64 1,.int .i64 2,.int .i64 1,.string ⟨#[]⟩,.int .i64 0,.slice none 0 0,.int .i64 1,.int .i64 0,.int .i64 0,.string ⟨#[]⟩,.int .i64 0,.slice none 0 0,.int .i64 6,.int .i64 0,.int .i64 0,.string ⟨#[]⟩,.int .i64 0,.slice (some ⟨a,0,none⟩) 2 2] 66
 |25=>v=.agg #[.string ⟨#[114]⟩,.int .i64 0]
 |26=>v=.agg #[.int .i64 1,.int .i64 20,.int .i64 5,.string ⟨#[]⟩,.int .i64 0,.slice none 0 0]
 |27=>v=.agg #[.string ⟨#[99]⟩,.int .i64 0]
 |28=>v=.agg #[.string ⟨#[102]⟩,.string ⟨#[114]⟩,.int .i64 0,.bool false,.int .i64 1,.int .i64 20,.int .i64 5,.string ⟨#[]⟩,.int .i64 0,.slice none 0 0,.string ⟨#[99]⟩,.int .i64 0]
 |29=>∃e:Nat,v=.slice (some ⟨e,0,none⟩) 1 1∧Bk B w e #[.string ⟨#[102]⟩,.string ⟨#[114]⟩,.int .i64 0,.bool false,.int .i64 1,.int .i64 20,.int .i64 5,.string ⟨#[]⟩,.int .i64 0,.slice none 0 0,.string ⟨#[99]⟩,.int .i64 0] 94
 |30=>∃c b f a d e:Nat,v=.agg #[.string ⟨#[119]⟩,.int .i64 1,.int .i64 1,.int .i64 4,.string ⟨#[]⟩,.int .i64 0,.slice none 0 0,.int .i64 1,.int .i64 5,.int .i64 2,.string ⟨#[]⟩,.int .i64 0,.slice none 0 0,.int .i64 2,.int .i64 0,.int .i64 0,.string ⟨#[107]⟩,.int .i64 0,.slice none 0 0,.slice (some ⟨c,0,none⟩) 1 1,.slice (some ⟨f,0,none⟩) 1 1,.slice (some ⟨d,0,none⟩) 1 1,.slice (some ⟨e,0,none⟩) 1 1,.slice none 0 0,.slice none 0 0,.slice none 0 0]∧Bk B w c #[.string ⟨#[107]⟩,.int .i64 1,.int .i64 3,.int .i64 2,.string ⟨#[]⟩,.int .i64 0,.slice none 0 0] 50∧Bk B w b #[.int .i64 1,.int .i64 7,.int .i64 1,.string ⟨#[]⟩,.int .i64 0,.slice none 0 0,.int .i64 1,.int .i64 1,.int .i64 5,.string ⟨#[]⟩,.int .i64 0,.slice none 0 0] 26∧Bk B w f #[.string ⟨#[99]⟩,.int .i64 6,.int .i64 0,.int .i64 0,.string ⟨#[]⟩,.int .i64 0,.slice (some ⟨b,0,none⟩) 2 2] 92∧Bk B w a #[.int .i64 1,.int .i64 1,.int .i64 0,.string ⟨#[]⟩,.int .i64 0,.slice none 0 0,.int .i64 1,.int .i64 8,.int .i64 0,.string ⟨#[]⟩,.int .i64 0,.slice none 0 0] 26∧Bk B w d #[.string ⟨#[114]⟩,.string ⟨#[]⟩,.int .i64 0,.int .i64 1,.int .i64 1,.int .i64 3,.string ⟨#[]⟩,.int .i64 0,.slice none 0 0,.int .i64 6,.int .i64 0,.int .i64 0,.string ⟨#[]⟩,.int .i64 0,.slice (some ⟨gf,0,none⟩) 2 2,.int .i64 1,.int .i64 90,.int .i64 1,.string ⟨#[]⟩,.int .i64 0,.slice none 0 0,.int .i64 0,.int .i64 0,.int .i64 0,.string ⟨#[]⟩,.int .i64 0,.slice none 0 0,.int .i64 1,.int .i64 0,.int .i64 1,.string ⟨#[]⟩,.int .i64 0,.slice none 0 0,.int .i64 1,.int .i64 2,.int .i64 1,.string ⟨#[]⟩,.int .i64 0,.slice none 0 0,.int .i64 1,.int .i64 0,.int .i64 0,.string ⟨#[]⟩,.int .i64 0,.slice none 0 0,.int .i64 6,.int .i64 0,.int .i64 0,.string ⟨#[]⟩,.int .i64 0,.slice (some ⟨a,0,none⟩) 2 2] 66∧Bk B w e #[.string ⟨#[102]⟩,.string ⟨#[114]⟩,.int .i64 0,.bool false,.int .i64 1,.int .i64 20,.int .i64 5,.string ⟨#[]⟩,.int .i64 0,.slice none 0 0,.string ⟨#[99]⟩,.int .i64 0] 94
 |_=>True
theorem QO{B gf:Nat}(j:Nat)(v:Value)(w w':World)(b:G8 B w w')(h:Cz B gf j v w):Cz B gf j v w':=by
 match j,h with
 |0,h=>exact h
 |1,h=>exact h
 |2,h=>exact h
 |3,h=>exact h
 |4,h=>exact h
 |5,h=>exact h
 |6,h=>
  obtain ⟨e,h0,b13⟩:=h
  exact ⟨e,h0,b13.le b⟩
 |7,h=>exact h
 |8,h=>exact h
 |9,h=>
  obtain ⟨c,h0,b16⟩:=h
  exact ⟨c,h0,b16.le b⟩
 |10,h=>
  obtain ⟨c,h0,b16⟩:=h
  exact ⟨c,h0,b16.le b⟩
 |11,h=>
  obtain ⟨c,g,h0,b16,b18⟩:=h
  exact ⟨c,g,h0,b16.le b,b18.le b⟩
 |12,h=>exact h
 |13,h=>exact h
 |14,h=>exact h
 |15,h=>exact h
 |16,h=>exact h
 |17,h=>exact h
 |18,h=>exact h
 |19,h=>exact h
 |20,h=>exact h
 |21,h=>
  obtain ⟨a,h0,b28⟩:=h
  exact ⟨a,h0,b28.le b⟩
 |22,h=>
  obtain ⟨a,h0,b28⟩:=h
  exact ⟨a,h0,b28.le b⟩
 |23,h=>
  obtain ⟨a,h0,b28⟩:=h
  exact ⟨a,h0,b28.le b⟩
 |24,h=>
  obtain ⟨a,d,h0,b28,b31⟩:=h
  exact ⟨a,d,h0,b28.le b,b31.le b⟩
 |25,h=>exact h
 |26,h=>exact h
 |27,h=>exact h
 |28,h=>exact h
 |29,h=>
  obtain ⟨f,h0,b36⟩:=h
  exact ⟨f,h0,b36.le b⟩
 |30,h=>
  obtain ⟨e,c,g,a,d,f,h0,b13,b16,b18,b28,b31,b36⟩:=h
  exact ⟨e,c,g,a,d,f,h0,b13.le b,b16.le b,b18.le b,b28.le b,b31.le b,b36.le b⟩
 |_+31,_=>trivial
structure N4 (W:World) (B gf:Nat) (l:Array Bool) (w:World):Prop where
 one:l.getD 31 false=false->Below W.heap.size W w
 two:l.getD 31 false=true->∃w1 cells,Cz B gf 30 (.agg cells) w1∧Below W.heap.size W w1∧w=w1.setRow B cells
theorem N4.quiet{W:World}{B gf:Nat}{l:Array Bool}{w w2:World}{i:Nat}(h:N4 W B gf l w)(n:l.getD 31 false=false)(hi:i≠31)(hb:Below w.heap.size w w2):N4 W B gf (l.setIfInBounds i true) w2:=
 ⟨fun _=>(h.one n).trans (hb.mono (h.one n).size),fun a=>by rw[A8 hi,n] at a;cases a⟩
theorem Un{U:Act}{W0:World}{Q:QT}{B B1 B2 gf:Nat}{row0:Array Value}(ops:Array Oper)(R:DH Tryz.f21 3=some ops)
 (ay:U.tmps.getD 0 undef=.pointer (some ⟨B,0,none⟩))(b7:U.tmps.getD 1 undef=.pointer (some ⟨B1,0,none⟩))(aw:U.tmps.getD 2 undef=.pointer (some ⟨B2,0,none⟩))(hz:U.tmps.size=38)(x:B < W0.heap.size)(ak:B1 < W0.heap.size)(ai:B2 < W0.heap.size)(S:W0.heap[B]?=some (.cells row0 35 (0,0)))(H:row0.size=26)
 (p:W0.rangeAt B1 0 [.int .i64 6,.int .i64 0,.int .i64 0,.string ⟨#[]⟩,.int .i64 0,.slice (some ⟨gf,0,none⟩) 2 2])(n:W0.rangeAt B2 0 [.int .i64 1,.int .i64 0,.int .i64 0,.string ⟨#[]⟩,.int .i64 0,.slice none 0 0])
 (hQ:∀(a:Act) w1 cells,a.tmps.size=38->a.defers=U.defers->(∀t,(t < 7∨37 < t)->a.tmps.getD t undef=U.tmps.getD t undef)->Cz B gf 30 (.agg cells) w1->Below W0.heap.size W0 w1->Q .normal a (w1.setRow B cells)):
  (Code.region 3 ops true).wp Tryz.prog Q U W0:=by
 obtain rfl:=yi ((rfl:DH Tryz.f21 3=some _).symm.trans R)
 clear R
 refine BN (by kernel_rfl) (fun l _ w=>N4 W0 B gf l w) (Cz B gf) (fun _=>G8 B) (by kernel_rfl) (by rw[hz];kernel_rfl) (by kernel_rfl) (fun _ j v w w' _ _ hl h=>QO j v w w' hl h) ⟨fun _=>(yg _ _).drew,fun h=>(by cases h)⟩ ?_ ?_
 ·intro ix c a w' hM f o s
  have r:=yb hM.ext
  have av:=(yd.1 s).1
  have az:=hM.size
  match ix,av with
  |0,_=>
   have i:c.getD 31 false=false:=by
    rw[ym];intro q
    have:=A1 hM.down 40 31 0 (by kernel_rfl) q
    rw[hM.not_yet f] at this;cases this
   have m:=yb i
   clear i p n
   obtain rfl:=yi s
   go_simp
   refine (Bj 1 4 _).mono ?_
   rintro e w2 ⟨rfl,k⟩
   exact ⟨_,rfl,r.o.quiet m.o (by decide) k,G8.below k,rfl⟩
  |1,_=>
   have i:c.getD 31 false=false:=by
    rw[ym];intro q
    have:=A1 hM.down 40 31 1 (by kernel_rfl) q
    rw[hM.not_yet f] at this;cases this
   have m:=yb i
   clear i p n
   obtain rfl:=yi s
   go_simp
   refine (Bj 5 2 _).mono ?_
   rintro e w2 ⟨rfl,k⟩
   exact ⟨_,rfl,r.o.quiet m.o (by decide) k,G8.below k,rfl⟩
  |2,_=>
   have i:c.getD 31 false=false:=by
    rw[ym];intro q
    have:=A1 hM.down 40 31 2 (by kernel_rfl) q
    rw[hM.not_yet f] at this;cases this
   have m:=yb i
   clear i p n
   obtain rfl:=yi s
   go_simp
   exact ⟨_,rfl,r.o.quiet m.o (by decide) (yg _ _),G8.refl _ _,rfl⟩
  |3,_=>
   have i:c.getD 31 false=false:=by
    rw[ym];intro q
    have:=A1 hM.down 40 31 3 (by kernel_rfl) q
    rw[hM.not_yet f] at this;cases this
   have m:=yb i
   clear i
   have d9:=hM.dep f 2 9 (by kernel_rfl) (by kernel_rfl)
   unfold Cz at d9
   simp only at d9
   clear p n
   obtain rfl:=yi s
   go_simp
   exact ⟨_,rfl,r.o.quiet m.o (by decide) (yg _ _),G8.refl _ _,rfl⟩
  |4,_=>
   have i:c.getD 31 false=false:=by
    rw[ym];intro q
    have:=A1 hM.down 40 31 4 (by kernel_rfl) q
    rw[hM.not_yet f] at this;cases this
   have m:=yb i
   clear i p n
   obtain rfl:=yi s
   go_simp
   refine (Bj 3 2 _).mono ?_
   rintro e w2 ⟨rfl,k⟩
   exact ⟨_,rfl,r.o.quiet m.o (by decide) k,G8.below k,rfl⟩
  |5,_=>
   have i:c.getD 31 false=false:=by
    rw[ym];intro q
    have:=A1 hM.down 40 31 5 (by kernel_rfl) q
    rw[hM.not_yet f] at this;cases this
   have m:=yb i
   clear i
   have a6:=hM.dep f 4 11 (by kernel_rfl) (by kernel_rfl)
   unfold Cz at a6
   simp only at a6
   clear p n
   obtain rfl:=yi s
   go_simp
   exact ⟨_,rfl,r.o.quiet m.o (by decide) (yg _ _),G8.refl _ _,rfl⟩
  |6,_=>
   have i:c.getD 31 false=false:=by
    rw[ym];intro q
    have:=A1 hM.down 40 31 6 (by kernel_rfl) q
    rw[hM.not_yet f] at this;cases this
   have m:=yb i
   clear i
   have ad:=hM.dep f 5 12 (by kernel_rfl) (by kernel_rfl)
   unfold Cz at ad
   simp only at ad
   clear p n
   obtain rfl:=yi s
   go_simp
   have u:Below w'.heap.size w' (w'.alloc (.cells #[.string ⟨#[107]⟩,iV 1,iV 3,iV 2,.string ⟨#[]⟩,iV 0,.slice none 0 0] 50)):=(yg _ _).alloc (yf _) _
   have y:B < w'.heap.size:=yu x (r.o.one m.o).size
   exact ⟨_,rfl,r.o.quiet m.o (by decide) u,G8.below u,w'.heap.size,rfl,y,World.alloc_heap_new _ _⟩
  |7,_=>
   have i:c.getD 31 false=false:=by
    rw[ym];intro q
    have:=A1 hM.down 40 31 7 (by kernel_rfl) q
    rw[hM.not_yet f] at this;cases this
   have m:=yb i
   clear i p n
   obtain rfl:=yi s
   go_simp
   refine (Bj 7 1 _).mono ?_
   rintro e w2 ⟨rfl,k⟩
   exact ⟨_,rfl,r.o.quiet m.o (by decide) k,G8.below k,rfl⟩
  |8,_=>
   have i:c.getD 31 false=false:=by
    rw[ym];intro q
    have:=A1 hM.down 40 31 8 (by kernel_rfl) q
    rw[hM.not_yet f] at this;cases this
   have m:=yb i
   clear i p n
   obtain rfl:=yi s
   go_simp
   refine (Bj 1 5 _).mono ?_
   rintro e w2 ⟨rfl,k⟩
   exact ⟨_,rfl,r.o.quiet m.o (by decide) k,G8.below k,rfl⟩
  |9,_=>
   have i:c.getD 31 false=false:=by
    rw[ym];intro q
    have:=A1 hM.down 40 31 9 (by kernel_rfl) q
    rw[hM.not_yet f] at this;cases this
   have m:=yb i
   clear i
   have aa:=hM.dep f 7 14 (by kernel_rfl) (by kernel_rfl)
   unfold Cz at aa
   simp only at aa
   have ah:=hM.dep f 8 15 (by kernel_rfl) (by kernel_rfl)
   unfold Cz at ah
   simp only at ah
   clear p n
   obtain rfl:=yi s
   go_simp
   refine (Ii 6 _ _ _ _ _ _ _ _ _ _ _ _ _ _ _ _ _).mono ?_
   rintro e w2 ⟨g,rfl,hg,F,k⟩
   have y:B < g:=yu (yu x (r.o.one m.o).size) hg
   exact ⟨_,rfl,r.o.quiet m.o (by decide) k,G8.below k,g,rfl,y,F⟩
  |10,_=>
   have i:c.getD 31 false=false:=by
    rw[ym];intro q
    have:=A1 hM.down 40 31 10 (by kernel_rfl) q
    rw[hM.not_yet f] at this;cases this
   have m:=yb i
   clear i
   have J:=hM.dep f 9 16 (by kernel_rfl) (by kernel_rfl)
   unfold Cz at J
   simp only at J
   obtain ⟨C,J,b16⟩:=J
   have E:=yb b16
   clear b16 p n
   obtain rfl:=yi s
   go_simp
   exact ⟨_,rfl,r.o.quiet m.o (by decide) (yg _ _),G8.refl _ _,C,rfl,E.o⟩
  |11,_=>
   have i:c.getD 31 false=false:=by
    rw[ym];intro q
    have:=A1 hM.down 40 31 11 (by kernel_rfl) q
    rw[hM.not_yet f] at this;cases this
   have m:=yb i
   clear i
   have O:=hM.dep f 10 17 (by kernel_rfl) (by kernel_rfl)
   unfold Cz at O
   simp only at O
   obtain ⟨C,O,b16⟩:=O
   have E:=yb b16
   clear b16 p n
   obtain rfl:=yi s
   go_simp
   have u:Below w'.heap.size w' (w'.alloc (.cells #[.string ⟨#[99]⟩,iV 6,iV 0,iV 0,.string ⟨#[]⟩,iV 0,.slice (some (aV C 0)) 2 2] 92)):=(yg _ _).alloc (yf _) _
   have y:B < w'.heap.size:=yu x (r.o.one m.o).size
   exact ⟨_,rfl,r.o.quiet m.o (by decide) u,G8.below u,C,w'.heap.size,rfl,E.o.le (G8.below u),y,World.alloc_heap_new _ _⟩
  |12,_=>
   have i:c.getD 31 false=false:=by
    rw[ym];intro q
    have:=A1 hM.down 40 31 12 (by kernel_rfl) q
    rw[hM.not_yet f] at this;cases this
   have m:=yb i
   clear i p n
   obtain rfl:=yi s
   go_simp
   refine (Bj 1 3 _).mono ?_
   rintro e w2 ⟨rfl,k⟩
   exact ⟨_,rfl,r.o.quiet m.o (by decide) k,G8.below k,rfl⟩
  |13,_=>
   have i:c.getD 31 false=false:=by
    rw[ym];intro q
    have:=A1 hM.down 40 31 13 (by kernel_rfl) q
    rw[hM.not_yet f] at this;cases this
   have m:=yb i
   clear i
   have d:=hM.old f 1 (by kernel_rfl) _ b7
   have T:=yb (A0 p ((r.o.one m.o).block _ ak))
   clear p n
   obtain rfl:=yi s
   refine xL 26 _ rfl B1 0 (by simpa[Act.eval] using d) [iV 6,iV 0,iV 0,.string ⟨#[]⟩,iV 0,.slice (some (aV gf 0)) 2 2] _ T.o qG rfl (by kernel_rfl) ?_
   exact ⟨_,rfl,r.o.quiet m.o (by decide) (yg _ _),G8.refl _ _,rfl⟩
  |14,_=>
   have i:c.getD 31 false=false:=by
    rw[ym];intro q
    have:=A1 hM.down 40 31 14 (by kernel_rfl) q
    rw[hM.not_yet f] at this;cases this
   have m:=yb i
   clear i p n
   obtain rfl:=yi s
   go_simp
   refine (Bj 90 1 _).mono ?_
   rintro e w2 ⟨rfl,k⟩
   exact ⟨_,rfl,r.o.quiet m.o (by decide) k,G8.below k,rfl⟩
  |15,_=>
   have i:c.getD 31 false=false:=by
    rw[ym];intro q
    have:=A1 hM.down 40 31 15 (by kernel_rfl) q
    rw[hM.not_yet f] at this;cases this
   have m:=yb i
   clear i p n
   obtain rfl:=yi s
   go_simp
   refine (Bj 0 1 _).mono ?_
   rintro e w2 ⟨rfl,k⟩
   exact ⟨_,rfl,r.o.quiet m.o (by decide) k,G8.below k,rfl⟩
  |16,_=>
   have i:c.getD 31 false=false:=by
    rw[ym];intro q
    have:=A1 hM.down 40 31 16 (by kernel_rfl) q
    rw[hM.not_yet f] at this;cases this
   have m:=yb i
   clear i p n
   obtain rfl:=yi s
   go_simp
   refine (Bj 2 1 _).mono ?_
   rintro e w2 ⟨rfl,k⟩
   exact ⟨_,rfl,r.o.quiet m.o (by decide) k,G8.below k,rfl⟩
  |17,_=>
   have i:c.getD 31 false=false:=by
    rw[ym];intro q
    have:=A1 hM.down 40 31 17 (by kernel_rfl) q
    rw[hM.not_yet f] at this;cases this
   have m:=yb i
   clear i
   have X:=hM.dep f 15 22 (by kernel_rfl) (by kernel_rfl)
   unfold Cz at X
   simp only at X
   have af:=hM.dep f 16 23 (by kernel_rfl) (by kernel_rfl)
   unfold Cz at af
   simp only at af
   clear p n
   obtain rfl:=yi s
   go_simp
   exact ⟨_,rfl,r.o.quiet m.o (by decide) (yg _ _),G8.refl _ _,rfl⟩
  |18,_=>
   have i:c.getD 31 false=false:=by
    rw[ym];intro q
    have:=A1 hM.down 40 31 18 (by kernel_rfl) q
    rw[hM.not_yet f] at this;cases this
   have m:=yb i
   clear i
   have d:=hM.old f 2 (by kernel_rfl) _ aw
   have T:=yb (A0 n ((r.o.one m.o).block _ ai))
   clear p n
   obtain rfl:=yi s
   refine xL 26 _ rfl B2 0 (by simpa[Act.eval] using d) [iV 1,iV 0,iV 0,.string ⟨#[]⟩,iV 0,.slice none 0 0] _ T.o qG rfl (by kernel_rfl) ?_
   exact ⟨_,rfl,r.o.quiet m.o (by decide) (yg _ _),G8.refl _ _,rfl⟩
  |19,_=>
   have i:c.getD 31 false=false:=by
    rw[ym];intro q
    have:=A1 hM.down 40 31 19 (by kernel_rfl) q
    rw[hM.not_yet f] at this;cases this
   have m:=yb i
   clear i p n
   obtain rfl:=yi s
   go_simp
   refine (Bj 1 0 _).mono ?_
   rintro e w2 ⟨rfl,k⟩
   exact ⟨_,rfl,r.o.quiet m.o (by decide) k,G8.below k,rfl⟩
  |20,_=>
   have i:c.getD 31 false=false:=by
    rw[ym];intro q
    have:=A1 hM.down 40 31 20 (by kernel_rfl) q
    rw[hM.not_yet f] at this;cases this
   have m:=yb i
   clear i p n
   obtain rfl:=yi s
   go_simp
   refine (Bj 8 0 _).mono ?_
   rintro e w2 ⟨rfl,k⟩
   exact ⟨_,rfl,r.o.quiet m.o (by decide) k,G8.below k,rfl⟩
  |21,_=>
   have i:c.getD 31 false=false:=by
    rw[ym];intro q
    have:=A1 hM.down 40 31 21 (by kernel_rfl) q
    rw[hM.not_yet f] at this;cases this
   have m:=yb i
   clear i
   have aj:=hM.dep f 19 26 (by kernel_rfl) (by kernel_rfl)
   unfold Cz at aj
   simp only at aj
   have ag:=hM.dep f 20 27 (by kernel_rfl) (by kernel_rfl)
   unfold Cz at ag
   simp only at ag
   clear p n
   obtain rfl:=yi s
   go_simp
   refine (Ii 6 _ _ _ _ _ _ _ _ _ _ _ _ _ _ _ _ _).mono ?_
   rintro e w2 ⟨g,rfl,hg,F,k⟩
   have y:B < g:=yu (yu x (r.o.one m.o).size) hg
   exact ⟨_,rfl,r.o.quiet m.o (by decide) k,G8.below k,g,rfl,y,F⟩
  |22,_=>
   have i:c.getD 31 false=false:=by
    rw[ym];intro q
    have:=A1 hM.down 40 31 22 (by kernel_rfl) q
    rw[hM.not_yet f] at this;cases this
   have m:=yb i
   clear i
   have a7:=hM.dep f 18 25 (by kernel_rfl) (by kernel_rfl)
   unfold Cz at a7
   simp only at a7
   have M:=hM.dep f 21 28 (by kernel_rfl) (by kernel_rfl)
   unfold Cz at M
   simp only at M
   obtain ⟨z,M,b28⟩:=M
   have A:=yb b28
   clear b28 p n
   obtain rfl:=yi s
   go_simp
   exact ⟨_,rfl,r.o.quiet m.o (by decide) (yg _ _),G8.refl _ _,z,rfl,A.o⟩
  |23,_=>
   have i:c.getD 31 false=false:=by
    rw[ym];intro q
    have:=A1 hM.down 40 31 23 (by kernel_rfl) q
    rw[hM.not_yet f] at this;cases this
   have m:=yb i
   clear i
   have ab:=hM.dep f 12 19 (by kernel_rfl) (by kernel_rfl)
   unfold Cz at ab
   simp only at ab
   have Z:=hM.dep f 13 20 (by kernel_rfl) (by kernel_rfl)
   unfold Cz at Z
   simp only at Z
   have an:=hM.dep f 14 21 (by kernel_rfl) (by kernel_rfl)
   unfold Cz at an
   simp only at an
   have Y:=hM.dep f 17 24 (by kernel_rfl) (by kernel_rfl)
   unfold Cz at Y
   simp only at Y
   have I:=hM.dep f 22 29 (by kernel_rfl) (by kernel_rfl)
   unfold Cz at I
   simp only at I
   obtain ⟨z,I,b28⟩:=I
   have A:=yb b28
   clear b28 p n
   obtain rfl:=yi s
   go_simp
   exact ⟨_,rfl,r.o.quiet m.o (by decide) (yg _ _),G8.refl _ _,z,rfl,A.o⟩
  |24,_=>
   have i:c.getD 31 false=false:=by
    rw[ym];intro q
    have:=A1 hM.down 40 31 24 (by kernel_rfl) q
    rw[hM.not_yet f] at this;cases this
   have m:=yb i
   clear i
   have G:=hM.dep f 23 30 (by kernel_rfl) (by kernel_rfl)
   unfold Cz at G
   simp only at G
   obtain ⟨z,G,b28⟩:=G
   have A:=yb b28
   clear b28 p n
   obtain rfl:=yi s
   go_simp
   have u:Below w'.heap.size w' (w'.alloc (.cells #[.string ⟨#[114]⟩,.string ⟨#[]⟩,iV 0,iV 1,iV 1,iV 3,.string ⟨#[]⟩,iV 0,.slice none 0 0,iV 6,iV 0,iV 0,.string ⟨#[]⟩,iV 0,.slice (some (aV gf 0)) 2 2,iV 1,iV 90,iV 1,.string ⟨#[]⟩,iV 0,.slice none 0 0,iV 0,iV 0,iV 0,.string ⟨#[]⟩,iV 0,.slice none 0 0,iV 1,iV 0,iV 1,.string ⟨#[]⟩,iV 0,.slice none 0 0,iV 1,iV 2,iV 1,.string ⟨#[]⟩,iV 0,.slice none 0 0,iV 1,iV 0,iV 0,.string ⟨#[]⟩,iV 0,.slice none 0 0,iV 6,iV 0,iV 0,.string ⟨#[]⟩,iV 0,.slice (some (aV z 0)) 2 2] 66)):=(yg _ _).alloc (yf _) _
   have y:B < w'.heap.size:=yu x (r.o.one m.o).size
   exact ⟨_,rfl,r.o.quiet m.o (by decide) u,G8.below u,z,w'.heap.size,rfl,A.o.le (G8.below u),y,World.alloc_heap_new _ _⟩
  |25,_=>
   have i:c.getD 31 false=false:=by
    rw[ym];intro q
    have:=A1 hM.down 40 31 25 (by kernel_rfl) q
    rw[hM.not_yet f] at this;cases this
   have m:=yb i
   clear i p n
   obtain rfl:=yi s
   go_simp
   exact ⟨_,rfl,r.o.quiet m.o (by decide) (yg _ _),G8.refl _ _,rfl⟩
  |26,_=>
   have i:c.getD 31 false=false:=by
    rw[ym];intro q
    have:=A1 hM.down 40 31 26 (by kernel_rfl) q
    rw[hM.not_yet f] at this;cases this
   have m:=yb i
   clear i p n
   obtain rfl:=yi s
   go_simp
   refine (Bj 20 5 _).mono ?_
   rintro e w2 ⟨rfl,k⟩
   exact ⟨_,rfl,r.o.quiet m.o (by decide) k,G8.below k,rfl⟩
  |27,_=>
   have i:c.getD 31 false=false:=by
    rw[ym];intro q
    have:=A1 hM.down 40 31 27 (by kernel_rfl) q
    rw[hM.not_yet f] at this;cases this
   have m:=yb i
   clear i p n
   obtain rfl:=yi s
   go_simp
   exact ⟨_,rfl,r.o.quiet m.o (by decide) (yg _ _),G8.refl _ _,rfl⟩
  |28,_=>
   have i:c.getD 31 false=false:=by
    rw[ym];intro q
    have:=A1 hM.down 40 31 28 (by kernel_rfl) q
    rw[hM.not_yet f] at this;cases this
   have m:=yb i
   clear i
   have a0:=hM.dep f 25 32 (by kernel_rfl) (by kernel_rfl)
   unfold Cz at a0
   simp only at a0
   have V:=hM.dep f 26 33 (by kernel_rfl) (by kernel_rfl)
   unfold Cz at V
   simp only at V
   have W:=hM.dep f 27 34 (by kernel_rfl) (by kernel_rfl)
   unfold Cz at W
   simp only at W
   clear p n
   obtain rfl:=yi s
   go_simp
   exact ⟨_,rfl,r.o.quiet m.o (by decide) (yg _ _),G8.refl _ _,rfl⟩
  |29,_=>
   have i:c.getD 31 false=false:=by
    rw[ym];intro q
    have:=A1 hM.down 40 31 29 (by kernel_rfl) q
    rw[hM.not_yet f] at this;cases this
   have m:=yb i
   clear i
   have al:=hM.dep f 28 35 (by kernel_rfl) (by kernel_rfl)
   unfold Cz at al
   simp only at al
   clear p n
   obtain rfl:=yi s
   go_simp
   have u:Below w'.heap.size w' (w'.alloc (.cells #[.string ⟨#[102]⟩,.string ⟨#[114]⟩,iV 0,.bool false,iV 1,iV 20,iV 5,.string ⟨#[]⟩,iV 0,.slice none 0 0,.string ⟨#[99]⟩,iV 0] 94)):=(yg _ _).alloc (yf _) _
   have y:B < w'.heap.size:=yu x (r.o.one m.o).size
   exact ⟨_,rfl,r.o.quiet m.o (by decide) u,G8.below u,w'.heap.size,rfl,y,World.alloc_heap_new _ _⟩
  |30,_=>
   have i:c.getD 31 false=false:=by
    rw[ym];intro q
    have:=A1 hM.down 40 31 30 (by kernel_rfl) q
    rw[hM.not_yet f] at this;cases this
   have m:=yb i
   clear i
   have d7:=hM.dep f 0 7 (by kernel_rfl) (by kernel_rfl)
   unfold Cz at d7
   simp only at d7
   have d8:=hM.dep f 1 8 (by kernel_rfl) (by kernel_rfl)
   unfold Cz at d8
   simp only at d8
   have ac:=hM.dep f 3 10 (by kernel_rfl) (by kernel_rfl)
   unfold Cz at ac
   simp only at ac
   have N:=hM.dep f 6 13 (by kernel_rfl) (by kernel_rfl)
   unfold Cz at N
   simp only at N
   obtain ⟨a8,N,b13⟩:=N
   have L:=hM.dep f 11 18 (by kernel_rfl) (by kernel_rfl)
   unfold Cz at L
   simp only at L
   obtain ⟨C,a2,L,b16,b18⟩:=L
   have P:=hM.dep f 24 31 (by kernel_rfl) (by kernel_rfl)
   unfold Cz at P
   simp only at P
   obtain ⟨z,ae,P,b28,b31⟩:=P
   have K:=hM.dep f 29 36 (by kernel_rfl) (by kernel_rfl)
   unfold Cz at K
   simp only at K
   obtain ⟨aq,K,b36⟩:=K
   have ax:=yb b13;have E:=yb b16;have b0:=yb b18;have A:=yb b28;have au:=yb b31;have b4:=yb b36
   clear b13 b16 b18 b28 b31 b36 p n
   obtain rfl:=yi s
   go_simp
   exact ⟨_,rfl,r.o.quiet m.o (by decide) (yg _ _),G8.refl _ _,a8,C,a2,z,ae,aq,rfl,ax.o,E.o,b0.o,A.o,au.o,b4.o⟩
  |31,_=>
   have d:=hM.old f 0 (by kernel_rfl) _ ay
   have i:=hM.not_yet f
   have D:=hM.dep f 30 37 (by kernel_rfl) (by kernel_rfl)
   have HP:=yb D
   obtain ⟨cells,ap,ao,dv⟩:∃cells:Array Value,cells.size=26∧cells.all (·.oneCell')=true∧a.tmps[37]?.getD undef=.agg cells:=by
    unfold Cz at D
    simp only at D
    obtain ⟨a8,C,a2,z,ae,aq,D,_⟩:=D
    exact ⟨_,rfl,by simp[Value.oneCell'],D⟩
   have hb:=r.o.one i
   have b5:w'.heap[B]?=some (.cells row0 35 (0,0)):=(hb.block B x).trans S
   have HL:Hid (31 < c.size):=yb (by rw[az];show 31 < 32;omega)
   refine wp_store_row 35 (.tmp 0) (.tmp 37) (by obtain rfl:=yi s;rfl) B cells (by simpa[Act.eval] using d) (by simpa[Act.eval] using dv) 35 row0 b5 (by rw[ap];kernel_rfl) (by rw[ap];exact H) ao ?_
   obtain rfl:=yi s
   refine ⟨undef,rfl,⟨fun q=>?_,fun _=>⟨w',cells,?_,hb,rfl⟩⟩,fun b o b8 ar=>?_,trivial⟩
   ·simp[HL.o] at q
   ·rw[<-dv];exact HP.o
   ·rw[Cr _ _ (by omega)];exact ar
 ·intro c a w' am hM
  obtain ⟨w1,cells,hp,hb,rfl⟩:=hM.ext.two (am 31 (show 31 < 32 by omega))
  exact hQ a w1 cells (hM.tmps.trans hz) hM.defers (EU (lo:=7) (hi:=37) (by kernel_rfl) hM) hp hb
end Go.Proofs.YtjofgpfocadomaaGreatDoor
