/- The law's example: num, op, example (printed by gen_ha.py). -/
import Derived.Test.YtjofgpfocadomaaGreatDoorUc0
import Derived.Test.YtjofgpfocadomaaGreatDoorUc16
import Derived.Test.YtjofgpfocadomaaGreatDoorUc7
import Derived.Test.YtjofgpfocadomaaGreatDoorUc9
set_option maxRecDepth 100000
set_option maxHeartbeats 16000000
set_option linter.unusedSimpArgs false
namespace Go.Proofs.YtjofgpfocadomaaGreatDoor
open Go.RowKit
set_option linter.unusedSimpArgs false
theorem Bo(n u:Int)(w:World):Calls Tryz.prog 23 #[.int .i64 n,.int .i64 u] w fun e w'=>e=.returned (.agg #[.int .i64 1,.int .i64 n,.int .i64 u,.string ⟨#[]⟩,.int .i64 0,.slice none 0 0])∧Below w.heap.size w w':=by
 go_enter Tryz.func23,Tryz.ntmps23
 go_wp2
 exact Bl (c:=[iV 1,iV n,iV u,.string ⟨#[]⟩,iV 0,.slice none 0 0]) rfl rfl (World.alloc_heap_new w _) qP rfl (by kernel_rfl) ⟨rfl,(yg _ _).alloc (yf _) _⟩
theorem IG(op on nn u:Int)(rn:ByteArray)(ri:Int)(p:Option Addr)(m c:Nat)(f b j:Int)(d:ByteArray)(a:Int)(l:Option Addr)(i c2:Nat)(w:World):Calls Tryz.prog 22 #[.int .i64 op,.agg #[.int .i64 on,.int .i64 nn,.int .i64 u,.string rn,.int .i64 ri,.slice p m c],.agg #[.int .i64 f,.int .i64 b,.int .i64 j,.string d,.int .i64 a,.slice l i c2]] w fun e w'=>∃g,e=.returned (.agg #[.int .i64 op,.int .i64 0,.int .i64 0,.string ⟨#[]⟩,.int .i64 0,.slice (some ⟨g,0,none⟩) 2 2])∧w.heap.size<=g∧w'.heap[g]?=some (.cells #[.int .i64 on,.int .i64 nn,.int .i64 u,.string rn,.int .i64 ri,.slice p m c,.int .i64 f,.int .i64 b,.int .i64 j,.string d,.int .i64 a,.slice l i c2] 26 (0,0))∧Below w.heap.size w w':=by
 have h0:=I6 w (.cells #[iV on,iV nn,iV u,.string rn,iV ri,.slice p m c] 26) (.cells #[iV f,iV b,iV j,.string d,iV a,.slice l i c2] 26) (.cells #[iV 0,iV 0,iV 0,.string ⟨#[]⟩,iV 0,.slice none 0 0] 26)
 have h1:=GD w (.cells #[iV on,iV nn,iV u,.string rn,iV ri,.slice p m c] 26) (.cells #[iV f,iV b,iV j,.string d,iV a,.slice l i c2] 26) (.cells #[iV 0,iV 0,iV 0,.string ⟨#[]⟩,iV 0,.slice none 0 0] 26)
 have h2:=Dr w (.cells #[iV on,iV nn,iV u,.string rn,iV ri,.slice p m c] 26) (.cells #[iV f,iV b,iV j,.string d,iV a,.slice l i c2] 26) (.cells #[iV 0,iV 0,iV 0,.string ⟨#[]⟩,iV 0,.slice none 0 0] 26)
 have hb:=Gj w (.cells #[iV on,iV nn,iV u,.string rn,iV ri,.slice p m c] 26) (.cells #[iV f,iV b,iV j,.string d,iV a,.slice l i c2] 26) (.cells #[iV 0,iV 0,iV 0,.string ⟨#[]⟩,iV 0,.slice none 0 0] 26)
 go_enter Tryz.func22,Tryz.ntmps22
 refine Ab fun K y=>?_
 go_wp2
 refine y.o _ _ ?_
 clear y K
 generalize ((w.alloc _).alloc _).alloc _=W at h0 h1 h2 hb ⊢
 have A:=yb hb
 have r:=(yg W.heap.size W).alloc (yf _) (.cells #[iV on,iV nn,iV u,.string rn,iV ri,.slice p m c,iV f,iV b,iV j,.string d,iV a,.slice l i c2] 26)
 have q:=World.alloc_heap_new W (.cells #[iV on,iV nn,iV u,.string rn,iV ri,.slice p m c,iV f,iV b,iV j,.string d,iV a,.slice l i c2] 26)
 have h:=(r.block _ (yd.1 h2).1).trans h2
 have t:=yb (And.intro q (hb.trans (r.mono hb.size)))
 have z:=yb h
 have x:Hid (w.heap.size+1+1 < W.heap.size):=yb (yd.1 h2).1
 obtain ⟨x0,Q,I,C,E,D⟩:=Cg h0
 obtain ⟨N,G,L,O,M,F⟩:=Cg h1
 obtain ⟨B,J,H,z3,z4,z5⟩:=Cg h
 have P:=fun k=>E4 (n:=k) h
 clear h0 h1 h2 hb r q h
 go_wp2
 have s:=Cv z.o (iV op) (iV 0) (iV 0) (.string ⟨#[]⟩) (iV 0) (.slice (some (aV W.heap.size 0)) 2 2)
 have v:=A.o.size
 refine Bl (c:=[iV op,iV 0,iV 0,.string ⟨#[]⟩,iV 0,.slice (some (aV W.heap.size 0)) 2 2]) rfl rfl s.row qP rfl (by kernel_rfl) ⟨W.heap.size,rfl,v,(s.block _ (by have:=x.o;omega)).trans t.o.1,s.below t.o.2 (by omega)⟩
def Bk(B:Nat)(w:World)(g:Nat)(row:Array Value)(ty:TypeId):Prop:=B < g∧w.heap[g]?=some (.cells row ty (0,0))
def Gq(B:Nat)(w w':World):Prop:=∀(b:Nat) (o:Obj),B < b->w.heap[b]?=some o->w'.heap[b]?=some o
theorem Bk.le{B:Nat}{w w':World}{g:Nat}{row:Array Value}{ty:TypeId}(h:Bk B w g row ty)(a:Gq B w w'):Bk B w' g row ty:=⟨h.1,a _ _ h.1 h.2⟩
theorem Gq.below{B:Nat}{w w':World}(h:Below w.heap.size w w'):Gq B w w':=fun b _ _ hb=>(h.block b (yd.1 hb).1).trans hb
theorem Gq.refl(B:Nat)(w:World):Gq B w w:=fun _ _ _ h=>h
def CJ(B gf:Nat)(j:Nat)(v:Value)(w:World):Prop:=match j with
 |0=>v=.agg #[.int .i64 1,.int .i64 1,.int .i64 4,.string ⟨#[]⟩,.int .i64 0,.slice none 0 0]
 |1=>v=.agg #[.int .i64 1,.int .i64 5,.int .i64 2,.string ⟨#[]⟩,.int .i64 0,.slice none 0 0]
 |2=>v=.agg #[.string ⟨#[107]⟩,.int .i64 0]
 |3=>v=.agg #[.int .i64 2,.int .i64 0,.int .i64 0,.string ⟨#[107]⟩,.int .i64 0,.slice none 0 0]
 |4=>v=.agg #[.int .i64 1,.int .i64 3,.int .i64 2,.string ⟨#[]⟩,.int .i64 0,.slice none 0 0]
 |5=>v=.agg #[.string ⟨#[107]⟩,.int .i64 1,.int .i64 3,.int .i64 2,.string ⟨#[]⟩,.int .i64 0,.slice none 0 0]
 |6=>∃d:Nat,v=.slice (some ⟨d,0,none⟩) 1 1∧Bk B w d #[.string ⟨#[107]⟩,.int .i64 1,.int .i64 3,.int .i64 2,.string ⟨#[]⟩,.int .i64 0,.slice none 0 0] 50
 |7=>v=.agg #[.int .i64 1,.int .i64 7,.int .i64 1,.string ⟨#[]⟩,.int .i64 0,.slice none 0 0]
 |8=>v=.agg #[.int .i64 1,.int .i64 1,.int .i64 5,.string ⟨#[]⟩,.int .i64 0,.slice none 0 0]
 |9=>∃b:Nat,v=.agg #[.int .i64 6,.int .i64 0,.int .i64 0,.string ⟨#[]⟩,.int .i64 0,.slice (some ⟨b,0,none⟩) 2 2]∧Bk B w b #[.int .i64 1,.int .i64 7,.int .i64 1,.string ⟨#[]⟩,.int .i64 0,.slice none 0 0,.int .i64 1,.int .i64 1,.int .i64 5,.string ⟨#[]⟩,.int .i64 0,.slice none 0 0] 26
 |10=>∃b:Nat,v=.agg #[.string ⟨#[99]⟩,.int .i64 6,.int .i64 0,.int .i64 0,.string ⟨#[]⟩,.int .i64 0,.slice (some ⟨b,0,none⟩) 2 2]∧Bk B w b #[.int .i64 1,.int .i64 7,.int .i64 1,.string ⟨#[]⟩,.int .i64 0,.slice none 0 0,.int .i64 1,.int .i64 1,.int .i64 5,.string ⟨#[]⟩,.int .i64 0,.slice none 0 0] 26
 |11=>∃b c:Nat,v=.slice (some ⟨c,0,none⟩) 1 1∧Bk B w b #[.int .i64 1,.int .i64 7,.int .i64 1,.string ⟨#[]⟩,.int .i64 0,.slice none 0 0,.int .i64 1,.int .i64 1,.int .i64 5,.string ⟨#[]⟩,.int .i64 0,.slice none 0 0] 26∧Bk B w c #[.string ⟨#[99]⟩,.int .i64 6,.int .i64 0,.int .i64 0,.string ⟨#[]⟩,.int .i64 0,.slice (some ⟨b,0,none⟩) 2 2] 92
 |12=>v=.agg #[.int .i64 1,.int .i64 1,.int .i64 3,.string ⟨#[]⟩,.int .i64 0,.slice none 0 0]
 |13=>v=.agg #[.int .i64 6,.int .i64 0,.int .i64 0,.string ⟨#[]⟩,.int .i64 0,.slice (some ⟨gf,0,none⟩) 2 2]
 |14=>v=.agg #[.int .i64 1,.int .i64 90,.int .i64 1,.string ⟨#[]⟩,.int .i64 0,.slice none 0 0]
 |15=>v=.agg #[.int .i64 1,.int .i64 0,.int .i64 1,.string ⟨#[]⟩,.int .i64 0,.slice none 0 0]
 |16=>v=.agg #[.int .i64 1,.int .i64 2,.int .i64 1,.string ⟨#[]⟩,.int .i64 0,.slice none 0 0]
 |17=>v=.agg #[.int .i64 1,.int .i64 0,.int .i64 1,.string ⟨#[]⟩,.int .i64 0,.slice none 0 0,.int .i64 1,.int .i64 2,.int .i64 1,.string ⟨#[]⟩,.int .i64 0,.slice none 0 0]
 |18=>v=.agg #[.int .i64 1,.int .i64 0,.int .i64 0,.string ⟨#[]⟩,.int .i64 0,.slice none 0 0]
 |19=>v=.agg #[.int .i64 1,.int .i64 1,.int .i64 0,.string ⟨#[]⟩,.int .i64 0,.slice none 0 0]
 |20=>v=.agg #[.int .i64 1,.int .i64 8,.int .i64 0,.string ⟨#[]⟩,.int .i64 0,.slice none 0 0]
 |21=>∃a:Nat,v=.agg #[.int .i64 6,.int .i64 0,.int .i64 0,.string ⟨#[]⟩,.int .i64 0,.slice (some ⟨a,0,none⟩) 2 2]∧Bk B w a #[.int .i64 1,.int .i64 1,.int .i64 0,.string ⟨#[]⟩,.int .i64 0,.slice none 0 0,.int .i64 1,.int .i64 8,.int .i64 0,.string ⟨#[]⟩,.int .i64 0,.slice none 0 0] 26
 |22=>∃a:Nat,v=.agg #[.int .i64 1,.int .i64 0,.int .i64 0,.string ⟨#[]⟩,.int .i64 0,.slice none 0 0,.int .i64 6,.int .i64 0,.int .i64 0,.string ⟨#[]⟩,.int .i64 0,.slice (some ⟨a,0,none⟩) 2 2]∧Bk B w a #[.int .i64 1,.int .i64 1,.int .i64 0,.string ⟨#[]⟩,.int .i64 0,.slice none 0 0,.int .i64 1,.int .i64 8,.int .i64 0,.string ⟨#[]⟩,.int .i64 0,.slice none 0 0] 26
 |23=>∃a:Nat,v=.agg #[.string ⟨#[114]⟩,.string ⟨#[]⟩,.int .i64 0,.int .i64 1,.int .i64 1,.int .i64 3,.string ⟨#[]⟩,.int .i64 0,.slice none 0 0,.int .i64 6,.int .i64 0,.int .i64 0,.string ⟨#[]⟩,.int .i64 0,.slice (some ⟨gf,0,none⟩) 2 2,.int .i64 1,.int .i64 90,.int .i64 1,.string ⟨#[]⟩,.int .i64 0,.slice none 0 0,.int .i64 0,.int .i64 0,.int .i64 0,.string ⟨#[]⟩,.int .i64 0,.slice none 0 0,.int .i64 1,.int .i64 0,.int .i64 1,.string ⟨#[]⟩,.int .i64 0,.slice none 0 0,.int .i64 1,.int .i64 2,.int .i64 1,.string ⟨#[]⟩,.int .i64 0,.slice none 0 0,.int .i64 1,.int .i64 0,.int .i64 0,.string ⟨#[]⟩,.int .i64 0,.slice none 0 0,.int .i64 6,.int .i64 0,.int .i64 0,.string ⟨#[]⟩,.int .i64 0,.slice (some ⟨a,0,none⟩) 2 2]∧Bk B w a #[.int .i64 1,.int .i64 1,.int .i64 0,.string ⟨#[]⟩,.int .i64 0,.slice none 0 0,.int .i64 1,.int .i64 8,.int .i64 0,.string ⟨#[]⟩,.int .i64 0,.slice none 0 0] 26
 |24=>∃a e:Nat,v=.slice (some ⟨e,0,none⟩) 1 1∧Bk B w a #[.int .i64 1,.int .i64 1,.int .i64 0,.string ⟨#[]⟩,.int .i64 0,.slice none 0 0,.int .i64 1,.int .i64 8,.int .i64 0,.string ⟨#[]⟩,.int .i64 0,.slice none 0 0] 26∧Bk B w e #[.string ⟨#[114]⟩,.string ⟨#[]⟩,.int .i64 0,.int .i64 1,.int .i64 1,.int .i64 3,.string ⟨#[]⟩,.int .i64 0,.slice none 0 0,.int .i64 6,.int .i64 0,.int .i64 0,.string ⟨#[]⟩,.int .i64 0,.slice (some ⟨gf,0,none⟩) 2 2,.int .i64 1,.int .i64 90,.int .i64 1,.string ⟨#[]⟩,.int .i64 0,.slice none 0 0,.int .i64 0,.int .i64 0,.int .i64 0,.string ⟨#[]⟩,.int .i64 0,.slice none 0 0,.int .i64 1,.int .i64 0,.int .i64 1,.string ⟨#[]⟩,.int .i64 0,.slice none 0 0,.int .i64 1,.int .i64 2,.int .i64 1,.string ⟨#[]⟩,.int .i64 0,.slice none 0 0,.int .i64 1,.int .i64 0,.int .i64 0,.string ⟨#[]⟩,.int .i64 0,.slice none 0 0,.int .i64 6,.int .i64 0,.int .i64 0,.string ⟨#[]⟩,.int .i64 0,.slice (some ⟨a,0,none⟩) 2 2] 66
 |25=>v=.agg #[.string ⟨#[114]⟩,.int .i64 0]
 |26=>v=.agg #[.int .i64 1,.int .i64 20,.int .i64 5,.string ⟨#[]⟩,.int .i64 0,.slice none 0 0]
 |27=>v=.agg #[.string ⟨#[99]⟩,.int .i64 0]
 |28=>v=.agg #[.string ⟨#[102]⟩,.string ⟨#[114]⟩,.int .i64 0,.bool false,.int .i64 1,.int .i64 20,.int .i64 5,.string ⟨#[]⟩,.int .i64 0,.slice none 0 0,.string ⟨#[99]⟩,.int .i64 0]
 |29=>∃f:Nat,v=.slice (some ⟨f,0,none⟩) 1 1∧Bk B w f #[.string ⟨#[102]⟩,.string ⟨#[114]⟩,.int .i64 0,.bool false,.int .i64 1,.int .i64 20,.int .i64 5,.string ⟨#[]⟩,.int .i64 0,.slice none 0 0,.string ⟨#[99]⟩,.int .i64 0] 94
 |30=>∃d b c a e f:Nat,v=.agg #[.string ⟨#[119]⟩,.int .i64 1,.int .i64 1,.int .i64 4,.string ⟨#[]⟩,.int .i64 0,.slice none 0 0,.int .i64 1,.int .i64 5,.int .i64 2,.string ⟨#[]⟩,.int .i64 0,.slice none 0 0,.int .i64 2,.int .i64 0,.int .i64 0,.string ⟨#[107]⟩,.int .i64 0,.slice none 0 0,.slice (some ⟨d,0,none⟩) 1 1,.slice (some ⟨c,0,none⟩) 1 1,.slice (some ⟨e,0,none⟩) 1 1,.slice (some ⟨f,0,none⟩) 1 1,.slice none 0 0,.slice none 0 0,.slice none 0 0]∧Bk B w d #[.string ⟨#[107]⟩,.int .i64 1,.int .i64 3,.int .i64 2,.string ⟨#[]⟩,.int .i64 0,.slice none 0 0] 50∧Bk B w b #[.int .i64 1,.int .i64 7,.int .i64 1,.string ⟨#[]⟩,.int .i64 0,.slice none 0 0,.int .i64 1,.int .i64 1,.int .i64 5,.string ⟨#[]⟩,.int .i64 0,.slice none 0 0] 26∧Bk B w c #[.string ⟨#[99]⟩,.int .i64 6,.int .i64 0,.int .i64 0,.string ⟨#[]⟩,.int .i64 0,.slice (some ⟨b,0,none⟩) 2 2] 92∧Bk B w a #[.int .i64 1,.int .i64 1,.int .i64 0,.string ⟨#[]⟩,.int .i64 0,.slice none 0 0,.int .i64 1,.int .i64 8,.int .i64 0,.string ⟨#[]⟩,.int .i64 0,.slice none 0 0] 26∧Bk B w e #[.string ⟨#[114]⟩,.string ⟨#[]⟩,.int .i64 0,.int .i64 1,.int .i64 1,.int .i64 3,.string ⟨#[]⟩,.int .i64 0,.slice none 0 0,.int .i64 6,.int .i64 0,.int .i64 0,.string ⟨#[]⟩,.int .i64 0,.slice (some ⟨gf,0,none⟩) 2 2,.int .i64 1,.int .i64 90,.int .i64 1,.string ⟨#[]⟩,.int .i64 0,.slice none 0 0,.int .i64 0,.int .i64 0,.int .i64 0,.string ⟨#[]⟩,.int .i64 0,.slice none 0 0,.int .i64 1,.int .i64 0,.int .i64 1,.string ⟨#[]⟩,.int .i64 0,.slice none 0 0,.int .i64 1,.int .i64 2,.int .i64 1,.string ⟨#[]⟩,.int .i64 0,.slice none 0 0,.int .i64 1,.int .i64 0,.int .i64 0,.string ⟨#[]⟩,.int .i64 0,.slice none 0 0,.int .i64 6,.int .i64 0,.int .i64 0,.string ⟨#[]⟩,.int .i64 0,.slice (some ⟨a,0,none⟩) 2 2] 66∧Bk B w f #[.string ⟨#[102]⟩,.string ⟨#[114]⟩,.int .i64 0,.bool false,.int .i64 1,.int .i64 20,.int .i64 5,.string ⟨#[]⟩,.int .i64 0,.slice none 0 0,.string ⟨#[99]⟩,.int .i64 0] 94
 |_=>True
theorem RW{B gf:Nat}(j:Nat)(v:Value)(w w':World)(b:Gq B w w')(h:CJ B gf j v w):CJ B gf j v w':=by
 match j,h with
 |0,h=>exact h
 |1,h=>exact h
 |2,h=>exact h
 |3,h=>exact h
 |4,h=>exact h
 |5,h=>exact h
 |6,h=>
  obtain ⟨g,h0,b13⟩:=h
  exact ⟨g,h0,b13.le b⟩
 |7,h=>exact h
 |8,h=>exact h
 |9,h=>
  obtain ⟨c,h0,b16⟩:=h
  exact ⟨c,h0,b16.le b⟩
 |10,h=>
  obtain ⟨c,h0,b16⟩:=h
  exact ⟨c,h0,b16.le b⟩
 |11,h=>
  obtain ⟨c,f,h0,b16,b18⟩:=h
  exact ⟨c,f,h0,b16.le b,b18.le b⟩
 |12,h=>exact h
 |13,h=>exact h
 |14,h=>exact h
 |15,h=>exact h
 |16,h=>exact h
 |17,h=>exact h
 |18,h=>exact h
 |19,h=>exact h
 |20,h=>exact h
 |21,h=>
  obtain ⟨a,h0,b28⟩:=h
  exact ⟨a,h0,b28.le b⟩
 |22,h=>
  obtain ⟨a,h0,b28⟩:=h
  exact ⟨a,h0,b28.le b⟩
 |23,h=>
  obtain ⟨a,h0,b28⟩:=h
  exact ⟨a,h0,b28.le b⟩
 |24,h=>
  obtain ⟨a,e,h0,b28,b31⟩:=h
  exact ⟨a,e,h0,b28.le b,b31.le b⟩
 |25,h=>exact h
 |26,h=>exact h
 |27,h=>exact h
 |28,h=>exact h
 |29,h=>
  obtain ⟨d,h0,b36⟩:=h
  exact ⟨d,h0,b36.le b⟩
 |30,h=>
  obtain ⟨g,c,f,a,e,d,h0,b13,b16,b18,b28,b31,b36⟩:=h
  exact ⟨g,c,f,a,e,d,h0,b13.le b,b16.le b,b18.le b,b28.le b,b31.le b,b36.le b⟩
 |_+31,_=>trivial
structure NO (W:World) (B gf:Nat) (l:Array Bool) (w:World):Prop where
 one:l.getD 31 false=false->Below W.heap.size W w
 two:l.getD 31 false=true->∃w1 cells,CJ B gf 30 (.agg cells) w1∧Below W.heap.size W w1∧w=w1.setRow B cells
theorem NO.quiet{W:World}{B gf:Nat}{l:Array Bool}{w w2:World}{i:Nat}(h:NO W B gf l w)(n:l.getD 31 false=false)(hi:i≠31)(hb:Below w.heap.size w w2):NO W B gf (l.setIfInBounds i true) w2:=
 ⟨fun _=>(h.one n).trans (hb.mono (h.one n).size),fun a=>by rw[A8 hi,n] at a;cases a⟩
theorem VD{S:Act}{W0:World}{Q:QT}{B B1 B2 gf:Nat}{row0:Array Value}(ops:Array Oper)(R:DP Tryz.f21 3=some ops)
 (ar:S.tmps.getD 0 undef=.pointer (some ⟨B,0,none⟩))(au:S.tmps.getD 1 undef=.pointer (some ⟨B1,0,none⟩))(az:S.tmps.getD 2 undef=.pointer (some ⟨B2,0,none⟩))(hz:S.tmps.size=38)(y:B < W0.heap.size)(ao:B1 < W0.heap.size)(ae:B2 < W0.heap.size)(U:W0.heap[B]?=some (.cells row0 35 (0,0)))(O:row0.size=26)
 (p:W0.rangeAt B1 0 [.int .i64 6,.int .i64 0,.int .i64 0,.string ⟨#[]⟩,.int .i64 0,.slice (some ⟨gf,0,none⟩) 2 2])(n:W0.rangeAt B2 0 [.int .i64 1,.int .i64 0,.int .i64 0,.string ⟨#[]⟩,.int .i64 0,.slice none 0 0])
 (hQ:∀(a:Act) w1 cells,a.tmps.size=38->a.defers=S.defers->(∀t,(t < 7∨37 < t)->a.tmps.getD t undef=S.tmps.getD t undef)->CJ B gf 30 (.agg cells) w1->Below W0.heap.size W0 w1->Q .normal a (w1.setRow B cells)):
  (Code.region 3 ops true).wp Tryz.prog Q S W0:=by
 obtain rfl:=yi ((rfl:DP Tryz.f21 3=some _).symm.trans R)
 clear R
 refine BP (by kernel_rfl) (fun l _ w=>NO W0 B gf l w) (CJ B gf) (fun _=>Gq B) (by kernel_rfl) (by rw[hz];kernel_rfl) (by kernel_rfl) (fun _ j v w w' _ _ hl h=>RW j v w w' hl h) ⟨fun _=>(yg _ _).drew,fun h=>(by cases h)⟩ ?_ ?_
 ·intro ix c a w' hM f o s
  have r:=yb hM.ext
  have aw:=(yd.1 s).1
  have ay:=hM.size
  match ix,aw with
  |0,_=>
   have i:c.getD 31 false=false:=by
    rw[ym];intro q
    have:=A1 hM.down 40 31 0 (by kernel_rfl) q
    rw[hM.not_yet f] at this;cases this
   have m:=yb i
   clear i p n
   obtain rfl:=yi s
   go_simp
   refine (Bo 1 4 _).mono ?_
   rintro e w2 ⟨rfl,k⟩
   exact ⟨_,rfl,r.o.quiet m.o (by decide) k,Gq.below k,rfl⟩
  |1,_=>
   have i:c.getD 31 false=false:=by
    rw[ym];intro q
    have:=A1 hM.down 40 31 1 (by kernel_rfl) q
    rw[hM.not_yet f] at this;cases this
   have m:=yb i
   clear i p n
   obtain rfl:=yi s
   go_simp
   refine (Bo 5 2 _).mono ?_
   rintro e w2 ⟨rfl,k⟩
   exact ⟨_,rfl,r.o.quiet m.o (by decide) k,Gq.below k,rfl⟩
  |2,_=>
   have i:c.getD 31 false=false:=by
    rw[ym];intro q
    have:=A1 hM.down 40 31 2 (by kernel_rfl) q
    rw[hM.not_yet f] at this;cases this
   have m:=yb i
   clear i p n
   obtain rfl:=yi s
   go_simp
   exact ⟨_,rfl,r.o.quiet m.o (by decide) (yg _ _),Gq.refl _ _,rfl⟩
  |3,_=>
   have i:c.getD 31 false=false:=by
    rw[ym];intro q
    have:=A1 hM.down 40 31 3 (by kernel_rfl) q
    rw[hM.not_yet f] at this;cases this
   have m:=yb i
   clear i
   have d9:=hM.dep f 2 9 (by kernel_rfl) (by kernel_rfl)
   unfold CJ at d9
   simp only at d9
   clear p n
   obtain rfl:=yi s
   go_simp
   exact ⟨_,rfl,r.o.quiet m.o (by decide) (yg _ _),Gq.refl _ _,rfl⟩
  |4,_=>
   have i:c.getD 31 false=false:=by
    rw[ym];intro q
    have:=A1 hM.down 40 31 4 (by kernel_rfl) q
    rw[hM.not_yet f] at this;cases this
   have m:=yb i
   clear i p n
   obtain rfl:=yi s
   go_simp
   refine (Bo 3 2 _).mono ?_
   rintro e w2 ⟨rfl,k⟩
   exact ⟨_,rfl,r.o.quiet m.o (by decide) k,Gq.below k,rfl⟩
  |5,_=>
   have i:c.getD 31 false=false:=by
    rw[ym];intro q
    have:=A1 hM.down 40 31 5 (by kernel_rfl) q
    rw[hM.not_yet f] at this;cases this
   have m:=yb i
   clear i
   have an:=hM.dep f 4 11 (by kernel_rfl) (by kernel_rfl)
   unfold CJ at an
   simp only at an
   clear p n
   obtain rfl:=yi s
   go_simp
   exact ⟨_,rfl,r.o.quiet m.o (by decide) (yg _ _),Gq.refl _ _,rfl⟩
  |6,_=>
   have i:c.getD 31 false=false:=by
    rw[ym];intro q
    have:=A1 hM.down 40 31 6 (by kernel_rfl) q
    rw[hM.not_yet f] at this;cases this
   have m:=yb i
   clear i
   have aa:=hM.dep f 5 12 (by kernel_rfl) (by kernel_rfl)
   unfold CJ at aa
   simp only at aa
   clear p n
   obtain rfl:=yi s
   go_simp
   have u:Below w'.heap.size w' (w'.alloc (.cells #[.string ⟨#[107]⟩,iV 1,iV 3,iV 2,.string ⟨#[]⟩,iV 0,.slice none 0 0] 50)):=(yg _ _).alloc (yf _) _
   have x:B < w'.heap.size:=yt y (r.o.one m.o).size
   exact ⟨_,rfl,r.o.quiet m.o (by decide) u,Gq.below u,w'.heap.size,rfl,x,World.alloc_heap_new _ _⟩
  |7,_=>
   have i:c.getD 31 false=false:=by
    rw[ym];intro q
    have:=A1 hM.down 40 31 7 (by kernel_rfl) q
    rw[hM.not_yet f] at this;cases this
   have m:=yb i
   clear i p n
   obtain rfl:=yi s
   go_simp
   refine (Bo 7 1 _).mono ?_
   rintro e w2 ⟨rfl,k⟩
   exact ⟨_,rfl,r.o.quiet m.o (by decide) k,Gq.below k,rfl⟩
  |8,_=>
   have i:c.getD 31 false=false:=by
    rw[ym];intro q
    have:=A1 hM.down 40 31 8 (by kernel_rfl) q
    rw[hM.not_yet f] at this;cases this
   have m:=yb i
   clear i p n
   obtain rfl:=yi s
   go_simp
   refine (Bo 1 5 _).mono ?_
   rintro e w2 ⟨rfl,k⟩
   exact ⟨_,rfl,r.o.quiet m.o (by decide) k,Gq.below k,rfl⟩
  |9,_=>
   have i:c.getD 31 false=false:=by
    rw[ym];intro q
    have:=A1 hM.down 40 31 9 (by kernel_rfl) q
    rw[hM.not_yet f] at this;cases this
   have m:=yb i
   clear i
   have a6:=hM.dep f 7 14 (by kernel_rfl) (by kernel_rfl)
   unfold CJ at a6
   simp only at a6
   have W:=hM.dep f 8 15 (by kernel_rfl) (by kernel_rfl)
   unfold CJ at W
   simp only at W
   clear p n
   obtain rfl:=yi s
   go_simp
   refine (IG 6 _ _ _ _ _ _ _ _ _ _ _ _ _ _ _ _ _).mono ?_
   rintro e w2 ⟨g,rfl,hg,E,k⟩
   have x:B < g:=yt (yt y (r.o.one m.o).size) hg
   exact ⟨_,rfl,r.o.quiet m.o (by decide) k,Gq.below k,g,rfl,x,E⟩
  |10,_=>
   have i:c.getD 31 false=false:=by
    rw[ym];intro q
    have:=A1 hM.down 40 31 10 (by kernel_rfl) q
    rw[hM.not_yet f] at this;cases this
   have m:=yb i
   clear i
   have J:=hM.dep f 9 16 (by kernel_rfl) (by kernel_rfl)
   unfold CJ at J
   simp only at J
   obtain ⟨C,J,b16⟩:=J
   have F:=yb b16
   clear b16 p n
   obtain rfl:=yi s
   go_simp
   exact ⟨_,rfl,r.o.quiet m.o (by decide) (yg _ _),Gq.refl _ _,C,rfl,F.o⟩
  |11,_=>
   have i:c.getD 31 false=false:=by
    rw[ym];intro q
    have:=A1 hM.down 40 31 11 (by kernel_rfl) q
    rw[hM.not_yet f] at this;cases this
   have m:=yb i
   clear i
   have N:=hM.dep f 10 17 (by kernel_rfl) (by kernel_rfl)
   unfold CJ at N
   simp only at N
   obtain ⟨C,N,b16⟩:=N
   have F:=yb b16
   clear b16 p n
   obtain rfl:=yi s
   go_simp
   have u:Below w'.heap.size w' (w'.alloc (.cells #[.string ⟨#[99]⟩,iV 6,iV 0,iV 0,.string ⟨#[]⟩,iV 0,.slice (some (aV C 0)) 2 2] 92)):=(yg _ _).alloc (yf _) _
   have x:B < w'.heap.size:=yt y (r.o.one m.o).size
   exact ⟨_,rfl,r.o.quiet m.o (by decide) u,Gq.below u,C,w'.heap.size,rfl,F.o.le (Gq.below u),x,World.alloc_heap_new _ _⟩
  |12,_=>
   have i:c.getD 31 false=false:=by
    rw[ym];intro q
    have:=A1 hM.down 40 31 12 (by kernel_rfl) q
    rw[hM.not_yet f] at this;cases this
   have m:=yb i
   clear i p n
   obtain rfl:=yi s
   go_simp
   refine (Bo 1 3 _).mono ?_
   rintro e w2 ⟨rfl,k⟩
   exact ⟨_,rfl,r.o.quiet m.o (by decide) k,Gq.below k,rfl⟩
  |13,_=>
   have i:c.getD 31 false=false:=by
    rw[ym];intro q
    have:=A1 hM.down 40 31 13 (by kernel_rfl) q
    rw[hM.not_yet f] at this;cases this
   have m:=yb i
   clear i
   have d:=hM.old f 1 (by kernel_rfl) _ au
   have T:=yb (A0 p ((r.o.one m.o).block _ ao))
   clear p n
   obtain rfl:=yi s
   refine xU 26 _ rfl B1 0 (by simpa[Act.eval] using d) [iV 6,iV 0,iV 0,.string ⟨#[]⟩,iV 0,.slice (some (aV gf 0)) 2 2] _ T.o qP rfl (by kernel_rfl) ?_
   exact ⟨_,rfl,r.o.quiet m.o (by decide) (yg _ _),Gq.refl _ _,rfl⟩
  |14,_=>
   have i:c.getD 31 false=false:=by
    rw[ym];intro q
    have:=A1 hM.down 40 31 14 (by kernel_rfl) q
    rw[hM.not_yet f] at this;cases this
   have m:=yb i
   clear i p n
   obtain rfl:=yi s
   go_simp
   refine (Bo 90 1 _).mono ?_
   rintro e w2 ⟨rfl,k⟩
   exact ⟨_,rfl,r.o.quiet m.o (by decide) k,Gq.below k,rfl⟩
  |15,_=>
   have i:c.getD 31 false=false:=by
    rw[ym];intro q
    have:=A1 hM.down 40 31 15 (by kernel_rfl) q
    rw[hM.not_yet f] at this;cases this
   have m:=yb i
   clear i p n
   obtain rfl:=yi s
   go_simp
   refine (Bo 0 1 _).mono ?_
   rintro e w2 ⟨rfl,k⟩
   exact ⟨_,rfl,r.o.quiet m.o (by decide) k,Gq.below k,rfl⟩
  |16,_=>
   have i:c.getD 31 false=false:=by
    rw[ym];intro q
    have:=A1 hM.down 40 31 16 (by kernel_rfl) q
    rw[hM.not_yet f] at this;cases this
   have m:=yb i
   clear i p n
   obtain rfl:=yi s
   go_simp
   refine (Bo 2 1 _).mono ?_
   rintro e w2 ⟨rfl,k⟩
   exact ⟨_,rfl,r.o.quiet m.o (by decide) k,Gq.below k,rfl⟩
  |17,_=>
   have i:c.getD 31 false=false:=by
    rw[ym];intro q
    have:=A1 hM.down 40 31 17 (by kernel_rfl) q
    rw[hM.not_yet f] at this;cases this
   have m:=yb i
   clear i
   have ap:=hM.dep f 15 22 (by kernel_rfl) (by kernel_rfl)
   unfold CJ at ap
   simp only at ap
   have X:=hM.dep f 16 23 (by kernel_rfl) (by kernel_rfl)
   unfold CJ at X
   simp only at X
   clear p n
   obtain rfl:=yi s
   go_simp
   exact ⟨_,rfl,r.o.quiet m.o (by decide) (yg _ _),Gq.refl _ _,rfl⟩
  |18,_=>
   have i:c.getD 31 false=false:=by
    rw[ym];intro q
    have:=A1 hM.down 40 31 18 (by kernel_rfl) q
    rw[hM.not_yet f] at this;cases this
   have m:=yb i
   clear i
   have d:=hM.old f 2 (by kernel_rfl) _ az
   have T:=yb (A0 n ((r.o.one m.o).block _ ae))
   clear p n
   obtain rfl:=yi s
   refine xU 26 _ rfl B2 0 (by simpa[Act.eval] using d) [iV 1,iV 0,iV 0,.string ⟨#[]⟩,iV 0,.slice none 0 0] _ T.o qP rfl (by kernel_rfl) ?_
   exact ⟨_,rfl,r.o.quiet m.o (by decide) (yg _ _),Gq.refl _ _,rfl⟩
  |19,_=>
   have i:c.getD 31 false=false:=by
    rw[ym];intro q
    have:=A1 hM.down 40 31 19 (by kernel_rfl) q
    rw[hM.not_yet f] at this;cases this
   have m:=yb i
   clear i p n
   obtain rfl:=yi s
   go_simp
   refine (Bo 1 0 _).mono ?_
   rintro e w2 ⟨rfl,k⟩
   exact ⟨_,rfl,r.o.quiet m.o (by decide) k,Gq.below k,rfl⟩
  |20,_=>
   have i:c.getD 31 false=false:=by
    rw[ym];intro q
    have:=A1 hM.down 40 31 20 (by kernel_rfl) q
    rw[hM.not_yet f] at this;cases this
   have m:=yb i
   clear i p n
   obtain rfl:=yi s
   go_simp
   refine (Bo 8 0 _).mono ?_
   rintro e w2 ⟨rfl,k⟩
   exact ⟨_,rfl,r.o.quiet m.o (by decide) k,Gq.below k,rfl⟩
  |21,_=>
   have i:c.getD 31 false=false:=by
    rw[ym];intro q
    have:=A1 hM.down 40 31 21 (by kernel_rfl) q
    rw[hM.not_yet f] at this;cases this
   have m:=yb i
   clear i
   have V:=hM.dep f 19 26 (by kernel_rfl) (by kernel_rfl)
   unfold CJ at V
   simp only at V
   have a7:=hM.dep f 20 27 (by kernel_rfl) (by kernel_rfl)
   unfold CJ at a7
   simp only at a7
   clear p n
   obtain rfl:=yi s
   go_simp
   refine (IG 6 _ _ _ _ _ _ _ _ _ _ _ _ _ _ _ _ _).mono ?_
   rintro e w2 ⟨g,rfl,hg,E,k⟩
   have x:B < g:=yt (yt y (r.o.one m.o).size) hg
   exact ⟨_,rfl,r.o.quiet m.o (by decide) k,Gq.below k,g,rfl,x,E⟩
  |22,_=>
   have i:c.getD 31 false=false:=by
    rw[ym];intro q
    have:=A1 hM.down 40 31 22 (by kernel_rfl) q
    rw[hM.not_yet f] at this;cases this
   have m:=yb i
   clear i
   have aq:=hM.dep f 18 25 (by kernel_rfl) (by kernel_rfl)
   unfold CJ at aq
   simp only at aq
   have L:=hM.dep f 21 28 (by kernel_rfl) (by kernel_rfl)
   unfold CJ at L
   simp only at L
   obtain ⟨z,L,b28⟩:=L
   have A:=yb b28
   clear b28 p n
   obtain rfl:=yi s
   go_simp
   exact ⟨_,rfl,r.o.quiet m.o (by decide) (yg _ _),Gq.refl _ _,z,rfl,A.o⟩
  |23,_=>
   have i:c.getD 31 false=false:=by
    rw[ym];intro q
    have:=A1 hM.down 40 31 23 (by kernel_rfl) q
    rw[hM.not_yet f] at this;cases this
   have m:=yb i
   clear i
   have ah:=hM.dep f 12 19 (by kernel_rfl) (by kernel_rfl)
   unfold CJ at ah
   simp only at ah
   have al:=hM.dep f 13 20 (by kernel_rfl) (by kernel_rfl)
   unfold CJ at al
   simp only at al
   have Y:=hM.dep f 14 21 (by kernel_rfl) (by kernel_rfl)
   unfold CJ at Y
   simp only at Y
   have a2:=hM.dep f 17 24 (by kernel_rfl) (by kernel_rfl)
   unfold CJ at a2
   simp only at a2
   have K:=hM.dep f 22 29 (by kernel_rfl) (by kernel_rfl)
   unfold CJ at K
   simp only at K
   obtain ⟨z,K,b28⟩:=K
   have A:=yb b28
   clear b28 p n
   obtain rfl:=yi s
   go_simp
   exact ⟨_,rfl,r.o.quiet m.o (by decide) (yg _ _),Gq.refl _ _,z,rfl,A.o⟩
  |24,_=>
   have i:c.getD 31 false=false:=by
    rw[ym];intro q
    have:=A1 hM.down 40 31 24 (by kernel_rfl) q
    rw[hM.not_yet f] at this;cases this
   have m:=yb i
   clear i
   have M:=hM.dep f 23 30 (by kernel_rfl) (by kernel_rfl)
   unfold CJ at M
   simp only at M
   obtain ⟨z,M,b28⟩:=M
   have A:=yb b28
   clear b28 p n
   obtain rfl:=yi s
   go_simp
   have u:Below w'.heap.size w' (w'.alloc (.cells #[.string ⟨#[114]⟩,.string ⟨#[]⟩,iV 0,iV 1,iV 1,iV 3,.string ⟨#[]⟩,iV 0,.slice none 0 0,iV 6,iV 0,iV 0,.string ⟨#[]⟩,iV 0,.slice (some (aV gf 0)) 2 2,iV 1,iV 90,iV 1,.string ⟨#[]⟩,iV 0,.slice none 0 0,iV 0,iV 0,iV 0,.string ⟨#[]⟩,iV 0,.slice none 0 0,iV 1,iV 0,iV 1,.string ⟨#[]⟩,iV 0,.slice none 0 0,iV 1,iV 2,iV 1,.string ⟨#[]⟩,iV 0,.slice none 0 0,iV 1,iV 0,iV 0,.string ⟨#[]⟩,iV 0,.slice none 0 0,iV 6,iV 0,iV 0,.string ⟨#[]⟩,iV 0,.slice (some (aV z 0)) 2 2] 66)):=(yg _ _).alloc (yf _) _
   have x:B < w'.heap.size:=yt y (r.o.one m.o).size
   exact ⟨_,rfl,r.o.quiet m.o (by decide) u,Gq.below u,z,w'.heap.size,rfl,A.o.le (Gq.below u),x,World.alloc_heap_new _ _⟩
  |25,_=>
   have i:c.getD 31 false=false:=by
    rw[ym];intro q
    have:=A1 hM.down 40 31 25 (by kernel_rfl) q
    rw[hM.not_yet f] at this;cases this
   have m:=yb i
   clear i p n
   obtain rfl:=yi s
   go_simp
   exact ⟨_,rfl,r.o.quiet m.o (by decide) (yg _ _),Gq.refl _ _,rfl⟩
  |26,_=>
   have i:c.getD 31 false=false:=by
    rw[ym];intro q
    have:=A1 hM.down 40 31 26 (by kernel_rfl) q
    rw[hM.not_yet f] at this;cases this
   have m:=yb i
   clear i p n
   obtain rfl:=yi s
   go_simp
   refine (Bo 20 5 _).mono ?_
   rintro e w2 ⟨rfl,k⟩
   exact ⟨_,rfl,r.o.quiet m.o (by decide) k,Gq.below k,rfl⟩
  |27,_=>
   have i:c.getD 31 false=false:=by
    rw[ym];intro q
    have:=A1 hM.down 40 31 27 (by kernel_rfl) q
    rw[hM.not_yet f] at this;cases this
   have m:=yb i
   clear i p n
   obtain rfl:=yi s
   go_simp
   exact ⟨_,rfl,r.o.quiet m.o (by decide) (yg _ _),Gq.refl _ _,rfl⟩
  |28,_=>
   have i:c.getD 31 false=false:=by
    rw[ym];intro q
    have:=A1 hM.down 40 31 28 (by kernel_rfl) q
    rw[hM.not_yet f] at this;cases this
   have m:=yb i
   clear i
   have a8:=hM.dep f 25 32 (by kernel_rfl) (by kernel_rfl)
   unfold CJ at a8
   simp only at a8
   have ai:=hM.dep f 26 33 (by kernel_rfl) (by kernel_rfl)
   unfold CJ at ai
   simp only at ai
   have Z:=hM.dep f 27 34 (by kernel_rfl) (by kernel_rfl)
   unfold CJ at Z
   simp only at Z
   clear p n
   obtain rfl:=yi s
   go_simp
   exact ⟨_,rfl,r.o.quiet m.o (by decide) (yg _ _),Gq.refl _ _,rfl⟩
  |29,_=>
   have i:c.getD 31 false=false:=by
    rw[ym];intro q
    have:=A1 hM.down 40 31 29 (by kernel_rfl) q
    rw[hM.not_yet f] at this;cases this
   have m:=yb i
   clear i
   have ag:=hM.dep f 28 35 (by kernel_rfl) (by kernel_rfl)
   unfold CJ at ag
   simp only at ag
   clear p n
   obtain rfl:=yi s
   go_simp
   have u:Below w'.heap.size w' (w'.alloc (.cells #[.string ⟨#[102]⟩,.string ⟨#[114]⟩,iV 0,.bool false,iV 1,iV 20,iV 5,.string ⟨#[]⟩,iV 0,.slice none 0 0,.string ⟨#[99]⟩,iV 0] 94)):=(yg _ _).alloc (yf _) _
   have x:B < w'.heap.size:=yt y (r.o.one m.o).size
   exact ⟨_,rfl,r.o.quiet m.o (by decide) u,Gq.below u,w'.heap.size,rfl,x,World.alloc_heap_new _ _⟩
  |30,_=>
   have i:c.getD 31 false=false:=by
    rw[ym];intro q
    have:=A1 hM.down 40 31 30 (by kernel_rfl) q
    rw[hM.not_yet f] at this;cases this
   have m:=yb i
   clear i
   have d7:=hM.dep f 0 7 (by kernel_rfl) (by kernel_rfl)
   unfold CJ at d7
   simp only at d7
   have d8:=hM.dep f 1 8 (by kernel_rfl) (by kernel_rfl)
   unfold CJ at d8
   simp only at d8
   have a0:=hM.dep f 3 10 (by kernel_rfl) (by kernel_rfl)
   unfold CJ at a0
   simp only at a0
   have G:=hM.dep f 6 13 (by kernel_rfl) (by kernel_rfl)
   unfold CJ at G
   simp only at G
   obtain ⟨aj,G,b13⟩:=G
   have H:=hM.dep f 11 18 (by kernel_rfl) (by kernel_rfl)
   unfold CJ at H
   simp only at H
   obtain ⟨C,ac,H,b16,b18⟩:=H
   have P:=hM.dep f 24 31 (by kernel_rfl) (by kernel_rfl)
   unfold CJ at P
   simp only at P
   obtain ⟨z,ak,P,b28,b31⟩:=P
   have I:=hM.dep f 29 36 (by kernel_rfl) (by kernel_rfl)
   unfold CJ at I
   simp only at I
   obtain ⟨af,I,b36⟩:=I
   have b5:=yb b13;have F:=yb b16;have b0:=yb b18;have A:=yb b28;have av:=yb b31;have b4:=yb b36
   clear b13 b16 b18 b28 b31 b36 p n
   obtain rfl:=yi s
   go_simp
   exact ⟨_,rfl,r.o.quiet m.o (by decide) (yg _ _),Gq.refl _ _,aj,C,ac,z,ak,af,rfl,b5.o,F.o,b0.o,A.o,av.o,b4.o⟩
  |31,_=>
   have d:=hM.old f 0 (by kernel_rfl) _ ar
   have i:=hM.not_yet f
   have D:=hM.dep f 30 37 (by kernel_rfl) (by kernel_rfl)
   have HP:=yb D
   obtain ⟨cells,ad,ab,dv⟩:∃cells:Array Value,cells.size=26∧cells.all (·.oneCell')=true∧a.tmps[37]?.getD undef=.agg cells:=by
    unfold CJ at D
    simp only at D
    obtain ⟨aj,C,ac,z,ak,af,D,_⟩:=D
    exact ⟨_,rfl,by simp[Value.oneCell'],D⟩
   have hb:=r.o.one i
   have ax:w'.heap[B]?=some (.cells row0 35 (0,0)):=(hb.block B y).trans U
   have HL:Hid (31 < c.size):=yb (by rw[ay];show 31 < 32;omega)
   refine wp_store_row 35 (.tmp 0) (.tmp 37) (by obtain rfl:=yi s;rfl) B cells (by simpa[Act.eval] using d) (by simpa[Act.eval] using dv) 35 row0 ax (by rw[ad];kernel_rfl) (by rw[ad];exact O) ab ?_
   obtain rfl:=yi s
   refine ⟨undef,rfl,⟨fun q=>?_,fun _=>⟨w',cells,?_,hb,rfl⟩⟩,fun b o b8 b7=>?_,trivial⟩
   ·simp[HL.o] at q
   ·rw[<-dv];exact HP.o
   ·rw[Cy _ _ (by omega)];exact b7
 ·intro c a w' am hM
  obtain ⟨w1,cells,hp,hb,rfl⟩:=hM.ext.two (am 31 (show 31 < 32 by omega))
  exact hQ a w1 cells (hM.tmps.trans hz) hM.defers (F8 (lo:=7) (hi:=37) (by kernel_rfl) hM) hp hb
end Go.Proofs.YtjofgpfocadomaaGreatDoor
