/- Parts of the proof, in short words: Dh Ca -/
import Derived.Test.YtbdfinegbjdblaaGreatDoorWq0
import Derived.Test.YtbdfinegbjdblaaGreatDoorWq22
import Derived.Test.YtbdfinegbjdblaaGreatDoorWq10
import Derived.Test.YtbdfinegbjdblaaGreatDoorWq21
import Derived.Test.YtbdfinegbjdblaaGreatDoorWq23
import Derived.Test.YtbdfinegbjdblaaGreatDoorWq11
import Derived.Test.YtbdfinegbjdblaaGreatDoorWq7
set_option maxRecDepth 100000
set_option maxHeartbeats 16000000
set_option linter.unusedSimpArgs false
namespace Go.Proofs.YtbdfinegbjdblaaGreatDoor
open Go.RowKit Go.Proofs.Tryz
theorem ZQ(a b c d e:Bool):a=true\/(a=false/\b=true)\/(a=false/\b=false/\c=true)\/(a=false/\b=false/\c=false/\d=true)\/(a=false/\b=false/\c=false/\d=false/\e=true)\/(a=false/\b=false/\c=false/\d=false/\e=false):=by
 cases a<;>cases b<;>cases c<;>cases d<;>cases e<;>simp
theorem UP(d:Bk):F7 d=if (decide ((d.reaches.length:Int)>64)||(decide ((d.farms.length:Int)>600)||(decide ((d.crops.length:Int)>32)||(decide ((d.rights.length:Int)>256)||decide ((d.duties.length:Int)>256)))))=true then 2 else if Gn d=true then 0 else 191:=by
 unfold F7
 simp only[Bool.or_eq_true,yM]
 by_cases h:d.reaches.length<=64/\d.farms.length<=600/\d.crops.length<=32/\d.rights.length<=256/\d.duties.length<=256
 ·have h2:¬ ((d.reaches.length:Int)>64\/(d.farms.length:Int)>600\/(d.crops.length:Int)>32\/(d.rights.length:Int)>256\/(d.duties.length:Int)>256):=by omega
  rw[yz h,ym h2]
 have h2:(d.reaches.length:Int)>64\/(d.farms.length:Int)>600\/(d.crops.length:Int)>32\/(d.rights.length:Int)>256\/(d.duties.length:Int)>256:=by omega
 rw[ym h,yz h2]
theorem Rc{N:NP}{w:World}{hr hf hc hg hd hw:AA}{cs:LV}{d:Bk}(h:Ij N w hr hf hc hg hd hw cs d)(hN:∀b,N b->b < w.heap.size):Calls prog 12 #[.agg cs.toArray] w λe w'=>e=.returned (.int .i64 (F7 d))/\Below w.heap.size w w':=by
 have l:Hid (∀W,Below w.heap.size w W->Calls prog 31 #[.agg cs.toArray] W λe w'=>e=.returned (.bool (Gn d))/\Below W.heap.size W w'):=yb (λW hb=>Ra (h.same (N':=λb=>b < W.heap.size) (λb f=>yx (hN b f) hb.size) (λb f=>hb.block b (hN b f))) (λ_ h=>h))
 obtain ⟨r,a⟩:∃r,r=F7 d:=⟨_,rfl⟩
 rw[<-a]
 rw[UP] at a
 have i:=h.cells
 rw[<-h.reaches.1,<-h.farms.1,<-h.crops.1,<-h.rights.1,<-h.duties.1] at a
 generalize Gn d=ok at*
 obtain ⟨P,hours,cap,start,U,X,Y,Z,V⟩:=d
 dsimp only at i
 subst i
 clear h hN
 obtain ⟨J,rn,rc⟩:=hr
 obtain ⟨Q,fn,fc⟩:=hf
 obtain ⟨I,q,z⟩:=hc
 obtain ⟨B,u,gc⟩:=hg
 obtain ⟨A,t,C⟩:=hd
 dsimp only at a
 obtain ⟨b1,m⟩:∃b,decide ((rn:Int)>64)=b:=⟨_,rfl⟩
 obtain ⟨b2,f⟩:∃b,decide ((fn:Int)>600)=b:=⟨_,rfl⟩
 obtain ⟨R,p⟩:∃b,decide ((q:Int)>32)=b:=⟨_,rfl⟩
 obtain ⟨H,k⟩:∃b,decide ((u:Int)>256)=b:=⟨_,rfl⟩
 obtain ⟨F,n⟩:∃b,decide ((t:Int)>256)=b:=⟨_,rfl⟩
 rw[m,f,p,k,n] at a
 have s:=yb a
 clear a
 have c:=yb (FM w (DW P hours cap start ⟨J,rn,rc⟩ ⟨Q,fn,fc⟩ ⟨I,q,z⟩ ⟨B,u,gc⟩ ⟨A,t,C⟩ hw) 31)
 unfold DW AA.v at c l |-
 dsimp only at c l |-
 rcases ZQ b1 b2 R H F with rfl|⟨rfl,rfl⟩|⟨rfl,rfl,rfl⟩|⟨rfl,rfl,rfl,rfl⟩|⟨rfl,rfl,rfl,rfl,rfl⟩|⟨rfl,rfl,rfl,rfl,rfl⟩
 rotate_right
 ·cases ok
  all_goals
   go_enter func12,ntmps12
   go_upto_region 1 with fail
   generalize w.alloc _=W at c |-
   obtain ⟨y,M,K,E,O,S,G,L,T,D⟩:=BV c.o.x
   have j:=yb (Ae c.o.x)
   go_wp2_with (first
    |(with_reducible refine yj rfl 31 (.tmp 1) rfl w.heap.size 0 (by kernel_rfl) _ _ j.o jf rfl (by kernel_rfl) ?_)
    |(go_at_call 31;with_reducible refine (l.o _ c.o.below).mono ?_;rintro e w2 ⟨rfl,hb⟩;have g:=yb (c.o.up hb);clear hb c;have c:=g;clear g))
   go_ret
   exact ⟨by rw[s.o];rfl,c.o.below⟩
 all_goals
  go_enter func12,ntmps12
  go_upto_region 1 with fail
  generalize w.alloc _=W at c |-
  obtain ⟨y,M,K,E,O,S,G,L,T,D⟩:=BV c.o.x
  go_wp2
  go_ret
  exact ⟨by rw[s.o];rfl,c.o.below⟩
theorem Rj{o:Oper}{a:Act}{K:Act->World->Prop}{Q:QT}{W:World}{t e:TypeId}(D:prog.underlying t=some (.slice e))(s x:Operand)(G:o.op=.call {callee:=.builtin .append,args:=#[s,x],argTypes:=#[t,t]})
 (size:Nat)(b:((prog.info? e).bind λi=>i.zero.map λz=>(i.size,z.cells.size,decide (i.bytes<=128)))=some (size,size,true))(r:0 < size)
 (B:Nat)(v:Value)(n:Nat)(xs:LV)(hs:a.eval s=v)(w:W.ownsRow B e size v n xs)(y:Addr)(m c:Nat)(d:LV)(H:a.eval x=.slice (some y) m c)(E:d.length=m*size)(g:∀j u,d[j]?=some u->W.cell? (y.add j)=some u)(l:∀u∈d,u.oneCell'=true)(q:(n+m)*128<=140737488355328)(k:B<=W.heap.size)
 (h:∀v' w',w'.ownsRow B e size v' (n+m) (xs++d)->W.grownBy w' v.ownBlock->K (a.put o.dst v') w'):Oper.wp prog o a W K Q:=by
 cases f:prog.info? e with
 |none=>simp[f] at b
 |some i0=>
  cases A:i0.zero with
  |none=>simp[f,A] at b
  |some z=>
   simp only[f,A,zS,zR,zs,qg,yM] at b
   obtain ⟨h1,h2,h3⟩:=b
   have p:(n+m)*i0.bytes<=140737488355328:=yG (Nat.mul_le_mul_left _ h3) q
   obtain ⟨v',w',hr,C,F,_⟩:=run_append_own (P:=prog) W B t o.type e i0 z size i0.bytes D f A h1 rfl h2 r v n xs w y m c d E g l (by unfold maxLen;omega) p k
   unfold Oper.wp
   simp[execOp,G,resolve,invoke,builtin,hs,H,hr,Result.andThen]
   exact h v' w' C F
theorem V1{W:World}{base e i sz b n k:Nat}{v v':Value}{xs c:LV}(h:W.ownsRow base e sz v n xs)(l:W.ownsRow base i b v' k c)(a:e≠i):v.ownBlock=none\/v.ownBlock≠v'.ownBlock:=by
 rcases h.2 with ⟨rfl, -⟩|⟨g,cap,cur,rfl, -,h1, -⟩
 ·exact .inl rfl
 right
 rcases l.2 with ⟨rfl, -⟩|⟨m,j,d,rfl, -,h2, -⟩
 ·simp[Value.ownBlock]
 intro f
 simp only[Value.ownBlock,zs] at f
 subst f
 rw[h1] at h2
 simp only[zs,Obj.cells.injEq] at h2
 exact a h2.2.1
theorem EM{W W':World}{base e sz n:Nat}{v:Value}{xs:LV}(h:W.ownsRow base e sz v n xs)(hb:∀b,b < W.heap.size->base<=b->W'.heap[b]?=W.heap[b]?):W'.ownsRow base e sz v n xs:=
 Da h λk a=>hb k (El h k a).2 (El h k a).1
def Pv:Nat->TypeId
 |0=>82
 |1=>84
 |2=>77
 |3=>62
 |_=>140
def Rk:Nat->Nat
 |0=>12
 |1=>4
 |2=>2
 |3=>10
 |_=>4
def EN(d:Bk):Nat->Nat
 |0=>d.reaches.length
 |1=>d.farms.length
 |2=>d.crops.length
 |3=>d.rights.length
 |_=>d.duties.length
def Lv(d:Bk):Nat->LV
 |0=>d.reaches.flatMap Ft
 |1=>d.farms.flatMap IS
 |2=>d.crops.flatMap JS
 |3=>d.rights.flatMap AZ
 |_=>d.duties.flatMap Jr
def bM(v:Nat->Value)(k:Nat)(x:Value):Nat->Value:=λj=>if j=k then x else v j
def Dc(d:Bk)(v:Nat->Value):LV:=[.string d.name,.int .i64 d.hours,.int .i64 d.cap,.int .i64 d.start,v 0,v 1,v 2,v 3,v 4,.slice none 0 0]
structure K2 (w:World) (Cb Rb:Nat) (vs:List Rt) (ss row:List Value) (d:Bk) (v:Nat->Value) (W:World):Prop where
 cu:Ik w Cb Rb vs W
 s:W.heap[w.heap.size]?=some (.cells ss.toArray 49 (0,0))
 b:W.heap[w.heap.size+1]?=some (.cells row.toArray 31 (0,0))
 own:∀k,k < 5->W.ownsRow (w.heap.size+2) (Pv k) (Rk k) (v k) (EN d k) (Lv d k)
abbrev N3(w:World)(Cb Rb:Nat)(vs:List Rt)(ss:LV)(d:Bk)(v:Nat->Value)(W:World):Prop:=K2 w Cb Rb vs ss (Dc d v) d v W
section
variable{w W W':World}{Cb Rb:Nat}{vs vs':List Rt}{ss row:LV}{d d':Bk}{v:Nat->Value}
theorem K2.keep(h:K2 w Cb Rb vs ss row d v W)(hc:Ik w Cb Rb vs' W')(hb:∀b,b < W.heap.size->w.heap.size<=b->W'.heap[b]?=W.heap[b]?):K2 w Cb Rb vs' ss row d v W':=by
 have h1:=(yd.1 h.s).1
 have h2:=(yd.1 h.b).1
 exact ⟨hc,(hb _ h1 (yi _)).trans h.s,(hb _ h2 (by omega)).trans h.b,λk a=>EM (h.own k a) λb h1 h2=>hb b h1 (by omega)⟩
theorem K2.call(h:K2 w Cb Rb vs ss row d v W)(hc:Ik w Cb Rb vs' W')(hb:CJ Cb W.heap.size W W'):K2 w Cb Rb vs' ss row d v W':=h.keep hc λb h1 h2=>hb.block b h1 (by have:=h.cu.lt.1;omega)
theorem K2.up(h:K2 w Cb Rb vs ss row d v W)(hb:Below W.heap.size W W'):K2 w Cb Rb vs ss row d v W':=h.keep (h.cu.up hb) λb h1 _=>hb.block b h1
theorem K2.drew(h:K2 w Cb Rb vs ss row d v W):K2 w Cb Rb vs ss row d v W.drew:=⟨h.cu.drew,h.s,h.b,λk a=>(h.own k a).drew⟩
theorem K2.lt(h:K2 w Cb Rb vs ss row d v W):w.heap.size+2<=W.heap.size:=(yd.1 h.b).1
theorem K2.app(h:K2 w Cb Rb vs ss row d v W){k:Nat}(l:k < 5){x:Value}(g:W'.ownsRow (w.heap.size+2) (Pv k) (Rk k) x (EN d' k) (Lv d' k))(hg:W.grownBy W' (v k).ownBlock)(hd:∀j,j < 5->j≠k->EN d' j=EN d j/\Lv d' j=Lv d j):K2 w Cb Rb vs ss row d' (bM v k x) W':=by
 have f:∀b,(v k).ownBlock=some b->w.heap.size+2<=b:=λb hb=>(El (h.own k l) b (by unfold ob;rw[hb];simp)).1
 have c:∀b,b < W.heap.size->b < w.heap.size+2->W'.heap[b]?=W.heap[b]?:=λb h1 h2=>hg.block b h1 λe=>by have:=f b e.symm;omega
 have h1:=(yd.1 h.s).1
 have h2:=(yd.1 h.b).1
 refine ⟨h.cu.grown hg λb hb=>yG (by omega) (f b hb),(c _ h1 (by omega)).trans h.s,(c _ h2 (by omega)).trans h.b,λj i=>?_⟩
 unfold bM
 by_cases e:j=k
 ·subst e;rw[yz rfl];exact g
 rw[ym e,(hd j i e).1,(hd j i e).2]
 refine (h.own j i).kept hg (V1 (h.own j i) (h.own k l) ?_)
 have m:∀a,a < 5->∀b,b < 5->a≠b->Pv a≠Pv b:=by decide
 exact m j i k l e
theorem K2.put(h:K2 w Cb Rb vs ss row d v W)(k:Nat)(x:Value):K2 w Cb Rb vs ss (row.set k x) d v (W.setCell ⟨w.heap.size+1,k,none⟩ x):=by
 have hb:∀b,b≠w.heap.size+1->(W.setCell (aV (w.heap.size+1) k) x).heap[b]?=W.heap[b]?:=λb a=>by simp only[World.setCell,yH,ym (show ¬ w.heap.size+1=b by omega)]
 have hs:=zp W (w.heap.size+1) k row.toArray 31 x h.b
 refine ⟨⟨h.cu.cur.same (hb _ (by have:=h.cu.lt.1;omega)) (hb _ (by have:=h.cu.lt.2;omega)),⟨h.cu.bel.os,h.cu.bel.tape,h.cu.bel.output,by simpa using h.cu.bel.size,λb h1 h2=>(hb b (by omega)).trans (h.cu.bel.block b h1 h2)⟩,h.cu.ne,h.cu.lt⟩,(hb _ (by omega)).trans h.s,?_,λj c=>EM (h.own j c) λb _ h2=>hb b (by omega)⟩
 rw[hs];simp
theorem K2.set{k:Nat}{x:Value}(h:K2 w Cb Rb vs ss row d v W)(e:row.set k x=Dc d v):N3 w Cb Rb vs ss d v (W.setCell ⟨w.heap.size+1,k,none⟩ x):=by
 have:=h.put k x
 rwa [e] at this
end
def V3(u:Nat->Value):Array Value:=((List.range 206).map u).toArray
theorem I6(u:Nat->Value):V3 u=#[u 0,u 1,u 2,u 3,u 4,u 5,u 6,u 7,u 8,u 9,u 10,u 11,u 12,u 13,u 14,u 15,u 16,u 17,u 18,u 19,u 20,u 21,u 22,u 23,u 24,u 25,u 26,u 27,u 28,u 29,u 30,u 31,u 32,u 33,u 34,u 35,u 36,u 37,u 38,u 39,u 40,u 41,u 42,u 43,u 44,u 45,u 46,u 47,u 48,u 49,u 50,u 51,u 52,u 53,u 54,u 55,u 56,u 57,u 58,u 59,u 60,u 61,u 62,u 63,u 64,u 65,u 66,u 67,u 68,u 69,u 70,u 71,u 72,u 73,u 74,u 75,u 76,u 77,u 78,u 79,u 80,u 81,u 82,u 83,u 84,u 85,u 86,u 87,u 88,u 89,u 90,u 91,u 92,u 93,u 94,u 95,u 96,u 97,u 98,u 99,u 100,u 101,u 102,u 103,u 104,u 105,u 106,u 107,u 108,u 109,u 110,u 111,u 112,u 113,u 114,u 115,u 116,u 117,u 118,u 119,u 120,u 121,u 122,u 123,u 124,u 125,u 126,u 127,u 128,u 129,u 130,u 131,u 132,u 133,u 134,u 135,u 136,u 137,u 138,u 139,u 140,u 141,u 142,u 143,u 144,u 145,u 146,u 147,u 148,u 149,u 150,u 151,u 152,u 153,u 154,u 155,u 156,u 157,u 158,u 159,u 160,u 161,u 162,u 163,u 164,u 165,u 166,u 167,u 168,u 169,u 170,u 171,u 172,u 173,u 174,u 175,u 176,u 177,u 178,u 179,u 180,u 181,u 182,u 183,u 184,u 185,u 186,u 187,u 188,u 189,u 190,u 191,u 192,u 193,u 194,u 195,u 196,u 197,u 198,u 199,u 200,u 201,u 202,u 203,u 204,u 205]:=by kernel_rfl
theorem I7{P:Array Value->Prop}{l:Array Value}(hs:l.size=206)(h:P (V3 λi=>l.getD i undef)):P l:=by
 have e:(V3 λi=>l.getD i undef)=l:=by
  refine Array.ext (by simp[V3,hs]) λi h1 h2=>?_
  simp[V3,yI,h2]
 rwa [e] at h
structure UB (w:World) (Cb:Nat) (u:Nat->Value):Prop where
 u1:u 1=.pointer (some ⟨Cb,0,none⟩)
 u2:u 2=.pointer (some ⟨w.heap.size,0,none⟩)
 u4:u 4=.pointer (some ⟨w.heap.size+1,0,none⟩)
 u5:u 5=Lo Cb
structure BC (w:World) (Cb:Nat) (N:Nat->Prop) (L:BQ) (ss:List Value) (x:AM):Prop where
 v:CQ N w L ss x
 n:∀b,N b->b < w.heap.size/\b≠Cb
 slim:Nt x
 farms:∀r∈x.rots,∀k∈r.turns,0<=k.farm.n/\k.farm.n < x.farms.length
theorem BC.cells{w W:World}{Cb Rb:Nat}{N:NP}{L:BQ}{ss:LV}{x:AM}(hc:BC w Cb N L ss x){vs:List Rt}{row:LV}{d:Bk}{v:Nat->Value}(h:K2 w Cb Rb vs ss row d v W):W.cell? ⟨w.heap.size,0,none⟩=some (.string x.name)/\W.cell? ⟨w.heap.size,19,none⟩=some L.lets.v/\W.cell? ⟨w.heap.size,20,none⟩=some L.crops.v/\W.cell? ⟨w.heap.size,21,none⟩=some L.reaches.v/\W.cell? ⟨w.heap.size,22,none⟩=some L.farms.v/\W.cell? ⟨w.heap.size,23,none⟩=some L.rots.v/\W.cell? ⟨w.heap.size,24,none⟩=some L.rights.v/\W.cell? ⟨w.heap.size,25,none⟩=some L.duties.v:=by
 obtain ⟨s0,s1,c,a,g0,g1,b⟩:=hc.v.cells
 obtain ⟨_,_,rfl, -⟩:=g0.cells
 obtain ⟨_,_,rfl, -⟩:=g1.cells
 obtain ⟨_,_,rfl, -⟩:=b.cells
 have:=h.s
 rw[a] at this
 simp[World.cell?,this]
def Zc(o:Option (Bk × List Rt))(w:World)(Cb Rb:Nat)(e:Ending)(w':World):Prop:=match o with
 |some (d,vs)=>∃v,e=.returned (.agg (Dc d v).toArray)/\(∀k,k < 5->w'.ownsRow (w.heap.size+2) (Pv k) (Rk k) (v k) (EN d k) (Lv d k))/\Ik w Cb Rb vs w'
 |none=>e=.panicked (It 190)/\CJ Cb w.heap.size w w'
structure Iw (w:World) (Cb Rb:Nat) (vs:List Rt) (ss row:List Value) (d:Bk) (v:Nat->Value) (bx:Nat) (ct:List Value) (t:TypeId) (W:World):Prop where
 st:K2 w Cb Rb vs ss row d v W
 ge:w.heap.size+2<=bx
 x:W.heap[bx]?=some (.cells ct.toArray t (0,0))
 ne:∀k,k < 5->(v k).ownBlock≠some bx
section
variable{w W W':World}{Cb Rb:Nat}{vs vs':List Rt}{ss row ct:LV}{d d':Bk}{v:Nat->Value}{bx:Nat}{t:TypeId}
theorem Iw.mk'(h:K2 w Cb Rb vs ss row d v W)(ct:LV)(t:TypeId):Iw w Cb Rb vs ss row d v W.heap.size ct t (W.alloc (.cells ct.toArray t)):=
 ⟨h.up ((yg _ _).alloc (yi _) _),h.lt,World.alloc_heap_new _ _,λk a e=>by have:=(El (h.own k a) W.heap.size (by unfold ob;rw[e];simp)).2;omega⟩
theorem Iw.call(h:Iw w Cb Rb vs ss row d v bx ct t W)(hc:Ik w Cb Rb vs' W')(hb:CJ Cb W.heap.size W W'):Iw w Cb Rb vs' ss row d v bx ct t W':=
 ⟨h.st.call hc hb,h.ge,(hb.block _ (yd.1 h.x).1 (by have:=h.st.cu.lt.1;have:=h.ge;omega)).trans h.x,h.ne⟩
theorem Iw.up(h:Iw w Cb Rb vs ss row d v bx ct t W)(hb:Below W.heap.size W W'):Iw w Cb Rb vs ss row d v bx ct t W':=
 ⟨h.st.up hb,h.ge,(hb.block _ (yd.1 h.x).1).trans h.x,h.ne⟩
theorem Iw.drew(h:Iw w Cb Rb vs ss row d v bx ct t W):Iw w Cb Rb vs ss row d v bx ct t W.drew:=⟨h.st.drew,h.ge,h.x,h.ne⟩
end
def BT(k:Nat)(o:Option (Bk × List Rt))(w:World)(Cb Rb:Nat)(u:Nat->Value)(W:World):Prop:=Code.wp prog (Gj k (Tryz.f36.body.getD .skip)) (bodyPost prog Tryz.f36 (Zc o w Cb Rb)) {tmps:=V3 u,defers:=[]} W
theorem E8{o:Option (Bk × List Rt)}{w W:World}{Cb Rb:Nat}{a:Act}(h:o=none)(hd:a.defers=[])(hb:CJ Cb w.heap.size w W):bodyPost prog Tryz.f36 (Zc o w Cb Rb) (.panic (It 190)) a W:=by
 subst h
 exact ⟨hd,rfl,hb⟩
theorem Bh{W:World}{b a:Nat}(c:Array Value)(h:a≠b):(W.setRow b c).heap[a]?=W.heap[a]?:=by
 simp only[World.setRow,yH,ym (show ¬ b=a from λe=>h e.symm)]
theorem X2{w W:World}{Cb Rb:Nat}{vs:List Rt}{ss row:LV}{d:Bk}{v:Nat->Value}(h:K2 w Cb Rb vs ss row d v W):(Dc d v).toArray.all (·.oneCell')=true:=by
 obtain ⟨_,_,_,h0⟩:=AR (h.own 0 (by decide))
 obtain ⟨_,_,_,h1⟩:=AR (h.own 1 (by decide))
 obtain ⟨_,_,_,h2⟩:=AR (h.own 2 (by decide))
 obtain ⟨_,_,_,h3⟩:=AR (h.own 3 (by decide))
 obtain ⟨_,_,_,a⟩:=AR (h.own 4 (by decide))
 unfold Dc
 rw[h0,h1,h2,h3,a]
 simp[Value.oneCell']
def N4(bx:Nat)(W W':World):Prop:=W'.os=W.os/\W'.tape=W.tape/\W'.output=W.output/\W'.heap.size=W.heap.size/\∀b,b≠bx->W'.heap[b]?=W.heap[b]?
theorem Rl(W:World)(b:Nat)(c:Array Value):N4 b W (W.setRow b c):=⟨rfl,rfl,rfl,by simp[World.setRow],λk a=>Bh c a⟩
theorem Rm(W:World)(b k:Nat)(x:Value):N4 b W (W.setCell ⟨b,k,none⟩ x):=⟨rfl,rfl,rfl,by simp,λa c=>by simp only[World.setCell,yH,ym (show ¬ b=a from λe=>c e.symm)]⟩
section
variable{w W W':World}{Cb Rb:Nat}{vs:List Rt}{ss row ct ct' ct2:LV}{d:Bk}{v:Nat->Value}{bx bz:Nat}{t t2:TypeId}
theorem Iw.off(h:Iw w Cb Rb vs ss row d v bx ct t W)(g:N4 bx W W'):K2 w Cb Rb vs ss row d v W':=by
 obtain ⟨o1,o2,i,j,a⟩:=g
 have hc:=h.st.cu
 have h1:=hc.lt.1
 have h2:=hc.lt.2
 have h3:=h.ge
 exact ⟨⟨hc.cur.same (a _ (by omega)) (a _ (by omega)),hc.bel.trans ⟨o1,o2,i,by omega,λb hb _=>a b (by omega)⟩,hc.ne,hc.lt⟩,(a _ (by omega)).trans h.st.s,(a _ (by omega)).trans h.st.b,λk c=>Da (h.st.own k c) λb hb=>a b λe=>by
  subst e
  have:(v k).ownBlock=some b:=by unfold ob at hb;cases f:(v k).ownBlock with
   |none=>rw[f] at hb;cases hb
   |some z=>rw[f] at hb;simp at hb;rw[hb]
  exact h.ne k c this⟩
theorem Iw.only(h:Iw w Cb Rb vs ss row d v bx ct t W)(a:N4 bx W W')(b:W'.heap[bx]?=some (.cells ct'.toArray t (0,0))):Iw w Cb Rb vs ss row d v bx ct' t W':=⟨h.off a,h.ge,b,h.ne⟩
theorem Iw.apart(h:Iw w Cb Rb vs ss row d v bx ct t W)(h2:Iw w Cb Rb vs ss row d v bz ct2 t2 W)(a:bx≠bz)(b:N4 bz W W'):Iw w Cb Rb vs ss row d v bx ct t W':=⟨h2.off b,h.ge,(b.2.2.2.2 _ a).trans h.x,h.ne⟩
theorem Iw.put(h:Iw w Cb Rb vs ss row d v bx ct t W)(k:Nat)(x:Value):Iw w Cb Rb vs ss row d v bx (ct.set k x) t (W.setCell ⟨bx,k,none⟩ x):=h.only (Rm _ _ _ _) (by rw[zp W bx k ct.toArray t x h.x];simp)
end
theorem Dg{W:World}{b:Nat}{c:Array Value}{t:TypeId}(h:W.heap[b]?=some (.cells c t (0,0)))(k:Nat):W.frozen? ⟨b,k,none⟩=false:=by simp[World.frozen?,h]
theorem Ik.num{w W:World}{Cb Rb:Nat}{v:Rt}{r:List Rt}(h:Ik w Cb Rb (v::r) W):Calls prog 59 #[.pointer (some ⟨Cb,0,none⟩)] W λe w'=>(v.d<=1/\e=.returned (.int .i64 v.n)/\Ik w Cb Rb r w'/\CJ Cb W.heap.size W w')\/(1 < v.d/\e=.panicked (It 190)/\CJ Cb w.heap.size w w'):=by
 rcases (by omega:v.d<=1\/1 < v.d) with a|a
 ·exact (h.yes a).mono λ_ _ k=>.inl ⟨a,k⟩
 exact (h.no a).mono λ_ _ k=>.inr ⟨a,k⟩
theorem Ik.rat{w W:World}{Cb Rb:Nat}{v:Rt}{r:List Rt}(h:Ik w Cb Rb (v::r) W):Calls prog 60 #[.pointer (some ⟨Cb,0,none⟩)] W λe w'=>e=.returned (.agg #[.int .i64 v.n,.int .i64 v.d])/\Ik w Cb Rb r w'/\CJ Cb W.heap.size W w':=
 (OG h.cur h.ne (yx h.lt.2 h.bel.size)).mono λ_ _ k=>⟨k.1,⟨k.2.1,h.bel.trans (k.2.2.mono h.bel.size),h.ne,h.lt⟩,k.2.2⟩
end Go.Proofs.YtbdfinegbjdblaaGreatDoor
