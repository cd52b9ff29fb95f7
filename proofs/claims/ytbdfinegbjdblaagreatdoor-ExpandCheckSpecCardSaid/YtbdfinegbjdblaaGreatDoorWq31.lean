/- The law's sane. -/
import Derived.Test.YtbdfinegbjdblaaGreatDoorWq0
import Derived.Test.YtbdfinegbjdblaaGreatDoorWq30
set_option maxRecDepth 100000
set_option maxHeartbeats 32000000
set_option linter.unusedSimpArgs false
namespace Go.Proofs.YtbdfinegbjdblaaGreatDoor
open Go.RowKit Go.Proofs.Tryz
theorem PC{w W:World}{g:Xo}{tt:LV}{st e:Ex}{a:LV}(hg:GV w)(j:GU w)(f:YM w g tt W)(i:Bm (λb=>b < W.heap.size) W st a)(c:Bm (λb=>b < W.heap.size) W e tt)(d:Zh (WN st e)=true):Calls prog 14 #[.agg (FF g a).toArray] W (Rs (CC (WN st e)) W):=
 Nd (YN (Zg f (λ_ _ h=>h) i c) (hg.below f.1 hg.1) (j.up f.1) d)
theorem Kx{ops:Array Oper}{rest:List Oper}{op:Oper}{a:Act}{w:World}{Q:QT}(hw:Region.wanted op (yielded ops a.tmps)=true)(ty:TypeId)(x:Operand)(f:op.op=.load ty x)
 (b o:Nat)(g:a.eval x=.pointer (some ⟨b,o,none⟩))(cs:LV)(d:TypeDesc)(hc:w.rangeAt b o cs)(e:prog.underlying ty=some d)(hd:d.isRow=true)(hi:(prog.info? ty).map (·.size)=some cs.length)
 (h:wpList prog ops Q rest (a.put op.dst (.agg cs.toArray)) w):wpList prog ops Q (op::rest) a w:=
 wpList_step λK c=>by rw[yz hw];exact xQ ty x f b o g cs d hc e hd hi (c _ _ h)
theorem Ib(b:Nat):∀(vs:LV) (o:Nat) (W:World),N4 b W (W.setCells b o vs)
 |[],_,_=>⟨rfl,rfl,rfl,rfl,λ_ _=>rfl⟩
 |v::r,o,W=>by
  rw[World.setCells]
  obtain ⟨g,f,a3,a4,a5⟩:=Rm W b o v
  obtain ⟨b1,b2,e,d,c⟩:=Ib b r (o+1) (W.setCell ⟨b,o,none⟩ v)
  exact ⟨b1.trans g,b2.trans f,e.trans a3,d.trans a4,λk a=>(c k a).trans (a5 k a)⟩
def Xd:Array Value->Nat->LV->Array Value
 |row,_,[]=>row
 |row,o,v::r=>Xd (row.setIfInBounds o v) (o+1) r
theorem JY(b:Nat)(t:TypeId):∀(vs:LV) (o:Nat) (W:World) (row:Array Value),W.heap[b]?=some (.cells row t (0,0))->(W.setCells b o vs).heap[b]?=some (.cells (Xd row o vs) t (0,0))
 |[],_,_,_,h=>h
 |v::r,o,W,row,h=>by
  rw[World.setCells,Xd]
  exact JY b t r (o+1) _ _ (zp W b o row t v h)
theorem Nf.cells{w W W':World}{l l':List (Nat × Obj)}(h:Nf w l W){B:Nat}{row a:Array Value}{t:TypeId}(k:w.heap.size<=B)(n:W.heap[B]?=some (.cells row t (0,0)))(j:N4 B W W')(g:W'.heap[B]?=some (.cells a t (0,0)))(m:∀p∈l',(p∈l/\Zn p.2≠t)\/p=(B,.cells a t (0,0))):Nf w l' W':=by
 obtain ⟨o1,o2,i,q,f⟩:=j
 refine ⟨h.1.trans ⟨o1,o2,i,by omega,λb hb=>f b (by omega)⟩,λp o=>?_⟩
 rcases m p o with ⟨h1,h2⟩|rfl
 ·obtain ⟨h3,d⟩:=h.2 p h1
  have c:p.1≠B:=λe=>by
   rw[e,n] at d
   exact h2 (by rw[<-yf d];rfl)
  exact ⟨⟨h3.1,by omega⟩,(f _ c).trans d⟩
 exact ⟨⟨k,(yd.1 g).1⟩,g⟩
theorem Yl(a b:Int)(w:World):(Op.equalIn 10000 23 (.agg #[.int .i64 a,.int .i64 b]) (.agg #[.int .i64 a,.int .i64 b])).run prog w=.ok true w:=by
 rw[run_equalIn_struct w 9999 23 _ _ (by kernel_rfl) (by kernel_rfl)]
 unfold Program.fieldsOf
 rw[j5]
 dsimp only
 rw[EI (by simp) rfl (x:=a) (y:=a) rfl rfl]
 rw[EI (by simp) rfl (x:=b) (y:=b) rfl rfl]
 rw[TC]
 simp
theorem Ni{α:Type}{N:NP}{w:World}{sz:Nat}{f:α->LV}{a:Option Addr}{n c:Nat}{l:List α}(h:Bg N w sz (Nl f) ⟨a,n,c⟩ l)(h0:0 < l.length):∃b o,a=some ⟨b,o,none⟩/\N b/\∀i (hi:i < l.length),w.rangeAt b (o+i*sz) (f l[i]):=by
 obtain ⟨b,o,cs,d,j, -, -, -⟩:=h.2.2 0 h0
 refine ⟨b,o,d,j,λi hi=>?_⟩
 obtain ⟨m,p,cs',e, -, -,g,k⟩:=h.2.2 i hi
 rw[d] at e
 cases e
 rw[<-k];exact g
theorem RD{α:Type}{N:NP}{w:World}{sz g c:Nat}{f:α->LV}{l:List α}{t:TypeId}(hf:∀a,(f a).length=sz)(hN:N g)(b:w.heap[g]?=some (.cells (l.flatMap f).toArray t (0,0)))(d:l.length<=140737488355328):Bg N w sz (Nl f) ⟨some ⟨g,0,none⟩,l.length,c⟩ l:=
 ⟨rfl,d,λi hi=>⟨g,0,f l[i],rfl,hN,hf _,λj u e=>by
  have:=Kt hf l i hi j u e
  simp only[World.cell?,b]
  simpa using this,rfl⟩⟩
theorem Hj{ops:Array Oper}{rest:List Oper}{op:Oper}{a:Act}{w:World}{Q:QT}(hw:Region.wanted op (yielded ops a.tmps)=true)(t:TypeId)(b:Array (Nat × Operand))(e:op.op=.build t b)
 (d:Option Tmp)(hd:op.dst=d)(cells:Array Value)(hf:prog.built t (b.map λ(i,x)=>(i,a.eval x)).toList=some cells)
 (h:wpList prog ops Q rest (a.put d (.agg cells)) w):wpList prog ops Q (op::rest) a w:=by
 subst hd
 exact wpList_step λK c=>by
  rw[yz hw]
  exact wp_build t b e (by rw[hf];rfl) (by rw[hf];exact c _ _ h)
theorem NS{ops:Array Oper}{rest:List Oper}{op:Oper}{a:Act}{w:World}{Q:QT}(hw:Region.wanted op (yielded ops a.tmps)=true)(l c:Operand)(t e:TypeId)(r:op.op=.makeSlice t l c)
 (o:prog.underlying t=some (.slice e))(n sz b:Nat)(z:Value)(hi:(prog.info? e).map (λi=>(i.zero,i.size,i.bytes))=some (some z,sz,b))(p:a.eval l=.int .i64 (n:Int))(hc:a.eval c=.int .i64 (n:Int))(hb:b*n<=281474976710656)(s:n<=9223372036854775807)
 (cells:Array Value)(q:madeCells z.cells (n*sz)=cells)
 (h:wpList prog ops Q rest (a.put op.dst (.slice (some ⟨w.heap.size,0,none⟩) n n)) (w.alloc (.cells cells e))):wpList prog ops Q (op::rest) a w:=
 wpList_step λK m=>by
  rw[yz hw]
  obtain ⟨i,g,d⟩:=Option.map_eq_some_iff.1 hi
  simp only[qg] at d
  obtain ⟨k,f,j⟩:=d
  subst f j q
  have hr:=run_make (P:=prog) w t e i z o g k .i64 .i64 n n (by omega) (Int.le_refl _) (by rw[<-Int.natCast_mul];omega) (by omega)
  simp only[Int.toNat_natCast] at hr
  unfold Oper.wp
  simp[execOp,r,p,hc,hr,Result.andThen]
  exact m _ _ h
theorem Vh{α:Type}{f:α->LV}{sz:Nat}(hf:∀a,(f a).length=sz)(h0:0 < sz)(x:α)(n:Nat):madeCells (f x).toArray (n*sz)=((List.replicate n x).flatMap f).toArray:=by
 have b:((List.replicate n x).flatMap f).length=n*sz:=by simp[List.length_flatMap,hf]
 refine Array.ext (by rw[size_madeCells,yA,b]) λi h1 h2=>?_
 have hi:i < n*sz:=by rwa [size_madeCells] at h1
 have c:i % sz < (f x).length:=by rw[hf];exact qP _ h0
 have h:=Kt hf (List.replicate n x) (i / sz) (by rw[List.length_replicate];exact Nat.div_lt_of_lt_mul (by rwa [Nat.mul_comm])) (i % sz) _ (by rw[List.getElem_replicate];exact yk c)
 rw[Nat.mul_comm,Nat.div_add_mod] at h
 have e:=(yF.1 h).2
 refine Eq.trans ?_ (show ((List.replicate n x).flatMap f)[i]'(by rw[b];exact hi)=_ from e).symm
 simp only[madeCells,Array.getElem_map,Array.getElem_range,yA,hf,List.getElem!_toArray]
 rw[List.getElem!_eq_getElem?_getD,yk c]
 rfl
def T1:Jn:=⟨⟨#[]⟩,0,0,0,0,0,0,0,⟨0,0⟩,⟨0,0⟩⟩
def Ky:Array Value:=((List.replicate 65 T1).flatMap Ft).toArray
theorem PD:madeCells (Value.agg (Ft T1).toArray).cells (65*12)=Ky:=Vh (λ_=>rfl) (by decide) T1 65
theorem Xe:(prog.info? 82).map (λi=>(i.zero,i.size,i.bytes))=some (some (.agg (Ft T1).toArray),12,104):=by kernel_rfl
def Xf:Bk:=⟨⟨#[]⟩,0,0,0,List.replicate 65 T1,[],[],[],[]⟩
theorem Ym:F7 Xf=2:=by kernel_rfl
theorem Zi:F7 Cw=191:=by kernel_rfl
theorem EO{α:Type}{N:NP}{w:World}{sz:Nat}{f:α->LV}:Bg N w sz (Nl f) ⟨none,0,0⟩ []:=⟨rfl,yC _,λ_ hi=>absurd hi (Nat.not_lt_zero _)⟩
def hN:AA:=⟨none,0,0⟩
def T2:LV:=DW s0 0 0 0 hN hN hN hN hN hN
theorem Yn(w:World):Calls prog 11 #[.agg T2.toArray] w λe w'=>e=.returned (.int .i64 191)/\Below w.heap.size w w':=by
 have h:=I2 (N:=λ_=>False) (w:=w) (hr:=hN) (hf:=hN) (hc:=hN) (hg:=hN) (hd:=hN) (hw:=hN) (cs:=T2) (d:=Cw) ⟨rfl,EO,EO,EO,EO,EO⟩ (λb h=>h.elim)
 rwa [Zi] at h
def Xg(g:Nat):LV:=DW s0 0 0 0 ⟨some ⟨g,0,none⟩,65,65⟩ hN hN hN hN hN
theorem Yo{w:World}{g:Nat}(hg:w.heap[g]?=some (.cells Ky 82 (0,0))):Calls prog 11 #[.agg (Xg g).toArray] w λe w'=>e=.returned (.int .i64 2)/\Below w.heap.size w w':=by
 have h:=I2 (N:=λb=>b < w.heap.size) (w:=w) (hr:=⟨some (aV g 0),65,65⟩) (hf:=hN) (hc:=hN) (hg:=hN) (hd:=hN) (hw:=hN) (cs:=Xg g) (d:=Xf) ⟨rfl,RD (N:=λb=>b < w.heap.size) (g:=g) (c:=65) (l:=List.replicate 65 T1) (f:=Ft) (t:=82) (λ_=>rfl) (yd.1 hg).1 hg (by simp),EO,EO,EO,EO⟩ (λb h=>h)
 rwa [Ym] at h
def NT(hr hf hc hg hd hw:AA):LV:=DW Xk.name Xk.hours Xk.cap Xk.start hr hf hc hg hd hw
theorem Xh{w:World}(b9:GV w)(bg:GU w):Calls prog 9 #[] w λe w'=>e=.returned (.bool true)/\Below w.heap.size w w':=by
 have E:=yb b9;have ac:=yb bg
 have ay:=yb (λW=>Vf W)
 have bu:Hid (∀(W y:World) (g:Xo),GV W->GU W->YM W g (AB 15 3) y->Calls prog 14 #[.agg (FF g (AB 500 1)).toArray] y (Rs (Xk,0) y)):=yb (λW y g h1 h2 G=>by have h:=PC h1 h2 G (Cj 500 1) (Cj 15 3) aB;rwa [ZR] at h)
 have c8:Hid (∀(W y:World) (g:Xo),GV W->GU W->YM W g (AB 4 3) y->Calls prog 14 #[.agg (FF g (AB 500 1)).toArray] y (Rs (Cw,190) y)):=yb (λW y g h1 h2 G=>by have h:=PC h1 h2 G (Cj 500 1) (Cj 4 3) aC;rwa [Y2] at h)
 have bw:Hid (∀(W y:World) (g:Xo) (gd:Nat),GV W->GU W->YM W g (AB 15 3) y->gd < y.heap.size->y.heap[gd]?=some (.cells (AB 5 1++AB 2 0).toArray 40 (0,0))->Calls prog 14 #[.agg (FF g (ES gd)).toArray] y (Rs (Cw,190) y)):=yb (λW y g gd h1 h2 G hl hg=>by have h:=PC h1 h2 G (Pz hl hg (Cj 5 1) (Cj 2 0)) (Cj 15 3) aD;rwa [Y3] at h)
 have bq:Hid (∀W:World,GV W->GU W->Calls prog 14 #[.agg Cq.toArray] W (Rs (Cw,170) W)):=yb (λW h1 h2=>by have h:=Nd (YN Yk h1 h2 aE);rwa [WO] at h)
 have HN:=yb (λn u W=>Kw n u W)
 clear b9 bg
 go_enter func9,ntmps9
 refine Ai λK a=>?_
 go_wp2
 refine a.o _ _ ?_
 clear a K
 refine Ai λK a=>?_
 go_wp2_with (first
  |(go_at_call 24;refine (ay.o _).mono ?_;rintro e w2 ⟨g,rfl,G⟩;have d:=yb G;clear G)
  |(go_at_call 14;refine (bu.o _ _ _ E.o ac.o d.o).mono ?_;rintro e w3 ⟨f,D,hr,hf,hc,hg,hd,hw,rfl, -,O⟩;obtain rfl:D=NT hr hf hc hg hd hw:=O.cells;have HD:=yb O;have aq:=yb (d.o.1.trans (f.mono d.o.1.size));clear f O)
  |((with_reducible refine yt rfl 31 (.tmp 1) (.tmp 15) rfl w3.heap.size (NT hr hf hc hg hd hw).toArray (by kernel_rfl) (by kernel_rfl) 31 _ (World.alloc_heap_new _ _) (by kernel_rfl) (by kernel_rfl) (by kernel_rfl) ?_);rw[World.setRow_alloc_new]))
 refine a.o _ _ ?_
 clear a K d
 have q:=yb (HD.o.same (N':=λb=>b < w3.heap.size) (w':=w3.alloc (.cells (NT hr hf hc hg hd hw).toArray 31)) (λb hb=>hb.2) (λb hb=>yp _ _ _ hb.2))
 have ab:=yb (aq.o.alloc aq.o.size (.cells (NT hr hf hc hg hd hw).toArray 31))
 have HX:=yb (World.alloc_heap_new w3 (.cells (NT hr hf hc hg hd hw).toArray 31))
 have HZ:Hid ((w3.alloc (.cells (NT hr hf hc hg hd hw).toArray 31)).heap.size=w3.heap.size+1):=yb (by simp)
 clear HD aq
 generalize w3.heap.size=B1 at q HX HZ |-
 generalize w3.alloc _=wr at q ab HX HZ |-
 obtain ⟨ra,rn,rc⟩:=hr
 obtain ⟨fa,fn,fc⟩:=hf
 obtain ⟨ca,cn,cc⟩:=hc
 obtain ⟨ga,gn,gc⟩:=hg
 obtain ⟨da,dn,dc⟩:=hd
 obtain ⟨wa,wn,wc⟩:=hw
 obtain rfl:rn=1:=q.o.reaches.1
 obtain rfl:fn=2:=q.o.farms.1
 obtain rfl:cn=1:=q.o.crops.1
 obtain rfl:gn=3:=q.o.rights.1
 obtain rfl:dn=1:=q.o.duties.1
 refine Ai λK a=>?_
 go_wp2_with (first
  |(with_reducible refine wpList_buildTo rfl 62 _ rfl (some 17) rfl (AZ ⟨OK,1,0,0,7,40,2,15,4,3⟩).toArray (by kernel_rfl) ?_)
  |(with_reducible refine wpList_buildTo rfl 62 _ rfl (some 18) rfl (AZ ⟨OK,1,1,0,7,40,5,15,4,1⟩).toArray (by kernel_rfl) ?_)
  |(with_reducible refine wpList_buildTo rfl 62 _ rfl (some 19) rfl (AZ ⟨TI,2,1,0,0,0,0,19,0,0⟩).toArray (by kernel_rfl) ?_)
  |((with_reducible refine Am rfl 27 62 _ (LH.map AZ) 3 rfl (LH.flatMap AZ) (by simp[List.flatMap_def]) rfl (by kernel_rfl) 10 jc (by kernel_rfl) (by simp[LH,AZ]) (by omega) (by omega) ?_);have HG:=yb (World.alloc_heap_new wr (.cells (LH.flatMap AZ).toArray 62));have HU:=yb ((yg wr.heap.size wr).alloc (yi _) (.cells (LH.flatMap AZ).toArray 62));have x:Hid ((wr.alloc (.cells (LH.flatMap AZ).toArray 62)).heap.size=wr.heap.size+1):=yb (by simp)))
 refine a.o _ _ ?_
 clear a K
 have I:=yb (q.o.same (N':=λb=>b < wr.heap.size) (w':=wr.alloc (.cells (LH.flatMap AZ).toArray 62)) (λb hb=>by have:=HZ.o;omega) (λb hb=>HU.o.block b (by have:=HZ.o;omega)))
 have a7:=yb (ab.o.trans (HU.o.mono ab.o.size))
 have B:=yb ((HU.o.block B1 (by have:=HZ.o;omega)).trans HX.o)
 have af:=yb (RD (N:=λb=>b < wr.heap.size+1) (c:=3) (sz:=10) (λ_=>rfl) (Nat.lt_succ_self _) HG.o (by decide:LH.length<=140737488355328))
 clear q ab HX HG
 generalize wr.heap.size=B2 at I af HZ x |-
 generalize wr.alloc _=wq at I a7 B af x HU |-
 have L:=yb (Nh (I.o.rights.same (N':=λb=>b < B2+1) (λb hb=>by omega) (λ_ _=>rfl) (λ_ _ h=>h)) af.o (λb hb=>by have:=x.o;omega))
 have bn:Hid (∀W,Below wq.heap.size wq W->Calls prog 11 #[.agg (NT ⟨ra,1,rc⟩ ⟨fa,2,fc⟩ ⟨ca,1,cc⟩ ⟨ga,3,gc⟩ ⟨da,1,dc⟩ ⟨wa,wn,wc⟩).toArray] W λe w'=>e=.returned (iV 0)/\Below W.heap.size W w'):=yb (λW hW=>by
  have h:=I2 (w:=W) (I.o.same (N':=λb=>b < B2) (w':=W) (λ_ h=>h) (λb hb=>hW.block b (by have:=x.o;omega))) (λb hb=>yx hb (by have:=x.o;have:=hW.size;omega))
  rwa [WQ] at h)
 rw[show Gr Xk.rights LH=true from Ng LH] at L
 have r:=B.o
 unfold NT DW AA.v at r
 dsimp only at r
 obtain ⟨y0,y1,y2,y3,y4,y5,y6,y7,y8,y9⟩:=BV r
 unfold Xk at y0 y1 y2 y3
 dsimp only at y0 y1 y2 y3
 unfold AA.v at L
 dsimp only at L
 have b4:LH.length=3:=rfl
 rw[b4] at L
 clear r b4
 refine Ai λK a=>?_
 go_wp2_with (first
  |(go_at_call 25;refine L.o.mono ?_;rintro e w5 ⟨rfl,ax⟩;have aa:=yb ax;have bi:Hid (w5.rangeAt B1 0 (NT ⟨ra,1,rc⟩ ⟨fa,2,fc⟩ ⟨ca,1,cc⟩ ⟨ga,3,gc⟩ ⟨da,1,dc⟩ ⟨wa,wn,wc⟩)):=yb (Ae ((ax.block B1 (yd.1 B.o).1).trans B.o));clear ax)
  |(with_reducible refine Kx (by kernel_rfl) 31 (.tmp 1) rfl B1 0 (by kernel_rfl) _ _ bi.o jf rfl (by kernel_rfl) ?_)
  |(go_at_call 11;refine (bn.o _ aa.o).mono ?_;rintro e w6 ⟨rfl,ba⟩;have A:=yb (aa.o.trans (ba.mono aa.o.size));clear ba))
 refine a.o _ _ ?_
 clear a K L bn bi aa y0 y1 y2 y3 y4 y5 y6 y7 y8 y9
 have ae:=yb (I.o.same (N':=λb=>b < w6.heap.size) (w':=w6) (λb hb=>by have:=x.o;have:=A.o.size;omega) (λb hb=>A.o.block b (by have:=x.o;omega)))
 have b7:=yb ((A.o.block B1 (yd.1 B.o).1).trans B.o)
 have ad:=yb (a7.o.trans (A.o.mono a7.o.size))
 clear I B a7 A af x HU HZ
 have r:=b7.o
 unfold NT DW AA.v at r
 dsimp only at r
 obtain ⟨y0,y1,y2,y3,y4,y5,y6,y7,y8,y9⟩:=BV r
 unfold Xk at y0 y1 y2 y3
 dsimp only at y0 y1 y2 y3
 clear r
 obtain ⟨bc,oc,rfl, -,bb⟩:=Ni ae.o.crops (by decide)
 obtain ⟨br,b5,rfl, -,am⟩:=Ni ae.o.reaches (by decide)
 obtain ⟨bf,an,rfl, -,au⟩:=Ni ae.o.farms (by decide)
 have k1:w6.cell? (aV bc (oc+1))=some (iV 15):=(bb 0 (by decide)) 1 _ rfl
 have k2:w6.cell? (aV br (b5+3))=some (iV 90):=(am 0 (by decide)) 3 _ rfl
 have k3:w6.cell? (aV br (b5+1))=some (iV (-1)):=(am 0 (by decide)) 1 _ rfl
 have k4:w6.cell? (aV bf (an+2))=some (iV 4):=(au 0 (by decide)) 2 _ rfl
 have k5:w6.cell? (aV bf (an+4+3))=some (iV (-1)):=(au 1 (by decide)) 3 _ rfl
 have k6:w6.cell? (aV bf (an+7))=some (iV (-1)):=k5
 clear bb am au
 have bt:=λW=>Yl 2000 500 W
 have bp:prog.eqGuardType prog.depth 23=false:=by kernel_rfl
 refine Ai λK a=>?_
 go_wp2
 refine a.o _ _ ?_
 clear a K ae b7 y0 y1 y2 y3 y4 y5 y6 y7 y8 y9 k1 k2 k3 k4 k5 k6 bt bp
 have b0:=yb (E.o.below ad.o E.o.1)
 have bh:=yb (ac.o.up ad.o)
 refine Ai λK a=>?_
 go_wp2_with (first
  |(go_at_call 24;refine (ay.o _).mono ?_;rintro e w7 ⟨k,rfl,G⟩;have d:=yb G;clear G)
  |((with_reducible refine yt rfl 49 (.tmp 4) (.tmp 108) rfl w7.heap.size (FF k (AB 500 1)).toArray (by kernel_rfl) (by kernel_rfl) 49 _ (World.alloc_heap_new _ _) (by kernel_rfl) (by kernel_rfl) (by kernel_rfl) ?_);rw[World.setRow_alloc_new]))
 refine a.o _ _ ?_
 clear a K
 have C:=yb (d.o.alloc (.cells (FF k (AB 500 1)).toArray 49))
 clear d
 generalize w7.heap.size=B4 at C |-
 generalize w7.alloc _=w8 at C |-
 refine Ai λK a=>?_
 have J:Hid (w8.heap[B4]?=some (.cells (FF k (AB 500 1)).toArray 49 (0,0))):=yb (C.o.2 (B4,_) (xq ..)).2
 have a8:Hid (w8.heap[k.go]?=some (.cells (Hi k.g4 k.gt (AB 15 3)).toArray 56 (0,0))):=yb (C.o.2 (k.go,_) (zP _ (xq ..))).2
 have s:Hid (B4 < w8.heap.size/\k.go < w8.heap.size/\w6.heap.size<=k.go):=yb ⟨(yd.1 J.o).1,(yd.1 a8.o).1,(C.o.2 (k.go,_) (zP _ (xq ..))).1.1⟩
 have HT:Hid (∀V:World,V.heap[B4]?=some (.cells (FF k (AB 500 1)).toArray 49 (0,0))->V.cell? (aV B4 23)=some (.slice (some (aV k.go 0)) 1 1)):=yb (λV h=>by simp[World.cell?,h,FF,AB])
 refine Kq ?_
 refine Cu (by kernel_rfl) (λV=>V.cell? (aV B4 23)=some (.slice (some (aV k.go 0)) 1 1)) 5 [(0,109,pV B4 23),(1,110,.slice (some (aV k.go 0)) 1 1)] 4 (by kernel_rfl) (by kernel_rfl) (λ_ _ _ _ _ h=>by cases h.1) (HT.o _ J.o) (by kernel_rfl) ?_ ?_
 ·simp only[Ct]
  refine ⟨?_,?_,trivial⟩
  all_goals
   intro o ho V hV
   obtain rfl:=yf ho
   go_simp
 simp only[Cs]
 refine Aq (i:=2) (by kernel_rfl) rfl rfl (λK a=>?_)
 go_simp
 refine (HN.o _ _ _).mono ?_
 rintro e w9 ⟨rfl,M⟩
 have S:Hid (Below w8.heap.size w8 w9):=yb ⟨M.os,M.tape,M.output,M.size,M.block⟩
 have av:=HT.o w9 ((S.o.block B4 s.o.1).trans J.o)
 have ao:=yb av
 refine a.o _ _ (λ_=>av) ?_
 clear a K M av
 refine Aq (i:=3) (by kernel_rfl) rfl rfl (λK a=>?_)
 go_simp
 refine a.o _ _ (λ_=>ao.o) ?_
 clear a K
 refine Aq (i:=4) (by kernel_rfl) rfl rfl (λK a=>?_)
 go_simp
 refine a.o _ _ (λ_=>ao.o) ?_
 clear a K
 have ag:=yb ((S.o.block k.go s.o.2.1).trans a8.o)
 refine Aq (i:=5) (by kernel_rfl) rfl rfl (λK a=>?_)
 refine wp_store_mid 40 (.tmp 113) (.tmp 111) rfl k.go 16 (AB 4 3).toArray (by kernel_rfl) (by kernel_rfl) (λj hj=>by
  have h:=ag.o
  have bv:j < 6:=hj
  refine ⟨?_,by simp[World.frozen?,h]⟩
  simp only[World.cell?,h]
  simp[Hi,B6,ES,AB];omega) (by kernel_rfl) (by kernel_rfl) ?_
 refine a.o _ _ (by intro h;cases h) ?_
 clear a K
 refine AP (by kernel_rfl) ?_
 refine ⟨rfl,?_⟩
 have t:Hid (YM w6 k (AB 4 3) (w9.setCells k.go 16 (AB 4 3).toArray.toList)):=yb ((C.o.up S.o).cells s.o.2.2 ag.o (Ib _ _ _ _) (JY _ _ _ _ _ _ ag.o) (λp hp=>by
  simp only[Ia,yq,yu,yV] at hp
  rcases hp with rfl|rfl|rfl|rfl|rfl|rfl|rfl|rfl|rfl|rfl
  ·exact .inr rfl
  all_goals exact .inl ⟨by simp[Ia],by simp[Zn]⟩))
 have T:Hid ((w9.setCells k.go 16 (AB 4 3).toArray.toList).heap[B4]?=some (.cells (FF k (AB 500 1)).toArray 49 (0,0))):=yb (((Ib k.go _ _ _).2.2.2.2 B4 (λe=>by
  have h1:=a8.o
  rw[<-e,J.o] at h1
  cases h1)).trans ((S.o.block B4 s.o.1).trans J.o))
 clear C J a8 s HT S ao ag
 generalize World.setCells _ _ _ _=wr at t T |-
 refine a.o _ _ ?_
 clear a K
 refine Ai λK a=>?_
 have ak:=yb (Ae T.o)
 go_wp2_with (first
  |(with_reducible refine yj rfl 49 (.tmp 4) rfl B4 0 (by kernel_rfl) (FF k (AB 500 1)) _ ak.o jq rfl (by kernel_rfl) ?_)
  |(go_at_call 14;refine (c8.o _ _ _ b0.o bh.o t.o).mono ?_;rintro e bj ⟨f,D,hr,hf,hc,hg,hd,hw,rfl, -,O⟩;obtain rfl:D=DW s0 0 0 0 hr hf hc hg hd hw:=O.cells;have R:=yb (ad.o.trans ((t.o.1.trans (f.mono t.o.1.size)).mono ad.o.size));clear f O)
  |((with_reducible refine yt rfl 31 (.tmp 5) (.tmp 117) rfl bj.heap.size (DW s0 0 0 0 hr hf hc hg hd hw).toArray (by kernel_rfl) (by kernel_rfl) 31 _ (World.alloc_heap_new _ _) (by kernel_rfl) (by kernel_rfl) (by kernel_rfl) ?_);rw[World.setRow_alloc_new]))
 refine a.o _ _ ?_
 clear a K t T ak
 have l:=yb (R.o.alloc R.o.size (.cells (DW s0 0 0 0 hr hf hc hg hd hw).toArray 31))
 clear R
 generalize bj.alloc _=aw at l |-
 have a6:=yb (E.o.below l.o E.o.1)
 have X:=yb (ac.o.up l.o)
 refine Ai λK a=>?_
 go_wp2_with (first
  |(go_at_call 24;refine (ay.o _).mono ?_;rintro e ap ⟨F,rfl,G⟩;have d:=yb G;clear G)
  |((with_reducible refine yt rfl 49 (.tmp 7) (.tmp 119) rfl ap.heap.size (FF F (AB 500 1)).toArray (by kernel_rfl) (by kernel_rfl) 49 _ (World.alloc_heap_new _ _) (by kernel_rfl) (by kernel_rfl) (by kernel_rfl) ?_);rw[World.setRow_alloc_new]))
 refine a.o _ _ ?_
 clear a K
 have H:=yb (d.o.alloc (.cells (FF F (AB 500 1)).toArray 49))
 clear d
 generalize ap.heap.size=Z at H |-
 generalize ap.alloc _=cd at H |-
 have d:=H
 clear H
 have A:Hid (aw.heap.size<=Z):=yb (d.o.2 (Z,_) (xq ..)).1.1
 refine Ai λK a=>?_
 go_wp2_with (first
  |(go_at_call 26;refine (HN.o _ _ _).mono ?_;rintro e cb ⟨rfl,hb⟩;have H2:=yb (d.o.up hb);clear d;have d:=H2;clear H2 hb)
  |((with_reducible refine Am rfl 38 40 _ [AB 5 1,AB 2 0] 2 rfl (AB 5 1++AB 2 0) (by simp) rfl (by kernel_rfl) 6 jg (by kernel_rfl) (by simp[AB]) (by omega) (by omega) ?_);have H2:=yb (d.o.alloc (.cells (AB 5 1++AB 2 0).toArray 40));clear d;have d:=H2;clear H2;generalize World.alloc _ _=be at d |-;generalize World.heap _=h2 at d |-;generalize h2.size=gd at d |-;clear h2)
  |(with_reducible refine wpList_buildTo rfl 40 _ rfl (some 123) rfl (ES gd).toArray (by kernel_rfl) ?_)
  |(refine wpList_store_mid rfl 40 (.tmp 124) (.tmp 123) rfl Z 13 (ES gd).toArray (by kernel_rfl) (by kernel_rfl) (λj hj=>by
    have h:=(d.o.2 (Z,.cells (FF F (AB 500 1)).toArray 49) (zP _ (xq ..))).2
    have bv:j < 6:=hj
    refine ⟨?_,by simp[World.frozen?,h]⟩
    simp only[World.cell?,h]
    simp[FF,AB];omega) (by kernel_rfl) (by kernel_rfl) ?_))
 refine a.o _ _ ?_
 clear a K
 have hz:be.heap[Z]?=some (.cells (FF F (AB 500 1)).toArray 49 (0,0)):=(d.o.2 (Z,.cells (FF F (AB 500 1)).toArray 49) (zP _ (xq ..))).2
 have z:Hid (Nf aw ((gd,.cells (AB 5 1++AB 2 0).toArray 40)::(Z,.cells (FF F (ES gd)).toArray 49)::(F.go,.cells (Hi F.g4 F.gt (AB 15 3)).toArray 56)::Ia F) (be.setCells Z 13 (ES gd).toArray.toList)):=yb (d.o.cells A.o hz (Ib _ _ _ _) (JY _ _ _ _ _ _ hz) (λp hp=>by
  simp only[Ia,yq,yu,yV] at hp
  rcases hp with rfl|rfl|rfl|rfl|rfl|rfl|rfl|rfl|rfl|rfl|rfl|rfl
  ·exact .inl ⟨by simp[Ia],by simp[Zn]⟩
  ·exact .inr rfl
  all_goals exact .inl ⟨by simp[Ia],by simp[Zn]⟩))
 clear hz d
 generalize World.setCells _ _ _ _=b8 at z |-
 have ah:Hid (YM aw F (AB 15 3) b8):=yb ⟨z.o.1,λp hp=>z.o.2 p (zP _ (zP _ hp))⟩
 have ai:Hid (b8.heap[Z]?=some (.cells (FF F (ES gd)).toArray 49 (0,0))):=yb (z.o.2 (Z,_) (zP _ (xq ..))).2
 have Y:=yb (z.o.2 (gd,_) (xq ..))
 have bo:=yb (bw.o _ _ F gd a6.o X.o ah.o Y.o.1.2 Y.o.2)
 have a1:=yb (l.o.trans (z.o.1.mono l.o.size))
 clear z ah Y l a6 X
 refine Ai λK a=>?_
 have aj:=yb (Ae ai.o)
 go_wp2_with (first
  |(with_reducible refine yj rfl 49 (.tmp 7) rfl Z 0 (by kernel_rfl) (FF F (ES gd)) _ aj.o jq rfl (by kernel_rfl) ?_)
  |(go_at_call 14;refine bo.o.mono ?_;rintro e b3 ⟨f,D,hr,hf,hc,hg,hd,hw,rfl, -,O⟩;obtain rfl:D=DW s0 0 0 0 hr hf hc hg hd hw:=O.cells;have a2:=yb (a1.o.trans (f.mono a1.o.size));clear f O)
  |((with_reducible refine yt rfl 31 (.tmp 8) (.tmp 128) rfl b3.heap.size (DW s0 0 0 0 hr hf hc hg hd hw).toArray (by kernel_rfl) (by kernel_rfl) 31 _ (World.alloc_heap_new _ _) (by kernel_rfl) (by kernel_rfl) (by kernel_rfl) ?_);rw[World.setRow_alloc_new]))
 refine a.o _ _ ?_
 clear a K bo ai aj a1
 have m:=yb (a2.o.alloc a2.o.size (.cells (DW s0 0 0 0 hr hf hc hg hd hw).toArray 31))
 clear a2
 generalize b3.alloc _=c9 at m |-
 have bm:=yb (bq.o c9 (E.o.below m.o E.o.1) (ac.o.up m.o))
 refine Ai λK a=>?_
 go_wp2_with (first
  |(with_reducible refine wpList_buildTo rfl 49 _ rfl (some 131) rfl Cq.toArray (by kernel_rfl) ?_)
  |(go_at_call 14;refine bm.o.mono ?_;rintro e bk ⟨f,D,hr,hf,hc,hg,hd,hw,rfl, -,O⟩;obtain rfl:D=DW s0 0 0 0 hr hf hc hg hd hw:=O.cells;have P:=yb (m.o.trans (f.mono m.o.size));clear f O)
  |((with_reducible refine yt rfl 31 (.tmp 10) (.tmp 133) rfl bk.heap.size (DW s0 0 0 0 hr hf hc hg hd hw).toArray (by kernel_rfl) (by kernel_rfl) 31 _ (World.alloc_heap_new _ _) (by kernel_rfl) (by kernel_rfl) (by kernel_rfl) ?_);rw[World.setRow_alloc_new]))
 refine a.o _ _ ?_
 clear a K bm m
 have Q:=yb (P.o.alloc P.o.size (.cells (DW s0 0 0 0 hr hf hc hg hd hw).toArray 31))
 clear P
 generalize bk.alloc _=cg at Q |-
 refine Ai λK a=>?_
 go_wp2_with (first
  |(with_reducible refine Hj (by kernel_rfl) 31 _ rfl (some 146) rfl T2.toArray (by kernel_rfl) ?_)
  |(with_reducible refine Hj (by kernel_rfl) 31 _ rfl (some 152) rfl (Xg gz).toArray (by kernel_rfl) ?_)
  |((with_reducible refine NS (by kernel_rfl) _ _ 24 82 rfl j6 65 12 104 (.agg (Ft T1).toArray) Xe (by kernel_rfl) (by kernel_rfl) (by omega) (by omega) Ky PD ?_);have HX:=yb (World.alloc_heap_new az (.cells Ky 82));have U:=yb (al.o.alloc al.o.size (.cells Ky 82));generalize az.heap.size=gz at HX |-;generalize az.alloc _=cf at HX U |-)
  |(go_at_call 11;refine (Yo HX.o).mono ?_;rintro e ce ⟨rfl,hb⟩;have bd:=yb (U.o.trans (hb.mono U.o.size));clear hb)
  |(go_at_call 11;refine (Yn _).mono ?_;rintro e az ⟨rfl,hb⟩;have al:=yb (Q.o.trans (hb.mono Q.o.size));clear hb))
 refine a.o _ _ ?_
 clear a K
 go_wp2
 go_ret
 exact ⟨rfl,bd.o⟩
end Go.Proofs.YtbdfinegbjdblaaGreatDoor
