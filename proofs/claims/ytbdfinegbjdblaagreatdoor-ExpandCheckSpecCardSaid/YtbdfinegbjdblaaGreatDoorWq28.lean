/- Parts of the proof, in short words: Ci Cj Cl Cm Co Cp Cq -/
import Derived.Test.YtbdfinegbjdblaaGreatDoorWq0
import Derived.Test.YtbdfinegbjdblaaGreatDoorWq27
import Derived.Test.YtbdfinegbjdblaaGreatDoorWq19
import Derived.Test.YtbdfinegbjdblaaGreatDoorWq21
import Derived.Test.YtbdfinegbjdblaaGreatDoorWq16
import Derived.RecoverIn
import Derived.Test.YtbdfinegbjdblaaGreatDoorWq11
set_option maxRecDepth 100000
set_option maxHeartbeats 32000000
set_option linter.unusedSimpArgs false
namespace Go.Proofs.YtbdfinegbjdblaaGreatDoor
open Go.RowKit Go.Proofs.Tryz
def X4(x:AM):Nat:=x.lets.length+(x.crops.length+(x.reaches.length*8+(x.farms.length+((x.rots.flatMap F8).length+(x.rights.length*5+x.duties.length)))))
theorem V7{N:NP}{w:World}{Cb Rb:Nat}{L:BQ}{ss:LV}{x:AM}(hc:BC w Cb N L ss x){vs:List Rt}(p:Hb w Cb Rb vs)(z:Rb≠Cb)(y:Cb < w.heap.size/\Rb < w.heap.size)(R:vs.length=3+X4 x)(t:∀v∈vs, -1073741824<=v.n/\v.n<=1073741824):
  Calls prog 36 #[.agg ss.toArray,.pointer (some ⟨Cb,0,none⟩)] w (Zc (FE x vs) w Cb Rb):=by
 obtain ⟨e,m,j,r,rfl⟩:∃e m j r,vs=e::m::j::r:=by
  match vs,R with
  |a0::a1::a2::r,_=>exact ⟨_,_,_,_,rfl⟩
  |[],h=>simp at h;omega
  |[_],h=>simp at h;omega
  |[_,_],h=>simp at h;omega
 have hr:r.length=X4 x:=by simp at R;omega
 obtain ⟨o,F⟩:∃o,o=FE x (e::m::j::r):=⟨_,rfl⟩
 rw[<-F]
 rw[X1] at F
 have W:=yb F;have Z:=yb hc;have HR:=yb hr
 have S:Hid (∀v∈r, -1073741824<=v.n/\v.n<=1073741824):=yb (λv hv=>t v (by simp[hv]))
 have G:Hid (-1073741824<=e.n/\e.n<=1073741824):=yb (t e (by simp))
 have A:Below w.heap.size w ((w.alloc (.cells ss.toArray 49)).alloc (.cells (Dc Cw λ_=>.slice none 0 0).toArray 31)):=((yg _ _).alloc (yi _) _).alloc (by simp) _
 have T:=World.alloc_heap_new (w.alloc (.cells ss.toArray 49)) (.cells (Dc Cw λ_=>.slice none 0 0).toArray 31)
 rw[ze] at T
 have a:Hid (K2 w Cb Rb (e::m::j::r) ss (Dc Cw λ_=>.slice none 0 0) Cw (λ_=>.slice none 0 0) ((w.alloc (.cells ss.toArray 49)).alloc (.cells (Dc Cw λ_=>.slice none 0 0).toArray 31))):=yb
  ⟨(⟨p,CJ.refl _ _ _,z,y⟩:Ik w Cb Rb (e::m::j::r) w).up A,(yp _ _ _ (by simp)).trans (World.alloc_heap_new _ _),T,λk E=>match k,E with
   |0,_=>zU _ _ _ _
   |1,_=>zU _ _ _ _
   |2,_=>zU _ _ _ _
   |3,_=>zU _ _ _ _
   |4,_=>zU _ _ _ _⟩
 obtain ⟨e0,O,e2,q,m0,m1,Y⟩:=hc.v.cells
 obtain ⟨f0,q0,rfl, -⟩:=m0.cells
 obtain ⟨f1,q1,rfl, -⟩:=m1.cells
 obtain ⟨f2,q2,rfl, -⟩:=Y.cells
 clear hc p z y R t A T F hr m0 m1 Y
 rw[q]
 unfold AA.v
 simp only[yQ,yS]
 go_enter func36,ntmps36
 refine Ai λK f=>?_
 go_wp2
 refine f.o _ _ ?_
 clear f K
 generalize X:(w.alloc _).alloc _=H
 replace a:Hid (K2 w Cb Rb (e::m::j::r) ss (Dc Cw λ_=>.slice none 0 0) Cw (λ_=>.slice none 0 0) H):=yb (by
  rw[<-X]
  have h:=a.o
  rw[q] at h |-
  exact h)
 clear X q
 refine Ai λK f=>?_
 go_wp2
 refine f.o _ _ ?_
 clear f K
 refine Ai λK f=>?_
 have y0:=(Z.o.cells a.o).1
 have M:=a.o.b
 have V:=(BV M).1
 have U:H.frozen? (aV (w.heap.size+1) 0)=false:=by simp[World.frozen?,M]
 clear M
 go_wp2
 refine f.o _ _ ?_
 have C:=yb (a.o.put 0 (.string x.name))
 clear f K y0 V U a
 have a:=C
 clear C
 generalize H.setCell _ _=wr at a |-
 refine Ai λK f=>?_
 rcases ZW e.d m.d j.d with ⟨u,D,J⟩|u|⟨u,D⟩|⟨u,D,J⟩
 rotate_left 1
 iterate 3
  ·have hr:Hid (o=none):=yb (by rw[W.o,ym (by omega)])
   go_wp2_with (first
    |(go_at_call 59;refine (a.o.cu.yes (by assumption)).mono ?_;rintro O w2 ⟨rfl,i,c⟩;have B:=yb (a.o.call i c);clear i c a;have a:=B;clear B)
    |(go_at_call 59;refine (a.o.cu.no (by assumption)).mono ?_;rintro O w2 ⟨rfl,c⟩))
   exact E8 hr.o rfl c
 have I:=yb (W.o.trans (yz ⟨u,D,J⟩))
 go_wp2_with (go_at_call 59;refine (a.o.cu.yes (by assumption)).mono ?_;rintro O w2 ⟨rfl,i,c⟩;have B:=yb (a.o.call i c);clear i c a;have a:=B;clear B;have V:=BV a.o.b;have U:=Dg a.o.b)
 refine f.o _ _ ?_
 clear f K u D J
 have g:=yb (((a.o.put 1 (iV e.n)).put 2 (iV m.n)).put 3 (iV j.n))
 clear a
 generalize World.setCell (World.setCell (World.setCell w2 _ _) _ _) _ _=wr at g |-
 have Q:Hid (N3 w Cb Rb r ss ⟨x.name,e.n,m.n,j.n,[],[],[],[],[]⟩ (λ_=>.slice none 0 0) wr):=yb ⟨g.o.cu,g.o.s,g.o.b,λk E=>by
  have h:=g.o.own k E
  match k,E,h with
  |0,_,h=>exact h
  |1,_,h=>exact h
  |2,_,h=>exact h
  |3,_,h=>exact h
  |4,_,h=>exact h⟩
 refine I7 (P:=λl=>Code.wp prog _ _ ⟨l,[]⟩ _) rfl ?_
 exact bE Z.o ⟨rfl,rfl,rfl,rfl⟩ Q.o I.o (hrs:=e.n) ⟨⟨⟨⟨rfl,rfl,rfl⟩,rfl⟩,rfl⟩,rfl⟩ (by have:=G.o;omega) HR.o S.o
theorem Kt{α:Type}{f:α->LV}{sz:Nat}(hf:∀a,(f a).length=sz):∀(l:List α) (i:Nat) (hi:i < l.length) (j:Nat) (u:Value),(f l[i])[j]?=some u->(l.flatMap f)[i*sz+j]?=some u
 |a::r,0,_,j,u,h=>by
  have b:=(yF.1 h).1
  rw[yY,qN,yy,zI (show j < (f a).length from b)]
  exact h
 |a::r,i+1,hi,j,u,h=>by
  have e:(i+1)*sz+j=(f a).length+(i*sz+j):=by rw[hf,qK];omega
  rw[yY,e,zn (by omega),xk]
  exact Kt hf r i (by simpa using hi) j u h
theorem Hg{α:Type}{W:World}{base e sz:Nat}{v:Value}{f:α->LV}{l:List α}(h:W.ownsRow base e sz v l.length (l.flatMap f))(hf:∀a,(f a).length=sz)(k:l.length<=140737488355328):∃hd:AA,v=hd.v/\hd.n<=hd.c/\Bg (λb=>base<=b/\b < W.heap.size) W sz (Nl f) hd l:=by
 have d:=λg (hg:v.ownBlock=some g)=>h.cells hg
 rcases h.2 with ⟨rfl,h0⟩|⟨g,cap,cur,rfl,hb,hg,hc⟩
 ·exact ⟨⟨none,0,0⟩,rfl,yi _,h0.symm,k,λi hi=>by have:l.length=0:=h0;omega⟩
 refine ⟨⟨some (aV g 0),l.length,cap⟩,rfl,?_,rfl,k,λi hi=>⟨g,0,f l[i],rfl,⟨hb,(yd.1 hg).1⟩,hf _,λj u o=>?_,rfl⟩⟩
 ·obtain ⟨m, -⟩:=hc;exact m
 have:=d g rfl (i*sz+j) u (Kt hf l i hi j u o)
 rw[zO] at this
 simpa using this
theorem N9{W:World}{base:Nat}{d:Bk}{v:Nat->Value}(h:∀k,k < 5->W.ownsRow base (Pv k) (Rk k) (v k) (EN d k) (Lv d k))(a:∀k,k < 5->EN d k<=140737488355328):∃hr hf hc hg hd hw:AA,(hg.n<=hg.c/\hd.n<=hd.c)/\Ij (λb=>base<=b/\b < W.heap.size) W hr hf hc hg hd hw (Dc d v) d:=by
 obtain ⟨hr,e, -,g⟩:=Hg (f:=Ft) (l:=d.reaches) (h 0 (by decide)) (λ_=>rfl) (a 0 (by decide))
 obtain ⟨hf,j, -,r1⟩:=Hg (f:=IS) (l:=d.farms) (h 1 (by decide)) (λ_=>rfl) (a 1 (by decide))
 obtain ⟨hc,o, -,r2⟩:=Hg (f:=JS) (l:=d.crops) (h 2 (by decide)) (λ_=>rfl) (a 2 (by decide))
 obtain ⟨hg,m,c3,q⟩:=Hg (f:=AZ) (l:=d.rights) (h 3 (by decide)) (λ_=>rfl) (a 3 (by decide))
 obtain ⟨hd,i,c4,p⟩:=Hg (f:=Jr) (l:=d.duties) (h 4 (by decide)) (λ_=>rfl) (a 4 (by decide))
 exact ⟨hr,hf,hc,hg,hd,⟨none,0,0⟩,⟨c3,c4⟩,by unfold Dc DW;rw[e,j,o,m,i];rfl,g,r1,r2,q,p⟩
def BL:LV:=Dc Cw λ_=>.slice none 0 0
theorem Na(n Bx b:Nat)(d:Bx≠b)(c:Int)(row:Array Value)(v:Value)(w:World)(j:w.heap[Bx]?=some (.cells row 31 (0,0)))(f:row.size=10)(h:w.heap[b]?=some (.cells #[v] 34 (0,0))):
  CallsDIn Fence.wide n prog 35 #[.pointer (some ⟨Bx,0,none⟩),.pointer (some ⟨b,0,none⟩)] (.panicking (It c)) w λe k w'=>
   e=.returned (.tuple #[])/\k=.panicking [{v:=.iface 133 (.int .i64 c),recovered:=true}]/\w'=(w.setRow Bx BL.toArray).setCell ⟨b,0,none⟩ (.int .i64 c):=by
 have c1:(w.setRow Bx BL.toArray).cell? (aV b 0)=some v:=by
  simp only[World.cell?,World.setRow,yH,ym d]
  simp[h]
 have s:(w.setRow Bx BL.toArray).frozen? (aV b 0)=false:=by
  simp only[World.frozen?,World.setRow,yH,ym d]
  simp[h]
 have l:=yb j
 have g:=yb f
 have r:=yb (λw=>MW c w)
 unfold It
 clear j h f
 refine callsDIn_of_wpSIn func35 rfl trivial λp cs m=>?_
 apply wpSIn_seq
 apply wpSIn_region
 simp[wpOpsSIn,go_sem,recoverD,m,ntmps35,Exit.thenS]
 refine wpSIn_of_wpIn rfl ?_
 generalize q:bodyPostS prog Tryz.f35 p cs _=Q
 generalize i:(_::cs:List Frame)=cs'
 simp only[zT,zX,zY,zw,zx,zG,yS,yQ,zD]
 refine xV.2 ?_
 go_upto_region 2 with fail
 refine qt ?_
 iterate 2
  refine yZ rfl λK a=>?_
  go_simp
  refine a _ _ ?_
  clear a K
 refine yZ rfl λK a=>?_
 go_simp
 refine (r.o _).mono ?_
 rintro e w2 ⟨rfl,rfl⟩
 refine a _ _ ?_
 clear a K
 refine yt rfl 31 _ _ rfl Bx BL.toArray (by kernel_rfl) (by kernel_rfl) 31 row l.o (by kernel_rfl) g.o (by kernel_rfl) ?_
 refine yZ rfl λK a=>?_
 go_simp
 refine a _ _ ?_
 clear a K
 refine qQ ?_
 try simp only[Exit.inBlock]
 show Q _ _ cs' _
 rw[<-q,<-i]
 exact ⟨rfl,_,rfl,_,zr rfl _ _ _,rfl,rfl,rfl⟩
theorem Va(n:Nat)(d f:Addr)(w:World):
  CallsDIn Fence.wide n prog 35 #[.pointer (some d),.pointer (some f)] .returning w λe g w'=>e=.returned (.tuple #[])/\g=.returning/\w'=w:=by
 refine callsDIn_of_wpSIn func35 rfl trivial λa cs b=>?_
 apply wpSIn_seq
 apply wpSIn_region
 simp[wpOpsSIn,go_sem,recoverD,b,ntmps35,Exit.thenS]
 refine wpSIn_of_wpIn rfl ?_
 generalize c:bodyPostS prog Tryz.f35 a cs _=Q
 simp only[zT,zX,zY,zw,zx,zG,yS,yQ,zD]
 refine xV.2 ?_
 go_wp2
 change Q _ _ (a::cs) _
 rw[<-c]
 refine ⟨rfl,.returning,?_,_,zr rfl _ _ _,rfl,rfl,rfl⟩
 rw[<-b]
def Rs(r:Bk × Int)(w:World)(e:Ending)(w':World):Prop:=Below w.heap.size w w'/\∃(cs:LV) (hr hf hc hg hd hw:AA),e=.returned (.tuple #[.agg cs.toArray,.int .i64 r.2])/\(hg.n<=hg.c/\hd.n<=hd.c)/\Ij (λb=>w.heap.size<=b/\b < w'.heap.size) w' hr hf hc hg hd hw cs r.1
theorem KW{w w':World}(c:Int)(hb:Below w.heap.size w w'):Rs (Cw,c) w (.returned (.tuple #[.agg BL.toArray,.int .i64 c])) w':=by
 have b:∀k,k < 5->w'.ownsRow w.heap.size (Pv k) (Rk k) (.slice none 0 0) (EN Cw k) (Lv Cw k):=λk a=>match k,a with
  |0,_=>zU _ _ _ _
  |1,_=>zU _ _ _ _
  |2,_=>zU _ _ _ _
  |3,_=>zU _ _ _ _
  |4,_=>zU _ _ _ _
 obtain ⟨hr,hf,hc,hg,hd,hw,h1,h2⟩:=N9 b (λk a=>match k,a with
  |0,_=>yC _
  |1,_=>yC _
  |2,_=>yC _
  |3,_=>yC _
  |4,_=>yC _)
 exact ⟨hb,_,hr,hf,hc,hg,hd,hw,rfl,h1,h2⟩
def ZZ(B:Nat):Deferred:={target:=.fn (.func 35) #[.pointer (some ⟨B+1,0,none⟩),.pointer (some ⟨B+2,0,none⟩)],args:=#[]}
structure cC (w W:World):Prop where
 below:Below w.heap.size w W
 x:∃row:Array Value,row.size=10/\W.heap[w.heap.size+1]?=some (.cells row 31 (0,0))
 e:∃v:Value,W.heap[w.heap.size+2]?=some (.cells #[v] 34 (0,0))
structure X9 (Q:Exit->Act->World->Prop) (w:World) (x:AM):Prop where
 early:∀c tm W,JL w.heap.size tm->Below w.heap.size w W->W.heap[w.heap.size+1]?=some (.cells BL.toArray 31 (0,0))->W.heap[w.heap.size+2]?=some (.cells #[.int .i64 c] 34 (0,0))->CC x=(Cw,c)->Q .ret {tmps:=tm,defers:=[]} W
 earlyD:∀D c tm W,JL w.heap.size tm->Below w.heap.size w W->W.heap[w.heap.size+1]?=some (.cells BL.toArray 31 (0,0))->W.heap[w.heap.size+2]?=some (.cells #[.int .i64 c] 34 (0,0))->CC x=(Cw,c)->w.heap.size+3<=D->W.heap[D]?=some (.deferred (some []))->Q .ret {tmps:=tm,defers:=[IE D]} W
 fail:∀D c tm W,JL w.heap.size tm->cC w W->CC x=(Cw,c)->w.heap.size+3<=D->W.heap[D]?=some (.deferred (some []))->Q (.panic (It c)) {tmps:=tm,defers:=[ZZ w.heap.size,IE D]} W
 done:∀D d v tm W,JL w.heap.size tm->Below w.heap.size w W->W.heap[w.heap.size+1]?=some (.cells (Dc d v).toArray 31 (0,0))->W.heap[w.heap.size+2]?=some (.cells #[.int .i64 0] 34 (0,0))->(∀k,k < 5->W.ownsRow w.heap.size (Pv k) (Rk k) (v k) (EN d k) (Lv d k))->(∀k,k < 5->EN d k<=140737488355328)->CC x=(d,0)->w.heap.size+3<=D->W.heap[D]?=some (.deferred (some []))->Q .ret {tmps:=tm,defers:=[ZZ w.heap.size,IE D]} W
theorem Kv{W:World}{tm:Array Value}{B:Nat}{cs:LV}{z:Int}(d:JL B tm)(h1:W.heap[B+1]?=some (.cells cs.toArray 31 (0,0)))(a:cs.length=10)(h2:W.heap[B+2]?=some (.cells #[.int .i64 z] 34 (0,0))):
  (results Tryz.f14 tm).run prog W=.ok (.tuple #[.agg cs.toArray,.int .i64 z]) W:=by
 obtain ⟨c,b⟩:=d
 rw[yI] at c b
 have g:=qv (P:=prog) W (B+1) 0 31 cs _ (Ae h1) jf rfl (by rw[a];kernel_rfl)
 have c2:W.cell? (aV (B+2) 0)=some (iV z):=by simp[World.cell?,h2]
 have e:(loadVar 34 (aV (B+2) 0)).run prog W=.ok (iV z) W:=by
  have f:(isAgg 34).run prog W=.ok false W:=by kernel_rfl
  simp[loadVar,f,go_sem,c2]
 simp[results,Tryz.results14,c,b,asAddr,g,e]
theorem I9{w W:World}{D:Nat}{o:Obj}(h:Below w.heap.size w W)(a:w.heap.size<=D):Below w.heap.size w (W.putObj D o):=h.trans ⟨rfl,rfl,rfl,by simp,λb hb=>World.putObj_heap_other (by omega)⟩
theorem Xa(w:World)(x:AM):X9 (bodyPostM Fence.wide 10 prog Tryz.f14 (Rs (CC x) w)) w x:=by
 refine ⟨λc tm W f hb h1 h2 a=>⟨_,Kv f h1 rfl h2,by rw[a];exact KW c hb⟩,λD c tm W f hb h1 h2 a t hd=>?_,λD c tm W f o a t hd=>?_,λD d v tm W f hb h1 h2 s z a t hd=>?_⟩
 ·refine ⟨by simp,.inl ⟨D,_,rfl,run_takeDeferred hd,⟨_,Kv f ((World.putObj_heap_other (by omega)).trans h1) rfl ((World.putObj_heap_other (by omega)).trans h2),by rw[a];exact KW c (I9 hb (by omega))⟩⟩⟩
 ·obtain ⟨row,m,i⟩:=o.x
  obtain ⟨v,h⟩:=o.e
  refine ⟨by simp,.inr ⟨by simp[Fence.wide],_,_,_,_,rfl,by rfl,λ_ _=>trivial,?_⟩⟩
  refine (Na 9 (w.heap.size+1) (w.heap.size+2) (by omega) c row v W i m h).mono ?_
  rintro e y w' ⟨rfl,rfl,rfl⟩
  have p:((W.setRow (w.heap.size+1) BL.toArray).setCell (aV (w.heap.size+2) 0) (iV c)).heap[w.heap.size+1]?=some (.cells BL.toArray 31 (0,0)):=by
   rw[zg _ _ _ _ (by simp)]
   simp[World.setRow,yH,i]
  have q:((W.setRow (w.heap.size+1) BL.toArray).setCell (aV (w.heap.size+2) 0) (iV c)).heap[w.heap.size+2]?=some (.cells #[iV c] 34 (0,0)):=by
   have:=zp (W.setRow (w.heap.size+1) BL.toArray) (w.heap.size+2) 0 #[v] 34 (iV c) (by simp[World.setRow,yH,h])
   rw[this];rfl
  have hb:Below w.heap.size w ((W.setRow (w.heap.size+1) BL.toArray).setCell (aV (w.heap.size+2) 0) (iV c)):=o.below.trans ⟨rfl,rfl,rfl,by simp[World.setRow],λb hb=>by
   rw[zg _ _ _ _ (by simp;omega)]
   simp only[World.setRow,yH,ym (show ¬ w.heap.size+1=b by omega)]⟩
  have j:((W.setRow (w.heap.size+1) BL.toArray).setCell (aV (w.heap.size+2) 0) (iV c)).heap[D]?=some (.deferred (some [])):=by
   rw[zg _ _ _ _ (by simp;omega)]
   simp only[World.setRow,yH,ym (show ¬ w.heap.size+1=D by omega)]
   exact hd
  generalize World.setCell _ _ _=B at p q hb j |-
  refine ⟨by simp[settle],.inl ⟨D,_,rfl,run_takeDeferred j,?_⟩⟩
  exact ⟨_,Kv f ((World.putObj_heap_other (by omega)).trans p) rfl ((World.putObj_heap_other (by omega)).trans q),by rw[a];exact KW c (I9 hb (by omega))⟩
 refine ⟨by simp,.inr ⟨by simp[Fence.wide],_,_,_,_,rfl,by rfl,λ_ _=>trivial,?_⟩⟩
 refine (Va 9 _ _ _).mono ?_
 rintro e y w' ⟨rfl,rfl,hw⟩
 obtain rfl:=hw.symm
 refine ⟨by simp[settle],.inl ⟨D,_,rfl,run_takeDeferred hd,?_⟩⟩
 have l:∀k,k < 5->(W.putObj D (.deferred none)).ownsRow w.heap.size (Pv k) (Rk k) (v k) (EN d k) (Lv d k):=λk r=>Da (s k r) λb hb=>World.putObj_heap_other (by
  rcases (s k r).2 with ⟨h0, -⟩|⟨g,cap,cur,h0, -,hg, -⟩
  ·rw[h0] at hb;simp[ob,Value.ownBlock] at hb
  rw[h0] at hb;simp[ob,Value.ownBlock] at hb;subst hb
  intro e;subst e;rw[hd] at hg;cases hg)
 obtain ⟨hr,hf,hc,hg,n,hw,A,u⟩:=N9 l z
 exact ⟨_,Kv f ((World.putObj_heap_other (by omega)).trans h1) rfl ((World.putObj_heap_other (by omega)).trans h2),by rw[a];exact ⟨I9 hb (by omega),_,hr,hf,hc,hg,n,hw,rfl,A,u⟩⟩
theorem G8{α β:Type}{f:Nat->α->Jf β}{P:β->Prop}:∀ {l:List α} {i:Nat} {v v':List Rt} {bs:List β},(∀i a v b v',a∈l->f i a v=some (b,v')->P b)->G5 f i l v=some (bs,v')->bs.length=l.length/\∀b∈bs,P b
 |[],_,_,_,_,_,h=>by rw[G5] at h;cases h;exact ⟨rfl,by simp⟩
 |a::r,i,v,v',bs,hP,h=>by
  rw[G5] at h
  cases c:f i a v with
  |none=>rw[c] at h;cases h
  |some p=>
   rw[c] at h
   dsimp only at h
   cases hr:G5 f (i+1) r p.2 with
   |none=>rw[hr] at h;cases h
   |some q=>
    rw[hr] at h;cases h
    obtain ⟨h1,h2⟩:=G8 (λi a v b v' d=>hP i a v b v' (zP _ d)) hr
    exact ⟨by simp[h1],λb hb=>(yq.1 hb).elim (λe=>e▸hP i a v _ _ (by simp) c) (h2 b)⟩
theorem Vc{fs:List BG}{x:Bq}{v:List Rt}{l:List CA}{l':List Rt}(h:Is fs x v=some (l,l')):l.length=x.turns.length:=by
 have h0:Is fs x []=none:=rfl
 match v,h with
 |a::b::c::r,h=>exact (Rn h).2
 |[],h=>rw[h0] at h;cases h
 |[a],h=>
  unfold Is at h
  by_cases h0:a.d<=1<;>simp[BE,h0] at h
 |[a,b],h=>
  unfold Is at h
  by_cases h0:a.d<=1<;>by_cases h1:b.d<=1<;>simp[BE,h0,h1] at h
theorem TP{α:Type}{l:List (List α)}{m:Nat}(h:∀g∈l,g.length<=m):l.flatten.length<=l.length*m:=by
 induction l with
 |nil=>simp
 |cons a r ih=>
  have h1:=h a (by simp)
  have h2:=ih λg hg=>h g (by simp[hg])
  rw[yD,yn,yr,qK]
  omega
theorem SV{x:AM}{vs:List Rt}{d:Bk}{r:List Rt}(h:FE x vs=some (d,r))(hs:Nt x):∀k,k < 5->EN d k<=140737488355328:=by
 unfold FE at h
 simp only[Option.bind_eq_bind,Option.bind_eq_some_iff] at h
 obtain ⟨⟨p,M⟩,c,⟨rg,C⟩,hr,⟨e,l3⟩,hd,b⟩:=h
 cases b
 unfold Uw at c
 simp only[Option.bind_eq_bind,Option.bind_eq_some_iff] at c
 obtain ⟨⟨a0,N⟩, -,⟨F,m1⟩, -,⟨L,K⟩, -,⟨a3,G⟩, -,⟨m,J⟩,i,⟨j,z⟩,l,⟨q,v⟩,t,⟨ro,u⟩,s,b⟩:=c
 cases b
 have c4:=(G8 (P:=λ_=>True) (λ_ _ _ _ _ _ _=>trivial) i).1
 have c5:=(G8 (P:=λ_=>True) (λ_ _ _ _ _ _ _=>trivial) l).1
 have c6:=(G8 (P:=λ_=>True) (λ_ _ _ _ _ _ _=>trivial) t).1
 have c7:=G8 (P:=λg:List CA=>g.length<=100000) (λ_ a _ _ _ f o=>by rw[Vc o];exact hs.turns a f) s
 have w:=(G8 (P:=λ_=>True) (λ_ _ _ _ _ _ _=>trivial) hr).1
 have H:=(G8 (P:=λ_=>True) (λ_ _ _ _ _ _ _=>trivial) hd).1
 have I:=TP c7.2
 have s1:=hs.crops;have B:=hs.reaches;have A:=hs.farms;have E:=hs.rots;have y:=hs.rights;have D:=hs.duties
 intro k n
 match k,n with
 |0,_=>show j.length<=_;omega
 |1,_=>show q.length<=_;omega
 |2,_=>show m.length<=_;omega
 |3,_=>
  show (ro.flatten++rg).length<=_
  have:ro.length*100000<=100000*100000:=xT _ (by omega)
  rw[yn];omega
 |4,_=>show e.length<=_;omega
theorem KY(x:AM):(Dy x).length=3+X4 x:=by
 have b:(x.reaches.flatMap e8).length=x.reaches.length*8:=by
  rw[<-Pt]
  induction x.reaches with
  |nil=>rfl
  |cons a r ih=>simp only[zN,List.sum_cons,yr];rw[ih];simp[e8];omega
 have c:(x.rights.flatMap r5).length=x.rights.length*5:=by
  rw[<-Pt]
  induction x.rights with
  |nil=>rfl
  |cons a r ih=>simp only[zN,List.sum_cons,yr];rw[ih];simp[r5];omega
 unfold Dy Wr X4
 simp only[yn,zh,b,c,yr,yK]
 omega
theorem Rw{W:World}{base:Nat}{d:Bk}{v:Nat->Value}(h:∀k,k < 5->W.ownsRow base (Pv k) (Rk k) (v k) (EN d k) (Lv d k)):(Dc d v).toArray.all (·.oneCell')=true:=by
 obtain ⟨_,_,_,h0⟩:=AR (h 0 (by decide))
 obtain ⟨_,_,_,h1⟩:=AR (h 1 (by decide))
 obtain ⟨_,_,_,h2⟩:=AR (h 2 (by decide))
 obtain ⟨_,_,_,h3⟩:=AR (h 3 (by decide))
 obtain ⟨_,_,_,a⟩:=AR (h 4 (by decide))
 unfold Dc
 rw[h0,h1,h2,h3,a]
 simp[Value.oneCell']
def Yg(u:Nat->Value):Array Value:=((List.range 55).map u).toArray
theorem SW(u:Nat->Value):Yg u=#[u 0,u 1,u 2,u 3,u 4,u 5,u 6,u 7,u 8,u 9,u 10,u 11,u 12,u 13,u 14,u 15,u 16,u 17,u 18,u 19,u 20,u 21,u 22,u 23,u 24,u 25,u 26,u 27,u 28,u 29,u 30,u 31,u 32,u 33,u 34,u 35,u 36,u 37,u 38,u 39,u 40,u 41,u 42,u 43,u 44,u 45,u 46,u 47,u 48,u 49,u 50,u 51,u 52,u 53,u 54]:=by kernel_rfl
theorem Py{P:Array Value->Prop}{l:Array Value}(hs:l.size=55)(h:P (Yg λi=>l.getD i undef)):P l:=by
 have e:(Yg λi=>l.getD i undef)=l:=by
  refine Array.ext (by simp[Yg,hs]) λi h1 h2=>?_
  simp[Yg,yI,h2]
 rwa [e] at h
structure Zm (w:World) (D:Nat) (d:Bk) (v:Nat->Value) (B bz:Nat) (W:World):Prop where
 below:Below w.heap.size w W
 x:W.heap[w.heap.size+1]?=some (.cells BL.toArray 31 (0,0))
 e:W.heap[w.heap.size+2]?=some (.cells #[.int .i64 0] 34 (0,0))
 df:W.heap[D]?=some (.deferred (some []))
 y:W.heap[bz]?=some (.cells (Dc d v).toArray 31 (0,0))
 own:∀k,k < 5->W.ownsRow (B+2) (Pv k) (Rk k) (v k) (EN d k) (Lv d k)
 le:w.heap.size+3<=D/\w.heap.size+3<=B
theorem Zm.up{w W W':World}{D B bz:Nat}{d:Bk}{v:Nat->Value}(h:Zm w D d v B bz W)(hb:Below W.heap.size W W'):Zm w D d v B bz W':=by
 have g:=(yd.1 h.x).1
 have c:=(yd.1 h.e).1
 exact ⟨h.below.trans (hb.mono h.below.size),(hb.block _ g).trans h.x,(hb.block _ c).trans h.e,(hb.block _ (yd.1 h.df).1).trans h.df,(hb.block _ (yd.1 h.y).1).trans h.y,λk f=>EM (h.own k f) λb a _=>hb.block b a,h.le⟩
theorem Zm.res{w W:World}{D B bz:Nat}{d:Bk}{v:Nat->Value}(h:Zm w D d v B bz W):Below w.heap.size w (W.setRow (w.heap.size+1) (Dc d v).toArray)/\(W.setRow (w.heap.size+1) (Dc d v).toArray).heap[w.heap.size+1]?=some (.cells (Dc d v).toArray 31 (0,0))/\(W.setRow (w.heap.size+1) (Dc d v).toArray).heap[w.heap.size+2]?=some (.cells #[.int .i64 0] 34 (0,0))/\(W.setRow (w.heap.size+1) (Dc d v).toArray).heap[D]?=some (.deferred (some []))/\∀k,k < 5->(W.setRow (w.heap.size+1) (Dc d v).toArray).ownsRow (w.heap.size+3) (Pv k) (Rk k) (v k) (EN d k) (Lv d k):=by
 have c:=h.le
 exact ⟨Bz h.below (qn _) _,D3 h.x,(Bh _ (by omega)).trans h.e,(Bh _ (by omega)).trans h.df,λk a=>N0 (EM (h.own k a) λb _ hb=>Bh _ (by omega)) (by omega)⟩
theorem Xb{Q:QT}{w V:World}{x:AM}{cs:LV}{Cb Pb Rb D:Nat}{vs:List Rt}(hQ:X9 Q w x)(hS:G6 w cs x)(m:DU x=0)(H:DC x (Dy x)=.ok vs)(hb:Below w.heap.size w V)
 (h0:V.heap[w.heap.size]?=some (.cells cs.toArray 49 (0,0)))(h1:V.heap[w.heap.size+1]?=some (.cells BL.toArray 31 (0,0)))(h2:V.heap[w.heap.size+2]?=some (.cells #[.int .i64 0] 34 (0,0)))(hP:V.cell? ⟨Pb,0,none⟩=some (.pointer (some ⟨Cb,0,none⟩)))
 (hC:Hb V Cb Rb vs)(X:Rb≠Cb)(j:(w.heap.size+3<=Cb/\Cb < V.heap.size)/\Rb < V.heap.size)(hD:w.heap.size+3<=D/\D≠Cb)(hd:V.heap[D]?=some (.deferred (some [])))(u:Nat->Value)(hu:u 1=.pointer (some ⟨w.heap.size,0,none⟩)/\u 2=.pointer (some ⟨w.heap.size+1,0,none⟩)/\u 3=.pointer (some ⟨w.heap.size+2,0,none⟩)/\u 4=.pointer (some ⟨Pb,0,none⟩)):
  Fv 14 prog (Gj 4 (Tryz.f14.body.getD .skip)) Q {tmps:=Yg u,defers:=[IE D]} V:=by
 have ab:∀(fn:Fn) (first cap:Array Value) (w:World),(Instr.makeFunc fn first cap).run prog w=.ok (.func fn first cap) w:=λ_ _ _ _=>rfl
 obtain ⟨L,C⟩:=hS.v
 have M:=hb.size
 have U:BC V Cb (λb=>b < w.heap.size) L cs x:=⟨C.same (λ_ h=>h) (λb h=>hb.block b h),λb hb=>⟨by omega,by omega⟩,hS.slim,X8 (by
  unfold DU at m
  by_cases h:BO x=0
  ·exact h
  rw[ym h] at m;exact m)⟩
 obtain ⟨hl,Z⟩:=Ku x _ _ H
 have HB:=yb (V7 U hC X ⟨j.1.2,j.2⟩ (by rw[hl,KY]) Z)
 have I:Hid ((prog.info? 49).map (·.size)=some cs.length):=yb (Ll C)
 have HR:=yb (Ae h0)
 have ad:=yb hS.slim
 obtain ⟨o,ho⟩:∃o,o=FE x vs:=⟨_,rfl⟩
 rw[<-ho] at HB
 have hE:CC x=match FE x vs with
  |none=>(Cw,190)
  |some (d,_)=>if Gn d=true then (if d.rights.length<=256 then (d,0) else (Cw,2)) else (Cw,190):=by unfold CC;rw[yz m,H];rfl
 rw[<-ho] at hE
 have z:=yb hE
 have HO:=yb ho;have HQ:=yb hQ;have R:=yb hb;have H1:=yb h1;have H2:=yb h2;have N:=yb j;have G:=yb hD;have Hd:=yb hd;have a6:=yb M
 obtain ⟨u1,u2,u3,u4⟩:=hu
 rw[SW,u1,u2,u3,u4]
 clear hE hQ hS m H hb h0 h1 h2 hC X j hD hd ho hl Z U C u1 u2 u3 u4 M
 refine Aj (Aa ?_)
 go_wp2
 have HX:Hid (∀W,CJ Cb V.heap.size V W->Below w.heap.size w W/\W.heap[w.heap.size+1]?=some (.cells BL.toArray 31 (0,0))/\W.heap[w.heap.size+2]?=some (.cells jG 34 (0,0))/\W.heap[D]?=some (.deferred (some []))):=yb (λW s=>by
  have h1:=H1.o;have h2:=H2.o;have hd:=Hd.o;have j:=N.o;have hD:=G.o;have M:=a6.o
  have r:=(yd.1 hd).1
  exact ⟨R.o.trans ⟨s.os,s.tape,s.output,s.size,λb hb=>s.block b (by omega) (by omega)⟩,(s.block _ (by omega) (by omega)).trans h1,(s.block _ (by omega) (by omega)).trans h2,(s.block _ r hD.2).trans hd⟩)
 refine Aj (Aa ?_)
 cases o with
 |none=>
  go_wp2_with (first
   |(with_reducible refine yj rfl 49 _ rfl w.heap.size 0 rfl cs _ HR.o jq rfl I.o ?_)
   |(go_at_call 36;refine HB.o.mono ?_;rintro e w2 ⟨rfl,aa⟩))
  obtain ⟨k1,k2,T,P⟩:=HX.o _ aa
  exact HQ.o.fail D 190 _ _ ⟨rfl,rfl⟩ ⟨k1,⟨_,rfl,k2⟩,⟨_,T⟩⟩ z.o G.o.1 P
 |some q=>
  obtain ⟨d,rest⟩:=q
  dsimp only at z
  have Y:=yb (SV HO.o.symm ad.o)
  go_wp2_with (first
   |(with_reducible refine yj rfl 49 _ rfl w.heap.size 0 rfl cs _ HR.o jq rfl I.o ?_)
   |(go_at_call 36;refine HB.o.mono ?_;rintro e w2 ⟨v,rfl,t,S⟩;have B:=yb t;have A:=yb S.bel;clear t S)
   |(with_reducible refine yt rfl 31 (.tmp 7) (.tmp 46) rfl w2.heap.size (Dc d v).toArray (by kernel_rfl) (by kernel_rfl) 31 _ (World.alloc_heap_new _ _) (by kernel_rfl) (by kernel_rfl) (Rw B.o) ?_;rw[World.setRow_alloc_new]))
  obtain ⟨k1,k2,T,P⟩:=HX.o _ A.o
  have f:Below w2.heap.size w2 (w2.alloc (.cells (Dc d v).toArray 31)):=(yg _ _).alloc (yi _) _
  have a8:=A.o.size
  have hn:=World.alloc_heap_new w2 (.cells (Dc d v).toArray 31)
  have r:=(yd.1 P).1
  have l2:=(yd.1 T).1
  have a:Hid (Zm w D d v V.heap.size w2.heap.size (w2.alloc (.cells (Dc d v).toArray 31))):=yb ⟨k1.trans (f.mono k1.size),(f.block _ (by omega)).trans k2,(f.block _ l2).trans T,(f.block _ r).trans P,hn,λk hk=>EM (B.o k hk) λb hb _=>f.block b hb,⟨G.o.1,by have:=N.o;omega⟩⟩
  clear k1 k2 T P f a8 hn r l2 B A HB HR I hP H1 H2 Hd R HX
  generalize w2.heap.size=F at a |-
  generalize w2.alloc _=wr at a |-
  obtain ⟨hr,hf,ae,hg,af,hw,O,p⟩:=N9 a.o.own Y.o
  have HN:Hid (hg.n=d.rights.length):=yb p.rights.1
  have a2:Hid (v 3=hg.v):=yb (by have h:=p.cells;unfold Dc DW at h;simp only[zZ] at h;exact h.2.2.2.2.2.2.2.1)
  have g:=yb (Lm 190 p (λb hb=>hb.2))
  clear p O ab
  refine Aj (Aa ?_)
  unfold WE at g
  have l:=yb (Ae a.o.y)
  by_cases i:Gn d=true
  rotate_left 1
  ·rw[ym i] at z
   simp only[ym i] at g
   go_wp2_with (first
    |(with_reducible refine yj rfl 31 (.tmp 7) rfl F 0 (by kernel_rfl) (Dc d v) _ l.o jf (by kernel_rfl) (by kernel_rfl) ?_)
    |(go_at_call 30;with_reducible refine g.o.mono ?_;rintro e1 w3 ⟨hb,rfl⟩))
   have h:=a.o.up hb
   exact HQ.o.fail D 190 _ _ ⟨rfl,rfl⟩ ⟨h.below,⟨_,rfl,h.x⟩,⟨_,h.e⟩⟩ z.o G.o.1 h.df
  rw[yz i] at z
  simp only[yz i] at g
  go_wp2_with (first
   |(with_reducible refine yj rfl 31 (.tmp 7) rfl F 0 (by kernel_rfl) (Dc d v) _ l.o jf (by kernel_rfl) (by kernel_rfl) ?_)
   |(go_at_call 30;with_reducible refine g.o.mono ?_;rintro e1 w3 ⟨hb,rfl⟩;have c:=yb (a.o.up hb);clear hb))
  clear a g l i
  have a:=c
  clear c
  have a1:=a.o.y
  have y7:=(BV a1).2.2.2.2.2.2.2.1
  rw[a2.o] at y7
  unfold AA.v at y7
  have ac:=yb (λw=>Ei 2 w)
  have a7:=yb (λw=>Fa 2 w)
  have l:=yb (Ae a.o.y)
  clear a1
  obtain ⟨q1,E⟩:∃q,decide ((hg.n:Int)<=256)=q:=⟨_,rfl⟩
  have J:=yb E
  obtain ⟨ga,gn,gc⟩:=hg
  dsimp only at E J y7 HN
  refine Aj (Aa ?_)
  cases q1
  ·have K:Hid (CC x=(Cw,2)):=yb (by have h:=z.o;rw[ym (by have h2:=J.o;have:=HN.o;simp at h2;omega)] at h;exact h)
   go_wp2_with (go_at_call 29;with_reducible refine (a7.o _).mono ?_;rintro e1 w3 ⟨rfl,rfl⟩)
   exact HQ.o.fail D 2 _ _ ⟨rfl,rfl⟩ ⟨a.o.below,⟨_,rfl,a.o.x⟩,⟨_,a.o.e⟩⟩ K.o G.o.1 a.o.df
  have K:Hid (CC x=(d,0)):=yb (by have h:=z.o;rw[yz (by have h2:=J.o;have:=HN.o;simp at h2;omega)] at h;exact h)
  go_wp2_with (go_at_call 29;with_reducible refine (ac.o _).mono ?_;rintro e1 w4 ⟨rfl,hw⟩;obtain rfl:=hw.symm)
  clear E y7
  have e0:=Ey a.o.e
  have c:=yb a.o.res
  refine Aj (Aa ?_)
  go_wp2_with (first
   |(with_reducible refine yj rfl 31 (.tmp 7) rfl F 0 (by kernel_rfl) (Dc d v) _ l.o jf (by kernel_rfl) (by kernel_rfl) ?_)
   |(with_reducible refine yt rfl 31 (.tmp 2) (.tmp 54) rfl (w.heap.size+1) (Dc d v).toArray (by kernel_rfl) (by kernel_rfl) 31 _ a.o.x (by kernel_rfl) (by kernel_rfl) (Rw a.o.own) ?_;have zc:=Ey c.o.2.2.1;have zf:=Dg c.o.2.2.1))
  obtain ⟨m1,m2,m3,m4,m5⟩:=c.o
  have h3:=AE (v:=iV 0) m3
  refine Aa ?_
  go_wp2_with fail
  refine HQ.o.done D d v _ _ ?_ ?_ ?_ h3 ?_ Y.o K.o G.o.1 ?_
  ·exact ⟨rfl,rfl⟩
  ·exact m1.trans ⟨rfl,rfl,rfl,by simp,λb hb=>Ad _ _ (by omega)⟩
  ·exact (Ad _ _ (by omega)).trans m2
  ·exact λk hk=>N0 (EM (m5 k hk) λb _ hb=>Ad _ _ (by omega)) (by omega)
  exact (Ad _ _ (by have:=G.o.1;omega)).trans m4
def Xn(v:Rt):LV:=[.int .i64 v.n,.int .i64 v.d]
structure YK (W W':World) (Cb base:Nat) (vv:Value) (l:List Rt):Prop where
 os:W'.os=W.os
 tape:W'.tape=W.tape
 output:W'.output=W.output
 size:W.heap.size<=W'.heap.size
 block:∀b,b < W.heap.size->b≠Cb->vv.ownBlock≠some b->W'.heap[b]?=W.heap[b]?
 cur:∃vv',W'.heap[Cb]?=some (.cells #[vv'] 94 (0,0))/\W'.ownsRow base 58 2 vv' l.length (l.flatMap Xn)/\∀g,vv'.ownBlock=some g->vv.ownBlock=some g\/W.heap.size<=g
theorem Yh{lo n:Nat}{Q:QT}{W:World}{u:Nat->Value}{Cb Pb gv base:Nat}{vv:Value}{l:List Rt}{v:Rt}(ops:Array Oper)(E:Fm Tryz.f14 12=some ops)(u4:u 4=.pointer (some ⟨Pb,0,none⟩))(u6:u 6=.pointer (some ⟨gv,0,none⟩))
 (S:W.cell? ⟨Pb,0,none⟩=some (.pointer (some ⟨Cb,0,none⟩)))(Z:W.heap[Cb]?=some (.cells #[vv] 94 (0,0)))(hg:W.heap[gv]?=some (.cells #[.int .i64 v.n,.int .i64 v.d] 58 (0,0)))(m:W.ownsRow base 58 2 vv l.length (l.flatMap Xn))(P:Cb < base/\Pb < base/\Pb≠Cb/\gv≠Cb)(H:vv.ownBlock≠some gv)(s:base<=W.heap.size)(F:l.length<=1000000000000)
 (ac:¬ LetsOut Q)(aa:∀c a t v w,Q (.panic c) (Act.put a (some t) v) w->Q (.panic c) a w)(hQ:∀a W',YK W W' Cb base vv (l++[v])->Q .normal a W'):(Code.region 12 ops true).wpIn (Fence.wide.inRound lo) n prog Q {tmps:=Yg u,defers:=[]} W:=by
 obtain rfl:=yf ((rfl:Fm Tryz.f14 12=some _).symm.trans E)
 clear E
 obtain ⟨va,vm,vk,ai⟩:=AR m
 have A:∀b,vv.ownBlock=some b->base<=b/\b < W.heap.size:=λb hb=>El m b (by unfold ob;rw[hb];simp)
 have U:=yU _ _ S
 have ae:=yb A
 have HQ:=yb hQ;have B:=yb m.drew;have HG:=yb hg;have HC:=yb Z;have HP:=yb S;have O:=yb P;have ak:=yb H;have a7:=yb s;have af:=yb F
 obtain ⟨T,hT⟩:∃T:World->Prop,T=λV=>V.cell? (aV Pb 0)=some (pV Cb 0)/\V.cell? (aV Cb 0)=some vv/\V.rangeAt gv 0 [iV v.n,iV v.d]:=⟨_,rfl⟩
 have HT:=yb hT
 have G:Hid (∀V:World,(∀b,b < W.heap.size->vv.ownBlock≠some b->V.heap[b]?=W.heap[b]?)->T V):=yb (λV h=>by
  rw[hT]
  have a1:=(yd.1 Z).1
  have a6:=(yd.1 hg).1
  refine ⟨?_,?_,?_⟩
  ·unfold World.cell? at S |-
   rw[h Pb U λe=>by have:=A _ e;omega];exact S
  ·have:=(h Cb a1 λe=>by have:=A _ e;omega).trans Z
   simp[World.cell?,this]
  exact Ae ((h gv a6 H).trans hg))
 rw[SW,u4,u6]
 clear hQ m hg Z S P H s F A hT U
 refine Gp (by kernel_rfl) (by kernel_rfl) (by kernel_rfl) ac T 10 [(0,33,pV Cb 0),(1,34,pV Cb 0),(2,35,pV Cb 0),(3,36,pV Cb 0),(4,37,vv),(5,38,.agg #[iV v.n,iV v.d])] 5 (by kernel_rfl) (by kernel_rfl) aa (G.o _ λb _ _=>rfl) (by kernel_rfl) ?_ ?_
 ·simp only[Ct]
  refine ⟨?_,?_,?_,?_,?_,?_,trivial⟩
  iterate 5
   ·intro o R V X
    obtain rfl:=yf R
    rw[HT.o] at X
    obtain ⟨y0,y1, -⟩:=X
    go_simp
  intro o R V X
  obtain rfl:=yf R
  rw[HT.o] at X
  exact C1 58 (.tmp 6) rfl gv 0 (by kernel_rfl) [iV v.n,iV v.d] _ X.2.2 ju rfl (by kernel_rfl)
 simp only[Cs]
 obtain ⟨q,I⟩:∃q,q=W.drew:=⟨_,rfl⟩
 have r:Hid (q.heap=W.heap/\q.os=W.os/\q.tape=W.tape/\q.output=W.output):=yb (by rw[I];exact ⟨rfl,rfl,rfl,rfl⟩)
 rw[<-I] at B |-
 clear I
 refine Aq (i:=6) (by kernel_rfl) rfl rfl (λK p=>?_)
 obtain ⟨x,N⟩:∃x,x=q.alloc (.cells #[iV v.n,iV v.d] 58):=⟨_,rfl⟩
 have f:Hid (Below q.heap.size q x/\x.heap.size=q.heap.size+1/\x.heap[q.heap.size]?=some (.cells #[iV v.n,iV v.d] 58 (0,0))):=yb (by rw[N];exact ⟨(yg _ _).alloc (yi _) _,by simp,World.alloc_heap_new _ _⟩)
 refine E5 92 58 _ [[iV v.n,iV v.d]] 1 rfl [iV v.n,iV v.d] (by simp) rfl (by kernel_rfl) 2 jD (by kernel_rfl) (by simp) (by omega) (by omega) ?_
 rw[show q.alloc _=x from N.symm]
 clear N
 have j:∀b,b < W.heap.size->x.heap[b]?=W.heap[b]?:=λb hb=>(f.o.1.block b (by rw[r.o.1];exact hb)).trans (by rw[r.o.1])
 have a8:=yb j
 refine p.o _ _ (λ_=>G.o _ λb hb _=>j b hb) ?_
 clear p K j
 have ab:Hid (x.ownsRow base 58 2 vv l.length (l.flatMap Xn)):=yb (EM B.o λb hb _=>f.o.1.block b hb)
 have HZ:Hid (q.heap.size=W.heap.size):=yb (by rw[r.o.1])
 refine Aq (i:=7) (by kernel_rfl) rfl rfl (λK p=>?_)
 refine Dn jD (.tmp 37) (.tmp 39) rfl 2 (by kernel_rfl) (by decide) base vv l.length (l.flatMap Xn) (by kernel_rfl) ab.o q.heap.size 1 (Xn v) (by kernel_rfl) f.o.2.2 rfl (by simp[Xn,Value.oneCell']) (by have:=af.o;omega) (by have:=a7.o;have:=f.o.2.1;have:=HZ.o;omega) ?_
 intro v9 Y k L C
 have a2:Hid (x.grownBy Y vv.ownBlock):=yb L
 have ag:Hid (Y.ownsRow base 58 2 v9 (l++[v]).length ((l++[v]).flatMap Xn)):=yb (by simpa using k)
 have ad:Hid (v9.ownBlock=vv.ownBlock\/v9.ownBlock=some x.heap.size):=yb C
 have j:∀b,b < W.heap.size->vv.ownBlock≠some b->Y.heap[b]?=W.heap[b]?:=λb hb M=>(L.block b (by have:=f.o.2.1;have:=HZ.o;omega) (λe=>M e.symm)).trans (a8.o b hb)
 have D:=yb j
 have J:Hid (T Y):=yb (G.o _ j)
 obtain ⟨za,zm,zk,hz⟩:=AR k
 subst hz
 refine p.o _ _ (λ_=>J.o) ?_
 clear p K k L C j
 refine Aq (i:=8) (by kernel_rfl) rfl rfl (λK p=>?_)
 go_simp
 refine p.o _ _ (λ_=>J.o) ?_
 clear p K
 refine Aq (i:=9) (by kernel_rfl) rfl rfl (λK p=>?_)
 go_simp
 refine p.o _ _ (λ_=>J.o) ?_
 clear p K
 have z:Y.heap[Cb]?=some (.cells #[vv] 94 (0,0)):=(D.o Cb (yd.1 HC.o).1 (λe=>by have:=ae.o _ e;have:=O.o;omega)).trans HC.o
 have ah:=yb z
 have c9:=Ey z
 have f9:=Dg z 0
 clear z
 refine Aq (i:=10) (by kernel_rfl) rfl rfl (λK p=>?_)
 go_simp
 refine p.o _ _ (by intro h;cases h) ?_
 clear p K c9 f9
 refine AP (by kernel_rfl) ?_
 have hs:=AE (v:=.slice za zm zk) ah.o
 have al:=f.o.2.1
 have aj:=HZ.o
 have y:=a2.o
 refine HQ.o _ _ ⟨y.os.trans (f.o.1.os.trans r.o.2.1),y.tape.trans (f.o.1.tape.trans r.o.2.2.1),y.output.trans (f.o.1.output.trans r.o.2.2.2),?_,λb hb M R=>(Ad _ _ M).trans (D.o b hb R),_,hs,EM ag.o λb _ hb=>Ad _ _ (by have:=O.o;omega),λg hg=>?_⟩
 ·have:=y.size;simp;omega
 rcases ad.o with h|h
 ·left;rw[<-h];exact hg
 right;rw[h] at hg;cases hg;omega
end Go.Proofs.YtbdfinegbjdblaaGreatDoor
namespace Go.Proofs.YtbdfinegbjdblaaGreatDoor
open Go.RowKit Go.Proofs.Tryz
attribute [local go_sem] Oper.semAt_some
section
variable{P:Program}{ops:Array Oper}{rest:List Oper}{op:Oper}{a:Act}{w:World}{Q:QT}{lo n:Nat}
theorem Gq(e:op.guard=none)(ty:TypeId)(x:Operand)(f:op.op=.load ty x)(b o:Nat)(g:a.eval x=.pointer (some ⟨b,o,none⟩))(cs:LV)(d:TypeDesc)(hc:w.rangeAt b o cs)(j:P.underlying ty=some d)(hd:d.isRow=true)(hi:(P.info? ty).map (·.size)=some cs.length)
 (h:wpListIn (Fence.wide.inRound lo) n P ops Q rest (a.put op.dst (.agg cs.toArray)) w):wpListIn (Fence.wide.inRound lo) n P ops Q (op::rest) a w:=
 wpListIn_plain e λ_ i=>JO (λc hc=>by rw[f] at hc;cases hc) (xQ ty x f b o g cs d hc j hd hi (i _ _ h))
end
theorem SX{w W:World}{x:AM}{cs:LV}{L:BQ}{N:NP}(h:CQ N w L cs x):Calls prog 34 #[.agg cs.toArray] W λe w'=>e=.returned (.func (.func 57) #[] #[.pointer (some ⟨W.heap.size,0,none⟩)])/\w'=W.alloc (.cells cs.toArray 49):=by
 have b:∀(fn:Fn) (first cap:Array Value) (w:World),(Instr.makeFunc fn first cap).run prog w=.ok (.func fn first cap) w:=λ_ _ _ _=>rfl
 obtain ⟨c0,c1,c2,rfl,g0,g1,a⟩:=h.cells
 obtain ⟨a0,g,rfl,c⟩:=g0.cells
 obtain ⟨j,i,rfl,d⟩:=g1.cells
 obtain ⟨l,k,rfl,f⟩:=a.cells
 clear h g0 g1 a c d f
 unfold AA.v at*
 simp only[yQ,yS]
 go_enter func34,ntmps34
 go_wp2
 go_ret
 exact ⟨rfl,rfl⟩
theorem Vd(n:Nat)(p:1<=n){Bs:Nat}{L:BQ}{NB:NP}{d:World}{M:WS}(m:Re NB d Bs L M):
  Vm Fence.wide n prog 57 #[.pointer (some ⟨Bs,0,none⟩)] (Xl NB d) (J0 M) none:=by
 intro l J Jx Jp W k f j c b g a h0
 refine zi.2 ((Rp n p l Bs L NB d M m J Jx Jp W ⟨k,f,a⟩ c b h0).mono ?_)
 rintro e w' (⟨o,h⟩|⟨i,h1,h2⟩)
 ·exact .inl ⟨o,h.imp (λh=>⟨rfl,h⟩) id⟩
 exact .inr ⟨i,h1,h2⟩
structure Yi (w V5:World) (Cb:Nat) (c:Int) (O:Nat->Prop) (U:World):Prop where
 below:Below w.heap.size w U
 size:V5.heap.size<=U.heap.size
 keep:∀b,b < V5.heap.size->b≠Cb->b≠w.heap.size+2->U.heap[b]?=V5.heap[b]?
 e:U.heap[w.heap.size+2]?=some (.cells #[.int .i64 c] 34 (0,0))
 o:∀b,O b->V5.heap.size<=b
theorem Yi.stays{w V5:World}{Cb:Nat}{c:Int}(h:w.heap.size+2 < V5.heap.size){O m:NP}{W W':World}(a:Yi w V5 Cb c O W)(i:W.heap.size<=W'.heap.size)(j:W'.os=W.os)(g:W'.tape=W.tape)(f:W'.output=W.output)(d:∀b,¬ O b->b < W.heap.size->W'.heap[b]?=W.heap[b]?)(k:∀b,m b->O b\/W.heap.size<=b):Yi w V5 Cb c m W':=by
 have l:∀b,b < V5.heap.size->W'.heap[b]?=W.heap[b]?:=λb hb=>d b (λn=>by have:=a.o b n;omega) (by have:=a.size;omega)
 exact ⟨a.below.trans ⟨j,g,f,i,λb hb=>l b (by omega)⟩,by have:=a.size;omega,λb h1 h2 h3=>(l b h1).trans (a.keep b h1 h2 h3),(l _ h).trans a.e,λb hb=>(k b hb).elim (a.o b) (λh=>by have:=a.size;omega)⟩
structure YL (w V5:World) (Cb:Nat) (x:AM) (k:Nat) (O:Nat->Prop) (U:World):Prop where
 kk:Yi w V5 Cb 0 O U
 c:∃vv l,U.heap[Cb]?=some (.cells #[vv] 94 (0,0))/\U.ownsRow V5.heap.size 58 2 vv l.length (l.flatMap Xn)/\(∀g,vv.ownBlock=some g->¬ O g)/\DC x ((Dy x).take k)=.ok l
theorem OM{w V5:World}{Cb:Nat}{x:AM}(h:w.heap.size+2 < V5.heap.size)(hc:Cb < V5.heap.size):Cv (YL w V5 Cb x):=by
 intro k O W u W' j n p m f a i
 obtain ⟨vv,l,h1,h2,h3,t⟩:=j.c
 have d:=λg (hg:vv.ownBlock=some g)=>El h2 g (by unfold ob;rw[hg];simp)
 refine ⟨j.kk.stays h n p m f a i,vv,l,(a Cb (λq=>by have:=j.kk.o _ q;omega) (by have:=j.kk.size;omega)).trans h1,Da h2 λb hb=>?_,λg hg q=>?_,t⟩
 ·have e:vv.ownBlock=some b:=by
   unfold ob at hb
   cases s:vv.ownBlock with
   |none=>rw[s] at hb;cases hb
   |some z=>rw[s] at hb;simp at hb;rw[hb]
  exact a b (h3 b e) (d b e).2
 rcases i g q with r|r
 ·exact h3 g hg r
 have:=(d g hg).2;omega
theorem bF{W:World}{gv B:Nat}{a0 h c:Value}{t t2:TypeId}(a:gv≠B)(hg:W.heap[gv]?=some (.cells #[a0,h] t (0,0)))(g:W.heap[B]?=some (.cells #[c] t2 (0,0)))(n d e:Value):
  (((W.setCell ⟨gv,0,none⟩ n).setCell ⟨gv,1,none⟩ d).setCell ⟨B,0,none⟩ e).heap[gv]?=some (.cells #[n,d] t (0,0))/\(((W.setCell ⟨gv,0,none⟩ n).setCell ⟨gv,1,none⟩ d).setCell ⟨B,0,none⟩ e).heap[B]?=some (.cells #[e] t2 (0,0))/\∀b,b≠gv->b≠B->(((W.setCell ⟨gv,0,none⟩ n).setCell ⟨gv,1,none⟩ d).setCell ⟨B,0,none⟩ e).heap[b]?=W.heap[b]?:=by
 have h1:=zp W gv 0 _ _ n hg
 have h2:=zp (W.setCell (aV gv 0) n) gv 1 _ _ d h1
 have h3:((W.setCell (aV gv 0) n).setCell (aV gv 1) d).heap[B]?=some (.cells #[c] t2 (0,0)):=by
  rw[zg _ _ _ _ (by simpa using λe=>a e.symm),zg _ _ _ _ (by simpa using λe=>a e.symm)];exact g
 refine ⟨?_,AE h3,λb f i=>?_⟩
 ·rw[zg _ _ _ _ (by simpa using a)];exact h2
 rw[zg _ _ _ _ (by simpa using i),zg _ _ _ _ (by simpa using f),zg _ _ _ _ (by simpa using f)]
def Yj(e:Ex)(a:Option Addr)(p:Nat):LV:=[.int .i64 e.op,.int .i64 e.n,.int .i64 e.u,.string e.rn,.int .i64 e.ri,.slice a e.args.length p]
end Go.Proofs.YtbdfinegbjdblaaGreatDoor
namespace Go.Proofs.YtbdfinegbjdblaaGreatDoor
open Go.RowKit Go.Proofs.Tryz
attribute [local go_sem] Oper.semAt_some
structure Rx (w:World) (c:Int) (U U1:World):Prop where
 os:U1.os=U.os
 tape:U1.tape=U.tape
 output:U1.output=U.output
 size:U.heap.size<=U1.heap.size
 block:∀b,b < U.heap.size->b≠w.heap.size+2->U1.heap[b]?=U.heap[b]?
 e:U1.heap[w.heap.size+2]?=some (.cells #[.int .i64 c] 34 (0,0))
section
variable{w V5 U U1 U2:World}{Cb k:Nat}{x:AM}{O:NP}{c c0:Int}
theorem Yi.mid(h:Yi w V5 Cb c0 O U)(hw:w.heap.size+2 < V5.heap.size)(a:∀b,O b->b < U.heap.size)(m:Rx w c U U1):B7 O U U1/\Yi w V5 Cb c O U1:=by
 have hs:=h.size
 have d:=m.size
 refine ⟨⟨d,λb hb=>m.block b (a b hb) (by have:=h.o b hb;omega)⟩,⟨h.below.trans ⟨m.os,m.tape,m.output,d,λb hb=>m.block b (by omega) (by omega)⟩,by omega,λb h1 h2 h3=>(m.block b (by omega) h3).trans (h.keep b h1 h2 h3),m.e,h.o⟩⟩
theorem YL.push{vv:Value}{l:List Rt}{v:Rt}{e:Ex}(h:Yi w V5 Cb 0 O U)(hw:w.heap.size+2 < V5.heap.size)(y:Cb < V5.heap.size/\Cb≠w.heap.size+2/\w.heap.size<=Cb)(f:∀b,O b->b < U.heap.size)(n:U.ownsRow V5.heap.size 58 2 vv l.length (l.flatMap Xn))(c3:∀g,vv.ownBlock=some g->¬ O g)(c4:DC x ((Dy x).take k)=.ok l)(m:Rx w 0 U U1)(c:YK U1 U2 Cb V5.heap.size vv (l++[v]))(p:(Dy x)[k]?=some e)(B:Iv x e=(v,0)):B7 O U U2/\YL w V5 Cb x (k+1) O U2:=by
 have hs:=h.size
 have D:=m.size
 have s:∀g,vv.ownBlock=some g->V5.heap.size<=g:=λg hg=>(El n g (by unfold ob;rw[hg];simp)).1
 obtain ⟨r,d⟩:=h.mid hw f m
 have j:∀b,b < U.heap.size->b≠Cb->vv.ownBlock≠some b->U2.heap[b]?=U1.heap[b]?:=λb h1 h2 h3=>c.block b (by omega) h2 h3
 have a:∀b,b < V5.heap.size->b≠Cb->U2.heap[b]?=U1.heap[b]?:=λb h1 h2=>j b (by omega) h2 λe=>absurd (s b e) (by omega)
 refine ⟨⟨by have:=c.size;omega,λb hb=>(j b (f b hb) (by have:=h.o b hb;omega) (λe=>c3 b e hb)).trans (r.2 b hb)⟩,⟨⟨?_,by have:=c.size;omega,λb h1 h2 h3=>(a b h1 h2).trans (d.keep b h1 h2 h3),(a _ hw (λe=>y.2.1 e.symm)).trans d.e,h.o⟩,?_⟩⟩
 ·exact d.below.trans ⟨c.os,c.tape,c.output,c.size,λb hb=>a b (by omega) (by omega)⟩
 obtain ⟨q,A,z,C⟩:=c.cur
 refine ⟨q,l++[v],A,z,λg hg u=>?_,?_⟩
 ·rcases C g hg with t|t
  ·exact c3 g t u
  have:=f g u;omega
 have i:=(yF.1 p).1
 rw[yP i,KX x _ _ _ c4]
 rw[yk i] at p
 rw[yf p,B]
 rfl
end
theorem Ry{x:AM}(h:Nt x):(Dy x).length<=100000000000:=by
 rw[KY]
 unfold X4
 have h1:(x.rots.flatMap F8).length<=x.rots.length*100003:=by
  rw[List.flatMap_def]
  have:=TP (l:=x.rots.map F8) (m:=100003) λg hg=>by
   obtain ⟨r,hr,rfl⟩:=xS.1 hg
   have:=h.turns r hr
   simp[F8];omega
  simpa using this
 have h2:x.rots.length*100003<=100000*100003:=xT _ h.rots
 have:=h.lets;have:=h.crops;have:=h.reaches;have:=h.farms;have:=h.rights;have:=h.duties
 omega
theorem Ve{Q:QT}{w V:World}{x:AM}{cs:LV}{Cb Pb:Nat}(hQ:X9 Q w x)(hS:G6 w cs x)(bv:DU x=0)(hb:Below w.heap.size w V)
 (h0:V.heap[w.heap.size]?=some (.cells cs.toArray 49 (0,0)))(h1:V.heap[w.heap.size+1]?=some (.cells BL.toArray 31 (0,0)))(h2:V.heap[w.heap.size+2]?=some (.cells #[.int .i64 0] 34 (0,0)))(hP:V.heap[Pb]?=some (.cells #[.pointer (some ⟨Cb,0,none⟩)] 91 (0,0)))(hC:V.heap[Cb]?=some (.cells #[.slice none 0 0] 94 (0,0)))
 (E:w.heap.size+3<=Cb/\w.heap.size+3<=Pb/\Pb≠Cb)(u:Nat->Value)(hu:u 1=.pointer (some ⟨w.heap.size,0,none⟩)/\u 2=.pointer (some ⟨w.heap.size+1,0,none⟩)/\u 3=.pointer (some ⟨w.heap.size+2,0,none⟩)/\u 4=.pointer (some ⟨Pb,0,none⟩)):
  Fv 14 prog (Gj 3 (Tryz.f14.body.getD .skip)) Q {tmps:=Yg u,defers:=[]} V:=by
 obtain ⟨V5,aa⟩:∃V5,V5=V.alloc (.cells cs.toArray 49):=⟨_,rfl⟩
 have G:Below V.heap.size V V5:=by rw[aa];exact (yg _ _).alloc (yi _) _
 have ck:V5.heap.size=V.heap.size+1:=by rw[aa];simp
 have cf:=hb.size
 have bp:=(yd.1 hP).1
 have b4:=(yd.1 hC).1
 obtain ⟨NB,ah⟩:∃NB:NP,NB=λb=>b < w.heap.size\/b=V.heap.size:=⟨_,rfl⟩
 have cc:∀b,NB b->b < V5.heap.size/\b≠Cb/\b≠w.heap.size+2:=λb hb=>by rw[ah] at hb;rcases hb with hb|hb<;>omega
 obtain ⟨L,hv⟩:=hS.v
 have ba:CQ NB V5 L cs x:=hv.same (λb h=>by rw[ah];exact .inl h) (λb h=>(G.block b (by omega)).trans (hb.block b h))
 obtain ⟨M,b8,an⟩:=Rg (Bs:=V.heap.size) ba (by rw[aa];exact Ae (World.alloc_heap_new V (.cells cs.toArray 49))) (by rw[ah];exact .inr rfl)
 have cj:=UR an
 have d9:=yb (SX (W:=V) hv)
 have bm:Hid ((prog.info? 49).map (·.size)=some cs.length):=yb (Ll hv)
 have HR:=yb (Ae h0)
 have co:=yb b8;have a7:=yb cj;have d2:=yb aa;have HQ:=yb hQ;have HS:=yb hS;have ci:=yb bv;have y:=yb E;have r:=yb cc;have HU:=yb hu
 have R:Hid (w.heap.size+2 < V5.heap.size/\Cb < V5.heap.size/\Cb≠w.heap.size+2/\Pb < V5.heap.size/\V5.heap.size=V.heap.size+1/\w.heap.size<=V.heap.size):=yb (by omega)
 have b7:YL w V5 Cb x 0 (λ_=>False) V5:=⟨⟨hb.trans (G.mono cf),yi _,λ_ _ _ _=>rfl,(G.block _ (by omega)).trans h2,λ_ h=>h.elim⟩,.slice none 0 0,[],(G.block _ b4).trans hC,zU _ _ _ _,(λ_ _ h=>h),by rw[qG,DC]⟩
 have bi:Hid (V5.heap[w.heap.size]?=some (.cells cs.toArray 49 (0,0))):=yb ((G.block _ (by omega)).trans h0)
 have av:Hid (V5.heap[w.heap.size+1]?=some (.cells BL.toArray 31 (0,0))):=yb ((G.block _ (by omega)).trans h1)
 have bb:Hid (V5.heap[Pb]?=some (.cells #[pV Cb 0] 91 (0,0))):=yb ((G.block _ bp).trans hP)
 have cm:=yb b7
 have dd:Hid (∀k (h:k < (Dy x).length),True):=yb λ_ _=>trivial
 obtain ⟨u1,u2,u3,u4⟩:=hu
 rw[SW,u1,u2,u3,u4]
 clear G ck cf bp b4 cc ba b8 an cj aa hQ hS bv hb h0 h1 h2 hP hC E b7 u1 u2 u3 u4 hv ah
 refine Aj (Aj (Aa ?_))
 go_wp2_with (first
  |(with_reducible refine yj rfl 49 _ rfl w.heap.size 0 rfl cs _ HR.o jq rfl bm.o ?_)
  |(go_at_call 34;with_reducible refine d9.o.mono ?_;rintro e w2 ⟨rfl,rfl⟩))
 rw[<-d2.o]
 refine Dp ?_
 obtain ⟨Ap,b3⟩:∃Ap:Nat->Act->NP->World->Prop,Ap=λk a O U=>∃(ae:Option Addr) (pe g:Nat) (e:Ex),(Dy x)[k]?=some e/\Bm NB V5 e (Yj e ae pe)/\¬ O g/\V5.heap.size<=g/\g < U.heap.size/\U.heap[g]?=some (.cells (Yj e ae pe).toArray 40 (0,0))/\a={tmps:=#[u 0,pV w.heap.size 0,pV (w.heap.size+1) 0,pV (w.heap.size+2) 0,pV Pb 0,pV g 0,u 6,u 7,u 8,u 9,u 10,u 11,u 12,u 13,u 14,u 15,.agg cs.toArray,.func (.func 57) #[] #[pV V.heap.size 0],.agg (Yj e ae pe).toArray,u 19,u 20,u 21,u 22,u 23,u 24,u 25,u 26,u 27,u 28,u 29,u 30,u 31,u 32,u 33,u 34,u 35,u 36,u 37,u 38,u 39,u 40,u 41,u 42,u 43,u 44,u 45,u 46,u 47,u 48,u 49,u 50,u 51,u 52,u 53,u 54],defers:=[]}:=⟨_,rfl⟩
 have ax:=yb b3
 clear b3
 refine CW (n:=10) func14 rfl (λ_ _=>rfl) (Vd 9 (by omega) co.o) (λa ha=>by
   obtain ⟨k,A,rfl⟩:=zq.1 ha
   obtain ⟨c,h, -⟩:=a7.o.get k A (by rw[<-a7.o.len];exact A)
   rw[h];rfl)
  (YL w V5 Cb x) (λc O U=>∃p,(c=.ret/\DC x (Dy x)=.error p)/\Yi w V5 Cb p O U) (λ_ _ _=>False)
  (λk a O U=>YL w V5 Cb x k O U/\Ap k a O U)
  (OM R.o.1 R.o.2.1) (λc s O W O' W' C a1 a2 a3 a4 a5 a6=>?_) (λ_ _ _ _ _ _ h=>h.elim) ?_ ?_ ?_ (λ_ h=>by cases h) cm.o ?_ ?_ ?_ ?_ (λ_ _ _ _ _ _ h=>h.elim)
 ·obtain ⟨p,hp,A⟩:=C
  exact ⟨p,hp,A.stays R.o.1 a1 a2 a3 a4 a5 a6⟩
 ·rintro a k O W O' W' ⟨h1,hA⟩ Y ho ht hu I hO
  rw[ax.o] at hA |-
  obtain ⟨ae,pe,g,e,g1,g2,g5,g6,g7,g8,g9⟩:=hA
  exact ⟨OM R.o.1 R.o.2.1 k O W O' W' h1 Y ho ht hu I hO,ae,pe,g,e,g1,g2,λh=>(hO g h).elim g5 (λh=>by omega),g6,by omega,(I g g5 g7).trans g8,g9⟩
 ·rintro k O U C b hN
  exact C.kk.keep b (r.o b hN).1 (r.o b hN).2.1 (r.o b hN).2.2
 ·rintro c O U ⟨p, -,h⟩ b hN
  exact h.keep b (r.o b hN).1 (r.o b hN).2.1 (r.o b hN).2.2
 ·intro k A O U lo C hO hl X
  obtain ⟨c,hc,N⟩:=a7.o.get k A (by rw[<-a7.o.len];exact A)
  have I:k < (Dy x).length:=by rw[<-a7.o.len];exact A
  have au:(Dy x)[k]?=some ((Dy x)[k]'I):=yk I
  rw[hc]
  generalize (Dy x)[k]'I=e at au N |-
  obtain ⟨ae,pe,rfl, -⟩:=N.cells
  have HJ:=yb C;have af:=yb X;have d7:=yb au;have ao:=yb N
  clear C hO hl X A hc au N I
  unfold Xm
  gi_wp2
  have Y:=HJ.o.kk.size
  have cn:Rx w 0 U (U.alloc (.cells (Yj e ae pe).toArray 40)):=⟨rfl,rfl,rfl,by simp,λb hb _=>yp _ _ _ hb,(yp _ _ _ (by have:=R.o.1;omega)).trans HJ.o.kk.e⟩
  obtain ⟨f1,f2⟩:=HJ.o.kk.mid R.o.1 af.o cn
  refine ⟨f1,⟨f2,?_⟩,?_⟩
  ·obtain ⟨vv,l,k1,k2,k3,k4⟩:=HJ.o.c
   exact ⟨vv,l,(yp _ _ _ (by have:=R.o.2.1;omega)).trans k1,k2.alloc _,k3,k4⟩
  rw[ax.o]
  exact ⟨ae,pe,U.heap.size,e,d7.o,ao.o,λh=>qI _ (af.o _ h),Y,by simp,World.alloc_heap_new _ _,rfl⟩
 ·rintro k A O U lo a1 hl b9 X ⟨C,hA⟩
  rw[ax.o] at hA
  obtain ⟨ae,pe,g,e,he,N,da,d1,ca,b0,rfl⟩:=hA
  obtain ⟨vv,l,c1,c2,c3,c4⟩:=C.c
  have Y:=R.o
  have cb:=C.kk.size
  have a8:U.heap[Pb]?=some (.cells #[pV Cb 0] 91 (0,0)):=(C.kk.keep Pb Y.2.2.2.1 y.o.2.2 (by have:=y.o;omega)).trans bb.o
  have c8:U.heap[w.heap.size]?=some (.cells cs.toArray 49 (0,0)):=(C.kk.keep _ (by omega) (by have:=y.o;omega) (by omega)).trans bi.o
  have cd:U.heap[w.heap.size+1]?=some (.cells BL.toArray 31 (0,0)):=(C.kk.keep _ (by omega) (by have:=y.o;omega) (by omega)).trans av.o
  have ch:∀b,vv.ownBlock=some b->V5.heap.size<=b/\b < U.heap.size:=λb hb=>El c2 b (by unfold ob;rw[hb];simp)
  have aj:l.length<=1000000000000:=by
   have h1:=(Ku x _ _ c4).1
   have h2:=Ry HS.o.slim
   rw[zM] at h1;omega
  have ad:=yb C.kk
  have c9:Iv x e=(Ja,0)\/Iv x e=FD x e:=by unfold Iv;split<;>simp
  have aq:Hid (Rx w 0 U (U.alloc (.cells jF 58))):=yb ⟨rfl,rfl,rfl,by simp,λb hb _=>yp _ _ _ hb,(yp _ _ _ (by omega)).trans C.kk.e⟩
  have J:Hid (∀(K:Act->World->Prop) (Q':QT) (v:Rt) (U1:World) (u':Nat->Value),Rx w 0 U U1->U1.heap[U.heap.size]?=some (.cells #[iV v.n,iV v.d] 58 (0,0))->Iv x e=(v,0)->u' 4=pV Pb 0->u' 6=pV U.heap.size 0->¬ LetsOut Q'->(∀c a t v w,Q' (.panic c) (Act.put a (some t) v) w->Q' (.panic c) a w)->(∀a W,B7 O U W/\YL w V5 Cb x (k+1) O W->Q' .normal a W)->∀ops,Fm Tryz.f14 12=some ops->(Code.region 12 ops true).wpIn (Fence.wide.inRound lo) 8 prog Q' {tmps:=Yg u',defers:=[]} U1):=yb (λK Q' v U1 u' m hg hv e4 e6 cy db hq ops cg=>by
   have dh:=m.size
   have hU:∀b,b < U.heap.size->b≠w.heap.size+2->U1.heap[b]?=U.heap[b]?:=m.block
   refine Yh (l:=l) (v:=v) (vv:=vv) (base:=V5.heap.size) ops cg e4 e6 (by simp[World.cell?,(hU Pb (by omega) (by have:=y.o;omega)).trans a8]) ((hU Cb (by omega) Y.2.2.1).trans c1) hg (Da c2 λb hb=>hU b (El c2 b hb).2 (by have:=(El c2 b hb).1;omega)) ⟨by omega,by omega,y.o.2.2,by omega⟩ (λe=>by have:=ch _ e;omega) (by omega) aj cy db λa W' hp=>hq a W' (YL.push ad.o Y.1 ⟨Y.2.1,Y.2.2.1,by have:=y.o;omega⟩ X c2 c3 c4 m hp he hv))
  have de:=yb a8;have cp:=yb c8;have bd:=yb cd;have af:=yb X;have cr:=yb b0;have ao:=yb N;have HE:=yb he;have cw:Hid (g < U.heap.size):=yb ca
  have d6:=yb c4
  have al:Hid (V5.heap.size<=U.heap.size):=yb cb
  clear C he N da d1 ca b0 c1 c2 c3 c4 Y cb a8 c8 cd ch aj hl b9 X
  refine wpIn_block ?_
  refine Jk λK hK=>?_
  gi_wp2_with fail
  refine hK.o _ _ ?_
  clear hK K
  have ay:Hid ((U.alloc (.cells jF 58)).heap[U.heap.size]?=some (.cells jF 58 (0,0))):=yb (World.alloc_heap_new _ _)
  have z:Hid (Below U.heap.size U (U.alloc (.cells jF 58))):=yb ((yg _ _).alloc (yi _) _)
  have aw:Hid ((U.alloc (.cells jF 58)).heap.size=U.heap.size+1):=yb (by simp)
  generalize U.alloc _=U1 at aq ay z aw |-
  have ap:U1.heap[g]?=some (.cells (Yj e ae pe).toArray 40 (0,0)):=(z.o.block g cw.o).trans cr.o
  have x0:U1.cell? (aV g 0)=some (iV e.op):=by simp[World.cell?,ap,Yj]
  have d0:=yb (Ae ap)
  have cx:Hid (U1.rangeAt w.heap.size 0 cs):=yb (Ae ((z.o.block _ (by have:=R.o;have:=al.o;omega)).trans cp.o))
  clear ap
  refine Jk λK hK=>?_
  by_cases T:e.op=0
  ·have e1:(e.op !=0)=false:=by simpa using T
   have hv:Iv x e=(Ja,0):=by unfold Iv;rw[yz T]
   have ac:=yb hv
   clear T hv c9
   gi_wp2_with fail
   refine hK.o _ _ ?_
   refine Py (P:=λl=>Code.wpIn _ _ _ _ _ ⟨l,[]⟩ _) rfl ?_
   exact J.o K _ Ja U1 _ aq.o ay.o ac.o rfl rfl (by rintro ⟨_,_,h⟩;exact h) (λ_ _ _ _ _ h=>h) (λ_ _ h=>h) _ rfl
  have e1:(e.op !=0)=true:=by simpa using T
  have hv:Iv x e=FD x e:=by unfold Iv;rw[ym T]
  have ac:=yb hv
  have H:=yb (UF ((HS.o.up ad.o.below).up (by
   have h:=z.o
   exact ⟨h.os,h.tape,h.output,h.size,λb hb=>h.block b hb⟩)) (ao.o.same (N':=λb=>b < U1.heap.size) (w':=U1) (λb h=>by have:=(r.o b h).1;have:=al.o;have:=aw.o;omega) (λb h=>(z.o.block b (by have:=(r.o b h).1;have:=al.o;omega)).trans (ad.o.keep b (r.o b h).1 (r.o b h).2.1 (r.o b h).2.2))))
  clear T hv c9
  obtain ⟨⟨⟨vn,vd⟩,p⟩,hq⟩:∃q,q=FD x e:=⟨_,rfl⟩
  rw[<-hq] at ac H
  clear hq
  unfold ZN Rt.v at H
  dsimp only at H
  have H6:Hid ((prog.info? 40).map (·.size)=some (Yj e ae pe).length):=yb (by unfold Yj;kernel_rfl)
  gi_wp2_with (first
   |(with_reducible refine Gq rfl 49 (.tmp 1) rfl w.heap.size 0 (by kernel_rfl) cs _ cx.o jq rfl bm.o ?_)
   |(with_reducible refine Gq rfl 40 (.tmp 5) rfl g 0 (by kernel_rfl) (Yj e ae pe) _ d0.o ji rfl H6.o ?_))
  refine ⟨trivial,zB (CallsIn.inRound lo (zi.2 H.o)) ?_⟩
  rintro e9 w3 ⟨rfl,B⟩
  have b5:=y.o;have d8:=R.o;have ce:=al.o;have d5:=aw.o
  have S:=(B.block U.heap.size (by omega)).trans ay.o
  have ak:=(B.block (w.heap.size+2) (by omega)).trans aq.o.e
  have bh:=(B.block (w.heap.size+1) (by omega)).trans ((z.o.block _ (by omega)).trans bd.o)
  obtain ⟨s1,s2,s3⟩:=bF (by omega) S ak (iV vn) (iV vd) (iV p)
  have bq:Rx w p U (((w3.setCell (aV U.heap.size 0) (iV vn)).setCell (aV U.heap.size 1) (iV vd)).setCell (aV (w.heap.size+2) 0) (iV p)):=⟨B.os.trans z.o.os,B.tape.trans z.o.tape,B.output.trans z.o.output,by have:=B.size;simp;omega,λb h1 h2=>(s3 b (by omega) h2).trans ((B.block b (by omega)).trans (z.o.block b h1)),s2⟩
  have F:=yb bq;have ab:=yb s1;have ag:=yb s2;have ai:=yb ((s3 (w.heap.size+1) (by omega) (by omega)).trans bh)
  obtain ⟨r0,r1⟩:=ZM S
  have rf:=Dg S
  have re:=Ey ak
  have cv:=Dg ak
  have n1:¬ w.heap.size+2=U.heap.size:=by omega
  have n2:¬ U.heap.size=w.heap.size+2:=by omega
  clear b5 d8 ce d5 B S ak bh s1 s2 s3 bq H x0
  obtain ⟨bt,am⟩:∃b,(p !=0)=b:=⟨_,rfl⟩
  have dg:=yb am
  cases bt
  ·have h0:p=0:=by simpa using am
   have bu:Hid (Iv x e=(⟨vn,vd⟩,0)):=yb (by rw[ac.o,h0])
   rw[h0] at F ab ag
   subst h0
   gi_wp2_with fail
   refine hK.o _ _ ?_
   refine Py (P:=λl=>Code.wpIn _ _ _ _ _ ⟨l,[]⟩ _) rfl ?_
   exact J.o K _ ⟨vn,vd⟩ _ _ F.o ab.o bu.o rfl rfl (by rintro ⟨_,_,h⟩;exact h) (λ_ _ _ _ _ h=>h) (λ_ _ h=>h) _ rfl
  have bw:p≠0:=by simpa using am
  have bj:Hid (DC x (Dy x)=.error p):=yb (by
   have E:=(yF.1 HE.o).1
   have h1:=KX x e _ _ d6.o
   rw[ac.o,ym bw] at h1
   have h2:=yP E
   have h3:=HE.o
   rw[yk E] at h3
   rw[yf h3] at h2
   rw[<-h2] at h1
   have h4:=Rv x ((Dy x).drop (k+1)) _ h1
   rwa [xN] at h4)
  clear bw J
  gi_wp2_with fail
  clear r0 r1 rf re cv n1 n2 am e1
  generalize World.setCell _ _ _=W4 at F ai ag ab |-
  have be:Hid (∀V:World,V.heap[w.heap.size+1]?=some (.cells BL.toArray 31 (0,0))->V.heap[w.heap.size+2]?=some (.cells #[iV p] 34 (0,0))->V.rangeAt (w.heap.size+1) 0 BL/\V.cell? (aV (w.heap.size+2) 0)=some (iV p)):=yb (λV h1 h2=>⟨Ae h1,Ey h2⟩)
  refine Gp (by kernel_rfl) (by kernel_rfl) (by kernel_rfl) (by rintro ⟨_,_,h⟩;exact h) (λV=>V.rangeAt (w.heap.size+1) 0 BL/\V.cell? (aV (w.heap.size+2) 0)=some (iV p)) 3 [(0,31,.agg BL.toArray),(1,32,iV p)] 2 (by kernel_rfl) (by kernel_rfl) (λ_ _ _ _ _ h=>h) (be.o _ ai.o ag.o) (by kernel_rfl) ?_ ?_
  ·simp only[Ct]
   refine ⟨?_,?_,trivial⟩
   ·intro o ho V hV
    obtain rfl:=yf ho
    exact C1 31 (.tmp 2) rfl (w.heap.size+1) 0 (by kernel_rfl) BL _ hV.1 jf rfl (by kernel_rfl)
   intro o ho V hV
   obtain rfl:=yf ho
   obtain ⟨-,y1⟩:=hV
   go_simp
  simp only[Cs]
  refine Aq (i:=2) (by kernel_rfl) rfl rfl (λK hK=>?_)
  refine wp_store_row 31 (.tmp 2) (.tmp 31) rfl (w.heap.size+1) BL.toArray (by kernel_rfl) (by kernel_rfl) 31 _ ai.o (by kernel_rfl) (by kernel_rfl) (by kernel_rfl) ?_
  have h5:(W4.drew.setRow (w.heap.size+1) BL.toArray).heap[w.heap.size+1]?=some (.cells BL.toArray 31 (0,0)):=D3 ai.o
  have h6:(W4.drew.setRow (w.heap.size+1) BL.toArray).heap[w.heap.size+2]?=some (.cells #[iV p] 34 (0,0)):=(Bh _ (by omega)).trans ag.o
  have bg:Rx w p U (W4.drew.setRow (w.heap.size+1) BL.toArray):=⟨F.o.os,F.o.tape,F.o.output,by have:=F.o.size;simpa[World.setRow] using this,λb h1 h2=>by
   by_cases hb:b=w.heap.size+1
   ·subst hb;exact h5.trans bd.o.symm
   exact (Bh _ hb).trans (F.o.block b h1 h2),h6⟩
  refine hK.o _ _ (λ_=>be.o _ h5 h6) ?_
  clear hK K
  have Z:=yb bg
  clear bg h5
  generalize World.setRow _ _ _=W5 at Z h6 |-
  have c6:=Ey h6
  have f6:=Dg h6 0
  have cl:=yb h6
  clear h6
  refine Aq (i:=3) (by kernel_rfl) rfl rfl (λK hK=>?_)
  go_simp
  refine hK.o _ _ (by intro h;cases h) ?_
  clear hK K c6 f6
  refine AP (by kernel_rfl) ?_
  have h7:=AE (v:=iV p) cl.o
  have cq:Rx w p U (W5.setCell (aV (w.heap.size+2) 0) (iV p)):=⟨Z.o.os,Z.o.tape,Z.o.output,by simpa using Z.o.size,λb h1 h2=>(Ad _ _ h2).trans (Z.o.block b h1 h2),h7⟩
  obtain ⟨f1,f2⟩:=ad.o.mid R.o.1 af.o cq
  gi_wp2_with fail
  exact ⟨f1,p,⟨rfl,bj.o⟩,f2⟩
 ·rintro - D O U hD cz C az
  obtain ⟨vv,l,c1,c2,c3,c4⟩:=C.c
  rw[a7.o.len,zA] at c4
  have E:=y.o;have Y:=R.o
  have aj:=(Ku x _ _ c4).1
  have hn:0 < l.length:=by rw[aj,KY];omega
  obtain ⟨g,cap,rfl⟩:=MZ c2 hn
  have hg:=El c2 g (by simp[ob,Value.ownBlock])
  have bk:l.length<=cap:=by
   rcases c2.2 with ⟨h0, -⟩|⟨g',dc,cur,h0, -, -,h3, -⟩
   ·cases h0
   cases h0;exact h3
  have bo:Hb U Cb g l:=⟨some (aV g 0),cap,c1,bk,λ_=>⟨0,rfl,λi hi=>λj u hj=>by
   have:=c2.cells rfl (i*2+j) u (Kt (f:=Xn) (λ_=>rfl) l i hi j u hj)
   rw[zO] at this
   simpa using this⟩⟩
  have A:=C.kk
  have a8:=(A.keep Pb Y.2.2.2.1 E.2.2 (by omega)).trans bb.o
  refine Py (P:=λl=>Fv _ _ _ _ ⟨l,_⟩ _) rfl ?_
  refine Xb (Pb:=Pb) HQ.o HS.o ci.o c4 A.below ((A.keep _ (by omega) (by omega) (by omega)).trans bi.o) ((A.keep _ (by omega) (by omega) (by omega)).trans av.o) A.e (Ey a8) bo (by omega) ⟨⟨by omega,by have:=A.size;omega⟩,hg.2⟩ ⟨by omega,by omega⟩ az _ ?_
  exact ⟨rfl,rfl,rfl,rfl⟩
 rintro D c O U hD cz ⟨p,⟨rfl,bn⟩,A⟩ az
 have E:=y.o;have Y:=R.o
 have hE:CC x=(Cw,p):=by unfold CC;rw[yz ci.o,bn]
 refine (xV (n:=10)).2 ?_
 go_wp2_with fail
 exact HQ.o.earlyD D p _ _ ⟨rfl,rfl⟩ A.below ((A.keep _ (by omega) (by omega) (by omega)).trans av.o) A.e hE (by omega) az
theorem Nd{w:World}{x:AM}{cs:LV}(U:G6 w cs x):Calls prog 14 #[.agg cs.toArray] w (Rs (CC x) w):=by
 have HS:=yb U
 obtain ⟨L,s⟩:=U.v
 have y:Hid ((prog.info? 49).map (·.size)=some cs.length):=yb (Ll s)
 obtain ⟨W,u⟩:∃W,W=((w.alloc (.cells cs.toArray 49)).alloc (.cells BL.toArray 31)).alloc (.cells jG 34):=⟨_,rfl⟩
 have A:Below w.heap.size w W:=by rw[u];exact (((yg _ _).alloc (yi _) _).alloc (by simp) _).alloc (by simp;omega) _
 have t:W.heap[w.heap.size]?=some (.cells cs.toArray 49 (0,0)):=by
  rw[u,yp _ _ _ (by simp;omega),yp _ _ _ (by simp)]
  exact World.alloc_heap_new _ _
 have O:W.heap[w.heap.size+1]?=some (.cells BL.toArray 31 (0,0)):=by
  rw[u,yp _ _ _ (by simp)]
  have:=World.alloc_heap_new (w.alloc (.cells cs.toArray 49)) (.cells BL.toArray 31)
  rwa [ze] at this
 have R:W.heap[w.heap.size+2]?=some (.cells jG 34 (0,0)):=by
  rw[u]
  have:=World.alloc_heap_new ((w.alloc (.cells cs.toArray 49)).alloc (.cells BL.toArray 31)) (.cells jG 34)
  rwa [ze,ze] at this
 have H:W.heap.size=w.heap.size+3:=by rw[u];simp
 have q:=yb (SS (U.up A))
 have Z:=yb u;have S:=yb A;have H0:=yb t;have H1:=yb O;have r:=yb R;have HZ:=yb H
 have HR:=yb (Ae t)
 obtain ⟨T,z⟩:∃T,T=cs:=⟨_,rfl⟩
 have HK:=yb z
 rw[<-z] at HS y q H0 HR
 obtain ⟨c0,c1,c2,rfl,g0,g1,g2⟩:=s.cells
 obtain ⟨a0,p0,rfl,e0⟩:=g0.cells
 obtain ⟨a1,p1,rfl,e1⟩:=g1.cells
 obtain ⟨a2,p2,rfl,e2⟩:=g2.cells
 clear U s g0 g1 g2 e0 e1 e2 z u A t O R H
 unfold AA.v at*
 simp only[yQ,yS] at Z HK |-
 refine Bt (n:=10) func14 rfl ?_
 have hQ:=Xa w x
 generalize bodyPostM Fence.wide 10 prog Tryz.f14 _=Q at hQ |-
 have HQ:=yb hQ
 clear hQ
 simp only[ntmps14,yA,yr,yK,Nat.reduceAdd,Nat.reduceSub,zw,zx,zG,zD,yS,yQ]
 refine Aj (Aa ?_)
 go_wp2
 generalize hG:World.alloc (World.alloc (World.alloc w _) _) _=W2
 obtain rfl:W=W2:=Z.o.trans hG
 clear Z HK hG
 obtain ⟨c,j⟩:∃c,c=DU x:=⟨_,rfl⟩
 rw[<-j] at q
 have HC:=yb j
 have M:=Ey r.o
 have hf:=Dg r.o
 have hz:=HZ.o
 refine Aj (Aa ?_)
 by_cases hc:c=0
 rotate_left 1
 ·have e1:(c !=0)=true:=by simpa using hc
  have HE:Hid (CC x=(Cw,c)):=yb (by unfold CC;rw[ym (by rw[<-j];exact hc),<-j])
  clear j hc M hf
  go_wp2_with (first
   |(with_reducible refine yj rfl 49 _ rfl w.heap.size 0 rfl T _ HR.o jq rfl y.o ?_)
   |(go_at_call 15;(with_reducible refine q.o.mono ?_);rintro e w2 ⟨rfl,a⟩;have M:=Ey ((a.block _ (by omega)).trans r.o);have hf:=Dg ((a.block _ (by omega)).trans r.o);have k:=yb a;clear a))
  have a:=k.o
  have hs:=AE (v:=iV c) ((a.block _ (by omega)).trans r.o)
  have hd:=(Ad w2 (iV c) (by omega:w.heap.size+1≠w.heap.size+2)).trans ((a.block _ (by omega)).trans H1.o)
  have m:Below w.heap.size w (w2.setCell (aV (w.heap.size+2) 0) (iV c)):=(S.o.trans (a.mono S.o.size)).trans ⟨rfl,rfl,rfl,by simp,λb hb=>Ad _ _ (by omega)⟩
  have d:=yb hs;have f:=yb hd;have g:=yb m
  clear a hs hd m M hf k
  generalize World.setCell _ _ _=W4 at d f g |-
  have D:Hid (∀V:World,V.heap[w.heap.size+1]?=some (.cells BL.toArray 31 (0,0))->V.heap[w.heap.size+2]?=some (.cells #[iV c] 34 (0,0))->V.rangeAt (w.heap.size+1) 0 BL/\V.cell? (aV (w.heap.size+2) 0)=some (iV c)):=yb (λV h1 h2=>⟨Ae h1,Ey h2⟩)
  refine Kq ?_
  refine Cu (by kernel_rfl) (λV=>V.rangeAt (w.heap.size+1) 0 BL/\V.cell? (aV (w.heap.size+2) 0)=some (iV c)) 3 [(0,12,.agg BL.toArray),(1,13,iV c)] 2 (by kernel_rfl) (by kernel_rfl) (λ_ _ _ _ _ h=>by cases h.1) (D.o _ f.o d.o) (by kernel_rfl) ?_ ?_
  ·simp only[Ct]
   refine ⟨?_,?_,trivial⟩
   ·intro o ho V hV
    obtain rfl:=yf ho
    exact C1 31 (.tmp 2) rfl (w.heap.size+1) 0 (by kernel_rfl) BL _ hV.1 jf rfl (by kernel_rfl)
   intro o ho V hV
   obtain rfl:=yf ho
   obtain ⟨-,y1⟩:=hV
   go_simp
  simp only[Cs]
  refine Aq (i:=2) (by kernel_rfl) rfl rfl (λK I=>?_)
  refine wp_store_row 31 (.tmp 2) (.tmp 12) rfl (w.heap.size+1) BL.toArray (by kernel_rfl) (by kernel_rfl) 31 _ f.o (by kernel_rfl) (by kernel_rfl) (by kernel_rfl) ?_
  have h5:(W4.drew.setRow (w.heap.size+1) BL.toArray).heap[w.heap.size+1]?=some (.cells BL.toArray 31 (0,0)):=D3 f.o
  have B:(W4.drew.setRow (w.heap.size+1) BL.toArray).heap[w.heap.size+2]?=some (.cells #[iV c] 34 (0,0)):=(Bh _ (by omega)).trans d.o
  have J:Below w.heap.size w (W4.drew.setRow (w.heap.size+1) BL.toArray):=Bz g.o.drew (qn _) _
  refine I.o _ _ (λ_=>D.o _ h5 B) ?_
  clear I K
  have F:=yb h5;have C:=yb J
  clear h5 J
  generalize World.setRow _ _ _=W5 at F C B |-
  have c6:=Ey B
  have f6:=Dg B 0
  have X:=yb B
  clear B
  refine Aq (i:=3) (by kernel_rfl) rfl rfl (λK I=>?_)
  go_simp
  refine I.o _ _ (by intro h;cases h) ?_
  clear I K c6 f6
  refine AP (by kernel_rfl) ?_
  have h7:=AE (v:=iV c) X.o
  have h8:Below w.heap.size w (W5.setCell (aV (w.heap.size+2) 0) (iV c)):=C.o.trans ⟨rfl,rfl,rfl,by simp,λb hb=>Ad _ _ (by omega)⟩
  have h9:=(Ad W5 (iV c) (by omega:w.heap.size+1≠w.heap.size+2)).trans F.o
  refine ⟨rfl,?_⟩
  go_wp2_with fail
  refine HQ.o.early c _ _ ?_ h8 h9 h7 HE.o
  exact ⟨rfl,rfl⟩
 clear j
 subst hc
 go_wp2_with (first
  |(with_reducible refine yj rfl 49 _ rfl w.heap.size 0 rfl T _ HR.o jq rfl y.o ?_)
  |(go_at_call 15;(with_reducible refine q.o.mono ?_);rintro e w2 ⟨rfl,a⟩;have M:=Ey ((a.block _ (by omega)).trans r.o);have hf:=Dg ((a.block _ (by omega)).trans r.o);have k:=yb a;clear a))
 have a:=k.o
 have hs:=AE (v:=iV 0) ((a.block _ (by omega)).trans r.o)
 have hd:=(Ad w2 (iV 0) (by omega:w.heap.size+1≠w.heap.size+2)).trans ((a.block _ (by omega)).trans H1.o)
 have h0:=(Ad w2 (iV 0) (by omega:w.heap.size≠w.heap.size+2)).trans ((a.block _ (by omega)).trans H0.o)
 have m:Below w.heap.size w (w2.setCell (aV (w.heap.size+2) 0) (iV 0)):=(S.o.trans (a.mono S.o.size)).trans ⟨rfl,rfl,rfl,by simp,λb hb=>Ad _ _ (by omega)⟩
 have d:=yb hs;have f:=yb hd;have g:=yb m;have G:=yb h0
 clear a hs hd m h0 M hf k
 generalize World.setCell _ _ _=W4 at d f g G |-
 refine Aj (Aa ?_)
 go_wp2_with fail
 have hl:=(yd.1 d.o).1
 have Y:=World.alloc_heap_new W4 (.cells jJ 94)
 have N:=World.alloc_heap_new (W4.alloc (.cells jJ 94)) (.cells #[pV W4.heap.size 0] 91)
 have p:Below W4.heap.size W4 ((W4.alloc (.cells jJ 94)).alloc (.cells #[pV W4.heap.size 0] 91)):=((yg _ _).alloc (yi _) _).alloc (by simp) _
 have E:=(yp (W4.alloc (.cells jJ 94)) (.cells #[pV W4.heap.size 0] 91) W4.heap.size (by simp)).trans Y
 rw[ze] at N
 refine Py (P:=λl=>Fv _ _ _ _ ⟨l,_⟩ _) rfl ?_
 refine Ve (Cb:=W4.heap.size) (Pb:=W4.heap.size+1) HQ.o HS.o HC.o.symm (g.o.trans (p.mono g.o.size)) ((p.block _ (by omega)).trans G.o) ((p.block _ (by omega)).trans f.o) ((p.block _ hl).trans d.o) N E ⟨by omega,by omega,by omega⟩ _ ?_
 exact ⟨rfl,rfl,rfl,rfl⟩
end Go.Proofs.YtbdfinegbjdblaaGreatDoor
