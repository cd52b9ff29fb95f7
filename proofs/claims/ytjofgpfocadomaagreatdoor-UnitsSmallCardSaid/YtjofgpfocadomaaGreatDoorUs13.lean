/- Parts of the proof, in short words: Go Vc Hj Hk Hl -/
import Derived.Test.YtjofgpfocadomaaGreatDoorUs0
import Derived.Test.YtjofgpfocadomaaGreatDoorUs11
import Derived.Test.YtjofgpfocadomaaGreatDoorUs12
import Derived.Test.YtjofgpfocadomaaGreatDoorUs9
import Derived.Test.YtjofgpfocadomaaGreatDoorUs4
import Derived.Test.YtjofgpfocadomaaGreatDoorUs10
set_option maxRecDepth 100000
set_option maxHeartbeats 32000000
set_option linter.unusedSimpArgs false
namespace Go.Proofs.YtjofgpfocadomaaGreatDoor
open Go.RowKit
theorem PD{B:Nat}{W:World}{t e ty:TypeId}{i:TypeInfo}{z:Value}{size d:Nat}(w:Tryz.prog.underlying t=some (.slice e))(hi:Tryz.prog.info? e=some i)(q:i.zero=some z)(o:i.size=size)(s:i.bytes=d)(x:d<=10000)
 {v:Value}{n:Nat}{xs:LV}(f:W.ownsRow B e size v n xs){g c:Nat}{row:LV}(H:W.heap[g]?=some (.cells row.toArray e (0,0)))(D:row.length=size)(r:∀u∈row,u.oneCell'=true)(p:n+1<=1000000){v':Value}{w':World}
 (a:(Builtin.append_ #[t,t] ty #[v,.slice (some ⟨g,0,none⟩) 1 c]).run Tryz.prog W=.ok v' w'):v'.ownBlock=v.ownBlock∨v'.ownBlock=some W.heap.size:=by
 have E:(n+1)*d<=1000000*10000:=qn p x
 have b:∀j u,row[j]?=some u->W.cell? (((aV g 0):Addr).add j)=some u:=fun j u I=>by
  rw[zA]
  simp only[World.cell?,H]
  simpa using I
 have l:row.length=1*i.size:=by rw[o,D,qr]
 rcases f.2 with ⟨rfl,K⟩|⟨k,cap,A,rfl,F,L,J,G,C,y⟩
 ·subst K
  rw[run_append_nil W t ty e i _ w hi q (aV g 0) 1 c row l b (by omega) (by omega) (by rw[s];omega)] at a
  cases a
  exact .inr rfl
 ·by_cases h:n+1<=cap
  ·rw[run_append_room W t ty e i w hi k n cap A L (aV g 0) 1 c row l b r h (by
    rw[o,C,D]
    calc n*size+size=(n+1)*size:=by rw[Nat.add_mul];omega
     _<=cap*size:=xI _ h)] at a
   cases a
   exact .inl rfl
  ·have m:∀j u,xs[j]?=some u->W.cell? (((aV k 0):Addr).add j)=some u:=World.ownsRow.cells f (g:=k) rfl
   rw[run_append_grow W t ty e i _ w hi q (aV k 0) n cap xs (by rw[o];exact f.1) m (aV g 0) 1 c row l b (by omega) (by omega) (growslice_fits (by omega) (by rw[s];omega))] at a
   cases a
   exact .inr rfl
theorem J7{ops:Array Oper}{rest:List Oper}{o:Oper}{a:Act}{Q:QT}{W:World}{t e:TypeId}(y:Tryz.prog.underlying t=some (.slice e))(w:o.guard=none)(s x:Operand)(G:o.op=.call {callee:=.builtin .append,args:=#[s,x],argTypes:=#[t,t]})
 (size:Nat)(b:((Tryz.prog.info? e).bind fun i=>i.zero.map fun z=>(i.size,z.cells.size,decide (i.bytes<=10000)))=some (size,size,true))(q:0 < size)
 (B:Nat)(v:Value)(n:Nat)(xs:LV)(hs:a.eval s=v)(f:W.ownsRow B e size v n xs)(g c:Nat)(row:LV)(I:a.eval x=.slice (some ⟨g,0,none⟩) 1 c)(D:W.heap[g]?=some (.cells row.toArray e (0,0)))(A:row.length=size)(l:∀u∈row,u.oneCell'=true)(k:n+1<=1000000)(m:B<=W.heap.size)
 (h:∀v' w',w'.ownsRow B e size v' (n+1) (xs++row)->W.grownBy w' v.ownBlock->(v'.ownBlock=v.ownBlock∨v'.ownBlock=some W.heap.size)->wpList Tryz.prog ops Q rest (a.put o.dst v') w'):wpList Tryz.prog ops Q (o::rest) a W:=by
 cases d:Tryz.prog.info? e with
 |none=>simp[d] at b
 |some i0=>
  cases r:i0.zero with
  |none=>simp[d,r] at b
  |some z=>
   simp only[d,r,xr,xz,z8,zp,z7] at b
   obtain ⟨h1,h2,h3⟩:=b
   have C:(n+1)*i0.bytes<=1000000*10000:=qn k h3
   have p:∀j u,row[j]?=some u->W.cell? (((aV g 0):Addr).add j)=some u:=fun j u H=>by
    rw[zA]
    simp only[World.cell?,D]
    simpa using H
   obtain ⟨v',w',hr,E,F,_⟩:=run_append_own (P:=Tryz.prog) W B t o.type e i0 z size i0.bytes y d r h1 rfl h2 q v n xs f (aV g 0) 1 c row (by rw[A,qr]) p l (by unfold maxLen;omega) (by omega) m
   have hb:=PD (ty:=o.type) y d r h1 rfl h3 f D A l k hr
   refine zw w fun K J=>?_
   unfold Oper.wp
   simp[execOp,G,resolve,invoke,builtin,hs,I,hr,Result.andThen]
   exact J _ _ (h v' w' E F hb)
def KR(k:Kn):LV:=[.string k.name,.int .i64 k.q.dim.l,.int .i64 k.q.dim.h,.int .i64 k.q.dim.a,.int .i64 k.q.v.n,.int .i64 k.q.v.d,.int .i64 k.q.e,.bool k.ok]
def KS(B:Nat)(W:World)(v:Value)(a:List Kn):Prop:=W.ownsRow B 98 8 v a.length (a.flatMap KR)
theorem Rx(B:Nat)(W:World):KS B W (.slice none 0 0) []:=⟨by simp,.inl ⟨rfl,rfl⟩⟩
theorem Mi{B:Nat}{W:World}{v:Value}{a:List Kn}(h:KS B W v a)(e:a.length<=140737488355328):∃h:As,v=h.v∧OY W h a:=by
 have m:=FT (a.map KR) 8 (fun cs q=>by obtain ⟨k, -,rfl⟩:=xO.1 q;rfl)
 have n:(a.map KR).flatten=a.flatMap KR:=by rw[List.flatMap_def]
 rw[n] at m
 rcases h.2 with ⟨rfl,r⟩|⟨g,cap,p,rfl,t,f,s,w,x,o⟩
 ·exact ⟨⟨none,0,0⟩,rfl,r.symm,e,fun i hi=>by omega⟩
 ·refine ⟨⟨some (aV g 0),a.length,cap⟩,rfl,rfl,e,fun i hi=>?_⟩
  have c:=(yd.1 f).1
  refine ⟨g,0,KR a[i],rfl,c,rfl,?_,rfl⟩
  intro j u l
  have d:j < 8:=(yx.1 l).1
  have b:=m.2 i (by simpa using hi) j d
  rw[zE,l,<-o] at b
  rw[zZ] at b
  split at b
  ·simp only[World.cell?,f,yw]
   simpa using b
  ·cases b
theorem Jy{B:Nat}{W W':World}{v:Value}{a:List Kn}(h:KS B W v a)(hb:Below W.heap.size W W'):KS B W' v a:=by
 refine ⟨h.1,h.2.imp id ?_⟩
 rintro ⟨g,cap,b,rfl,e,c,d⟩
 exact ⟨g,cap,b,rfl,e,(hb.block g (yd.1 c).1).trans c,d⟩
theorem Od{B:Nat}{b W W':World}{v:Value}{n:Nat}{xs:LV}(h:W.ownsRow B 98 8 v n xs)(d:Below B b W)(f:B<=W.heap.size)(a:W.grownBy W' v.ownBlock):Below B b W':=by
 refine d.trans ⟨a.os,a.tape,a.output,a.size,fun k j=>a.block k (by omega) (fun e=>?_)⟩
 rcases h.2 with ⟨rfl, -⟩|⟨g,cap,c,rfl,i, -⟩
 ·simp[Value.ownBlock] at e
 ·simp only[Value.ownBlock,z8] at e
  omega
def Il:List Ex->Int->Int
 |[],n=>n
 |e::r,n=>if n<=5000 then Il r (n+K4 e 5001) else n
def Gx(x:Ax):Bool:=decide (x.lets.length<=100)&&(decide (x.crops.length<=100)&&(decide (x.reaches.length<=100)&&(decide (x.farms.length<=100)&&(decide (x.rots.length<=70)&&(decide (x.rights.length<=300)&&decide (x.duties.length<=300))))))
def Fh(l:List BA):Bool:=l.all fun d=>decide (d.turns.length<=70)
def EK(x:Ax):Bool:=Gx x&&(Fh x.rots&&decide (Il (ES x) 0<=5000))
theorem QP:∀(l:List Ex) (n:Int),n<=Il l n
 |[],n=>by rw[Il];omega
 |e::r,n=>by
  rw[Il]
  split
  ·have h1:=(Ik e 5001).1
   have h2:=QP r (n+K4 e 5001)
   omega
  ·omega
theorem OG:∀(l:List Ex) (n:Int),0<=n->Il l n<=5000->∀e∈l,K4 e 5001 < 5001
 |[],n,_,_=>by simp
 |e::r,n,hn,h=>by
  rw[Il] at h
  split at h
  ·have h1:=(Ik e 5001).1
   have h2:=QP r (n+K4 e 5001)
   intro d hd
   rcases yN.1 hd with rfl|hd
   ·omega
   ·exact OG r _ (by omega) h d hd
  ·omega
theorem QQ(x:Ax):∀p∈Ay x,p.1∈ES x:=by
 intro p e
 unfold ES Jf Je GD Jd Jc IG PX
 unfold Ay Kd Ia F0 Ib Jm Ec Gc Gd at e
 have c:∀ {α:Type} {l:List α} {a:α} {i:Nat},(a,i)∈l.zipIdx->a∈l:=fun h=>by
  obtain ⟨_,h2,h3⟩:=List.mem_zipIdx h
  exact h3▸yJ _
 simp only[yy,yW,yN,yZ,zK,Prod.exists] at e ⊢
 rcases e with (rfl|rfl|rfl)|⟨d,i,b,rfl⟩|⟨d,i,b,rfl⟩|⟨d,i,b,h⟩|⟨d,i,b,rfl⟩|⟨d,i,b,h⟩|⟨d,i,b,h⟩|⟨d,i,b,rfl⟩
 ·simp
 ·simp
 ·simp
 ·exact .inl (.inl (.inl (.inl (.inl (.inl (.inl ⟨d,c b,rfl⟩))))))
 ·exact .inl (.inl (.inl (.inl (.inl (.inr ⟨d,c b,rfl⟩)))))
 ·refine .inl (.inl (.inl (.inl (.inr ⟨d,c b,?_⟩))))
  unfold El
  rcases h with rfl|rfl|rfl|rfl|rfl|rfl|rfl|rfl<;>simp
 ·exact .inl (.inl (.inl (.inr ⟨d,c b,rfl⟩)))
 ·refine .inl (.inl (.inr ⟨d,c b,?_⟩))
  unfold GC
  simp only[yy,yW,yN,yZ,zK]
  rcases h with (rfl|rfl|rfl)|⟨k,j,f,rfl⟩
  ·simp
  ·simp
  ·simp
  ·exact .inr ⟨k,c f,rfl⟩
 ·refine .inl (.inr ⟨d,c b,?_⟩)
  unfold Em
  rcases h with rfl|rfl|rfl|rfl|rfl<;>simp
 ·exact .inr ⟨d,c b,rfl⟩
theorem PZ{x:Ax}(h:Gx x=true)(a:Fh x.rots=true):Fw x:=by
 unfold Gx at h
 simp only[yF,z7] at h
 unfold Fh at a
 rw[yU] at a
 obtain ⟨h1,h2,h3,f,c,b,e⟩:=h
 exact ⟨h1,h2,h3,f,c,b,e,fun d hd=>by simpa using a d hd⟩
theorem OH{x:Ax}(h:EK x=true):MB x∧∀e∈Ay x,AB e.1<=1000000:=by
 unfold EK at h
 simp only[yF,z7] at h
 obtain ⟨h1,h2,h3⟩:=h
 have a:=PZ h1 h2
 have c:=OG (ES x) 0 (by omega) h3
 refine ⟨⟨by have:=a.lets;omega,by have:=a.crops;omega,by have:=a.reaches;omega,by have:=a.farms;omega,by have:=a.rots;omega,by have:=a.rights;omega,by have:=a.duties;omega,fun d hd=>by have:=a.turns d hd;omega,fun e b=>?_⟩,fun e b=>?_⟩
 ·exact OC e.1 5001 (by omega) (c _ (QQ x e b))
 ·have h1:=c _ (QQ x e b)
  have h2:=OB e.1 5001 h1
  omega
theorem Uv{N:NP}{w:World}{L:Bq}{cs:LV}{x:Ax}(h:BP N w L cs x)(hN:∀b,N b->b < w.heap.size):
  Calls Tryz.prog 25 #[.agg cs.toArray] w fun e w'=>e=.returned (.bool (EK x))∧Below w.heap.size w w':=by
 have f:Hid (VI L x):=yb ⟨h.lets.1,h.crops.1,h.reaches.1,h.farms.1,h.rots.1,h.rights.1,h.duties.1⟩
 have z:=h.ok
 have D:=h.at
 obtain ⟨A,M⟩:∃A,A=w.alloc (.cells cs.toArray 35):=⟨_,rfl⟩
 have af:Below w.heap.size w A:=by rw[M];exact (yg _ _).alloc (yf _) _
 have bh:A.heap.size=w.heap.size+1:=by rw[M];simp
 have ag:A.heap[w.heap.size]?=some (.cells cs.toArray 35 (0,0)):=by rw[M];exact World.alloc_heap_new _ _
 have h0:BP N A L cs x:=h.same (fun _ h=>h) (fun b hb=>af.block b (hN b hb))
 have a8:=yb h0
 have y:=yb af;have K:=yb bh;have ai:=yb hN;have cw:=yb z
 have aj:Hid (A.rangeAt w.heap.size 0 cs):=yb (by
  have:=zl ag 0 cs.length
  simpa using this)
 have d:∀q v,cs[q]?=some v->A.cell? (aV w.heap.size q)=some v:=fun q v hq=>by
  simp only[World.cell?,ag];simpa using hq
 have bg:Hid ((Tryz.prog.info? 35).map (·.size)=some cs.length):=yb (by
  obtain ⟨c0,c1,c2,rfl,g0,g1,g2⟩:=h.cells
  obtain ⟨a0,p0,rfl,e0⟩:=g0.cells
  obtain ⟨a1,p1,rfl,e1⟩:=g1.cells
  obtain ⟨a2,p2,rfl,e2⟩:=g2.cells
  kernel_rfl)
 have c4:A.cell? (aV w.heap.size 19)=some (.slice L.lets.a L.lets.n L.lets.c):=d _ _ D.lets
 have c5:A.cell? (aV w.heap.size 20)=some (.slice L.crops.a L.crops.n L.crops.c):=d _ _ D.crops
 have c6:A.cell? (aV w.heap.size 21)=some (.slice L.reaches.a L.reaches.n L.reaches.c):=d _ _ D.reaches
 have c7:A.cell? (aV w.heap.size 22)=some (.slice L.farms.a L.farms.n L.farms.c):=d _ _ D.farms
 have c8:A.cell? (aV w.heap.size 23)=some (.slice L.rots.a L.rots.n L.rots.c):=d _ _ D.rots
 have c9:A.cell? (aV w.heap.size 24)=some (.slice L.rights.a L.rights.n L.rights.c):=d _ _ D.rights
 have ci:A.cell? (aV w.heap.size 25)=some (.slice L.duties.a L.duties.n L.duties.c):=d _ _ D.duties
 have cg:=yb c8
 have l4:L.lets.n<=140737488355328:=z.lets.1
 have l5:L.crops.n<=140737488355328:=z.crops.1
 have l6:L.reaches.n<=140737488355328:=z.reaches.1
 have l7:L.farms.n<=140737488355328:=z.farms.1
 have l8:L.rots.n<=140737488355328:=z.rots.1
 have l9:L.rights.n<=140737488355328:=z.rights.1
 have cv:L.duties.n<=140737488355328:=z.duties.1
 have ax:=yb M
 clear af bh ag h0 hN M D z d
 obtain ⟨ks,aa⟩:∃ks,ks=cs:=⟨_,rfl⟩
 rw[<-aa] at a8 aj bg
 have HK:=yb aa
 obtain ⟨q0,q1,q2,rfl,g0,g1,g2⟩:=h.cells
 obtain ⟨a0,p0,rfl,e0⟩:=g0.cells
 obtain ⟨a1,p1,rfl,e1⟩:=g1.cells
 obtain ⟨a2,p2,rfl,e2⟩:=g2.cells
 clear h g0 g1 g2 e0 e1 e2 aa
 unfold As.v at*
 simp only[yK,yP] at ax HK ⊢
 go_enter Tryz.func25,Tryz.ntmps25
 go_upto_region 1 with fail
 rw[<-ax.o]
 by_cases bd:L.lets.n<=100
 ·have au:decide ((L.lets.n:Int)>100)=false:=by simp;omega
  by_cases bm:L.crops.n<=100
  ·have bp:decide ((L.crops.n:Int)>100)=false:=by simp;omega
   by_cases bn:L.reaches.n<=100
   ·have az:decide ((L.reaches.n:Int)>100)=false:=by simp;omega
    by_cases bo:L.farms.n<=100
    ·have ar:decide ((L.farms.n:Int)>100)=false:=by simp;omega
     by_cases b8:L.rots.n<=70
     ·have b9:decide ((L.rots.n:Int)>70)=false:=by simp;omega
      by_cases bj:L.rights.n<=300
      ·have bq:decide ((L.rights.n:Int)>300)=false:=by simp;omega
       by_cases av:L.duties.n<=300
       ·have ak:decide ((L.duties.n:Int)>300)=false:=by simp;omega
        have ad:Hid (Gx x=true):=yb (by
         have h1:=f.o.lets;have h2:=f.o.crops;have h3:=f.o.reaches;have h4:=f.o.farms;have h5:=f.o.rots;have h6:=f.o.rights;have h7:=f.o.duties
         unfold Gx
         simp only[yF,z7]
         omega)
        clear bd bm bn bo b8 bj av
        go_upto_region 3 with fail
        clear au bp az ar b9 bq ak c4 c5 c6 c7 c8 c9 ci
        go_wp2
        have b5:Hid (Fh (x.rots.take 0)=true):=yb (by simp[Fh])
        have Y:=yb (yg A.heap.size A)
        go_loopw [3] (fun iv wr=>∃i:Nat,i<=L.rots.n∧iv=iV i∧Hid (Fh (x.rots.take i)=true)∧Hid (Below A.heap.size A wr)) (fun iv _=>L.rots.n - (intOf iv).toNat)
        case atStart=>exact ⟨0,yH _,rfl,b5,Y⟩
        case round=>
         clear b5 Y
         obtain ⟨i,hi,rfl,HT,B⟩:=hrel
         have hf:wr.cell? (aV w.heap.size 23)=some (.slice L.rots.a L.rots.n L.rots.c):=(B.o.cell (p:=(aV w.heap.size 23)) (by rw[K.o];exact xN _)).trans cg.o
         by_cases J:i < L.rots.n
         ·have F:i < x.rots.length:=by rw[<-f.o.rots];exact J
          have Q:(i:Int) < (L.rots.n:Int):=by omega
          obtain ⟨b,o,R,he,ab,bk,I,hv⟩:=a8.o.rots.2.2 i F
          have P:=A0 I (B.o.block b (by have:=ai.o b ab;have:=K.o;omega))
          have hz:R[22]?=some (A2 L i).v∧(A2 L i).n=x.rots[i].turns.length∧x.rots[i].turns.length<=140737488355328:=by
           obtain ⟨_,_,d0,d1,d2,rfl,k0,k1,k2,ht⟩:=hv
           have l0:=k0.len;have l1:=k1.len;have l2:=k2.len
           refine ⟨?_,ht.1,ht.2.1⟩
           have e:(Value.string x.rots[i].name::(AU x.rots[i].on++(iV x.rots[i].rank::(d0++(d1++(d2++[(A2 L i).v]))))))=(Value.string x.rots[i].name::(AU x.rots[i].on++(iV x.rots[i].rank::(d0++(d1++d2)))))++[(A2 L i).v]:=by simp
           rw[e,yV (by simp[At,l0,l1,l2])]
           simp[At,l0,l1,l2]
          have ct:wr.cell? (aV b (o+i*23+22))=some (.slice (A2 L i).a (A2 L i).n (A2 L i).c):=P 22 _ hz.1
          have lt:(A2 L i).n<=140737488355328:=by rw[hz.2.1];exact hz.2.2
          rw[he] at hf
          by_cases O:(A2 L i).n<=70
          ·have cj:decide (((A2 L i).n:Int)>70)=false:=by simp;omega
           have bw:Hid (Fh (x.rots.take (i+1))=true):=yb (by
            have h:=HT.o
            unfold Fh at h ⊢
            rw[yG F,qg,h]
            have:x.rots[i].turns.length<=70:=by rw[<-hz.2.1];exact O
            simp[this])
           clear O I P hz he hv bk ab
           go_wp2
           exact ⟨⟨i+1,by omega,by push_cast;rfl,bw,B⟩,by simp[intOf];omega⟩
          ·have cj:decide (((A2 L i).n:Int)>70)=true:=by simp;omega
           have C:Hid (EK x=false):=yb (by
            have e:Fh x.rots=false:=by
             unfold Fh
             rw[xj]
             exact ⟨x.rots[i],yJ F,by rw[<-hz.2.1];simpa using O⟩
            unfold EK
            rw[e];simp)
           clear O I P hz he hv bk ab
           go_wp2
           go_ret
           exact ⟨AJ C.o.symm,y.o.trans (B.o.mono y.o.size)⟩
         ·obtain rfl:i=L.rots.n:=by omega
          have Q:decide ((L.rots.n:Int) < (L.rots.n:Int))=false:=by simp
          have ae:Hid (Fh x.rots=true):=yb (by
           have h:=HT.o
           rw[f.o.rots,yQ] at h
           exact h)
          have bz:=yb (A0 aj.o (B.o.block w.heap.size (by rw[K.o];exact xN _)))
          have bx:Hid (BP N wr L ks x):=yb (a8.o.same (fun _ h=>h) (fun b hb=>B.o.block b (by have:=ai.o b hb;have:=K.o;omega)))
          have b7:Hid (∀b,N b->b < wr.heap.size):=yb (fun b hb=>by have:=ai.o b hb;have:=K.o;have:=B.o.size;omega)
          go_wp2_with (first|(refine yj rfl 35 _ rfl w.heap.size 0 rfl ks _ bz.o qP rfl bg.o ?_)|(go_at_call 39;refine (Uu bx.o b7.o (PZ ad.o ae.o)).mono ?_;rintro e w2 ⟨v2,rfl,am⟩;have T:=yb am;clear am))
          obtain ⟨rows,an,H⟩:=T.o.own
          have b0:rows.length=(ES x).length:=H.length
          have bt:=(PZ ad.o ae.o).top.tE
          have ay:3<=(ES x).length:=by
           unfold ES Jf Je GD Jd Jc IG
           simp only[yn,yv,yE]
           omega
          rcases an with ⟨cm,⟨_,h3⟩|⟨g,cap,cq,rfl,bu,ah,cd,cf,cn,ba⟩⟩
          ·omega
          have d:∀j u,rows.flatten[j]?=some u->w2.cell? (aV g j)=some u:=fun j u hj=>by
           rw[<-ba] at hj
           have J:=(yx.1 hj).1
           rw[zb] at J
           rw[zZ,yD (by omega)] at hj
           simp only[World.cell?,ah]
           simpa using hj
          have aq:Hid (∀i (hi:i < (ES x).length),∃c,w2.rangeAt g (i*6) c∧AH N wr (ES x)[i] c):=yb (fun i hi=>by
           have bi:i < rows.length:=by omega
           refine ⟨rows[i],fun j u hj=>d _ _ ?_,H.get i bi hi⟩
           have ao:∀(l:List LV) (k:Nat) (O:k < l.length),(∀r∈l,r.length=6)->∀j u,(l[k])[j]?=some u->l.flatten[k*6+j]?=some u:=by
            intro l
            induction l with
            |nil=>intro k O;simp at O
            |cons r t ih=>
             intro k O h6 j u hu
             have ck:=h6 r (by simp)
             cases k with
             |zero=>
              have bb:r[j]?=some u:=hu
              have cl:=(yx.1 bb).1
              simp only[zq,Nat.zero_mul,yw]
              rw[zo cl]
              exact bb
             |succ k=>
              simp only[zq]
              rw[yV (by omega),ck,show (k+1)*6+j - 6=k*6+j by omega]
              exact ih k (by simpa using O) (fun r hr=>h6 r (by simp[hr])) j u (by simpa using hu)
           refine ao rows i bi (fun r hr=>?_) j u hj
           obtain ⟨k,O,rfl⟩:=zg.1 hr
           exact (H.get k O (by omega)).len)
          have a7:Hid (rows.length=(ES x).length):=yb b0
          have al:rows.length<=140737488355328:=by omega
          have V:Hid (Below w.heap.size w w2):=yb ((y.o.trans (B.o.mono y.o.size)).trans (T.o.below.mono (yt y.o.size B.o.size)))
          have ce:Hid (g < w2.heap.size):=yb (yd.1 ah).1
          have ap:Hid (∀W,Below w2.heap.size w2 W->∀b,N b->W.heap[b]?=wr.heap[b]?∧b < W.heap.size):=yb (fun W hW b hb=>by
           have h1:=b7.o b hb
           have h2:=T.o.below.size
           have h3:=hW.size
           exact ⟨(hW.block b (by omega)).trans (T.o.below.block b h1),by omega⟩)
          have C:Hid (EK x=decide (Il (ES x) 0<=5000)):=yb (by unfold EK;rw[ad.o,ae.o];rfl)
          generalize hS:Il (ES x) 0=S at C
          have b4:Hid (Il ((ES x).drop 0) 0=S):=yb hS
          have Z:=yb (yg w2.heap.size w2)
          generalize cc:rows.length=m at a7 al
          clear hS cm ah cd cf cn ba d H b0 ay bt hf Q bu cc HT
          go_wp2
          go_loopw [4,6] (fun nv iv wr=>∃(i:Nat) (n:Int),nv=iV n∧iv=iV i∧i<=m∧0<=n∧n<=10001∧Hid (Il ((ES x).drop i) n=S)∧Hid (Below w2.heap.size w2 wr)) (fun _ iv _=>m - (intOf iv).toNat)
          case atStart=>exact ⟨0,0,rfl,rfl,yH _,by omega,by omega,b4,Z⟩
          case round=>
           clear b4 Z
           obtain ⟨i,n,rfl,rfl,hi,co,cp,HS,G⟩:=hrel
           by_cases J:i < m
           ·have F:i < (ES x).length:=by rw[<-a7.o];exact J
            have Q:(i:Int) < (m:Int):=by omega
            by_cases be:n<=5000
            ·obtain ⟨c,I,U⟩:=aq.o i F
             have bv:=yb (A0 I (G.o.block g ce.o))
             have HC:=yb (TC (ES x)[i] (w:=wr) (most:=5001) (AH.same (fun b h=>h) (fun b hb=>(ap.o wr G.o b hb).1) U) (fun b hb=>(ap.o wr G.o b hb).2) (by omega) (by omega))
             have a6:Hid (Il ((ES x).drop (i+1)) (n+K4 (ES x)[i] 5001)=S):=yb (by
              have h:=HS.o
              rw[Hq F,Il,yD be] at h
              exact h)
             have X:=Ik (ES x)[i] 5001
             generalize (ES x)[i]=E at U HC a6 X
             generalize K4 E 5001=s at HC a6 X
             have cr:1<=s:=X.1
             have cu:s<=5001:=by omega
             obtain ⟨a',p',rfl,_⟩:=U.cells
             clear I U X
             go_wp2_with (first|(refine yj rfl 26 _ rfl g (i*6) (by simp[Act.eval]) [iV E.op,iV E.n,iV E.u,.string E.rn,iV E.ri,.slice a' E.args.length p'] _ bv.o qG rfl (by kernel_rfl) ?_)|(go_at_call 40;refine HC.o.mono ?_;rintro e w3 ⟨rfl,aw⟩;have ch:=yb (G.o.trans (aw.mono G.o.size));clear aw))
             exact ⟨⟨i+1,n+s,rfl,by go_num,by omega,by omega,by omega,a6,ch⟩,by simp[intOf];omega⟩
            ·have ac:Hid (n=S):=yb (by
              have h:=HS.o
              rw[Hq F,Il,yq be] at h
              exact h)
             go_wp2
             go_ret
             exact ⟨AJ (by rw[C.o,<-ac.o];exact (xk (by omega)).symm),V.o.trans (G.o.mono V.o.size)⟩
           ·obtain rfl:i=m:=by omega
            have ac:Hid (n=S):=yb (by
             have h:=HS.o
             rw[a7.o,zF,Il] at h
             exact h)
            have Q:decide ((i:Int) < (i:Int))=false:=by simp
            go_wp2
            go_ret
            exact ⟨AJ (by rw[C.o,<-ac.o]),V.o.trans (G.o.mono V.o.size)⟩
       ·have ak:decide ((L.duties.n:Int)>300)=true:=by simp;omega
        have C:Hid (EK x=false):=yb (by
         have h:=f.o.duties
         have e:decide (x.duties.length<=300)=false:=by simp;omega
         unfold EK Gx
         rw[e];simp)
        clear av
        go_wp2
        go_ret
        exact ⟨AJ C.o.symm,y.o⟩
      ·have bq:decide ((L.rights.n:Int)>300)=true:=by simp;omega
       have C:Hid (EK x=false):=yb (by
        have h:=f.o.rights
        have e:decide (x.rights.length<=300)=false:=by simp;omega
        unfold EK Gx
        rw[e];simp)
       clear bj
       go_wp2
       go_ret
       exact ⟨AJ C.o.symm,y.o⟩
     ·have b9:decide ((L.rots.n:Int)>70)=true:=by simp;omega
      have C:Hid (EK x=false):=yb (by
       have h:=f.o.rots
       have e:decide (x.rots.length<=70)=false:=by simp;omega
       unfold EK Gx
       rw[e];simp)
      clear b8
      go_wp2
      go_ret
      exact ⟨AJ C.o.symm,y.o⟩
    ·have ar:decide ((L.farms.n:Int)>100)=true:=by simp;omega
     have C:Hid (EK x=false):=yb (by
      have h:=f.o.farms
      have e:decide (x.farms.length<=100)=false:=by simp;omega
      unfold EK Gx
      rw[e];simp)
     clear bo
     go_wp2
     go_ret
     exact ⟨AJ C.o.symm,y.o⟩
   ·have az:decide ((L.reaches.n:Int)>100)=true:=by simp;omega
    have C:Hid (EK x=false):=yb (by
     have h:=f.o.reaches
     have e:decide (x.reaches.length<=100)=false:=by simp;omega
     unfold EK Gx
     rw[e];simp)
    clear bn
    go_wp2
    go_ret
    exact ⟨AJ C.o.symm,y.o⟩
  ·have bp:decide ((L.crops.n:Int)>100)=true:=by simp;omega
   have C:Hid (EK x=false):=yb (by
    have h:=f.o.crops
    have e:decide (x.crops.length<=100)=false:=by simp;omega
    unfold EK Gx
    rw[e];simp)
   clear bm
   go_wp2
   go_ret
   exact ⟨AJ C.o.symm,y.o⟩
 ·have au:decide ((L.lets.n:Int)>100)=true:=by simp;omega
  have C:Hid (EK x=false):=yb (by
   have h:=f.o.lets
   have e:decide (x.lets.length<=100)=false:=by simp;omega
   unfold EK Gx
   rw[e];simp)
  clear bd
  go_wp2
  go_ret
  exact ⟨AJ C.o.symm,y.o⟩
theorem II{ops:Array Oper}{rest:List Oper}{op:Oper}{a:Act}{w:World}{Q:QT}(c:op.guard=none)(ty:TypeId)(x y:Operand)(d:op.op=.store ty x y)
 (b o:Nat)(f:a.eval x=.pointer (some ⟨b,o,none⟩))(v:Value)(g:a.eval y=v)(e:v.cells=#[v]){p q:LV}{m:Value}{t:TypeId}(hb:w.heap[b]?=some (.cells (p++(m::q)).toArray t (0,0)))(i:p.length=o)
 (hi:(Tryz.prog.info? ty).map (·.size)=some 1)(h1:v.oneCell'=true)
 (h:∀W',Dj w W' b (p++(v::q)) t->wpList Tryz.prog ops Q rest (a.put op.dst undef) W'):wpList Tryz.prog ops Q (op::rest) a w:=by
 refine GB c ty x y d b o v f g e (J5 hb (by simp;omega)) hi h1 ?_
 exact h _ (AE b t [v] o w p [m] q hb i rfl)
theorem Ao{ops:Array Oper}{rest:List Oper}{op:Oper}{a:Act}{w:World}{Q:QT}(d:op.guard=none)(ty:TypeId)(x y:Operand)(e:op.op=.store ty x y)
 (b:Nat)(f:a.eval x=.pointer (some ⟨b,0,none⟩))(c:LV)(g:a.eval y=.agg c.toArray){m:Array Value}{t:TypeId}(hb:w.heap[b]?=some (.cells m t (0,0)))(j:m.size=c.length)
 (hi:(Tryz.prog.info? ty).map (·.size)=some c.length)(h1:∀v∈c,v.oneCell'=true)
 (h:∀W',Dj w W' b c t->wpList Tryz.prog ops Q rest (a.put op.dst undef) W'):wpList Tryz.prog ops Q (op::rest) a w:=by
 refine JH d ty x y e b 0 f c g (p:=[]) (m:=m.toList) (q:=[]) (by simpa using hb) rfl (by simpa using j) hi h1 fun W' i=>h W' ?_
 simpa using i
theorem EE{c:LV}(h:c.length=6):(Tryz.prog.info? 26).map (·.size)=some c.length:=by rw[h];kernel_rfl
def FL(F:NP)(l:List Nat)(k:Nat):Prop:=F k∨k∈l
section
variable{F:NP}{l l':List Nat}{W W':World}{e:Ex}{c:LV}
theorem VJ(a:∀k∈l',k∈l∨W.heap.size<=k):∀b,FL F l' b->FL F l b∨W.heap.size<=b:=fun b hb=>hb.elim (fun h=>.inl (.inl h)) fun h=>(a b h).elim (fun h=>.inl (.inr h)) .inr
end
theorem OI{B:Nat}{W:World}{t e ty:TypeId}{h:TypeInfo}{z:Value}{size:Nat}(r:Tryz.prog.underlying t=some (.slice e))(hi:Tryz.prog.info? e=some h)(p:h.zero=some z)(m:h.size=size)
 {v:Value}{n:Nat}{xs:LV}(d:W.ownsRow B e size v n xs){g c:Nat}{row:LV}(F:W.heap[g]?=some (.cells row.toArray e (0,0)))(y:row.length=size)(q:∀u∈row,u.oneCell'=true)(o:(n+1)*h.bytes<=140737488355328)(A:n+1<=140737488355328){v':Value}{w':World}
 (a:(Builtin.append_ #[t,t] ty #[v,.slice (some ⟨g,0,none⟩) 1 c]).run Tryz.prog W=.ok v' w'):v'.ownBlock=v.ownBlock∨v'.ownBlock=some W.heap.size:=by
 have b:∀j u,row[j]?=some u->W.cell? (((aV g 0):Addr).add j)=some u:=fun j u G=>by
  rw[zA]
  simp only[World.cell?,F]
  simpa using G
 have i:row.length=1*h.size:=by rw[m,y,qr]
 have E:1*h.bytes<=(n+1)*h.bytes:=xI _ (by omega)
 rcases d.2 with ⟨rfl,I⟩|⟨k,cap,w,rfl,C,J,H,D,x,s⟩
 ·subst I
  rw[run_append_nil W t ty e h _ r hi p (aV g 0) 1 c row i b (by omega) (by omega) (by omega)] at a
  cases a
  exact .inr rfl
 ·by_cases f:n+1<=cap
  ·rw[run_append_room W t ty e h r hi k n cap w J (aV g 0) 1 c row i b q f (by
    rw[m,x,y]
    calc n*size+size=(n+1)*size:=by rw[Nat.add_mul];omega
     _<=cap*size:=xI _ f)] at a
   cases a
   exact .inl rfl
  ·have l:∀j u,xs[j]?=some u->W.cell? (((aV k 0):Addr).add j)=some u:=World.ownsRow.cells d (g:=k) rfl
   rw[run_append_grow W t ty e h _ r hi p (aV k 0) n cap xs (by rw[m];exact d.1) l (aV g 0) 1 c row i b (by omega) (by omega) (growslice_fits (by omega) o)] at a
   cases a
   exact .inr rfl
theorem OJ{o:Oper}{a:Act}{K:Act->World->Prop}{Q:QT}{W:World}{t e:TypeId}(y:Tryz.prog.underlying t=some (.slice e))(s x:Operand)(F:o.op=.call {callee:=.builtin .append,args:=#[s,x],argTypes:=#[t,t]})
 (size:Nat)(b:((Tryz.prog.info? e).bind fun i=>i.zero.map fun z=>(i.size,z.cells.size,decide (i.bytes<=72)))=some (size,size,true))(r:0 < size)
 (B:Nat)(v:Value)(n:Nat)(xs:LV)(hs:a.eval s=v)(k:W.ownsRow B e size v n xs)(g c:Nat)(row:LV)(H:a.eval x=.slice (some ⟨g,0,none⟩) 1 c)(C:W.heap[g]?=some (.cells row.toArray e (0,0)))(A:row.length=size)(l:∀u∈row,u.oneCell'=true)(q:(n+1)*72<=140737488355328)(m:B<=W.heap.size)
 (h:∀v' w',w'.ownsRow B e size v' (n+1) (xs++row)->W.grownBy w' v.ownBlock->(v'.ownBlock=v.ownBlock∨v'.ownBlock=some W.heap.size)->K (a.put o.dst v') w'):Oper.wp Tryz.prog o a W K Q:=by
 cases d:Tryz.prog.info? e with
 |none=>simp[d] at b
 |some i0=>
  cases w:i0.zero with
  |none=>simp[d,w] at b
  |some z=>
   simp only[d,w,xr,xz,z8,zp,z7] at b
   obtain ⟨h1,h2,h3⟩:=b
   have f:(n+1)*i0.bytes<=140737488355328:=yt (Nat.mul_le_mul_left _ h3) q
   have p:∀j u,row[j]?=some u->W.cell? (((aV g 0):Addr).add j)=some u:=fun j u G=>by
    rw[zA]
    simp only[World.cell?,C]
    simpa using G
   obtain ⟨v',w',hr,D,E,_⟩:=run_append_own (P:=Tryz.prog) W B t o.type e i0 z size i0.bytes y d w h1 rfl h2 r v n xs k (aV g 0) 1 c row (by rw[A,qr]) p l (by unfold maxLen;omega) f m
   have hb:=OI (ty:=o.type) y d w h1 k C A l f (by omega) hr
   unfold Oper.wp
   simp[execOp,F,resolve,invoke,builtin,hs,H,hr,Result.andThen]
   exact h v' w' D E hb
theorem S5{o:Oper}{a:Act}{w:World}{K:Act->World->Prop}{Q:QT}(t e:TypeId)(x:Operand)(g:o.op=.buildSlice t 1 #[(0,x)])(cs:LV)(l:a.eval x=.agg cs.toArray)
 (n:Nat)(k:Tryz.prog.underlying t=some (.slice e))(hi:((Tryz.prog.info? e).bind fun i=>i.zero.map fun z=>(i.size,z.cells.size))=some (n,n))(m:cs.length=n)(c:0 < n)(d:n<=1000)
 (h:K (a.put o.dst (.slice (some ⟨w.heap.size,0,none⟩) 1 1)) (w.alloc (.cells cs.toArray e))):Oper.wp Tryz.prog o a w K Q:=by
 cases b:Tryz.prog.info? e with
 |none=>simp[b] at hi
 |some ie=>
  cases f:ie.zero with
  |none=>simp[b,f] at hi
  |some z=>
   simp only[b,f,xr,xz,z8,zp] at hi
   obtain ⟨h1,h2⟩:=hi
   refine wp_buildSlice t e 1 _ g _ ie z k b f (by rw[h1];omega) (by rw[h1];omega) ?_ h
   have hs:((Array.range (1*ie.size)).map (z.cells[· % z.cells.size]!)).size=1*n:=by simp[h1]
   rw[h1] at hs ⊢
   generalize (Array.range (1*n)).map (z.cells[· % z.cells.size]!)=j at hs ⊢
   have:=Great.fill_whole (s:=n) c [.agg cs.toArray] j (by simp[Value.cells,m]) (by rw[hs];rfl)
   simp only[xM,List.zipIdx_nil,zu,zP,zc,zs,yS,Value.cells] at this
   simpa[l] using this
theorem QR{i m:Nat}(h:i < m)(a:m<=140737488355328):Value.int .i64 (wrap64 ((i:Int)+1))=.int .i64 ((i+1:Nat):Int):=by
 have e:((i:Int)+1)=((i+1:Nat):Int):=by push_cast;rfl
 rw[e,AL (by rw[Int.natAbs_natCast];exact yt h (yt a (by decide)))]
theorem QS{i m:Nat}(h:i < m):m - (intOf (.int .i64 ((i+1:Nat):Int))).toNat < m - (intOf (.int .i64 (i:Int))).toNat:=by
 simp only[intOf,Int.toNat_natCast];omega
def ob(v:Value):List Nat:=v.ownBlock.toList
def S6{δ:Type}(V:NP->World->LV->δ->Prop):Prop:=∀(N N':NP) (w w':World) (cs:LV) (d:δ),(∀b,N b->N' b)->(∀b,N b->w'.heap[b]?=w.heap[b]?)->V N w cs d->V N' w' cs d
section
variable{δ:Type}{V:NP->World->LV->δ->Prop}{F F':NP}{l l':List Nat}{W W':World}{cs:LV}{d:δ}{v v':Value}{ds:List δ}{ty sz B C:Nat}
theorem S6.flux(hs:S6 V)(h:V (GF F W) W cs d)(a:Dg F W W')(c:∀b,F' b->F b∨W.heap.size<=b):V (GF F' W') W' cs d:=hs _ _ _ _ _ _ (fun _ hb=>hb.up a.1 c) (fun b hb=>a.2 b hb.2 hb.1) h
structure Jg (V:(Nat->Prop)->World->List Value->δ->Prop) (ty sz B:Nat) (F:Nat->Prop) (l:List Nat) (W:World) (v:Value) (ds:List δ):Prop where
 own:∃rows:List (List Value),W.ownsRow B ty sz v rows.length rows.flatten∧(∀r∈rows,r.length=sz)∧Az (fun cs d=>V (GF (FL F (l++ob v)) W) W cs d) rows ds
theorem TF:Jg V ty sz B F l W (.slice none 0 0) []:=⟨[],⟨by simp,.inl ⟨rfl,rfl⟩⟩,by simp,trivial⟩
theorem Q0{n:Nat}{xs:LV}(h:W.ownsRow B ty sz v n xs):∀k∈ob v,B<=k∧k < W.heap.size:=by
 intro k a
 rcases h.2 with ⟨rfl,_⟩|⟨g,cap,b,rfl,d,c,_⟩
 ·simp[ob,Value.ownBlock] at a
 ·simp only[ob,Value.ownBlock,Option.toList_some,zk] at a
  subst a
  exact ⟨d,(yd.1 c).1⟩
theorem Jg.lt(h:Jg V ty sz B F l W v ds):∀k∈ob v,B<=k∧k < W.heap.size:=by
 obtain ⟨rows,h1,_⟩:=h.own
 exact Q0 h1
theorem Mt{n:Nat}{xs:LV}(h:W.ownsRow B ty sz v n xs):∃a m c,v=.slice a m c:=by
 rcases h.2 with ⟨rfl,_⟩|⟨g,cap,b,rfl,_⟩
 ·exact ⟨_,_,_,rfl⟩
 ·exact ⟨_,_,_,rfl⟩
theorem Jg.slice(h:Jg V ty sz B F l W v ds):∃a m c,v=.slice a m c:=by
 obtain ⟨rows,h1,_⟩:=h.own
 exact Mt h1
theorem I7{n:Nat}{xs:LV}(h:W.ownsRow B ty sz v n xs)(hb:∀k∈ob v,W'.heap[k]?=W.heap[k]?):W'.ownsRow B ty sz v n xs:=by
 obtain ⟨h1,h2⟩:=h
 refine ⟨h1,h2.imp id ?_⟩
 rintro ⟨g,cap,a,rfl,d,c,b⟩
 exact ⟨g,cap,a,rfl,d,(hb g (by simp[ob,Value.ownBlock])).trans c,b⟩
theorem Q1(a:∀k∈l',k∈l∨W.heap.size<=k):∀b,FL F l' b->FL F l b∨W.heap.size<=b:=VJ a
theorem Jg.up(hs:S6 V)(h:Jg V ty sz B F l W v ds)(d:Dg (FL F (l++ob v)) W W')(hb:∀k∈ob v,W'.heap[k]?=W.heap[k]?)(b:∀k∈l',k∈l∨W.heap.size<=k):Jg V ty sz B F l' W' v ds:=by
 obtain ⟨rows,h1,h2,h3⟩:=h.own
 refine ⟨rows,I7 h1 hb,h2,Az.mono (fun _ _ c=>hs.flux c d (Q1 fun k a=>?_)) h3⟩
 rcases yy.1 a with a|a
 ·exact (b k a).imp (fun h=>yy.2 (.inl h)) id
 ·exact .inl (yy.2 (.inr a))
theorem Dg.more(a:Dg (FL F l) W W')(b:List Nat):Dg (FL F (l++b)) W W':=a.wide fun _ _ h=>h.elim .inl fun h=>.inr (yy.2 (.inl h))
structure VK (V:(Nat->Prop)->World->List Value->δ->Prop) (ty sz B:Nat) (F:Nat->Prop) (l:List Nat) (W W':World) (v v':Value) (ds:List δ):Prop where
 grow:Jg V ty sz B F l W' v' ds
 flux:Dg (FL F (l++ob v)) W W'
 below:Below B W W'
 obs:∀k∈l++ob v',k∈l++ob v∨W.heap.size<=k
theorem OK{rows:List LV}{row:LV}{o:Obj}(hs:S6 V)(w:Az (fun cs d=>V (GF (FL F (l++ob v)) W) W cs d) rows ds)(hr:∀r∈rows,r.length=sz)(g:W.ownsRow B ty sz v rows.length rows.flatten)
 (u:V (GF (FL F (l++ob v)) W) W row d)(j:row.length=sz)(i:W'.ownsRow B ty sz v' (rows.length+1) (rows.flatten++row))(a:(W.alloc o).grownBy W' v.ownBlock)(n:v'.ownBlock=v.ownBlock∨v'.ownBlock=some (W.alloc o).heap.size)(x:B<=W.heap.size):VK V ty sz B F l W W' v v' (ds++[d]):=by
 have q:Below W.heap.size W (W.alloc o):=(yg _ _).alloc (yf _) _
 have s:(W.alloc o).heap.size=W.heap.size+1:=by simp
 have p:∀k∈ob v',k∈ob v∨W.heap.size<=k:=fun k b=>by
  rcases n with e|e
  ·left;unfold ob at b ⊢;rwa [e] at b
  ·right;unfold ob at b;rw[e,s] at b;simp at b;omega
 have f:Dg (FL F (l++ob v)) W W':=by
  refine (Dg.below q).trans ⟨a.size,fun k b t=>a.block k b fun e=>t (.inr (yy.2 (.inr ?_)))⟩
  unfold ob;rw[<-e];simp
 have c:∀k∈l++ob v',k∈l++ob v∨W.heap.size<=k:=fun k b=>by
  rcases yy.1 b with b|b
  ·exact .inl (yy.2 (.inl b))
  ·exact (p k b).imp (fun h=>yy.2 (.inr h)) id
 refine ⟨⟨rows++[row],by simpa using i,?_,?_⟩,f,?_,c⟩
 ·intro r m
  rcases yy.1 m with m|m
  ·exact hr r m
  ·rw[zk.1 m];exact j
 ·exact Az.append (Az.mono (fun _ _ h=>hs.flux h f (Q1 c)) w) ⟨hs.flux u f (Q1 c),trivial⟩
 ·refine (q.mono (by omega)).trans ⟨a.os,a.tape,a.output,a.size,fun k b=>a.block k (by omega) fun e=>?_⟩
  have:=(Q0 g k (by unfold ob;rw[<-e];simp)).1
  omega
theorem Jg.row(hs:S6 V)(h:Jg V ty sz B F l W v ds)(p:Dg (FL F l) W W')(hb:∀k∈ob v,W'.heap[k]?=W.heap[k]?)(r:∀b,F b->b < B)(d:ds.length<=140737488355328):∃h:As,v=h.v∧BF (GF F W') W' sz (V (GF F W') W') h ds:=by
 obtain ⟨rows,h1,h2,h3⟩:=h.own
 have m:rows.length=ds.length:=Az.length h3
 have w:∀i (hi:i < ds.length) (a:i < rows.length),V (GF F W') W' rows[i] ds[i]:=fun i hi a=>hs.flux (Az.get h3 i a hi) (p.more _) (fun b hb=>.inl (.inl hb))
 rcases h1.2 with ⟨rfl,x⟩|⟨g,cap,t,rfl,z,n,y,A,C,s⟩
 ·exact ⟨⟨none,0,0⟩,rfl,by rw[<-m,x],d,fun i hi=>by omega⟩
 ·refine ⟨⟨some (aV g 0),rows.length,cap⟩,rfl,m,d,fun i hi=>?_⟩
  have a:i < rows.length:=by omega
  have f:=hb g (by simp[ob,Value.ownBlock])
  have q:=(yd.1 n).1
  refine ⟨g,0,rows[i],rfl,⟨fun h=>by have:=r g h;omega,by have:=p.1;omega⟩,h2 _ (yJ a),?_,w i hi a⟩
  intro j u o
  have e:j < sz:=by rw[<-h2 _ (yJ a)];exact (yx.1 o).1
  have c:=(FT rows sz h2).2 i a j e
  rw[o,<-s] at c
  rw[zZ] at c
  split at c
  ·simp only[World.cell?,f,n,yw]
   simpa using c
  ·cases c
end
def Uw(N:NP)(w:World)(cs:LV)(d:Ex):Prop:=AH N w d cs
theorem IJ:S6 Uw:=fun _ _ _ _ _ _ a hb h=>AH.same a hb h
theorem Ux{N:NP}{W:World}{h:As}{ds:List Ex}(k:BF N W 6 (Uw N W) h ds):D5 N W h.a 0 ds:=by
 refine Qd fun i hi=>?_
 obtain ⟨b,o,cs,h1,h2,h3,d,c⟩:=k.2.2 i hi
 exact ⟨b,o,cs,h1,h2,by simpa using d,c⟩
set_option linter.unusedSimpArgs false
structure V7 (fid:Nat) (caps:Array Value) (g:Ex->Ex) (J:(Nat->Prop)->World->Prop):Prop where
 stab:∀G G' W W',J G W->Dg G W W'->(∀b,G' b->G b∨W.heap.size<=b)->J G' W'
 enter:∀args w,(callFunc fid args).run Tryz.prog w=.ok (.enter fid args) w
 call:∀(G:Nat->Prop) (W:World) (e:Ex) (cs:List Value),J G W->AH (GF G W) W e cs->(∀k,G k->k < W.heap.size)->
  Calls Tryz.prog fid (#[.agg cs.toArray]++caps) W fun x W'=>∃cs':List Value,x=.returned (.agg cs'.toArray)∧AH (GF G W') W' (g e) cs'∧Below W.heap.size W W'
def Wc(c:Nat)(a:Array Value)(g:Ex->Ex)(J:NP->World->Prop)(left:Nat)(e:Ex):Prop:=∀(G:NP) (w:World) (cs:LV),I8 e->J G w->AH (GF G w) w e cs->(∀k,G k->k < w.heap.size)->
 Calls Tryz.prog 12 #[.agg cs.toArray,.int .i64 left,.func (.func c) #[] a] w fun x w'=>∃b:LV,x=.returned (.agg b.toArray)∧AH (GF G w') w' (Fl g left e) b∧Below w.heap.size w w'
structure TP (w:World) (row:List Value) (wr:World):Prop where
 below:Below w.heap.size w wr
 box:wr.heap[w.heap.size]?=some (.cells row.toArray 26 (0,0))
 res:wr.heap[w.heap.size+1]?=some (.cells [Value.int .i64 0,.int .i64 0,.int .i64 0,.string {data:=#[]},.int .i64 0,.slice none 0 0].toArray 26 (0,0))
section
variable{w wr W:World}{row yr yr':LV}{C:Nat}
theorem TP.lt(h:TP w row wr):w.heap.size+2<=wr.heap.size:=(yd.1 h.res).1
theorem TP.up(h:TP w row wr)(a:w.heap.size+2<=C)(hb:Below C wr W):TP w row W:=
 ⟨h.below.trans (hb.mono (by omega)),(hb.block _ (by omega)).trans h.box,(hb.block _ (by omega)).trans h.res⟩
theorem TP.wrote(h:TP w row wr){b:Nat}{c:LV}{t:TypeId}(a:Dj wr W b c t)(hb:w.heap.size+2<=b):TP w row W:=
 ⟨a.below h.below (by omega),(a.block _ (by omega)).trans h.box,(a.block _ (by omega)).trans h.res⟩
structure TI (w:World) (row yr:List Value) (wr:World):Prop where
 cb:TP w row wr
 y:wr.heap[w.heap.size+2]?=some (.cells yr.toArray 26 (0,0))
theorem TI.lt(h:TI w row yr wr):w.heap.size+3<=wr.heap.size:=(yd.1 h.y).1
theorem TI.up(h:TI w row yr wr)(a:w.heap.size+3<=C)(hb:Below C wr W):TI w row yr W:=⟨h.cb.up (by omega) hb,(hb.block _ (by omega)).trans h.y⟩
theorem TI.wrote(h:TI w row yr wr)(a:Dj wr W (w.heap.size+2) yr' 26):TI w row yr' W:=⟨h.cb.wrote a (yf _),a.row⟩
end
theorem Ln{w w1:World}{op nn u:Int}{rn:ByteArray}{ri:Int}{v:Value}(h:w1=(w.alloc (.cells #[.int .i64 op,.int .i64 nn,.int .i64 u,.string rn,.int .i64 ri,v] 26)).alloc (.cells #[.int .i64 0,.int .i64 0,.int .i64 0,.string {data:=#[]},.int .i64 0,.slice none 0 0] 26)):TP w [.int .i64 op,.int .i64 nn,.int .i64 u,.string rn,.int .i64 ri,v] w1:=by
 subst h
 refine ⟨((yg _ _).alloc (yf _) _).alloc (by simp) _,?_,?_⟩
 ·rw[yA _ _ _ (by simp)];exact World.alloc_heap_new _ _
 ·have:=World.alloc_heap_new (w.alloc (.cells #[iV op,iV nn,iV u,.string rn,iV ri,v] 26)) (.cells #[iV 0,iV 0,iV 0,.string {data:=#[]},iV 0,.slice none 0 0] 26)
  simpa using this
theorem Sf{g:Ex->Ex}{left:Nat}{op n u:Int}{rn:ByteArray}{ri:Int}{args:List Ex}(h:args.length=0∨left=0):Fl g left (.mk op n u rn ri args)=g (.mk op n u rn ri args):=by
 cases left with
 |zero=>rw[Fl]
 |succ l=>rw[Fl,yD (h.resolve_right (by omega))]
theorem OT(g:Ex->Ex)(k:Nat):∀l,JI g k l=l.map (Fl g k)
 |[]=>by rw[JI];rfl
 |e::r=>by rw[JI,OT g k r];rfl
theorem IK{q:Nat}{i:Array Value}{g:Ex->Ex}{J:NP->World->Prop}(K:V7 q i g J){left:Nat}{op nn u ri:Int}{rn:ByteArray}{args:List Ex}(h0:args.length=0∨left=0):Wc q i g J left (.mk op nn u rn ri args):=by
 intro G w cs _ L F N
 rw[Sf h0]
 have H:=yb F
 obtain ⟨row,l⟩:∃r,r=cs:=⟨_,rfl⟩
 rw[<-l] at H
 have I:=yb l
 rw[AH] at F
 obtain ⟨a,cap,rfl,V, -, -⟩:=F
 generalize M:args.length=m at*
 have U:=yb M
 have O:=yb L
 have T:=yb N
 have D:=yb K
 clear L N K M l
 have E:m=0∨((((m:Int)==0)=false)∧left=0):=by
  rcases Nat.eq_zero_or_pos m with h|h
  ·exact .inl h
  ·exact .inr ⟨by simp;omega,h0.resolve_left (by omega)⟩
 clear h0
 rcases E with rfl|⟨S,rfl⟩
 all_goals
  go_enter Tryz.func12,Tryz.ntmps12
  refine Ae fun P B=>?_
  go_wp2
  refine B.o _ _ ?_
  clear B P
  generalize s:(w.alloc _).alloc _=w1
  have c:=Ln s.symm
  obtain ⟨-, -, -, -, -,R⟩:=Cg c.box
  rw[<-I.o] at c
  have n:=yb c
  have y:Hid (Dg G w w1):=yb (Dg.below c.below)
  have x:Hid (∀b,FL G [w.heap.size,w.heap.size+1] b->G b∨w.heap.size<=b):=yb (fun b hb=>hb.imp id (fun h=>by simp at h;omega))
  have f:=yb (D.o.call (FL G [w.heap.size,w.heap.size+1]) w1 _ row (D.o.stab _ _ _ _ O.o y.o x.o) (H.o.flux y.o x.o) (fun k C=>by
   have h1:=c.lt
   rcases C with C|C
   ·have:=T.o k C;omega
   ·simp at C;omega))
  clear s c
  go_wp2_with (first
   |(with_reducible refine yj rfl 26 _ rfl w.heap.size 0 (by kernel_rfl) row _ (AA n.o.box) qG (by kernel_rfl) (EE H.o.len) ?_))
  rw[D.o.enter,Oper.upon_enter]
  refine f.o.mono ?_
  rintro e w2 ⟨res,rfl,t,v⟩
  have d:=yb t
  have z:=yb (n.o.up n.o.lt v)
  clear t v f
  rename_i Q j
  first|refine j.o _ _ ?_|refine j _ _ ?_
  clear j Q
  with_reducible refine Ao rfl 26 _ _ rfl (w.heap.size+1) (by kernel_rfl) res (by kernel_rfl) z.o.res (by rw[d.o.len];kernel_rfl) (EE d.o.len) (BC d.o) ?_
  intro W A
  have p:=yb A
  clear A
  go_wp2
  refine Bv rfl rfl p.o.row qG rfl (by rw[d.o.len];kernel_rfl) ?_
  exact ⟨res,rfl,d.o.flux (p.o.flux (.inr (by simp))) (fun b hb=>.inl (.inl hb)),p.o.below z.o.below (by omega)⟩
def Wd(g:Ex->Ex)(G:NP)(w:World)(row a:LV)(left:Nat)(args:List Ex)(i:Nat)(wr:World):Prop:=
 ∃v,TI w row (a++(v::[])) wr∧Jg Uw 26 6 (w.heap.size+3) G [w.heap.size,w.heap.size+1,w.heap.size+2] wr v ((args.take i).map (Fl g left))
theorem OU{Q:Nat}{s:Array Value}{g:Ex->Ex}{J:NP->World->Prop}(hc:V7 Q s g J):∀(left:Nat),left<=9->∀e:Ex,Wc Q s g J left e:=by
 intro left
 induction left with
 |zero=>intro _ e;obtain ⟨op,nn,u,rn,ri,args⟩:=e;exact IK hc (.inr rfl)
 |succ left ih=>
 intro cq e
 obtain ⟨op,nn,u,rn,ri,args⟩:=e
 by_cases h0:args.length=0
 ·exact IK hc (.inl h0)
 intro G w cs hw hJ hv hG
 rw[Fl,yq h0,OT]
 rw[I8] at hw
 obtain ⟨row,ar⟩:∃r,r=cs:=⟨_,rfl⟩
 have B:=yb ar
 rw[AH] at hv
 obtain ⟨a,cap,rfl,hl,bb,ac⟩:=hv
 obtain ⟨m,hm⟩:∃m,m=args.length:=⟨_,rfl⟩
 rw[<-hm] at ar B ⊢
 have d5:((m:Int)==0)=false:=by simp;omega
 have HM:=yb hm
 have HJ:=yb hJ
 have HG:=yb hG
 have HC:=yb hc
 have ck:=yb bb
 have cd:=yb ac
 have ax:=yb hw
 have IH:=yb (ih (by omega))
 have L:Hid (m<=1954687338268):=yb (by have:=hw.1;omega)
 obtain ⟨lf,bu⟩:∃lf:Int,((left+1:Nat):Int)=lf:=⟨_,rfl⟩
 have d4:(lf==0)=false:=by simp;omega
 have d6:IntKind.i64.wrap (lf - 1)=(left:Int):=by rw[IntKind.wrap_i64];omega
 rw[bu]
 clear bu hJ hG hc hm ar bb ac hw ih h0 hl
 go_enter Tryz.func12,Tryz.ntmps12
 refine Ae fun K1 b7=>?_
 go_wp2
 refine b7.o _ _ ?_
 clear b7 K1
 generalize am:(w.alloc _).alloc _=w1
 have U:=Ln am.symm
 have hz:w1.heap.size=w.heap.size+2:=by rw[<-am];simp
 have HZ:=yb hz
 obtain ⟨-, -, -, -, -,aj⟩:=Cg U.box
 rw[<-B.o] at U
 have T:=yb U
 have au:Hid (row.length=6):=yb (by rw[B.o];rfl)
 have co:Hid (∀v∈row,v.oneCell'=true):=yb (by rw[B.o];simp[Value.oneCell'])
 clear am U hz
 go_upto_region 4 with (first
  |(with_reducible refine yj rfl 26 _ rfl w.heap.size 0 (by kernel_rfl) row _ (AA T.o.box) qG (by kernel_rfl) (EE au.o) ?_)
  |(with_reducible refine Ao rfl 26 _ _ rfl w1.heap.size (by kernel_rfl) row (by kernel_rfl) (World.alloc_heap_new _ _) (by rw[au.o];kernel_rfl) (EE au.o) co.o ?_;intro x3 bj;have al:=yb bj;clear bj))
 have ba:TI w row row x3:=⟨T.o.up (yf _) (al.o.below ((yg _ _).alloc (by have:=T.o.lt;omega) _) (by have:=HZ.o;omega)),by rw[<-HZ.o];exact al.o.row⟩
 rw[HZ.o]
 have an:=yb ba
 clear ba al T aj
 obtain ⟨E,a6⟩:∃E:LV,E=[iV op,iV nn,iV u,.string rn,iV ri]:=⟨_,rfl⟩
 have a0:=yb a6
 have aw:Hid (E.length=5):=yb (by rw[a6];rfl)
 have bt:Hid (x3.heap[w.heap.size+2]?=some (.cells (E++(Value.slice a m cap::[])).toArray 26 (0,0))):=yb (by have h:=an.o.y;rw[B.o] at h;rw[a6];exact h)
 clear a6
 go_upto_region 5 with (first
  |(with_reducible refine II rfl 24 _ _ rfl (w.heap.size+2) 5 (by kernel_rfl) (.slice none 0 0) (by kernel_rfl) (by kernel_rfl) (p:=E) (m:=.slice a m cap) (q:=[]) (t:=26) bt.o aw.o (by kernel_rfl) (by kernel_rfl) ?_;intro x4 b8;have af:=yb (an.o.wrote b8);clear b8))
 have aj:x4.cell? (aV w.heap.size 5)=some (.slice a m cap):=by have h:=af.o.cb.box;rw[B.o] at h;simp[World.cell?,h]
 obtain ⟨I,hI⟩:∃I:Nat->World->Prop,I=Wd g G w row E left args:=⟨_,rfl⟩
 have HI:=yb hI
 have bv:Hid (I 0 x4):=yb (by rw[hI];exact ⟨_,af.o,by simpa using TF⟩)
 clear hI an af bt
 go_wp2
 clear aj
 go_loopw [26] (fun iv wr=>∃i:Nat,iv=iV i∧i<=m∧Hid (I i wr)) (fun iv _=>m - (intOf iv).toNat)
 case atStart=>exact ⟨0,rfl,yH _,bv⟩
 case round=>
  clear bv
  obtain ⟨i,rfl,hi,bm⟩:=hrel
  obtain ⟨v,hY,ak⟩:Wd g G w row E left args i wr:=by have h:=bm.o;rw[HI.o] at h;exact h
  obtain ⟨va,z,l,rfl⟩:=ak.slice
  have O:=yb hY;have A:=yb ak
  have b0:wr.cell? (aV (w.heap.size+2) 5)=some (.slice va z l):=by
   have h:=hY.y
   rw[a0.o] at h
   simp[World.cell?,h]
  have cx:=yb b0
  clear bm hY ak b0
  have ae:m<=140737488355328:=by have:=L.o;omega
  by_cases S:i < m
  ·have a7:i < args.length:=by rw[<-HM.o];exact S
   have az:(i:Int) < (m:Int):=by omega
   obtain ⟨bq,oq,ct,he,b9,aq,a2⟩:=Dr cd.o i a7
   obtain rfl:a=some (aV bq oq):=he
   rw[yw] at aq
   have ce:Hid ((args.take (i+1)).map (Fl g left)=(args.take i).map (Fl g left)++[Fl g left args[i]]):=yb (by rw[yG a7,zD];rfl)
   have cj:Hid ((i+1)*72<=140737488355328):=yb (by have:=ax.o.1;have:=HM.o;omega)
   have b5:Hid (I8 args[i]):=yb (Mu ax.o.2 i a7)
   have be:=yb (IH.o args[i])
   have cw:Hid (((args.take i).map (Fl g left)).length=i):=yb (by simp;omega)
   generalize hD:args[i]=D at a2 ce b5 be
   clear hD
   have bx:=yb a2
   have Z:Hid (ct.length=6):=yb a2.len
   have cm:Hid (wr.rangeAt bq (oq+i*6) ct):=yb (A0 aq (O.o.cb.below.block bq b9.2))
   have cr:=yb (QR S ae)
   have bh:Hid (i < m):=yb S
   clear aq a2 b9 a7
   go_upto_region 8 with (first
    |(with_reducible refine yj rfl 26 _ rfl bq (oq+i*6) (by kernel_rfl) ct _ cm.o qG (by kernel_rfl) (EE Z.o) ?_)
    |(with_reducible refine Ao rfl 26 _ _ rfl wr.heap.size (by kernel_rfl) ct (by kernel_rfl) (World.alloc_heap_new _ _) (by rw[yM,Z.o];kernel_rfl) (EE Z.o) (BC bx.o) ?_;intro j ch;have ao:=yb ch;clear ch))
   have Y:Hid (Below wr.heap.size wr j):=yb (ao.o.below ((yg _ _).alloc (yf _) _) (yf _))
   have ah:Hid (wr.heap.size < j.heap.size):=yb (by rw[ao.o.size];simp)
   have cl:Hid (Dg G w j):=yb (Dg.below (O.o.cb.below.trans (Y.o.mono O.o.cb.below.size)))
   have bd:Hid (∀b,FL G ([w.heap.size,w.heap.size+1,w.heap.size+2]++ob (.slice va z l)) b->G b∨w.heap.size<=b):=yb (fun b hb=>hb.imp (fun h=>h) (fun h=>by
    rcases yy.1 h with h|h
    ·simp at h;omega
    ·have:=(A.o.lt b h).1;omega))
   have d2:Hid (∀b,FL G ([w.heap.size,w.heap.size+1,w.heap.size+2]++ob (.slice va z l)) b->b < wr.heap.size):=yb (fun k f=>by
    have h1:=O.o.lt
    rcases f with f|f
    ·have:=HG.o k f;omega
    ·rcases yy.1 f with h|h
     ·simp at h;omega
     ·exact (A.o.lt k h).2)
   have ab:Hid (∀V,Below j.heap.size j V->Calls Tryz.prog 12 #[.agg ct.toArray,iV left,.func (.func Q) #[] s] V fun x w'=>∃bn:LV,x=.returned (.agg bn.toArray)∧AH (GF (FL G ([w.heap.size,w.heap.size+1,w.heap.size+2]++ob (.slice va z l))) w') w' (Fl g left D) bn∧Below V.heap.size V w'):=yb (fun V hV=>by
    have hf:Dg G w V:=cl.o.trans (Dg.below hV)
    exact be.o (FL G ([w.heap.size,w.heap.size+1,w.heap.size+2]++ob (.slice va z l))) V ct b5.o (HC.o.stab _ _ _ _ HJ.o hf bd.o) (bx.o.flux hf bd.o) (fun k f=>by have:=d2.o k f;have:=ah.o;have:=hV.size;omega))
   have c:Hid (Below j.heap.size j j.drew):=yb (yg _ _).drew
   have ad:Hid (∀V,Below j.heap.size j V->V.cell? (aV (w.heap.size+2) 5)=some (.slice va z l)):=yb (fun V hV=>by
    have h1:=O.o.lt
    have h:=(hV.block (w.heap.size+2) (by have:=ah.o;omega)).trans (Y.o.block (w.heap.size+2) (by omega))
    have h2:=cx.o
    unfold World.cell? at h2 ⊢
    simp only at h2 ⊢
    rw[h];exact h2)
   have bw:Hid (∀V,Below j.heap.size j V->V.rangeAt wr.heap.size 0 ct):=yb (fun V hV=>A0 (AA ao.o.row) (hV.block _ ah.o))
   refine DG (by kernel_rfl) (fun V=>Below j.heap.size j V) 8 ?_
   refine Ah (i:=0) (v:=pV (w.heap.size+2) 5) rfl (by kernel_rfl) (by kernel_rfl) (by kernel_rfl) (fun _ _ _ h=>h) (by kernel_rfl) (Or.inl ⟨by rfl,?_⟩) (fun _=>c.o) ?_
   ·intro W _;go_simp
   refine Bd (i:=1) (v:=.slice va z l) rfl (by kernel_rfl) (by kernel_rfl) (by kernel_rfl) (fun _ _ _ h=>h) (by kernel_rfl) (Or.inl ⟨by rfl,?_⟩) c.o ?_
   ·intro W hW;have cu:=ad.o W hW;go_simp
   refine Ah (i:=3) (v:=iV lf) rfl (by kernel_rfl) (by kernel_rfl) (by kernel_rfl) (fun _ _ _ h=>h) (by kernel_rfl) (Or.inl ⟨by rfl,?_⟩) (fun _=>c.o) ?_
   ·intro W _;go_simp
   refine Ah (i:=4) (v:=iV left) rfl (by kernel_rfl) (by kernel_rfl) (by kernel_rfl) (fun _ _ _ h=>h) (by kernel_rfl) (Or.inl ⟨by rfl,?_⟩) (fun _=>c.o) ?_
   ·intro W _;go_simp
   refine Ah (i:=5) (v:=.func (.func Q) #[] s) rfl (by kernel_rfl) (by kernel_rfl) (by kernel_rfl) (fun _ _ _ h=>h) (by kernel_rfl) (Or.inl ⟨by rfl,?_⟩) (fun _=>c.o) ?_
   ·intro W _;go_simp
   refine Ak (i:=2) (by kernel_rfl) rfl (fun K d=>?_)
   rw[yD (by kernel_rfl)]
   refine xL 26 _ rfl wr.heap.size 0 (by kernel_rfl) ct _ (bw.o _ c.o) qG rfl (EE Z.o) ?_
   refine d.o _ _ (fun _=>c.o) ?_
   clear d K
   refine Ak (i:=6) (by kernel_rfl) rfl (fun K d=>?_)
   go_simp
   refine (ab.o _ c.o).mono ?_
   rintro e x2 ⟨res,rfl,c9,bo⟩
   have X:Hid (Below j.heap.size j x2):=yb (c.o.trans (bo.mono c.o.size))
   have H:=yb c9
   refine d.o _ _ (fun _=>X.o) ?_
   clear d K c9 bo ab c ad bw
   have av:Hid (Below wr.heap.size wr x2):=yb (Y.o.trans (X.o.mono Y.o.size))
   have bg:Hid (TI w row (E++(Value.slice va z l::[])) x2):=yb (O.o.up O.o.lt av.o)
   obtain ⟨rows,P,cc,N⟩:=(A.o.up IJ (Dg.below av.o) (fun k f=>av.o.block k (A.o.lt k f).2) (fun _ h=>.inl h)).own
   have cy:=yb P;have cv:=yb cc;have bp:=yb N
   have aa:Hid (w.heap.size+3<=x2.heap.size):=yb bg.o.lt
   have c8:Hid ((x2.alloc (.cells res.toArray 26)).ownsRow (w.heap.size+3) 26 6 (.slice va z l) rows.length rows.flatten):=yb (I7 P fun k f=>((yg _ _).alloc (yf _) _).block k (Q0 P k f).2)
   have cg:Hid ((rows.length+1)*72<=140737488355328):=yb (by rw[Az.length N,cw.o];exact cj.o)
   have cp:Hid (w.heap.size+3<=(x2.alloc (.cells res.toArray 26)).heap.size):=yb (by have:=aa.o;simp;omega)
   clear P cc N
   refine Ak (i:=7) (by kernel_rfl) rfl (fun K d=>?_)
   rw[yD (by kernel_rfl)]
   refine S5 24 26 _ rfl res (by kernel_rfl) 6 qF (by kernel_rfl) H.o.len (by omega) (by omega) ?_
   refine d.o _ _ (fun _=>X.o.alloc X.o.size _) ?_
   clear d K
   refine Ak (i:=8) (by kernel_rfl) rfl (fun K d=>?_)
   rw[yD (by kernel_rfl)]
   refine OJ qF _ _ rfl 6 (by kernel_rfl) (by omega) (w.heap.size+3) (.slice va z l) rows.length rows.flatten (by kernel_rfl) c8.o x2.heap.size 1 res (by kernel_rfl) (World.alloc_heap_new _ _) H.o.len (BC H.o) cg.o cp.o ?_
   intro vx x8 C bi ay
   obtain ⟨xa,xn,xc,rfl⟩:=Mt C
   have ap:=yb (OK IJ bp.o cv.o cy.o H.o H.o.len C bi ay aa.o)
   clear C bi ay
   have ag:=yb (bg.o.up (yf _) ap.o.below)
   refine d.o _ _ (by intro h;cases h) ?_
   clear d K
   have F:=ag.o.y
   rw[a0.o] at F
   have cz:=F
   have c5:x8.cell? (aV (w.heap.size+2) 5)=some (.slice va z l):=by simp[World.cell?,F]
   have f5:x8.frozen? (aV (w.heap.size+2) 5)=false:=by simp[World.frozen?,F]
   clear F cz
   refine Ak (i:=9) (by kernel_rfl) rfl (fun K d=>?_)
   go_simp
   refine d.o _ _ (by intro h;cases h) ?_
   clear d K
   refine Ak (i:=10) (by kernel_rfl) rfl (fun K d=>?_)
   go_simp
   refine d.o _ _ (by intro h;cases h) ?_
   clear d K
   refine DF (by kernel_rfl) ?_
   have cf:Dj x8 (x8.setCell (aV (w.heap.size+2) 5) (.slice xa xn xc)) (w.heap.size+2) (E++(Value.slice xa xn xc::[])) 26:=AE _ _ [.slice xa xn xc] 5 x8 E [.slice va z l] [] ag.o.y aw.o rfl
   have ai:=yb cf
   clear cf c5 f5 hi S az
   go_wp2
   have d1:Hid (I (i+1) (x8.setCell (aV (w.heap.size+2) 5) (.slice xa xn xc))):=yb (by
    rw[HI.o]
    refine ⟨.slice xa xn xc,ag.o.wrote ai.o,?_⟩
    have h:=ap.o.grow.up (l':=[w.heap.size,w.heap.size+1,w.heap.size+2]) IJ (ai.o.flux (.inr (by simp))) (fun k f=>ai.o.block k (by have:=(ap.o.grow.lt k f).1;omega)) (fun _ h=>.inl h)
    rw[<-ce.o] at h
    exact h)
   rw[cr.o]
   exact ⟨⟨i+1,rfl,bh.o,d1⟩,QS bh.o⟩
  ·obtain rfl:i=m:=by omega
   have az:decide ((i:Int) < (i:Int))=false:=by simp
   have b4:Hid (Jg Uw 26 6 (w.heap.size+3) G [w.heap.size,w.heap.size+1,w.heap.size+2] wr (.slice va z l) (args.map (Fl g left))):=yb (by have h:=A.o;rw[HM.o,yQ] at h;exact h)
   obtain ⟨Dv,M⟩:∃r:LV,r=E++(Value.slice va z l::[]):=⟨_,rfl⟩
   have R:Hid (Dv.length=6):=yb (by rw[M,yn,aw.o];rfl)
   have d0:=yb M
   have ci:Hid (∀v∈Dv,v.oneCell'=true):=yb (by rw[M,a0.o];simp[Value.oneCell'])
   have cn:Hid (wr.heap[w.heap.size+2]?=some (.cells Dv.toArray 26 (0,0))):=yb (by rw[M];exact O.o.y)
   clear M A
   go_wp2_with (first
    |(with_reducible refine yj rfl 26 _ rfl (w.heap.size+2) 0 (by kernel_rfl) Dv _ (AA cn.o) qG (by kernel_rfl) (EE R.o) ?_)
    |(with_reducible refine Ao rfl 26 _ _ rfl (w.heap.size+1) (by kernel_rfl) Dv (by kernel_rfl) O.o.cb.res (by rw[R.o];kernel_rfl) (EE R.o) ci.o ?_;intro x6 bk;have a8:=yb bk;clear bk))
   refine Bv rfl rfl a8.o.row qG rfl (by rw[R.o];kernel_rfl) ?_
   refine ⟨Dv,rfl,?_,a8.o.below O.o.cb.below (by omega)⟩
   rw[d0.o,a0.o,AH]
   obtain ⟨h,he,bz⟩:=b4.o.row IJ (a8.o.flux (.inr (by simp))) (fun k f=>a8.o.block k (by have:=(b4.o.lt k f).1;omega)) (fun k f=>by have:=HG.o k f;omega) (by have:=HM.o;have:=L.o;simp;omega)
   have hn:h.n=(args.map (Fl g left)).length:=bz.1
   obtain ⟨ha,d3,cu⟩:=h
   simp only[As.v,xW] at he
   obtain ⟨rfl,rfl,rfl⟩:=he
   simp only at hn
   subst hn
   exact ⟨va,l,rfl,by have:=HM.o;have:=L.o;simp;omega,ck.o,Ux bz⟩
set_option linter.unusedSimpArgs false
set_option linter.unusedVariables false
theorem OV{N N':NP}{w W:World}{op nn u:Int}{rn:ByteArray}{ri:Int}{args:List Ex}{cs:LV}(h:AH N w (.mk op nn u rn ri args) cs)(g:∀b,N b->N' b)(hb:∀b,N b->W.heap[b]?=w.heap[b]?):
  ∃a cap,cs=[.int .i64 op,.int .i64 nn,.int .i64 u,.string rn,.int .i64 ri,.slice a args.length cap]∧∀c d e:Int,AH N' W (.mk c d e rn ri args) [.int .i64 c,.int .i64 d,.int .i64 e,.string rn,.int .i64 ri,.slice a args.length cap]:=by
 rw[AH] at h
 obtain ⟨a,cap,h1,h2,h3,f⟩:=h
 refine ⟨a,cap,h1,fun c d e=>?_⟩
 rw[AH]
 exact ⟨a,cap,rfl,h2,h3,f.same g hb⟩
theorem Qa{G:NP}{w:World}{e:Ex}{cs:LV}(Y:AH (GF G w) w e cs):
  Calls Tryz.prog 20 #[.agg cs.toArray] w fun x w'=>∃N:LV,x=.returned (.agg N.toArray)∧AH (GF G w') w' (F9 e) N∧Below w.heap.size w w':=by
 obtain ⟨op,nn,u,rn,ri,args⟩:=e
 obtain ⟨a,cap,rfl, -⟩:=OV Y (fun _ h=>h) (fun _ _=>rfl)
 have A:Hid (∀W,Below w.heap.size w W->∀H U Q:Int,AH (GF G W) W (.mk H U Q rn ri args) [iV H,iV U,iV Q,.string rn,iV ri,.slice a args.length cap]):=yb (fun W hW H U Q=>by
  obtain ⟨a',Z,he,h⟩:=OV (N':=GF G W) (W:=W) Y (fun b hb=>hb.up hW.size (fun _ h=>.inl h)) (fun b hb=>hW.block b hb.2)
  simp only[xG,xW,and_true,qk] at he
  obtain ⟨rfl,rfl⟩:=he
  exact h H U Q)
 clear Y
 obtain ⟨E,i⟩:∃E,E=F9 (.mk op nn u rn ri args):=⟨_,rfl⟩
 rw[<-i]
 rw[F9,show Fk / 1000=1099511627 by decide,show Fk / 24=45812984490 by decide] at i
 generalize args.length=m at A ⊢
 have X:(E=.mk op nn u rn ri args∧(((op !=1)=true)∨((op !=1)=false∧decide (nn < 0)=true)∨((op !=1)=false∧decide (nn < 0)=false∧(u==2)=true∧decide (nn<=1099511627)=false∧(u==4)=false)∨((op !=1)=false∧decide (nn < 0)=false∧(u==2)=false∧(u==4)=true∧decide (nn<=45812984490)=false)∨((op !=1)=false∧decide (nn < 0)=false∧(u==2)=false∧(u==4)=false)))∨
   (E=.mk op (1000*nn) 1 rn ri args∧(op !=1)=false∧decide (nn < 0)=false∧(u==2)=true∧decide (nn<=1099511627)=true∧wrap64 (1000*nn)=1000*nn)∨
   (E=.mk op (24*nn) 3 rn ri args∧(op !=1)=false∧decide (nn < 0)=false∧(u==2)=false∧(u==4)=true∧decide (nn<=45812984490)=true∧wrap64 (24*nn)=24*nn):=by
  clear A
  by_cases h1:op=1
  rotate_left
  ·left;rw[yD (.inl h1)] at i;exact ⟨i,.inl (by simpa using h1)⟩
  by_cases h2:nn < 0
  ·left;rw[yD (.inr h2)] at i;exact ⟨i,.inr (.inl ⟨by simpa using h1,by simpa using h2⟩)⟩
  rw[yq (fun h=>h.elim (fun k=>k h1) h2)] at i
  by_cases h3:u=2
  ·by_cases D:nn<=1099511627
   ·rw[yD ⟨h3,D⟩] at i
    exact .inr (.inl ⟨i,by simpa using h1,by simpa using h2,by simpa using h3,by simpa using D,AL (by omega)⟩)
   ·rw[yq (fun h=>D h.2),yq (fun h=>by have:=h.1;omega)] at i
    exact .inl ⟨i,.inr (.inr (.inl ⟨by simpa using h1,by simpa using h2,by simpa using h3,by simpa using D,by subst h3;decide⟩))⟩
  ·rw[yq (fun h=>h3 h.1)] at i
   by_cases D:u=4
   ·by_cases T:nn<=45812984490
    ·rw[yD ⟨D,T⟩] at i
     exact .inr (.inr ⟨i,by simpa using h1,by simpa using h2,by simpa using h3,by simpa using D,by simpa using T,AL (by omega)⟩)
    ·rw[yq (fun h=>T h.2)] at i
     exact .inl ⟨i,.inr (.inr (.inr (.inl ⟨by simpa using h1,by simpa using h2,by simpa using h3,by simpa using D,by simpa using T⟩)))⟩
   ·rw[yq (fun h=>D h.1)] at i
    exact .inl ⟨i,.inr (.inr (.inr (.inr ⟨by simpa using h1,by simpa using h2,by simpa using h3,by simpa using D⟩)))⟩
 clear i
 rcases X with ⟨i,hT⟩|⟨i,L,O,S,R,hw⟩|⟨i,L,O,S,R,e5,hw⟩
 ·rcases hT with L|⟨L,O⟩|⟨L,O,S,R,e5⟩|⟨L,O,S,R,e5⟩|⟨L,O,S,R⟩
  all_goals
   subst i
   go_enter Tryz.func20,Tryz.ntmps20
   refine Ae fun M l=>?_
   go_wp2
   refine l.o _ _ ?_
   clear l M
   generalize q:(w.alloc _).alloc _=w1
   have c:=Ln q.symm
   obtain ⟨c0,c1,c2, -, -, -⟩:=Cg c.box
   have g:=yb c
   clear q c
   obtain ⟨row,d⟩:∃r:LV,r=[iV op,iV nn,iV u,.string rn,iV ri,.slice a m cap]:=⟨_,rfl⟩
   rw[<-d] at g
   have C:=yb d
   have f:Hid (row.length=6):=yb (by rw[d];rfl)
   have B:Hid (∀v∈row,v.oneCell'=true):=yb (by rw[d];simp[Value.oneCell'])
   clear d
   go_wp2_with (first
    |(with_reducible refine yj rfl 26 _ rfl w.heap.size 0 (by kernel_rfl) row _ (AA g.o.box) qG (by kernel_rfl) (EE f.o) ?_)
    |(with_reducible refine Ao rfl 26 _ _ rfl (w.heap.size+1) (by kernel_rfl) row (by kernel_rfl) g.o.res (by rw[f.o];kernel_rfl) (EE f.o) B.o ?_;intro P n;have p:=yb n;clear n))
   refine Bv rfl rfl p.o.row qG rfl (by rw[f.o];kernel_rfl) ?_
   have t:=p.o.below g.o.below (by omega)
   exact ⟨row,rfl,by rw[C.o];exact A.o P t op nn u,t⟩
 ·
  subst i
  go_enter Tryz.func20,Tryz.ntmps20
  refine Ae fun M l=>?_
  go_wp2
  refine l.o _ _ ?_
  clear l M
  generalize q:(w.alloc _).alloc _=w1
  have c:=Ln q.symm
  obtain ⟨c0,c1,c2, -, -, -⟩:=Cg c.box
  have f1:w1.frozen? (aV w.heap.size 1)=false:=by simp[World.frozen?,c.box]
  have f2:w1.frozen? (aV w.heap.size 2)=false:=by simp[World.frozen?,c.box]
  have g:=yb c
  have s:Dj w1 ((w1.setCell (aV w.heap.size 1) (iV (1000*nn))).setCell (aV w.heap.size 2) (iV 1)) w.heap.size _ 26:=AE _ _ [iV (1000*nn),iV 1] 1 w1 [iV op] [iV nn,iV u] [.string rn,iV ri,.slice a m cap] c.box rfl rfl
  have F:=yb s
  clear q c s
  go_upto_region 6 with fail
  have z:Below w.heap.size w ((w1.setCell (aV w.heap.size 1) (iV (1000*nn))).setCell (aV w.heap.size 2) (iV 1)):=F.o.below g.o.below (yf _)
  have j:=F.o.row
  have y:=(F.o.block (w.heap.size+1) (by omega)).trans g.o.res
  simp only[yK,yP] at j
  generalize ((w1.setCell (aV w.heap.size 1) (iV (1000*nn))).setCell (aV w.heap.size 2) (iV 1))=V at z j y ⊢
  obtain ⟨row,d⟩:∃r:LV,r=[iV op,iV (1000*nn),iV 1,.string rn,iV ri,.slice a m cap]:=⟨_,rfl⟩
  rw[<-d] at j
  have C:=yb d
  have f:Hid (row.length=6):=yb (by rw[d];rfl)
  have B:Hid (∀v∈row,v.oneCell'=true):=yb (by rw[d];simp[Value.oneCell'])
  have K:=yb z;have I:=yb j;have J:=yb y
  clear d z j y F g
  go_wp2_with (first
   |(with_reducible refine yj rfl 26 _ rfl w.heap.size 0 (by kernel_rfl) row _ (AA I.o) qG (by kernel_rfl) (EE f.o) ?_)
   |(with_reducible refine Ao rfl 26 _ _ rfl (w.heap.size+1) (by kernel_rfl) row (by kernel_rfl) J.o (by rw[f.o];kernel_rfl) (EE f.o) B.o ?_;intro P n;have p:=yb n;clear n))
  refine Bv rfl rfl p.o.row qG rfl (by rw[f.o];kernel_rfl) ?_
  have t:=p.o.below K.o (by omega)
  exact ⟨row,rfl,by rw[C.o];exact A.o P t op (1000*nn) 1,t⟩
 ·
  subst i
  go_enter Tryz.func20,Tryz.ntmps20
  refine Ae fun M l=>?_
  go_wp2
  refine l.o _ _ ?_
  clear l M
  generalize q:(w.alloc _).alloc _=w1
  have c:=Ln q.symm
  obtain ⟨c0,c1,c2, -, -, -⟩:=Cg c.box
  have f1:w1.frozen? (aV w.heap.size 1)=false:=by simp[World.frozen?,c.box]
  have f2:w1.frozen? (aV w.heap.size 2)=false:=by simp[World.frozen?,c.box]
  have g:=yb c
  have s:Dj w1 ((w1.setCell (aV w.heap.size 1) (iV (24*nn))).setCell (aV w.heap.size 2) (iV 3)) w.heap.size _ 26:=AE _ _ [iV (24*nn),iV 3] 1 w1 [iV op] [iV nn,iV u] [.string rn,iV ri,.slice a m cap] c.box rfl rfl
  have F:=yb s
  clear q c s
  go_upto_region 6 with fail
  have z:Below w.heap.size w ((w1.setCell (aV w.heap.size 1) (iV (24*nn))).setCell (aV w.heap.size 2) (iV 3)):=F.o.below g.o.below (yf _)
  have j:=F.o.row
  have y:=(F.o.block (w.heap.size+1) (by omega)).trans g.o.res
  simp only[yK,yP] at j
  generalize ((w1.setCell (aV w.heap.size 1) (iV (24*nn))).setCell (aV w.heap.size 2) (iV 3))=V at z j y ⊢
  obtain ⟨row,d⟩:∃r:LV,r=[iV op,iV (24*nn),iV 3,.string rn,iV ri,.slice a m cap]:=⟨_,rfl⟩
  rw[<-d] at j
  have C:=yb d
  have f:Hid (row.length=6):=yb (by rw[d];rfl)
  have B:Hid (∀v∈row,v.oneCell'=true):=yb (by rw[d];simp[Value.oneCell'])
  have K:=yb z;have I:=yb j;have J:=yb y
  clear d z j y F g
  go_wp2_with (first
   |(with_reducible refine yj rfl 26 _ rfl w.heap.size 0 (by kernel_rfl) row _ (AA I.o) qG (by kernel_rfl) (EE f.o) ?_)
   |(with_reducible refine Ao rfl 26 _ _ rfl (w.heap.size+1) (by kernel_rfl) row (by kernel_rfl) J.o (by rw[f.o];kernel_rfl) (EE f.o) B.o ?_;intro P n;have p:=yb n;clear n))
  refine Bv rfl rfl p.o.row qG rfl (by rw[f.o];kernel_rfl) ?_
  have t:=p.o.below K.o (by omega)
  exact ⟨row,rfl,by rw[C.o];exact A.o P t op (24*nn) 3,t⟩
theorem TJ:V7 20 #[] F9 (fun _ _=>True):=
 ⟨fun _ _ _ _ _ _ _=>trivial,fun _ _=>by kernel_rfl,fun _ _ _ _ _ a _=>Qa a⟩
def Vg(p:Nat)(v:Int)(G:NP)(W:World):Prop:=GF G W p∧W.cell? ⟨p,0,none⟩=some (.int .i64 v)
theorem Vg.up{p:Nat}{v:Int}{G c:NP}{W W':World}(h:Vg p v G W)(a:Dg G W W')(d:∀b,c b->G b∨W.heap.size<=b):Vg p v c W':=
 ⟨h.1.up a.1 d,by have h2:=h.2;unfold World.cell? at h2 ⊢;simp only at h2 ⊢;rw[a.2 p h.1.2 h.1.1];exact h2⟩
structure Wu (p q r:Nat) (a b c:Int) (G:Nat->Prop) (W:World):Prop where
 l:Vg p a G W
 h:Vg q b G W
 a:Vg r c G W
end Go.Proofs.YtjofgpfocadomaaGreatDoor
