/- Parts of the proof, in short words: Go Vc Hj Hk Hl -/
import Derived.Test.YtjofgpfocadomaaGreatDoorUc0
import Derived.Test.YtjofgpfocadomaaGreatDoorUc10
import Derived.Test.YtjofgpfocadomaaGreatDoorUc11
import Derived.Test.YtjofgpfocadomaaGreatDoorUc8
import Derived.Test.YtjofgpfocadomaaGreatDoorUc3
import Derived.Test.YtjofgpfocadomaaGreatDoorUc9
set_option maxRecDepth 100000
set_option maxHeartbeats 32000000
set_option linter.unusedSimpArgs false
namespace Go.Proofs.YtjofgpfocadomaaGreatDoor
open Go.RowKit
theorem QA{B:Nat}{W:World}{t e ty:TypeId}{i:TypeInfo}{z:Value}{size d:Nat}(w:Tryz.prog.underlying t=some (.slice e))(hi:Tryz.prog.info? e=some i)(q:i.zero=some z)(m:i.size=size)(s:i.bytes=d)(x:d<=10000)
 {v:Value}{n:Nat}{xs:LV}(h:W.ownsRow B e size v n xs){g c:Nat}{row:LV}(G:W.heap[g]?=some (.cells row.toArray e (0,0)))(D:row.length=size)(p:∀u∈row,u.oneCell'=true)(r:n+1<=1000000){v':Value}{w':World}
 (a:(Builtin.append_ #[t,t] ty #[v,.slice (some ⟨g,0,none⟩) 1 c]).run Tryz.prog W=.ok v' w'):v'.ownBlock=v.ownBlock∨v'.ownBlock=some W.heap.size:=by
 have C:(n+1)*d<=1000000*10000:=qA r x
 have b:∀j u,row[j]?=some u->W.cell? (((aV g 0):Addr).add j)=some u:=fun j u K=>by
  rw[zA]
  simp only[World.cell?,G]
  simpa using K
 have o:row.length=1*i.size:=by rw[m,D,qo]
 rcases h.2 with ⟨rfl,J⟩|⟨k,cap,A,rfl,E,F,I,H,hcs,y⟩
 ·subst J
  rw[run_append_nil W t ty e i _ w hi q (aV g 0) 1 c row o b (by omega) (by omega) (by rw[s];omega)] at a
  cases a
  exact .inr rfl
 ·by_cases f:n+1<=cap
  ·rw[run_append_room W t ty e i w hi k n cap A F (aV g 0) 1 c row o b p f (by
    rw[m,hcs,D]
    calc n*size+size=(n+1)*size:=by rw[Nat.add_mul];omega
     _<=cap*size:=xR _ f)] at a
   cases a
   exact .inl rfl
  ·have l:∀j u,xs[j]?=some u->W.cell? (((aV k 0):Addr).add j)=some u:=World.ownsRow.cells h (g:=k) rfl
   rw[run_append_grow W t ty e i _ w hi q (aV k 0) n cap xs (by rw[m];exact h.1) l (aV g 0) 1 c row o b (by omega) (by omega) (growslice_fits (by omega) (by rw[s];omega))] at a
   cases a
   exact .inr rfl
theorem JB{ops:Array Oper}{rest:List Oper}{o:Oper}{a:Act}{Q:QT}{W:World}{t e:TypeId}(C:Tryz.prog.underlying t=some (.slice e))(w:o.guard=none)(s x:Operand)(E:o.op=.call {callee:=.builtin .append,args:=#[s,x],argTypes:=#[t,t]})
 (size:Nat)(b:((Tryz.prog.info? e).bind fun i=>i.zero.map fun z=>(i.size,z.cells.size,decide (i.bytes<=10000)))=some (size,size,true))(q:0 < size)
 (B:Nat)(v:Value)(n:Nat)(xs:LV)(hs:a.eval s=v)(f:W.ownsRow B e size v n xs)(g c:Nat)(row:LV)(H:a.eval x=.slice (some ⟨g,0,none⟩) 1 c)(D:W.heap[g]?=some (.cells row.toArray e (0,0)))(A:row.length=size)(k:∀u∈row,u.oneCell'=true)(l:n+1<=1000000)(m:B<=W.heap.size)
 (h:∀v' w',w'.ownsRow B e size v' (n+1) (xs++row)->W.grownBy w' v.ownBlock->(v'.ownBlock=v.ownBlock∨v'.ownBlock=some W.heap.size)->wpList Tryz.prog ops Q rest (a.put o.dst v') w'):wpList Tryz.prog ops Q (o::rest) a W:=by
 cases d:Tryz.prog.info? e with
 |none=>simp[d] at b
 |some i0=>
  cases r:i0.zero with
  |none=>simp[d,r] at b
  |some z=>
   simp only[d,r,xi,xx,yZ,zq,yT] at b
   obtain ⟨h1,h2,h3⟩:=b
   have y:(n+1)*i0.bytes<=1000000*10000:=qA l h3
   have p:∀j u,row[j]?=some u->W.cell? (((aV g 0):Addr).add j)=some u:=fun j u J=>by
    rw[zA]
    simp only[World.cell?,D]
    simpa using J
   obtain ⟨v',w',hr,I,G,_⟩:=run_append_own (P:=Tryz.prog) W B t o.type e i0 z size i0.bytes C d r h1 rfl h2 q v n xs f (aV g 0) 1 c row (by rw[A,qo]) p k (by unfold maxLen;omega) (by omega) m
   have hb:=QA (ty:=o.type) C d r h1 rfl h3 f D A k l hr
   refine zB w fun K F=>?_
   unfold Oper.wp
   simp[execOp,E,resolve,invoke,builtin,hs,H,hr,Result.andThen]
   exact F _ _ (h v' w' I G hb)
def Ls(k:Kn):LV:=[.string k.name,.int .i64 k.q.dim.l,.int .i64 k.q.dim.h,.int .i64 k.q.dim.a,.int .i64 k.q.v.n,.int .i64 k.q.v.d,.int .i64 k.q.e,.bool k.ok]
def Lt(B:Nat)(W:World)(v:Value)(a:List Kn):Prop:=W.ownsRow B 98 8 v a.length (a.flatMap Ls)
theorem SG(B:Nat)(W:World):Lt B W (.slice none 0 0) []:=⟨by simp,.inl ⟨rfl,rfl⟩⟩
theorem MY{B:Nat}{W:World}{v:Value}{a:List Kn}(h:Lt B W v a)(f:a.length<=140737488355328):∃h:Aw,v=h.v∧PT W h a:=by
 have e:=Ga (a.map Ls) 8 (fun cs q=>by obtain ⟨k, -,rfl⟩:=xJ.1 q;rfl)
 have o:(a.map Ls).flatten=a.flatMap Ls:=by rw[List.flatMap_def]
 rw[o] at e
 rcases h.2 with ⟨rfl,r⟩|⟨g,cap,p,rfl,s,l,x,t,w,n⟩
 ·exact ⟨⟨none,0,0⟩,rfl,r.symm,f,fun i hi=>by omega⟩
 ·refine ⟨⟨some (aV g 0),a.length,cap⟩,rfl,rfl,f,fun i hi=>?_⟩
  have d:=(yd.1 l).1
  refine ⟨g,0,Ls a[i],rfl,d,rfl,?_,rfl⟩
  intro j u m
  have c:j < 8:=(yx.1 m).1
  have b:=e.2 i (by simpa using hi) j c
  rw[zH,m,<-n] at b
  rw[xg] at b
  split at b
  ·simp only[World.cell?,l,yy]
   simpa using b
  ·cases b
theorem K4{B:Nat}{W W':World}{v:Value}{a:List Kn}(h:Lt B W v a)(hb:Below W.heap.size W W'):Lt B W' v a:=by
 refine ⟨h.1,h.2.imp id ?_⟩
 rintro ⟨g,cap,b,rfl,e,c,d⟩
 exact ⟨g,cap,b,rfl,e,(hb.block g (yd.1 c).1).trans c,d⟩
theorem OY{B:Nat}{b W W':World}{v:Value}{n:Nat}{xs:LV}(h:W.ownsRow B 98 8 v n xs)(c:Below B b W)(f:B<=W.heap.size)(a:W.grownBy W' v.ownBlock):Below B b W':=by
 refine c.trans ⟨a.os,a.tape,a.output,a.size,fun k i=>a.block k (by omega) (fun e=>?_)⟩
 rcases h.2 with ⟨rfl, -⟩|⟨g,cap,d,rfl,j, -⟩
 ·simp[Value.ownBlock] at e
 ·simp only[Value.ownBlock,yZ] at e
  omega
def IK:List Ex->Int->Int
 |[],n=>n
 |e::r,n=>if n<=5000 then IK r (n+KF e 5001) else n
def GL(x:Ar):Bool:=decide (x.lets.length<=100)&&(decide (x.crops.length<=100)&&(decide (x.reaches.length<=100)&&(decide (x.farms.length<=100)&&(decide (x.rots.length<=70)&&(decide (x.rights.length<=300)&&decide (x.duties.length<=300))))))
def Fs(l:List BG):Bool:=l.all fun d=>decide (d.turns.length<=70)
def Ey(x:Ar):Bool:=GL x&&(Fs x.rots&&decide (IK (F6 x) 0<=5000))
theorem RX:∀(l:List Ex) (n:Int),n<=IK l n
 |[],n=>by rw[IK];omega
 |e::r,n=>by
  rw[IK]
  split
  ·have h1:=(IJ e 5001).1
   have h2:=RX r (n+KF e 5001)
   omega
  ·omega
theorem Ps:∀(l:List Ex) (n:Int),0<=n->IK l n<=5000->∀e∈l,KF e 5001 < 5001
 |[],n,_,_=>by simp
 |e::r,n,hn,h=>by
  rw[IK] at h
  split at h
  ·have h1:=(IJ e 5001).1
   have h2:=RX r (n+KF e 5001)
   intro d hd
   rcases yO.1 hd with rfl|hd
   ·omega
   ·exact Ps r _ (by omega) h d hd
  ·omega
theorem RY(x:Ar):∀p∈As x,p.1∈F6 x:=by
 intro p e
 unfold F6 JI JH GW JG JF Jb QV
 unfold As Ff H9 EH Ha IT Ek FB FC at e
 have c:∀ {α:Type} {l:List α} {a:α} {i:Nat},(a,i)∈l.zipIdx->a∈l:=fun h=>by
  obtain ⟨_,h2,h3⟩:=List.mem_zipIdx h
  exact h3▸yJ _
 simp only[yv,yX,yO,za,zP,Prod.exists] at e ⊢
 rcases e with (rfl|rfl|rfl)|⟨d,i,b,rfl⟩|⟨d,i,b,rfl⟩|⟨d,i,b,h⟩|⟨d,i,b,rfl⟩|⟨d,i,b,h⟩|⟨d,i,b,h⟩|⟨d,i,b,rfl⟩
 ·simp
 ·simp
 ·simp
 ·exact .inl (.inl (.inl (.inl (.inl (.inl (.inl ⟨d,c b,rfl⟩))))))
 ·exact .inl (.inl (.inl (.inl (.inl (.inr ⟨d,c b,rfl⟩)))))
 ·refine .inl (.inl (.inl (.inl (.inr ⟨d,c b,?_⟩))))
  unfold Ev
  rcases h with rfl|rfl|rfl|rfl|rfl|rfl|rfl|rfl<;>simp
 ·exact .inl (.inl (.inl (.inr ⟨d,c b,rfl⟩)))
 ·refine .inl (.inl (.inr ⟨d,c b,?_⟩))
  unfold GS
  simp only[yv,yX,yO,za,zP]
  rcases h with (rfl|rfl|rfl)|⟨k,j,f,rfl⟩
  ·simp
  ·simp
  ·simp
  ·exact .inr ⟨k,c f,rfl⟩
 ·refine .inl (.inr ⟨d,c b,?_⟩)
  unfold Ew
  rcases h with rfl|rfl|rfl|rfl|rfl<;>simp
 ·exact .inr ⟨d,c b,rfl⟩
theorem QX{x:Ar}(h:GL x=true)(a:Fs x.rots=true):Fw x:=by
 unfold GL at h
 simp only[yE,yT] at h
 unfold Fs at a
 rw[yW] at a
 obtain ⟨h1,h2,h3,f,e,c,b⟩:=h
 exact ⟨h1,h2,h3,f,e,c,b,fun d hd=>by simpa using a d hd⟩
theorem Jc{x:Ar}(h:Ey x=true):Kf x∧∀e∈As x,At e.1<=1000000:=by
 unfold Ey at h
 simp only[yE,yT] at h
 obtain ⟨h1,h2,h3⟩:=h
 have a:=QX h1 h2
 have c:=Ps (F6 x) 0 (by omega) h3
 refine ⟨⟨by have:=a.lets;omega,by have:=a.crops;omega,by have:=a.reaches;omega,by have:=a.farms;omega,by have:=a.rots;omega,by have:=a.rights;omega,by have:=a.duties;omega,fun d hd=>by have:=a.turns d hd;omega,fun e b=>?_⟩,fun e b=>?_⟩
 ·exact Pm e.1 5001 (by omega) (c _ (RY x e b))
 ·have h1:=c _ (RY x e b)
  have h2:=Pl e.1 5001 h1
  omega
theorem VK{N:NP}{w:World}{L:Bt}{cs:LV}{x:Ar}(h:BH N w L cs x)(hN:∀b,N b->b < w.heap.size):
  Calls Tryz.prog 25 #[.agg cs.toArray] w fun e w'=>e=.returned (.bool (Ey x))∧Below w.heap.size w w':=by
 have f:Hid (Xl L x):=yb ⟨h.lets.1,h.crops.1,h.reaches.1,h.farms.1,h.rots.1,h.rights.1,h.duties.1⟩
 have A:=h.ok
 have D:=h.at
 obtain ⟨C,J⟩:∃C,C=w.alloc (.cells cs.toArray 35):=⟨_,rfl⟩
 have ae:Below w.heap.size w C:=by rw[J];exact (yg _ _).alloc (yf _) _
 have aq:C.heap.size=w.heap.size+1:=by rw[J];simp
 have ac:C.heap[w.heap.size]?=some (.cells cs.toArray 35 (0,0)):=by rw[J];exact World.alloc_heap_new _ _
 have h0:BH N C L cs x:=h.same (fun _ h=>h) (fun b hb=>ae.block b (hN b hb))
 have ah:=yb h0
 have y:=yb ae;have K:=yb aq;have ab:=yb hN;have cn:=yb A
 have bn:Hid (C.rangeAt w.heap.size 0 cs):=yb (by
  have:=zp ac 0 cs.length
  simpa using this)
 have d:∀q v,cs[q]?=some v->C.cell? (aV w.heap.size q)=some v:=fun q v hq=>by
  simp only[World.cell?,ac];simpa using hq
 have bo:Hid ((Tryz.prog.info? 35).map (·.size)=some cs.length):=yb (by
  obtain ⟨c0,c1,c2,rfl,g0,g1,g2⟩:=h.cells
  obtain ⟨a0,p0,rfl,e0⟩:=g0.cells
  obtain ⟨a1,p1,rfl,e1⟩:=g1.cells
  obtain ⟨a2,p2,rfl,e2⟩:=g2.cells
  kernel_rfl)
 have c4:C.cell? (aV w.heap.size 19)=some (.slice L.lets.a L.lets.n L.lets.c):=d _ _ D.lets
 have c5:C.cell? (aV w.heap.size 20)=some (.slice L.crops.a L.crops.n L.crops.c):=d _ _ D.crops
 have c6:C.cell? (aV w.heap.size 21)=some (.slice L.reaches.a L.reaches.n L.reaches.c):=d _ _ D.reaches
 have c7:C.cell? (aV w.heap.size 22)=some (.slice L.farms.a L.farms.n L.farms.c):=d _ _ D.farms
 have c8:C.cell? (aV w.heap.size 23)=some (.slice L.rots.a L.rots.n L.rots.c):=d _ _ D.rots
 have c9:C.cell? (aV w.heap.size 24)=some (.slice L.rights.a L.rights.n L.rights.c):=d _ _ D.rights
 have cl:C.cell? (aV w.heap.size 25)=some (.slice L.duties.a L.duties.n L.duties.c):=d _ _ D.duties
 have ci:=yb c8
 have l4:L.lets.n<=140737488355328:=A.lets.1
 have l5:L.crops.n<=140737488355328:=A.crops.1
 have l6:L.reaches.n<=140737488355328:=A.reaches.1
 have l7:L.farms.n<=140737488355328:=A.farms.1
 have l8:L.rots.n<=140737488355328:=A.rots.1
 have l9:L.rights.n<=140737488355328:=A.rights.1
 have cp:L.duties.n<=140737488355328:=A.duties.1
 have be:=yb J
 clear ae aq ac h0 hN J D A d
 obtain ⟨ks,ad⟩:∃ks,ks=cs:=⟨_,rfl⟩
 rw[<-ad] at ah bn bo
 have HK:=yb ad
 obtain ⟨q0,q1,q2,rfl,g0,g1,g2⟩:=h.cells
 obtain ⟨a0,p0,rfl,e0⟩:=g0.cells
 obtain ⟨a1,p1,rfl,e1⟩:=g1.cells
 obtain ⟨a2,p2,rfl,e2⟩:=g2.cells
 clear h g0 g1 g2 e0 e1 e2 ad
 unfold Aw.v at*
 simp only[yK,yQ] at be HK ⊢
 go_enter Tryz.func25,Tryz.ntmps25
 go_upto_region 1 with fail
 rw[<-be.o]
 by_cases av:L.lets.n<=100
 ·have am:decide ((L.lets.n:Int)>100)=false:=by simp;omega
  by_cases b7:L.crops.n<=100
  ·have bm:decide ((L.crops.n:Int)>100)=false:=by simp;omega
   by_cases bk:L.reaches.n<=100
   ·have bb:decide ((L.reaches.n:Int)>100)=false:=by simp;omega
    by_cases ap:L.farms.n<=100
    ·have ay:decide ((L.farms.n:Int)>100)=false:=by simp;omega
     by_cases aj:L.rots.n<=70
     ·have b5:decide ((L.rots.n:Int)>70)=false:=by simp;omega
      by_cases b9:L.rights.n<=300
      ·have ao:decide ((L.rights.n:Int)>300)=false:=by simp;omega
       by_cases ak:L.duties.n<=300
       ·have bh:decide ((L.duties.n:Int)>300)=false:=by simp;omega
        have ag:Hid (GL x=true):=yb (by
         have h1:=f.o.lets;have h2:=f.o.crops;have h3:=f.o.reaches;have h4:=f.o.farms;have h5:=f.o.rots;have h6:=f.o.rights;have h7:=f.o.duties
         unfold GL
         simp only[yE,yT]
         omega)
        clear av b7 bk ap aj b9 ak
        go_upto_region 3 with fail
        clear am bm bb ay b5 ao bh c4 c5 c6 c7 c8 c9 cl
        go_wp2
        have bj:Hid (Fs (x.rots.take 0)=true):=yb (by simp[Fs])
        have Y:=yb (yg C.heap.size C)
        go_loopw [3] (fun iv wr=>∃i:Nat,i<=L.rots.n∧iv=iV i∧Hid (Fs (x.rots.take i)=true)∧Hid (Below C.heap.size C wr)) (fun iv _=>L.rots.n - (intOf iv).toNat)
        case atStart=>exact ⟨0,yI _,rfl,bj,Y⟩
        case round=>
         clear bj Y
         obtain ⟨i,hi,rfl,HT,z⟩:=hrel
         have hf:wr.cell? (aV w.heap.size 23)=some (.slice L.rots.a L.rots.n L.rots.c):=(z.o.cell (p:=(aV w.heap.size 23)) (by rw[K.o];exact xW _)).trans ci.o
         by_cases M:i < L.rots.n
         ·have G:i < x.rots.length:=by rw[<-f.o.rots];exact M
          have T:(i:Int) < (L.rots.n:Int):=by omega
          obtain ⟨b,o,R,he,a7,ax,I,hv⟩:=ah.o.rots.2.2 i G
          have O:=A0 I (z.o.block b (by have:=ab.o b a7;have:=K.o;omega))
          have hz:R[22]?=some (A2 L i).v∧(A2 L i).n=x.rots[i].turns.length∧x.rots[i].turns.length<=140737488355328:=by
           obtain ⟨_,_,d0,d1,d2,rfl,k0,k1,k2,ht⟩:=hv
           have l0:=k0.len;have l1:=k1.len;have l2:=k2.len
           refine ⟨?_,ht.1,ht.2.1⟩
           have e:(Value.string x.rots[i].name::(AU x.rots[i].on++(iV x.rots[i].rank::(d0++(d1++(d2++[(A2 L i).v]))))))=(Value.string x.rots[i].name::(AU x.rots[i].on++(iV x.rots[i].rank::(d0++(d1++d2)))))++[(A2 L i).v]:=by simp
           rw[e,yN (by simp[Ay,l0,l1,l2])]
           simp[Ay,l0,l1,l2]
          have ct:wr.cell? (aV b (o+i*23+22))=some (.slice (A2 L i).a (A2 L i).n (A2 L i).c):=O 22 _ hz.1
          have lt:(A2 L i).n<=140737488355328:=by rw[hz.2.1];exact hz.2.2
          rw[he] at hf
          by_cases P:(A2 L i).n<=70
          ·have cg:decide (((A2 L i).n:Int)>70)=false:=by simp;omega
           have ck:Hid (Fs (x.rots.take (i+1))=true):=yb (by
            have h:=HT.o
            unfold Fs at h ⊢
            rw[yF G,xv,h]
            have:x.rots[i].turns.length<=70:=by rw[<-hz.2.1];exact P
            simp[this])
           clear P I O hz he hv ax a7
           go_wp2
           exact ⟨⟨i+1,by omega,by push_cast;rfl,ck,z⟩,by simp[intOf];omega⟩
          ·have cg:decide (((A2 L i).n:Int)>70)=true:=by simp;omega
           have B:Hid (Ey x=false):=yb (by
            have e:Fs x.rots=false:=by
             unfold Fs
             rw[xu]
             exact ⟨x.rots[i],yJ G,by rw[<-hz.2.1];simpa using P⟩
            unfold Ey
            rw[e];simp)
           clear P I O hz he hv ax a7
           go_wp2
           go_ret
           exact ⟨AK B.o.symm,y.o.trans (z.o.mono y.o.size)⟩
         ·obtain rfl:i=L.rots.n:=by omega
          have T:decide ((L.rots.n:Int) < (L.rots.n:Int))=false:=by simp
          have aa:Hid (Fs x.rots=true):=yb (by
           have h:=HT.o
           rw[f.o.rots,yS] at h
           exact h)
          have bv:=yb (A0 bn.o (z.o.block w.heap.size (by rw[K.o];exact xW _)))
          have cm:Hid (BH N wr L ks x):=yb (ah.o.same (fun _ h=>h) (fun b hb=>z.o.block b (by have:=ab.o b hb;have:=K.o;omega)))
          have bd:Hid (∀b,N b->b < wr.heap.size):=yb (fun b hb=>by have:=ab.o b hb;have:=K.o;have:=z.o.size;omega)
          go_wp2_with (first|(refine yj rfl 35 _ rfl w.heap.size 0 rfl ks _ bv.o qY rfl bo.o ?_)|(go_at_call 39;refine (VJ cm.o bd.o (QX ag.o aa.o)).mono ?_;rintro e w2 ⟨v2,rfl,ar⟩;have V:=yb ar;clear ar))
          obtain ⟨rows,b8,H⟩:=V.o.own
          have an:rows.length=(F6 x).length:=H.length
          have cj:=(QX ag.o aa.o).top.tE
          have b0:3<=(F6 x).length:=by
           unfold F6 JI JH GW JG JF Jb
           simp only[yn,yz,yH]
           omega
          rcases b8 with ⟨bu,⟨_,h3⟩|⟨g,cap,cu,rfl,ce,a8,ch,cf,hcs,bi⟩⟩
          ·omega
          have d:∀j u,rows.flatten[j]?=some u->w2.cell? (aV g j)=some u:=fun j u hj=>by
           rw[<-bi] at hj
           have M:=(yx.1 hj).1
           rw[zg] at M
           rw[xg,yw (by omega)] at hj
           simp only[World.cell?,a8]
           simpa using hj
          have b4:Hid (∀i (hi:i < (F6 x).length),∃c,w2.rangeAt g (i*6) c∧AI N wr (F6 x)[i] c):=yb (fun i hi=>by
           have bg:i < rows.length:=by omega
           refine ⟨rows[i],fun j u hj=>d _ _ ?_,H.get i bg hi⟩
           have au:∀(l:List LV) (k:Nat) (P:k < l.length),(∀r∈l,r.length=6)->∀j u,(l[k])[j]?=some u->l.flatten[k*6+j]?=some u:=by
            intro l
            induction l with
            |nil=>intro k P;simp at P
            |cons r t ih=>
             intro k P h6 j u hu
             have bx:=h6 r (by simp)
             cases k with
             |zero=>
              have al:r[j]?=some u:=hu
              have cd:=(yx.1 al).1
              simp only[zt,Nat.zero_mul,yy]
              rw[zk cd]
              exact al
             |succ k=>
              simp only[zt]
              rw[yN (by omega),bx,show (k+1)*6+j - 6=k*6+j by omega]
              exact ih k (by simpa using P) (fun r hr=>h6 r (by simp[hr])) j u (by simpa using hu)
           refine au rows i bg (fun r hr=>?_) j u hj
           obtain ⟨k,P,rfl⟩:=zc.1 hr
           exact (H.get k P (by omega)).len)
          have a6:Hid (rows.length=(F6 x).length):=yb an
          have az:rows.length<=140737488355328:=by omega
          have Q:Hid (Below w.heap.size w w2):=yb ((y.o.trans (z.o.mono y.o.size)).trans (V.o.below.mono (yu y.o.size z.o.size)))
          have bw:Hid (g < w2.heap.size):=yb (yd.1 a8).1
          have bp:Hid (∀W,Below w2.heap.size w2 W->∀b,N b->W.heap[b]?=wr.heap[b]?∧b < W.heap.size):=yb (fun W hW b hb=>by
           have h1:=bd.o b hb
           have h2:=V.o.below.size
           have h3:=hW.size
           exact ⟨(hW.block b (by omega)).trans (V.o.below.block b h1),by omega⟩)
          have B:Hid (Ey x=decide (IK (F6 x) 0<=5000)):=yb (by unfold Ey;rw[ag.o,aa.o];rfl)
          generalize hS:IK (F6 x) 0=S at B
          have bq:Hid (IK ((F6 x).drop 0) 0=S):=yb hS
          have Z:=yb (yg w2.heap.size w2)
          generalize bt:rows.length=m at a6 az
          clear hS bu a8 ch cf hcs bi d H an b0 cj hf T ce bt HT
          go_wp2
          go_loopw [4,6] (fun nv iv wr=>∃(i:Nat) (n:Int),nv=iV n∧iv=iV i∧i<=m∧0<=n∧n<=10001∧Hid (IK ((F6 x).drop i) n=S)∧Hid (Below w2.heap.size w2 wr)) (fun _ iv _=>m - (intOf iv).toNat)
          case atStart=>exact ⟨0,0,rfl,rfl,yI _,by omega,by omega,bq,Z⟩
          case round=>
           clear bq Z
           obtain ⟨i,n,rfl,rfl,hi,co,cr,HS,F⟩:=hrel
           by_cases M:i < m
           ·have G:i < (F6 x).length:=by rw[<-a6.o];exact M
            have T:(i:Int) < (m:Int):=by omega
            by_cases ba:n<=5000
            ·obtain ⟨c,I,U⟩:=b4.o i G
             have bz:=yb (A0 I (F.o.block g bw.o))
             have HC:=yb (UG (F6 x)[i] (w:=wr) (most:=5001) (AI.same (fun b h=>h) (fun b hb=>(bp.o wr F.o b hb).1) U) (fun b hb=>(bp.o wr F.o b hb).2) (by omega) (by omega))
             have ai:Hid (IK ((F6 x).drop (i+1)) (n+KF (F6 x)[i] 5001)=S):=yb (by
              have h:=HS.o
              rw[Ie G,IK,yw ba] at h
              exact h)
             have X:=IJ (F6 x)[i] 5001
             generalize (F6 x)[i]=E at U HC ai X
             generalize KF E 5001=s at HC ai X
             have cv:1<=s:=X.1
             have cq:s<=5001:=by omega
             obtain ⟨a',p',rfl,_⟩:=U.cells
             clear I U X
             go_wp2_with (first|(refine yj rfl 26 _ rfl g (i*6) (by simp[Act.eval]) [iV E.op,iV E.n,iV E.u,.string E.rn,iV E.ri,.slice a' E.args.length p'] _ bz.o qP rfl (by kernel_rfl) ?_)|(go_at_call 40;refine HC.o.mono ?_;rintro e w3 ⟨rfl,aw⟩;have cc:=yb (F.o.trans (aw.mono F.o.size));clear aw))
             exact ⟨⟨i+1,n+s,rfl,by go_num,by omega,by omega,by omega,ai,cc⟩,by simp[intOf];omega⟩
            ·have af:Hid (n=S):=yb (by
              have h:=HS.o
              rw[Ie G,IK,yq ba] at h
              exact h)
             go_wp2
             go_ret
             exact ⟨AK (by rw[B.o,<-af.o];exact (xw (by omega)).symm),Q.o.trans (F.o.mono Q.o.size)⟩
           ·obtain rfl:i=m:=by omega
            have af:Hid (n=S):=yb (by
             have h:=HS.o
             rw[a6.o,zJ,IK] at h
             exact h)
            have T:decide ((i:Int) < (i:Int))=false:=by simp
            go_wp2
            go_ret
            exact ⟨AK (by rw[B.o,<-af.o]),Q.o.trans (F.o.mono Q.o.size)⟩
       ·have bh:decide ((L.duties.n:Int)>300)=true:=by simp;omega
        have B:Hid (Ey x=false):=yb (by
         have h:=f.o.duties
         have e:decide (x.duties.length<=300)=false:=by simp;omega
         unfold Ey GL
         rw[e];simp)
        clear ak
        go_wp2
        go_ret
        exact ⟨AK B.o.symm,y.o⟩
      ·have ao:decide ((L.rights.n:Int)>300)=true:=by simp;omega
       have B:Hid (Ey x=false):=yb (by
        have h:=f.o.rights
        have e:decide (x.rights.length<=300)=false:=by simp;omega
        unfold Ey GL
        rw[e];simp)
       clear b9
       go_wp2
       go_ret
       exact ⟨AK B.o.symm,y.o⟩
     ·have b5:decide ((L.rots.n:Int)>70)=true:=by simp;omega
      have B:Hid (Ey x=false):=yb (by
       have h:=f.o.rots
       have e:decide (x.rots.length<=70)=false:=by simp;omega
       unfold Ey GL
       rw[e];simp)
      clear aj
      go_wp2
      go_ret
      exact ⟨AK B.o.symm,y.o⟩
    ·have ay:decide ((L.farms.n:Int)>100)=true:=by simp;omega
     have B:Hid (Ey x=false):=yb (by
      have h:=f.o.farms
      have e:decide (x.farms.length<=100)=false:=by simp;omega
      unfold Ey GL
      rw[e];simp)
     clear ap
     go_wp2
     go_ret
     exact ⟨AK B.o.symm,y.o⟩
   ·have bb:decide ((L.reaches.n:Int)>100)=true:=by simp;omega
    have B:Hid (Ey x=false):=yb (by
     have h:=f.o.reaches
     have e:decide (x.reaches.length<=100)=false:=by simp;omega
     unfold Ey GL
     rw[e];simp)
    clear bk
    go_wp2
    go_ret
    exact ⟨AK B.o.symm,y.o⟩
  ·have bm:decide ((L.crops.n:Int)>100)=true:=by simp;omega
   have B:Hid (Ey x=false):=yb (by
    have h:=f.o.crops
    have e:decide (x.crops.length<=100)=false:=by simp;omega
    unfold Ey GL
    rw[e];simp)
   clear b7
   go_wp2
   go_ret
   exact ⟨AK B.o.symm,y.o⟩
 ·have am:decide ((L.lets.n:Int)>100)=true:=by simp;omega
  have B:Hid (Ey x=false):=yb (by
   have h:=f.o.lets
   have e:decide (x.lets.length<=100)=false:=by simp;omega
   unfold Ey GL
   rw[e];simp)
  clear av
  go_wp2
  go_ret
  exact ⟨AK B.o.symm,y.o⟩
theorem FP{ops:Array Oper}{rest:List Oper}{op:Oper}{a:Act}{w:World}{Q:QT}(c:op.guard=none)(ty:TypeId)(x y:Operand)(d:op.op=.store ty x y)
 (b o:Nat)(f:a.eval x=.pointer (some ⟨b,o,none⟩))(v:Value)(i:a.eval y=v)(g:v.cells=#[v]){p q:LV}{m:Value}{t:TypeId}(hb:w.heap[b]?=some (.cells (p++(m::q)).toArray t (0,0)))(e:p.length=o)
 (hi:(Tryz.prog.info? ty).map (·.size)=some 1)(h1:v.oneCell'=true)
 (h:∀W',D3 w W' b (p++(v::q)) t->wpList Tryz.prog ops Q rest (a.put op.dst undef) W'):wpList Tryz.prog ops Q (op::rest) a w:=by
 refine GR c ty x y d b o v f i g (Jz hb (by simp;omega)) hi h1 ?_
 exact h _ (AA b t [v] o w p [m] q hb e rfl)
theorem Al{ops:Array Oper}{rest:List Oper}{op:Oper}{a:Act}{w:World}{Q:QT}(d:op.guard=none)(ty:TypeId)(x y:Operand)(e:op.op=.store ty x y)
 (b:Nat)(g:a.eval x=.pointer (some ⟨b,0,none⟩))(c:LV)(i:a.eval y=.agg c.toArray){m:Array Value}{t:TypeId}(hb:w.heap[b]?=some (.cells m t (0,0)))(j:m.size=c.length)
 (hi:(Tryz.prog.info? ty).map (·.size)=some c.length)(h1:∀v∈c,v.oneCell'=true)
 (h:∀W',D3 w W' b c t->wpList Tryz.prog ops Q rest (a.put op.dst undef) W'):wpList Tryz.prog ops Q (op::rest) a w:=by
 refine Ki d ty x y e b 0 g c i (p:=[]) (m:=m.toList) (q:=[]) (by simpa using hb) rfl (by simpa using j) hi h1 fun W' f=>h W' ?_
 simpa using f
theorem F7{c:LV}(h:c.length=6):(Tryz.prog.info? 26).map (·.size)=some c.length:=by rw[h];kernel_rfl
def FL(F:NP)(l:List Nat)(k:Nat):Prop:=F k∨k∈l
section
variable{F:NP}{l l':List Nat}{W W':World}{e:Ex}{c:LV}
theorem Xm(a:∀k∈l',k∈l∨W.heap.size<=k):∀b,FL F l' b->FL F l b∨W.heap.size<=b:=fun b hb=>hb.elim (fun h=>.inl (.inl h)) fun h=>(a b h).elim (fun h=>.inl (.inr h)) .inr
end
theorem K8{B:Nat}{W:World}{t e ty:TypeId}{h:TypeInfo}{z:Value}{size:Nat}(r:Tryz.prog.underlying t=some (.slice e))(hi:Tryz.prog.info? e=some h)(q:h.zero=some z)(l:h.size=size)
 {v:Value}{n:Nat}{xs:LV}(f:W.ownsRow B e size v n xs){g c:Nat}{row:LV}(D:W.heap[g]?=some (.cells row.toArray e (0,0)))(x:row.length=size)(p:∀u∈row,u.oneCell'=true)(o:(n+1)*h.bytes<=140737488355328)(y:n+1<=140737488355328){v':Value}{w':World}
 (a:(Builtin.append_ #[t,t] ty #[v,.slice (some ⟨g,0,none⟩) 1 c]).run Tryz.prog W=.ok v' w'):v'.ownBlock=v.ownBlock∨v'.ownBlock=some W.heap.size:=by
 have b:∀j u,row[j]?=some u->W.cell? (((aV g 0):Addr).add j)=some u:=fun j u I=>by
  rw[zA]
  simp only[World.cell?,D]
  simpa using I
 have m:row.length=1*h.size:=by rw[l,x,qo]
 have F:1*h.bytes<=(n+1)*h.bytes:=xR _ (by omega)
 rcases f.2 with ⟨rfl,H⟩|⟨k,cap,w,rfl,A,C,G,E,hcs,s⟩
 ·subst H
  rw[run_append_nil W t ty e h _ r hi q (aV g 0) 1 c row m b (by omega) (by omega) (by omega)] at a
  cases a
  exact .inr rfl
 ·by_cases d:n+1<=cap
  ·rw[run_append_room W t ty e h r hi k n cap w C (aV g 0) 1 c row m b p d (by
    rw[l,hcs,x]
    calc n*size+size=(n+1)*size:=by rw[Nat.add_mul];omega
     _<=cap*size:=xR _ d)] at a
   cases a
   exact .inl rfl
  ·have i:∀j u,xs[j]?=some u->W.cell? (((aV k 0):Addr).add j)=some u:=World.ownsRow.cells f (g:=k) rfl
   rw[run_append_grow W t ty e h _ r hi q (aV k 0) n cap xs (by rw[l];exact f.1) i (aV g 0) 1 c row m b (by omega) (by omega) (growslice_fits (by omega) o)] at a
   cases a
   exact .inr rfl
theorem Pv{o:Oper}{a:Act}{K:Act->World->Prop}{Q:QT}{W:World}{t e:TypeId}(A:Tryz.prog.underlying t=some (.slice e))(s x:Operand)(D:o.op=.call {callee:=.builtin .append,args:=#[s,x],argTypes:=#[t,t]})
 (size:Nat)(b:((Tryz.prog.info? e).bind fun i=>i.zero.map fun z=>(i.size,z.cells.size,decide (i.bytes<=72)))=some (size,size,true))(r:0 < size)
 (B:Nat)(v:Value)(n:Nat)(xs:LV)(hs:a.eval s=v)(k:W.ownsRow B e size v n xs)(g c:Nat)(row:LV)(F:a.eval x=.slice (some ⟨g,0,none⟩) 1 c)(C:W.heap[g]?=some (.cells row.toArray e (0,0)))(y:row.length=size)(l:∀u∈row,u.oneCell'=true)(q:(n+1)*72<=140737488355328)(m:B<=W.heap.size)
 (h:∀v' w',w'.ownsRow B e size v' (n+1) (xs++row)->W.grownBy w' v.ownBlock->(v'.ownBlock=v.ownBlock∨v'.ownBlock=some W.heap.size)->K (a.put o.dst v') w'):Oper.wp Tryz.prog o a W K Q:=by
 cases d:Tryz.prog.info? e with
 |none=>simp[d] at b
 |some i0=>
  cases w:i0.zero with
  |none=>simp[d,w] at b
  |some z=>
   simp only[d,w,xi,xx,yZ,zq,yT] at b
   obtain ⟨h1,h2,h3⟩:=b
   have f:(n+1)*i0.bytes<=140737488355328:=yu (Nat.mul_le_mul_left _ h3) q
   have p:∀j u,row[j]?=some u->W.cell? (((aV g 0):Addr).add j)=some u:=fun j u H=>by
    rw[zA]
    simp only[World.cell?,C]
    simpa using H
   obtain ⟨v',w',hr,G,E,_⟩:=run_append_own (P:=Tryz.prog) W B t o.type e i0 z size i0.bytes A d w h1 rfl h2 r v n xs k (aV g 0) 1 c row (by rw[y,qo]) p l (by unfold maxLen;omega) f m
   have hb:=K8 (ty:=o.type) A d w h1 k C y l f (by omega) hr
   unfold Oper.wp
   simp[execOp,D,resolve,invoke,builtin,hs,F,hr,Result.andThen]
   exact h v' w' G E hb
theorem Nc{o:Oper}{a:Act}{w:World}{K:Act->World->Prop}{Q:QT}(t e:TypeId)(x:Operand)(g:o.op=.buildSlice t 1 #[(0,x)])(cs:LV)(k:a.eval x=.agg cs.toArray)
 (n:Nat)(j:Tryz.prog.underlying t=some (.slice e))(hi:((Tryz.prog.info? e).bind fun i=>i.zero.map fun z=>(i.size,z.cells.size))=some (n,n))(m:cs.length=n)(c:0 < n)(d:n<=1000)
 (h:K (a.put o.dst (.slice (some ⟨w.heap.size,0,none⟩) 1 1)) (w.alloc (.cells cs.toArray e))):Oper.wp Tryz.prog o a w K Q:=by
 cases b:Tryz.prog.info? e with
 |none=>simp[b] at hi
 |some ie=>
  cases f:ie.zero with
  |none=>simp[b,f] at hi
  |some z=>
   simp only[b,f,xi,xx,yZ,zq] at hi
   obtain ⟨h1,h2⟩:=hi
   refine wp_buildSlice t e 1 _ g _ ie z j b f (by rw[h1];omega) (by rw[h1];omega) ?_ h
   have hs:((Array.range (1*ie.size)).map (z.cells[· % z.cells.size]!)).size=1*n:=by simp[h1]
   rw[h1] at hs ⊢
   generalize (Array.range (1*n)).map (z.cells[· % z.cells.size]!)=l at hs ⊢
   have:=Great.fill_whole (s:=n) c [.agg cs.toArray] l (by simp[Value.cells,m]) (by rw[hs];rfl)
   simp only[xV,List.zipIdx_nil,zu,zN,zh,zx,yU,Value.cells] at this
   simpa[k] using this
theorem S0{i m:Nat}(h:i < m)(a:m<=140737488355328):Value.int .i64 (wrap64 ((i:Int)+1))=.int .i64 ((i+1:Nat):Int):=by
 have e:((i:Int)+1)=((i+1:Nat):Int):=by push_cast;rfl
 rw[e,AH (by rw[Int.natAbs_natCast];exact yu h (yu a (by decide)))]
theorem S1{i m:Nat}(h:i < m):m - (intOf (.int .i64 ((i+1:Nat):Int))).toNat < m - (intOf (.int .i64 (i:Int))).toNat:=by
 simp only[intOf,Int.toNat_natCast];omega
def ob(v:Value):List Nat:=v.ownBlock.toList
def QZ{δ:Type}(V:NP->World->LV->δ->Prop):Prop:=∀(N N':NP) (w w':World) (cs:LV) (d:δ),(∀b,N b->N' b)->(∀b,N b->w'.heap[b]?=w.heap[b]?)->V N w cs d->V N' w' cs d
section
variable{δ:Type}{V:NP->World->LV->δ->Prop}{F F':NP}{l l':List Nat}{W W':World}{cs:LV}{d:δ}{v v':Value}{ds:List δ}{ty sz B C:Nat}
theorem QZ.flux(hs:QZ V)(h:V (GF F W) W cs d)(a:CG F W W')(c:∀b,F' b->F b∨W.heap.size<=b):V (GF F' W') W' cs d:=hs _ _ _ _ _ _ (fun _ hb=>hb.up a.1 c) (fun b hb=>a.2 b hb.2 hb.1) h
structure IL (V:(Nat->Prop)->World->List Value->δ->Prop) (ty sz B:Nat) (F:Nat->Prop) (l:List Nat) (W:World) (v:Value) (ds:List δ):Prop where
 own:∃rows:List (List Value),W.ownsRow B ty sz v rows.length rows.flatten∧(∀r∈rows,r.length=sz)∧AD (fun cs d=>V (GF (FL F (l++ob v)) W) W cs d) rows ds
theorem Pw:IL V ty sz B F l W (.slice none 0 0) []:=⟨[],⟨by simp,.inl ⟨rfl,rfl⟩⟩,by simp,trivial⟩
theorem NV{n:Nat}{xs:LV}(h:W.ownsRow B ty sz v n xs):∀k∈ob v,B<=k∧k < W.heap.size:=by
 intro k a
 rcases h.2 with ⟨rfl,_⟩|⟨g,cap,b,rfl,d,c,_⟩
 ·simp[ob,Value.ownBlock] at a
 ·simp only[ob,Value.ownBlock,Option.toList_some,zn] at a
  subst a
  exact ⟨d,(yd.1 c).1⟩
theorem IL.lt(h:IL V ty sz B F l W v ds):∀k∈ob v,B<=k∧k < W.heap.size:=by
 obtain ⟨rows,h1,_⟩:=h.own
 exact NV h1
theorem JL{n:Nat}{xs:LV}(h:W.ownsRow B ty sz v n xs):∃a m c,v=.slice a m c:=by
 rcases h.2 with ⟨rfl,_⟩|⟨g,cap,b,rfl,_⟩
 ·exact ⟨_,_,_,rfl⟩
 ·exact ⟨_,_,_,rfl⟩
theorem IL.slice(h:IL V ty sz B F l W v ds):∃a m c,v=.slice a m c:=by
 obtain ⟨rows,h1,_⟩:=h.own
 exact JL h1
theorem G1{n:Nat}{xs:LV}(h:W.ownsRow B ty sz v n xs)(hb:∀k∈ob v,W'.heap[k]?=W.heap[k]?):W'.ownsRow B ty sz v n xs:=by
 obtain ⟨h1,h2⟩:=h
 refine ⟨h1,h2.imp id ?_⟩
 rintro ⟨g,cap,a,rfl,d,c,b⟩
 exact ⟨g,cap,a,rfl,d,(hb g (by simp[ob,Value.ownBlock])).trans c,b⟩
theorem R0(a:∀k∈l',k∈l∨W.heap.size<=k):∀b,FL F l' b->FL F l b∨W.heap.size<=b:=Xm a
theorem IL.up(hs:QZ V)(h:IL V ty sz B F l W v ds)(b:CG (FL F (l++ob v)) W W')(hb:∀k∈ob v,W'.heap[k]?=W.heap[k]?)(c:∀k∈l',k∈l∨W.heap.size<=k):IL V ty sz B F l' W' v ds:=by
 obtain ⟨rows,h1,h2,h3⟩:=h.own
 refine ⟨rows,G1 h1 hb,h2,AD.mono (fun _ _ d=>hs.flux d b (R0 fun k a=>?_)) h3⟩
 rcases yv.1 a with a|a
 ·exact (c k a).imp (fun h=>yv.2 (.inl h)) id
 ·exact .inl (yv.2 (.inr a))
theorem CG.more(a:CG (FL F l) W W')(b:List Nat):CG (FL F (l++b)) W W':=a.wide fun _ _ h=>h.elim .inl fun h=>.inr (yv.2 (.inl h))
structure Xn (V:(Nat->Prop)->World->List Value->δ->Prop) (ty sz B:Nat) (F:Nat->Prop) (l:List Nat) (W W':World) (v v':Value) (ds:List δ):Prop where
 grow:IL V ty sz B F l W' v' ds
 flux:CG (FL F (l++ob v)) W W'
 below:Below B W W'
 obs:∀k∈l++ob v',k∈l++ob v∨W.heap.size<=k
theorem K9{rows:List LV}{row:LV}{o:Obj}(hs:QZ V)(t:AD (fun cs d=>V (GF (FL F (l++ob v)) W) W cs d) rows ds)(hr:∀r∈rows,r.length=sz)(f:W.ownsRow B ty sz v rows.length rows.flatten)
 (u:V (GF (FL F (l++ob v)) W) W row d)(i:row.length=sz)(j:W'.ownsRow B ty sz v' (rows.length+1) (rows.flatten++row))(a:(W.alloc o).grownBy W' v.ownBlock)(p:v'.ownBlock=v.ownBlock∨v'.ownBlock=some (W.alloc o).heap.size)(x:B<=W.heap.size):Xn V ty sz B F l W W' v v' (ds++[d]):=by
 have q:Below W.heap.size W (W.alloc o):=(yg _ _).alloc (yf _) _
 have s:(W.alloc o).heap.size=W.heap.size+1:=by simp
 have n:∀k∈ob v',k∈ob v∨W.heap.size<=k:=fun k b=>by
  rcases p with e|e
  ·left;unfold ob at b ⊢;rwa [e] at b
  ·right;unfold ob at b;rw[e,s] at b;simp at b;omega
 have g:CG (FL F (l++ob v)) W W':=by
  refine (CG.below q).trans ⟨a.size,fun k b w=>a.block k b fun e=>w (.inr (yv.2 (.inr ?_)))⟩
  unfold ob;rw[<-e];simp
 have c:∀k∈l++ob v',k∈l++ob v∨W.heap.size<=k:=fun k b=>by
  rcases yv.1 b with b|b
  ·exact .inl (yv.2 (.inl b))
  ·exact (n k b).imp (fun h=>yv.2 (.inr h)) id
 refine ⟨⟨rows++[row],by simpa using j,?_,?_⟩,g,?_,c⟩
 ·intro r m
  rcases yv.1 m with m|m
  ·exact hr r m
  ·rw[zn.1 m];exact i
 ·exact AD.append (AD.mono (fun _ _ h=>hs.flux h g (R0 c)) t) ⟨hs.flux u g (R0 c),trivial⟩
 ·refine (q.mono (by omega)).trans ⟨a.os,a.tape,a.output,a.size,fun k b=>a.block k (by omega) fun e=>?_⟩
  have:=(NV f k (by unfold ob;rw[<-e];simp)).1
  omega
theorem IL.row(hs:QZ V)(h:IL V ty sz B F l W v ds)(m:CG (FL F l) W W')(hb:∀k∈ob v,W'.heap[k]?=W.heap[k]?)(x:∀b,F b->b < B)(d:ds.length<=140737488355328):∃h:Aw,v=h.v∧BF (GF F W') W' sz (V (GF F W') W') h ds:=by
 obtain ⟨rows,h1,h2,h3⟩:=h.own
 have n:rows.length=ds.length:=AD.length h3
 have r:∀i (hi:i < ds.length) (a:i < rows.length),V (GF F W') W' rows[i] ds[i]:=fun i hi a=>hs.flux (AD.get h3 i a hi) (m.more _) (fun b hb=>.inl (.inl hb))
 rcases h1.2 with ⟨rfl,t⟩|⟨g,cap,s,rfl,y,o,C,z,A,q⟩
 ·exact ⟨⟨none,0,0⟩,rfl,by rw[<-n,t],d,fun i hi=>by omega⟩
 ·refine ⟨⟨some (aV g 0),rows.length,cap⟩,rfl,n,d,fun i hi=>?_⟩
  have a:i < rows.length:=by omega
  have f:=hb g (by simp[ob,Value.ownBlock])
  have w:=(yd.1 o).1
  refine ⟨g,0,rows[i],rfl,⟨fun h=>by have:=x g h;omega,by have:=m.1;omega⟩,h2 _ (yJ a),?_,r i hi a⟩
  intro j u p
  have e:j < sz:=by rw[<-h2 _ (yJ a)];exact (yx.1 p).1
  have c:=(Ga rows sz h2).2 i a j e
  rw[p,<-q] at c
  rw[xg] at c
  split at c
  ·simp only[World.cell?,f,o,yy]
   simpa using c
  ·cases c
end
def VR(N:NP)(w:World)(cs:LV)(d:Ex):Prop:=AI N w d cs
theorem Jf:QZ VR:=fun _ _ _ _ _ _ a hb h=>AI.same a hb h
theorem VS{N:NP}{W:World}{h:Aw}{ds:List Ex}(k:BF N W 6 (VR N W) h ds):Df N W h.a 0 ds:=by
 refine Ri fun i hi=>?_
 obtain ⟨b,o,cs,h1,h2,h3,d,c⟩:=k.2.2 i hi
 exact ⟨b,o,cs,h1,h2,by simpa using d,c⟩
theorem Hn:QZ H7:=fun _ _ _ _ _ _ a hb h=>h.same a hb
set_option linter.unusedSimpArgs false
structure WJ (fid:Nat) (caps:Array Value) (g:Ex->Ex) (J:(Nat->Prop)->World->Prop):Prop where
 stab:∀G G' W W',J G W->CG G W W'->(∀b,G' b->G b∨W.heap.size<=b)->J G' W'
 enter:∀args w,(callFunc fid args).run Tryz.prog w=.ok (.enter fid args) w
 call:∀(G:Nat->Prop) (W:World) (e:Ex) (cs:List Value),J G W->AI (GF G W) W e cs->(∀k,G k->k < W.heap.size)->
  Calls Tryz.prog fid (#[.agg cs.toArray]++caps) W fun x W'=>∃cs':List Value,x=.returned (.agg cs'.toArray)∧AI (GF G W') W' (g e) cs'∧Below W.heap.size W W'
def XE(c:Nat)(a:Array Value)(g:Ex->Ex)(J:NP->World->Prop)(left:Nat)(e:Ex):Prop:=∀(G:NP) (w:World) (cs:LV),Ft e->J G w->AI (GF G w) w e cs->(∀k,G k->k < w.heap.size)->
 Calls Tryz.prog 12 #[.agg cs.toArray,.int .i64 left,.func (.func c) #[] a] w fun x w'=>∃b:LV,x=.returned (.agg b.toArray)∧AI (GF G w') w' (Cr g left e) b∧Below w.heap.size w w'
structure V4 (w:World) (row:List Value) (wr:World):Prop where
 below:Below w.heap.size w wr
 box:wr.heap[w.heap.size]?=some (.cells row.toArray 26 (0,0))
 res:wr.heap[w.heap.size+1]?=some (.cells [Value.int .i64 0,.int .i64 0,.int .i64 0,.string {data:=#[]},.int .i64 0,.slice none 0 0].toArray 26 (0,0))
section
variable{w wr W:World}{row yr yr':LV}{C:Nat}
theorem V4.lt(h:V4 w row wr):w.heap.size+2<=wr.heap.size:=(yd.1 h.res).1
theorem V4.up(h:V4 w row wr)(a:w.heap.size+2<=C)(hb:Below C wr W):V4 w row W:=
 ⟨h.below.trans (hb.mono (by omega)),(hb.block _ (by omega)).trans h.box,(hb.block _ (by omega)).trans h.res⟩
theorem V4.wrote(h:V4 w row wr){b:Nat}{c:LV}{t:TypeId}(a:D3 wr W b c t)(hb:w.heap.size+2<=b):V4 w row W:=
 ⟨a.below h.below (by omega),(a.block _ (by omega)).trans h.box,(a.block _ (by omega)).trans h.res⟩
structure UN (w:World) (row yr:List Value) (wr:World):Prop where
 cb:V4 w row wr
 y:wr.heap[w.heap.size+2]?=some (.cells yr.toArray 26 (0,0))
theorem UN.lt(h:UN w row yr wr):w.heap.size+3<=wr.heap.size:=(yd.1 h.y).1
theorem UN.up(h:UN w row yr wr)(a:w.heap.size+3<=C)(hb:Below C wr W):UN w row yr W:=⟨h.cb.up (by omega) hb,(hb.block _ (by omega)).trans h.y⟩
theorem UN.wrote(h:UN w row yr wr)(a:D3 wr W (w.heap.size+2) yr' 26):UN w row yr' W:=⟨h.cb.wrote a (yf _),a.row⟩
end
theorem JM{w w1:World}{op nn u:Int}{rn:ByteArray}{ri:Int}{v:Value}(h:w1=(w.alloc (.cells #[.int .i64 op,.int .i64 nn,.int .i64 u,.string rn,.int .i64 ri,v] 26)).alloc (.cells #[.int .i64 0,.int .i64 0,.int .i64 0,.string {data:=#[]},.int .i64 0,.slice none 0 0] 26)):V4 w [.int .i64 op,.int .i64 nn,.int .i64 u,.string rn,.int .i64 ri,v] w1:=by
 subst h
 refine ⟨((yg _ _).alloc (yf _) _).alloc (by simp) _,?_,?_⟩
 ·rw[yA _ _ _ (by simp)];exact World.alloc_heap_new _ _
 ·have:=World.alloc_heap_new (w.alloc (.cells #[iV op,iV nn,iV u,.string rn,iV ri,v] 26)) (.cells #[iV 0,iV 0,iV 0,.string {data:=#[]},iV 0,.slice none 0 0] 26)
  simpa using this
theorem Tg{g:Ex->Ex}{left:Nat}{op n u:Int}{rn:ByteArray}{ri:Int}{args:List Ex}(h:args.length=0∨left=0):Cr g left (.mk op n u rn ri args)=g (.mk op n u rn ri args):=by
 cases left with
 |zero=>rw[Cr]
 |succ l=>rw[Cr,yw (h.resolve_right (by omega))]
theorem PD(g:Ex->Ex)(k:Nat):∀l,NC g k l=l.map (Cr g k)
 |[]=>by rw[NC];rfl
 |e::r=>by rw[NC,PD g k r];rfl
theorem Jh{B:Nat}{f:Array Value}{g:Ex->Ex}{J:NP->World->Prop}(L:WJ B f g J){left:Nat}{op nn u ri:Int}{rn:ByteArray}{args:List Ex}(h0:args.length=0∨left=0):XE B f g J left (.mk op nn u rn ri args):=by
 intro G w cs _ M F K
 rw[Tg h0]
 have I:=yb F
 obtain ⟨row,j⟩:∃r,r=cs:=⟨_,rfl⟩
 rw[<-j] at I
 have H:=yb j
 rw[AI] at F
 obtain ⟨a,cap,rfl,W, -, -⟩:=F
 generalize N:args.length=m at*
 have V:=yb N
 have P:=yb M
 have T:=yb K
 have E:=yb L
 clear M K L N j
 have D:m=0∨((((m:Int)==0)=false)∧left=0):=by
  rcases Nat.eq_zero_or_pos m with h|h
  ·exact .inl h
  ·exact .inr ⟨by simp;omega,h0.resolve_left (by omega)⟩
 clear h0
 rcases D with rfl|⟨R,rfl⟩
 all_goals
  go_enter Tryz.func12,Tryz.ntmps12
  refine Ab fun Q z=>?_
  go_wp2
  refine z.o _ _ ?_
  clear z Q
  generalize v:(w.alloc _).alloc _=w1
  have c:=JM v.symm
  obtain ⟨-, -, -, -, -,O⟩:=Cg c.box
  rw[<-H.o] at c
  have p:=yb c
  have s:Hid (CG G w w1):=yb (CG.below c.below)
  have A:Hid (∀b,FL G [w.heap.size,w.heap.size+1] b->G b∨w.heap.size<=b):=yb (fun b hb=>hb.imp id (fun h=>by simp at h;omega))
  have i:=yb (E.o.call (FL G [w.heap.size,w.heap.size+1]) w1 _ row (E.o.stab _ _ _ _ P.o s.o A.o) (I.o.flux s.o A.o) (fun k x=>by
   have h1:=c.lt
   rcases x with x|x
   ·have:=T.o k x;omega
   ·simp at x;omega))
  clear v c
  go_wp2_with (first
   |(with_reducible refine yj rfl 26 _ rfl w.heap.size 0 (by kernel_rfl) row _ (Ax p.o.box) qP (by kernel_rfl) (F7 I.o.len) ?_))
  rw[E.o.enter,Oper.upon_enter]
  refine i.o.mono ?_
  rintro e w2 ⟨res,rfl,t,y⟩
  have d:=yb t
  have C:=yb (p.o.up p.o.lt y)
  clear t y i
  rename_i S n
  first|refine n.o _ _ ?_|refine n _ _ ?_
  clear n S
  with_reducible refine Al rfl 26 _ _ rfl (w.heap.size+1) (by kernel_rfl) res (by kernel_rfl) C.o.res (by rw[d.o.len];kernel_rfl) (F7 d.o.len) (BA d.o) ?_
  intro U q
  have l:=yb q
  clear q
  go_wp2
  refine Bl rfl rfl l.o.row qP rfl (by rw[d.o.len];kernel_rfl) ?_
  exact ⟨res,rfl,d.o.flux (l.o.flux (.inr (by simp))) (fun b hb=>.inl (.inl hb)),l.o.below C.o.below (by omega)⟩
def XF(g:Ex->Ex)(G:NP)(w:World)(row a:LV)(left:Nat)(args:List Ex)(i:Nat)(wr:World):Prop:=
 ∃v,UN w row (a++(v::[])) wr∧IL VR 26 6 (w.heap.size+3) G [w.heap.size,w.heap.size+1,w.heap.size+2] wr v ((args.take i).map (Cr g left))
theorem Kb{a7:Nat}{s:Array Value}{g:Ex->Ex}{J:NP->World->Prop}(hc:WJ a7 s g J):∀(left:Nat),left<=9->∀e:Ex,XE a7 s g J left e:=by
 intro left
 induction left with
 |zero=>intro _ e;obtain ⟨op,nn,u,rn,ri,args⟩:=e;exact Jh hc (.inr rfl)
 |succ left ih=>
 intro cn e
 obtain ⟨op,nn,u,rn,ri,args⟩:=e
 by_cases h0:args.length=0
 ·exact Jh hc (.inl h0)
 intro G w cs hw hJ hv hG
 rw[Cr,yq h0,PD]
 rw[Ft] at hw
 obtain ⟨row,ak⟩:∃r,r=cs:=⟨_,rfl⟩
 have A:=yb ak
 rw[AI] at hv
 obtain ⟨a,cap,rfl,hl,bn,ac⟩:=hv
 obtain ⟨m,hm⟩:∃m,m=args.length:=⟨_,rfl⟩
 rw[<-hm] at ak A ⊢
 have d3:((m:Int)==0)=false:=by simp;omega
 have HM:=yb hm
 have HJ:=yb hJ
 have HG:=yb hG
 have HC:=yb hc
 have cq:=yb bn
 have bw:=yb ac
 have b0:=yb hw
 have IH:=yb (ih (by omega))
 have F:Hid (m<=1954687338268):=yb (by have:=hw.1;omega)
 obtain ⟨lf,c9⟩:∃lf:Int,((left+1:Nat):Int)=lf:=⟨_,rfl⟩
 have d6:(lf==0)=false:=by simp;omega
 have d4:IntKind.i64.wrap (lf - 1)=(left:Int):=by rw[IntKind.wrap_i64];omega
 rw[c9]
 clear c9 hJ hG hc hm ak bn ac hw ih h0 hl
 go_enter Tryz.func12,Tryz.ntmps12
 refine Ab fun K1 bk=>?_
 go_wp2
 refine bk.o _ _ ?_
 clear bk K1
 generalize ae:(w.alloc _).alloc _=w1
 have Z:=JM ae.symm
 have hz:w1.heap.size=w.heap.size+2:=by rw[<-ae];simp
 have HZ:=yb hz
 obtain ⟨-, -, -, -, -,aj⟩:=Cg Z.box
 rw[<-A.o] at Z
 have X:=yb Z
 have ap:Hid (row.length=6):=yb (by rw[A.o];rfl)
 have d1:Hid (∀v∈row,v.oneCell'=true):=yb (by rw[A.o];simp[Value.oneCell'])
 clear ae Z hz
 go_upto_region 4 with (first
  |(with_reducible refine yj rfl 26 _ rfl w.heap.size 0 (by kernel_rfl) row _ (Ax X.o.box) qP (by kernel_rfl) (F7 ap.o) ?_)
  |(with_reducible refine Al rfl 26 _ _ rfl w1.heap.size (by kernel_rfl) row (by kernel_rfl) (World.alloc_heap_new _ _) (by rw[ap.o];kernel_rfl) (F7 ap.o) d1.o ?_;intro x3 bp;have aq:=yb bp;clear bp))
 have c8:UN w row row x3:=⟨X.o.up (yf _) (aq.o.below ((yg _ _).alloc (by have:=X.o.lt;omega) _) (by have:=HZ.o;omega)),by rw[<-HZ.o];exact aq.o.row⟩
 rw[HZ.o]
 have au:=yb c8
 clear c8 aq X aj
 obtain ⟨N,P⟩:∃N:LV,N=[iV op,iV nn,iV u,.string rn,iV ri]:=⟨_,rfl⟩
 have a6:=yb P
 have ao:Hid (N.length=5):=yb (by rw[P];rfl)
 have b8:Hid (x3.heap[w.heap.size+2]?=some (.cells (N++(Value.slice a m cap::[])).toArray 26 (0,0))):=yb (by have h:=au.o.y;rw[A.o] at h;rw[P];exact h)
 clear P
 go_upto_region 5 with (first
  |(with_reducible refine FP rfl 24 _ _ rfl (w.heap.size+2) 5 (by kernel_rfl) (.slice none 0 0) (by kernel_rfl) (by kernel_rfl) (p:=N) (m:=.slice a m cap) (q:=[]) (t:=26) b8.o ao.o (by kernel_rfl) (by kernel_rfl) ?_;intro x4 ay;have ai:=yb (au.o.wrote ay);clear ay))
 have aj:x4.cell? (aV w.heap.size 5)=some (.slice a m cap):=by have h:=ai.o.cb.box;rw[A.o] at h;simp[World.cell?,h]
 obtain ⟨I,hI⟩:∃I:Nat->World->Prop,I=XF g G w row N left args:=⟨_,rfl⟩
 have HI:=yb hI
 have cg:Hid (I 0 x4):=yb (by rw[hI];exact ⟨_,ai.o,by simpa using Pw⟩)
 clear hI au ai b8
 go_wp2
 clear aj
 go_loopw [26] (fun iv wr=>∃i:Nat,iv=iV i∧i<=m∧Hid (I i wr)) (fun iv _=>m - (intOf iv).toNat)
 case atStart=>exact ⟨0,rfl,yI _,cg⟩
 case round=>
  clear cg
  obtain ⟨i,rfl,hi,bm⟩:=hrel
  obtain ⟨v,hY,ah⟩:XF g G w row N left args i wr:=by have h:=bm.o;rw[HI.o] at h;exact h
  obtain ⟨va,z,l,rfl⟩:=ah.slice
  have O:=yb hY;have B:=yb ah
  have ax:wr.cell? (aV (w.heap.size+2) 5)=some (.slice va z l):=by
   have h:=hY.y
   rw[a6.o] at h
   simp[World.cell?,h]
  have cx:=yb ax
  clear bm hY ah ax
  have an:m<=140737488355328:=by have:=F.o;omega
  by_cases Q:i < m
  ·have T:i < args.length:=by rw[<-HM.o];exact Q
   have be:(i:Int) < (m:Int):=by omega
   obtain ⟨bq,oq,ct,he,bg,aw,R⟩:=DX bw.o i T
   obtain rfl:a=some (aV bq oq):=he
   rw[yy] at aw
   have bu:Hid ((args.take (i+1)).map (Cr g left)=(args.take i).map (Cr g left)++[Cr g left args[i]]):=yb (by rw[yF T,zC];rfl)
   have cw:Hid ((i+1)*72<=140737488355328):=yb (by have:=b0.o.1;have:=HM.o;omega)
   have bb:Hid (Ft args[i]):=yb (Nd b0.o.2 i T)
   have ch:=yb (IH.o args[i])
   have cl:Hid (((args.take i).map (Cr g left)).length=i):=yb (by simp;omega)
   generalize hD:args[i]=D at R bu bb ch
   clear hD
   have bo:=yb R
   have a8:Hid (ct.length=6):=yb R.len
   have co:Hid (wr.rangeAt bq (oq+i*6) ct):=yb (A0 aw (O.o.cb.below.block bq bg.2))
   have ck:=yb (S0 Q an)
   have cc:Hid (i < m):=yb Q
   clear aw R bg T
   go_upto_region 8 with (first
    |(with_reducible refine yj rfl 26 _ rfl bq (oq+i*6) (by kernel_rfl) ct _ co.o qP (by kernel_rfl) (F7 a8.o) ?_)
    |(with_reducible refine Al rfl 26 _ _ rfl wr.heap.size (by kernel_rfl) ct (by kernel_rfl) (World.alloc_heap_new _ _) (by rw[yM,a8.o];kernel_rfl) (F7 a8.o) (BA bo.o) ?_;intro j b9;have al:=yb b9;clear b9))
   have Y:Hid (Below wr.heap.size wr j):=yb (al.o.below ((yg _ _).alloc (yf _) _) (yf _))
   have af:Hid (wr.heap.size < j.heap.size):=yb (by rw[al.o.size];simp)
   have cr:Hid (CG G w j):=yb (CG.below (O.o.cb.below.trans (Y.o.mono O.o.cb.below.size)))
   have b7:Hid (∀b,FL G ([w.heap.size,w.heap.size+1,w.heap.size+2]++ob (.slice va z l)) b->G b∨w.heap.size<=b):=yb (fun b hb=>hb.imp (fun h=>h) (fun h=>by
    rcases yv.1 h with h|h
    ·simp at h;omega
    ·have:=(B.o.lt b h).1;omega))
   have d0:Hid (∀b,FL G ([w.heap.size,w.heap.size+1,w.heap.size+2]++ob (.slice va z l)) b->b < wr.heap.size):=yb (fun k d=>by
    have h1:=O.o.lt
    rcases d with d|d
    ·have:=HG.o k d;omega
    ·rcases yv.1 d with h|h
     ·simp at h;omega
     ·exact (B.o.lt k h).2)
   have ad:Hid (∀V,Below j.heap.size j V->Calls Tryz.prog 12 #[.agg ct.toArray,iV left,.func (.func a7) #[] s] V fun x w'=>∃bd:LV,x=.returned (.agg bd.toArray)∧AI (GF (FL G ([w.heap.size,w.heap.size+1,w.heap.size+2]++ob (.slice va z l))) w') w' (Cr g left D) bd∧Below V.heap.size V w'):=yb (fun V hV=>by
    have hf:CG G w V:=cr.o.trans (CG.below hV)
    exact ch.o (FL G ([w.heap.size,w.heap.size+1,w.heap.size+2]++ob (.slice va z l))) V ct bb.o (HC.o.stab _ _ _ _ HJ.o hf b7.o) (bo.o.flux hf b7.o) (fun k d=>by have:=d0.o k d;have:=af.o;have:=hV.size;omega))
   have c:Hid (Below j.heap.size j j.drew):=yb (yg _ _).drew
   have aa:Hid (∀V,Below j.heap.size j V->V.cell? (aV (w.heap.size+2) 5)=some (.slice va z l)):=yb (fun V hV=>by
    have h1:=O.o.lt
    have h:=(hV.block (w.heap.size+2) (by have:=af.o;omega)).trans (Y.o.block (w.heap.size+2) (by omega))
    have h2:=cx.o
    unfold World.cell? at h2 ⊢
    simp only at h2 ⊢
    rw[h];exact h2)
   have bh:Hid (∀V,Below j.heap.size j V->V.rangeAt wr.heap.size 0 ct):=yb (fun V hV=>A0 (Ax al.o.row) (hV.block _ af.o))
   refine Di (by kernel_rfl) (fun V=>Below j.heap.size j V) 8 ?_
   refine Af (i:=0) (v:=pV (w.heap.size+2) 5) rfl (by kernel_rfl) (by kernel_rfl) (by kernel_rfl) (fun _ _ _ h=>h) (by kernel_rfl) (Or.inl ⟨by rfl,?_⟩) (fun _=>c.o) ?_
   ·intro W _;go_simp
   refine AO (i:=1) (v:=.slice va z l) rfl (by kernel_rfl) (by kernel_rfl) (by kernel_rfl) (fun _ _ _ h=>h) (by kernel_rfl) (Or.inl ⟨by rfl,?_⟩) c.o ?_
   ·intro W hW;have cu:=aa.o W hW;go_simp
   refine Af (i:=3) (v:=iV lf) rfl (by kernel_rfl) (by kernel_rfl) (by kernel_rfl) (fun _ _ _ h=>h) (by kernel_rfl) (Or.inl ⟨by rfl,?_⟩) (fun _=>c.o) ?_
   ·intro W _;go_simp
   refine Af (i:=4) (v:=iV left) rfl (by kernel_rfl) (by kernel_rfl) (by kernel_rfl) (fun _ _ _ h=>h) (by kernel_rfl) (Or.inl ⟨by rfl,?_⟩) (fun _=>c.o) ?_
   ·intro W _;go_simp
   refine Af (i:=5) (v:=.func (.func a7) #[] s) rfl (by kernel_rfl) (by kernel_rfl) (by kernel_rfl) (fun _ _ _ h=>h) (by kernel_rfl) (Or.inl ⟨by rfl,?_⟩) (fun _=>c.o) ?_
   ·intro W _;go_simp
   refine Ag (i:=2) (by kernel_rfl) rfl (fun K f=>?_)
   rw[yw (by kernel_rfl)]
   refine xU 26 _ rfl wr.heap.size 0 (by kernel_rfl) ct _ (bh.o _ c.o) qP rfl (F7 a8.o) ?_
   refine f.o _ _ (fun _=>c.o) ?_
   clear f K
   refine Ag (i:=6) (by kernel_rfl) rfl (fun K f=>?_)
   go_simp
   refine (ad.o _ c.o).mono ?_
   rintro e x2 ⟨res,rfl,bt,b4⟩
   have a2:Hid (Below j.heap.size j x2):=yb (c.o.trans (b4.mono c.o.size))
   have L:=yb bt
   refine f.o _ _ (fun _=>a2.o) ?_
   clear f K bt b4 ad c aa bh
   have ag:Hid (Below wr.heap.size wr x2):=yb (Y.o.trans (a2.o.mono Y.o.size))
   have ce:Hid (UN w row (N++(Value.slice va z l::[])) x2):=yb (O.o.up O.o.lt ag.o)
   obtain ⟨rows,S,bj,M⟩:=(B.o.up Jf (CG.below ag.o) (fun k d=>ag.o.block k (B.o.lt k d).2) (fun _ h=>.inl h)).own
   have ci:=yb S;have cj:=yb bj;have az:=yb M
   have ab:Hid (w.heap.size+3<=x2.heap.size):=yb ce.o.lt
   have ba:Hid ((x2.alloc (.cells res.toArray 26)).ownsRow (w.heap.size+3) 26 6 (.slice va z l) rows.length rows.flatten):=yb (G1 S fun k d=>((yg _ _).alloc (yf _) _).block k (NV S k d).2)
   have bi:Hid ((rows.length+1)*72<=140737488355328):=yb (by rw[AD.length M,cl.o];exact cw.o)
   have d2:Hid (w.heap.size+3<=(x2.alloc (.cells res.toArray 26)).heap.size):=yb (by have:=ab.o;simp;omega)
   clear S bj M
   refine Ag (i:=7) (by kernel_rfl) rfl (fun K f=>?_)
   rw[yw (by kernel_rfl)]
   refine Nc 24 26 _ rfl res (by kernel_rfl) 6 qO (by kernel_rfl) L.o.len (by omega) (by omega) ?_
   refine f.o _ _ (fun _=>a2.o.alloc a2.o.size _) ?_
   clear f K
   refine Ag (i:=8) (by kernel_rfl) rfl (fun K f=>?_)
   rw[yw (by kernel_rfl)]
   refine Pv qO _ _ rfl 6 (by kernel_rfl) (by omega) (w.heap.size+3) (.slice va z l) rows.length rows.flatten (by kernel_rfl) ba.o x2.heap.size 1 res (by kernel_rfl) (World.alloc_heap_new _ _) L.o.len (BA L.o) bi.o d2.o ?_
   intro vx x8 H cd b5
   obtain ⟨xa,xn,xc,rfl⟩:=JL H
   have am:=yb (K9 Jf az.o cj.o ci.o L.o L.o.len H cd b5 ab.o)
   clear H cd b5
   have ar:=yb (ce.o.up (yf _) am.o.below)
   refine f.o _ _ (by intro h;cases h) ?_
   clear f K
   have C:=ar.o.y
   rw[a6.o] at C
   have cp:=C
   have c5:x8.cell? (aV (w.heap.size+2) 5)=some (.slice va z l):=by simp[World.cell?,C]
   have f5:x8.frozen? (aV (w.heap.size+2) 5)=false:=by simp[World.frozen?,C]
   clear C cp
   refine Ag (i:=9) (by kernel_rfl) rfl (fun K f=>?_)
   go_simp
   refine f.o _ _ (by intro h;cases h) ?_
   clear f K
   refine Ag (i:=10) (by kernel_rfl) rfl (fun K f=>?_)
   go_simp
   refine f.o _ _ (by intro h;cases h) ?_
   clear f K
   refine Dh (by kernel_rfl) ?_
   have cf:D3 x8 (x8.setCell (aV (w.heap.size+2) 5) (.slice xa xn xc)) (w.heap.size+2) (N++(Value.slice xa xn xc::[])) 26:=AA _ _ [.slice xa xn xc] 5 x8 N [.slice va z l] [] ar.o.y ao.o rfl
   have av:=yb cf
   clear cf c5 f5 hi Q be
   go_wp2
   have cm:Hid (I (i+1) (x8.setCell (aV (w.heap.size+2) 5) (.slice xa xn xc))):=yb (by
    rw[HI.o]
    refine ⟨.slice xa xn xc,ar.o.wrote av.o,?_⟩
    have h:=am.o.grow.up (l':=[w.heap.size,w.heap.size+1,w.heap.size+2]) Jf (av.o.flux (.inr (by simp))) (fun k d=>av.o.block k (by have:=(am.o.grow.lt k d).1;omega)) (fun _ h=>.inl h)
    rw[<-bu.o] at h
    exact h)
   rw[ck.o]
   exact ⟨⟨i+1,rfl,cc.o,cm⟩,S1 cc.o⟩
  ·obtain rfl:i=m:=by omega
   have be:decide ((i:Int) < (i:Int))=false:=by simp
   have bz:Hid (IL VR 26 6 (w.heap.size+3) G [w.heap.size,w.heap.size+1,w.heap.size+2] wr (.slice va z l) (args.map (Cr g left))):=yb (by have h:=B.o;rw[HM.o,yS] at h;exact h)
   obtain ⟨DG,E⟩:∃r:LV,r=N++(Value.slice va z l::[]):=⟨_,rfl⟩
   have U:Hid (DG.length=6):=yb (by rw[E,yn,ao.o];rfl)
   have cv:=yb E
   have cy:Hid (∀v∈DG,v.oneCell'=true):=yb (by rw[E,a6.o];simp[Value.oneCell'])
   have cz:Hid (wr.heap[w.heap.size+2]?=some (.cells DG.toArray 26 (0,0))):=yb (by rw[E];exact O.o.y)
   clear E B
   go_wp2_with (first
    |(with_reducible refine yj rfl 26 _ rfl (w.heap.size+2) 0 (by kernel_rfl) DG _ (Ax cz.o) qP (by kernel_rfl) (F7 U.o) ?_)
    |(with_reducible refine Al rfl 26 _ _ rfl (w.heap.size+1) (by kernel_rfl) DG (by kernel_rfl) O.o.cb.res (by rw[U.o];kernel_rfl) (F7 U.o) cy.o ?_;intro x6 bv;have a0:=yb bv;clear bv))
   refine Bl rfl rfl a0.o.row qP rfl (by rw[U.o];kernel_rfl) ?_
   refine ⟨DG,rfl,?_,a0.o.below O.o.cb.below (by omega)⟩
   rw[cv.o,a6.o,AI]
   obtain ⟨h,he,bx⟩:=bz.o.row Jf (a0.o.flux (.inr (by simp))) (fun k d=>a0.o.block k (by have:=(bz.o.lt k d).1;omega)) (fun k d=>by have:=HG.o k d;omega) (by have:=HM.o;have:=F.o;simp;omega)
   have hn:h.n=(args.map (Cr g left)).length:=bx.1
   obtain ⟨ha,d5,cu⟩:=h
   simp only[Aw.v,qi] at he
   obtain ⟨rfl,rfl,rfl⟩:=he
   simp only at hn
   subst hn
   exact ⟨va,l,rfl,by have:=HM.o;have:=F.o;simp;omega,cq.o,VS bx⟩
set_option linter.unusedSimpArgs false
set_option linter.unusedVariables false
theorem PE{N N':NP}{w W:World}{op nn u:Int}{rn:ByteArray}{ri:Int}{args:List Ex}{cs:LV}(h:AI N w (.mk op nn u rn ri args) cs)(g:∀b,N b->N' b)(hb:∀b,N b->W.heap[b]?=w.heap[b]?):
  ∃a cap,cs=[.int .i64 op,.int .i64 nn,.int .i64 u,.string rn,.int .i64 ri,.slice a args.length cap]∧∀c d e:Int,AI N' W (.mk c d e rn ri args) [.int .i64 c,.int .i64 d,.int .i64 e,.string rn,.int .i64 ri,.slice a args.length cap]:=by
 rw[AI] at h
 obtain ⟨a,cap,h1,h2,h3,f⟩:=h
 refine ⟨a,cap,h1,fun c d e=>?_⟩
 rw[AI]
 exact ⟨a,cap,rfl,h2,h3,f.same g hb⟩
def WS(p:Nat)(v:Int)(G:NP)(W:World):Prop:=GF G W p∧W.cell? ⟨p,0,none⟩=some (.int .i64 v)
theorem WS.up{p:Nat}{v:Int}{G c:NP}{W W':World}(h:WS p v G W)(a:CG G W W')(d:∀b,c b->G b∨W.heap.size<=b):WS p v c W':=
 ⟨h.1.up a.1 d,by have h2:=h.2;unfold World.cell? at h2 ⊢;simp only at h2 ⊢;rw[a.2 p h.1.2 h.1.1];exact h2⟩
structure Xs (p q r:Nat) (a b c:Int) (G:Nat->Prop) (W:World):Prop where
 l:WS p a G W
 h:WS q b G W
 a:WS r c G W
theorem Rd{p q r:Nat}{fa fb fc:Int}(T:QY fa fb fc){G:NP}{w:World}{e:Ex}{cs:LV}(hJ:Xs p q r fa fb fc G w)(hv:AI (GF G w) w e cs):
  Calls Tryz.prog 27 #[.agg cs.toArray,.pointer (some ⟨p,0,none⟩),.pointer (some ⟨q,0,none⟩),.pointer (some ⟨r,0,none⟩)] w fun x w'=>∃a0:LV,x=.returned (.agg a0.toArray)∧AI (GF G w') w' (AX fa fb fc e) a0∧Below w.heap.size w w':=by
 have HJ:Hid (∀W,Below w.heap.size w W->W.cell? (aV p 0)=some (iV fa)∧W.cell? (aV q 0)=some (iV fb)∧W.cell? (aV r 0)=some (iV fc)):=yb (fun W Y=>
  ⟨(hJ.l.up (CG.below Y) (fun _ h=>.inl h)).2,(hJ.h.up (CG.below Y) (fun _ h=>.inl h)).2,(hJ.a.up (CG.below Y) (fun _ h=>.inl h)).2⟩)
 obtain ⟨op,nn,u,rn,ri,args⟩:=e
 obtain ⟨a,cap,rfl, -⟩:=PE hv (fun _ h=>h) (fun _ _=>rfl)
 have K:Hid (∀W,Below w.heap.size w W->∀Q n' u':Int,AI (GF G W) W (.mk Q n' u' rn ri args) [iV Q,iV n',iV u',.string rn,iV ri,.slice a args.length cap]):=yb (fun W Y Q n' u'=>by
  obtain ⟨a',a6,he,h⟩:=PE (N':=GF G W) (W:=W) hv (fun b hb=>hb.up Y.size (fun _ h=>.inl h)) (fun b hb=>Y.block b hb.2)
  simp only[xO,qi,and_true,qv] at he
  obtain ⟨rfl,rfl⟩:=he
  exact h Q n' u')
 clear hv hJ
 obtain ⟨E,j⟩:∃E,E=AX fa fb fc (.mk op nn u rn ri args):=⟨_,rfl⟩
 rw[<-j]
 rw[AX,show J3=1099511627776 from rfl] at j
 generalize args.length=m at K ⊢
 have a2:(E=.mk op nn u rn ri args∧(((op !=1)=true)∨((op !=1)=false∧decide (nn < 0)=true)∨((op !=1)=false∧decide (nn < 0)=false∧decide (1099511627776 < nn)=true)∨
    ((op !=1)=false∧decide (nn < 0)=false∧decide (1099511627776 < nn)=false∧(u==1)=false∧(u==2)=false∧(u==3)=false∧(u==4)=false∧(u==5)=false)))∨
   (E=.mk op (nn*fa) u rn ri args∧(op !=1)=false∧decide (nn < 0)=false∧decide (1099511627776 < nn)=false∧(((u==1)=true)∨((u==1)=false∧(u==2)=true))∧wrap64 (nn*fa)=nn*fa)∨
   (E=.mk op (nn*fb) u rn ri args∧(op !=1)=false∧decide (nn < 0)=false∧decide (1099511627776 < nn)=false∧(((u==1)=false∧(u==2)=false∧(u==3)=true)∨((u==1)=false∧(u==2)=false∧(u==3)=false∧(u==4)=true))∧wrap64 (nn*fb)=nn*fb)∨
   (E=.mk op (nn*fc) u rn ri args∧(op !=1)=false∧decide (nn < 0)=false∧decide (1099511627776 < nn)=false∧((u==1)=false∧(u==2)=false∧(u==3)=false∧(u==4)=false∧(u==5)=true)∧wrap64 (nn*fc)=nn*fc):=by
  clear K HJ
  by_cases h1:op=1
  rotate_left
  ·left;rw[yw (.inl h1)] at j;exact ⟨j,.inl (by simpa using h1)⟩
  by_cases h2:nn < 0
  ·left;rw[yw (.inr (.inl h2))] at j;exact ⟨j,.inr (.inl ⟨by simpa using h1,by simpa using h2⟩)⟩
  by_cases h3:1099511627776 < nn
  ·left;rw[yw (.inr (.inr h3))] at j;exact ⟨j,.inr (.inr (.inl ⟨by simpa using h1,by simpa using h2,by simpa using h3⟩))⟩
  rw[yq (fun h=>h.elim (fun k=>k h1) (fun h=>h.elim h2 h3))] at j
  have J:(op !=1)=false:=by simpa using h1
  have L:decide (nn < 0)=false:=by simpa using h2
  have M:decide (1099511627776 < nn)=false:=by simpa using h3
  have hb:∀f:Int,1<=f->f<=3->wrap64 (nn*f)=nn*f:=fun f g1 g3=>by
   have hc:f=1∨f=2∨f=3:=by omega
   rcases hc with rfl|rfl|rfl<;>exact AH (by omega)
  have wa:=hb fa T.a1 T.a3;have wb:=hb fb T.b1 T.b3;have wc:=hb fc T.c1 T.c3
  unfold Hl at j
  by_cases R:u=1
  ·rw[yw (.inl R)] at j;exact .inr (.inl ⟨j,J,L,M,.inl (by simpa using R),wa⟩)
  by_cases U:u=2
  ·rw[yw (.inr U)] at j;exact .inr (.inl ⟨j,J,L,M,.inr ⟨by simpa using R,by simpa using U⟩,wa⟩)
  rw[yq (fun h=>h.elim R U)] at j
  by_cases Z:u=3
  ·rw[yw (.inl Z)] at j;exact .inr (.inr (.inl ⟨j,J,L,M,.inl ⟨by simpa using R,by simpa using U,by simpa using Z⟩,wb⟩))
  by_cases u4:u=4
  ·rw[yw (.inr u4)] at j;exact .inr (.inr (.inl ⟨j,J,L,M,.inr ⟨by simpa using R,by simpa using U,by simpa using Z,by simpa using u4⟩,wb⟩))
  rw[yq (fun h=>h.elim Z u4)] at j
  by_cases u5:u=5
  ·rw[yw u5] at j;exact .inr (.inr (.inr ⟨j,J,L,M,⟨by simpa using R,by simpa using U,by simpa using Z,by simpa using u4,by simpa using u5⟩,wc⟩))
  rw[yq u5,Int.mul_one] at j
  exact .inl ⟨j,.inr (.inr (.inr ⟨J,L,M,by simpa using R,by simpa using U,by simpa using Z,by simpa using u4,by simpa using u5⟩))⟩
 clear j T
 rcases a2 with ⟨j,hT⟩|⟨j,J,L,M,hT,hw⟩|⟨j,J,L,M,hT,hw⟩|⟨j,J,L,M,⟨t1,t2,t3,t4,t5⟩,hw⟩
 ·rcases hT with J|⟨J,L⟩|⟨J,L,M⟩|⟨J,L,M,t1,t2,t3,t4,t5⟩
  all_goals
   subst j
   go_enter Tryz.func27,Tryz.ntmps27
   refine Ab fun X A=>?_
   go_wp2
   refine A.o _ _ ?_
   clear A X
   generalize t:(w.alloc _).alloc _=w1
   have c:=JM t.symm
   obtain ⟨c0,c1,c2, -, -, -⟩:=Cg c.box
   have n:=yb c
   clear t c
   obtain ⟨row,d⟩:∃r:LV,r=[iV op,iV nn,iV u,.string rn,iV ri,.slice a m cap]:=⟨_,rfl⟩
   rw[<-d] at n
   have F:=yb d
   have g:Hid (row.length=6):=yb (by rw[d];rfl)
   have H:Hid (∀v∈row,v.oneCell'=true):=yb (by rw[d];simp[Value.oneCell'])
   clear d
   go_wp2_with (first
    |(with_reducible refine yj rfl 26 _ rfl w.heap.size 0 (by kernel_rfl) row _ (Ax n.o.box) qP (by kernel_rfl) (F7 g.o) ?_)
    |(with_reducible refine Al rfl 26 _ _ rfl (w.heap.size+1) (by kernel_rfl) row (by kernel_rfl) n.o.res (by rw[g.o];kernel_rfl) (F7 g.o) H.o ?_;intro S B;have C:=yb B;clear B))
   refine Bl rfl rfl C.o.row qP rfl (by rw[g.o];kernel_rfl) ?_
   have D:=C.o.below n.o.below (by omega)
   exact ⟨row,rfl,by rw[F.o];exact K.o S D op nn u,D⟩
 ·rcases hT with t1|⟨t1,t2⟩
  all_goals
   subst j
   go_enter Tryz.func27,Tryz.ntmps27
   refine Ab fun X A=>?_
   go_wp2
   refine A.o _ _ ?_
   clear A X
   generalize t:(w.alloc _).alloc _=w1
   have c:=JM t.symm
   obtain ⟨c0,c1,c2, -, -, -⟩:=Cg c.box
   obtain ⟨g1,g2,g3⟩:=HJ.o w1 c.below
   have f1:w1.frozen? (aV w.heap.size 1)=false:=by simp[World.frozen?,c.box]
   have f2:w1.frozen? (aV w.heap.size 2)=false:=by simp[World.frozen?,c.box]
   have n:=yb c
   have s:D3 w1 (w1.setCell (aV w.heap.size 1) (iV (nn*fa))) w.heap.size _ 26:=AA _ _ [iV (nn*fa)] 1 w1 [iV op] [iV nn] [iV u,.string rn,iV ri,.slice a m cap] c.box rfl rfl
   have I:=yb s
   clear t c s
   go_upto_region 12 with fail
   have y:Below w.heap.size w (w1.setCell (aV w.heap.size 1) (iV (nn*fa))):=I.o.below n.o.below (yf _)
   have i:=I.o.row
   have z:=(I.o.block (w.heap.size+1) (by omega)).trans n.o.res
   simp only[yK,yQ] at i
   generalize (w1.setCell (aV w.heap.size 1) (iV (nn*fa)))=V at y i z ⊢
   obtain ⟨row,d⟩:∃r:LV,r=[iV op,iV (nn*fa),iV u,.string rn,iV ri,.slice a m cap]:=⟨_,rfl⟩
   rw[<-d] at i
   have F:=yb d
   have g:Hid (row.length=6):=yb (by rw[d];rfl)
   have H:Hid (∀v∈row,v.oneCell'=true):=yb (by rw[d];simp[Value.oneCell'])
   have O:=yb y;have N:=yb i;have P:=yb z
   clear d y i z I n
   go_wp2_with (first
    |(with_reducible refine yj rfl 26 _ rfl w.heap.size 0 (by kernel_rfl) row _ (Ax N.o) qP (by kernel_rfl) (F7 g.o) ?_)
    |(with_reducible refine Al rfl 26 _ _ rfl (w.heap.size+1) (by kernel_rfl) row (by kernel_rfl) P.o (by rw[g.o];kernel_rfl) (F7 g.o) H.o ?_;intro S B;have C:=yb B;clear B))
   refine Bl rfl rfl C.o.row qP rfl (by rw[g.o];kernel_rfl) ?_
   have D:=C.o.below O.o (by omega)
   exact ⟨row,rfl,by rw[F.o];exact K.o S D op (nn*fa) u,D⟩
 ·rcases hT with ⟨t1,t2,t3⟩|⟨t1,t2,t3,t4⟩
  all_goals
   subst j
   go_enter Tryz.func27,Tryz.ntmps27
   refine Ab fun X A=>?_
   go_wp2
   refine A.o _ _ ?_
   clear A X
   generalize t:(w.alloc _).alloc _=w1
   have c:=JM t.symm
   obtain ⟨c0,c1,c2, -, -, -⟩:=Cg c.box
   obtain ⟨g1,g2,g3⟩:=HJ.o w1 c.below
   have f1:w1.frozen? (aV w.heap.size 1)=false:=by simp[World.frozen?,c.box]
   have f2:w1.frozen? (aV w.heap.size 2)=false:=by simp[World.frozen?,c.box]
   have n:=yb c
   have s:D3 w1 (w1.setCell (aV w.heap.size 1) (iV (nn*fb))) w.heap.size _ 26:=AA _ _ [iV (nn*fb)] 1 w1 [iV op] [iV nn] [iV u,.string rn,iV ri,.slice a m cap] c.box rfl rfl
   have I:=yb s
   clear t c s
   go_upto_region 12 with fail
   have y:Below w.heap.size w (w1.setCell (aV w.heap.size 1) (iV (nn*fb))):=I.o.below n.o.below (yf _)
   have i:=I.o.row
   have z:=(I.o.block (w.heap.size+1) (by omega)).trans n.o.res
   simp only[yK,yQ] at i
   generalize (w1.setCell (aV w.heap.size 1) (iV (nn*fb)))=V at y i z ⊢
   obtain ⟨row,d⟩:∃r:LV,r=[iV op,iV (nn*fb),iV u,.string rn,iV ri,.slice a m cap]:=⟨_,rfl⟩
   rw[<-d] at i
   have F:=yb d
   have g:Hid (row.length=6):=yb (by rw[d];rfl)
   have H:Hid (∀v∈row,v.oneCell'=true):=yb (by rw[d];simp[Value.oneCell'])
   have O:=yb y;have N:=yb i;have P:=yb z
   clear d y i z I n
   go_wp2_with (first
    |(with_reducible refine yj rfl 26 _ rfl w.heap.size 0 (by kernel_rfl) row _ (Ax N.o) qP (by kernel_rfl) (F7 g.o) ?_)
    |(with_reducible refine Al rfl 26 _ _ rfl (w.heap.size+1) (by kernel_rfl) row (by kernel_rfl) P.o (by rw[g.o];kernel_rfl) (F7 g.o) H.o ?_;intro S B;have C:=yb B;clear B))
   refine Bl rfl rfl C.o.row qP rfl (by rw[g.o];kernel_rfl) ?_
   have D:=C.o.below O.o (by omega)
   exact ⟨row,rfl,by rw[F.o];exact K.o S D op (nn*fb) u,D⟩
 ·
  subst j
  go_enter Tryz.func27,Tryz.ntmps27
  refine Ab fun X A=>?_
  go_wp2
  refine A.o _ _ ?_
  clear A X
  generalize t:(w.alloc _).alloc _=w1
  have c:=JM t.symm
  obtain ⟨c0,c1,c2, -, -, -⟩:=Cg c.box
  obtain ⟨g1,g2,g3⟩:=HJ.o w1 c.below
  have f1:w1.frozen? (aV w.heap.size 1)=false:=by simp[World.frozen?,c.box]
  have f2:w1.frozen? (aV w.heap.size 2)=false:=by simp[World.frozen?,c.box]
  have n:=yb c
  have s:D3 w1 (w1.setCell (aV w.heap.size 1) (iV (nn*fc))) w.heap.size _ 26:=AA _ _ [iV (nn*fc)] 1 w1 [iV op] [iV nn] [iV u,.string rn,iV ri,.slice a m cap] c.box rfl rfl
  have I:=yb s
  clear t c s
  go_upto_region 12 with fail
  have y:Below w.heap.size w (w1.setCell (aV w.heap.size 1) (iV (nn*fc))):=I.o.below n.o.below (yf _)
  have i:=I.o.row
  have z:=(I.o.block (w.heap.size+1) (by omega)).trans n.o.res
  simp only[yK,yQ] at i
  generalize (w1.setCell (aV w.heap.size 1) (iV (nn*fc)))=V at y i z ⊢
  obtain ⟨row,d⟩:∃r:LV,r=[iV op,iV (nn*fc),iV u,.string rn,iV ri,.slice a m cap]:=⟨_,rfl⟩
  rw[<-d] at i
  have F:=yb d
  have g:Hid (row.length=6):=yb (by rw[d];rfl)
  have H:Hid (∀v∈row,v.oneCell'=true):=yb (by rw[d];simp[Value.oneCell'])
  have O:=yb y;have N:=yb i;have P:=yb z
  clear d y i z I n
  go_wp2_with (first
   |(with_reducible refine yj rfl 26 _ rfl w.heap.size 0 (by kernel_rfl) row _ (Ax N.o) qP (by kernel_rfl) (F7 g.o) ?_)
   |(with_reducible refine Al rfl 26 _ _ rfl (w.heap.size+1) (by kernel_rfl) row (by kernel_rfl) P.o (by rw[g.o];kernel_rfl) (F7 g.o) H.o ?_;intro S B;have C:=yb B;clear B))
  refine Bl rfl rfl C.o.row qP rfl (by rw[g.o];kernel_rfl) ?_
  have D:=C.o.below O.o (by omega)
  exact ⟨row,rfl,by rw[F.o];exact K.o S D op (nn*fc) u,D⟩
theorem PF{p q r:Nat}{fa fb fc:Int}(b:QY fa fb fc):WJ 27 #[.pointer (some ⟨p,0,none⟩),.pointer (some ⟨q,0,none⟩),.pointer (some ⟨r,0,none⟩)] (AX fa fb fc) (Xs p q r fa fb fc):=
 ⟨fun _ _ _ _ h b c=>⟨h.l.up b c,h.h.up b c,h.a.up b c⟩,fun _ _=>by kernel_rfl,fun _ _ _ _ e d _=>Rd b e d⟩
end Go.Proofs.YtjofgpfocadomaaGreatDoor
