/- Parts of the proof, in short words: Go Vc Hj Hk Hl -/
import Derived.Test.YtjofgpfocadomaaGreatDoorUi0
import Derived.Test.YtjofgpfocadomaaGreatDoorUi10
import Derived.Test.YtjofgpfocadomaaGreatDoorUi11
import Derived.Test.YtjofgpfocadomaaGreatDoorUi8
import Derived.Test.YtjofgpfocadomaaGreatDoorUi3
import Derived.Test.YtjofgpfocadomaaGreatDoorUi9
set_option maxRecDepth 100000
set_option maxHeartbeats 32000000
set_option linter.unusedSimpArgs false
namespace Go.Proofs.YtjofgpfocadomaaGreatDoor
open Go.RowKit
theorem PW{B:Nat}{W:World}{t e ty:TypeId}{i:TypeInfo}{z:Value}{size b:Nat}(A:Tryz.prog.underlying t=some (.slice e))(hi:Tryz.prog.info? e=some i)(r:i.zero=some z)(m:i.size=size)(s:i.bytes=b)(C:b<=10000)
 {v:Value}{n:Nat}{xs:LV}(f:W.ownsRow B e size v n xs){g c:Nat}{row:LV}(L:W.heap[g]?=some (.cells row.toArray e (0,0)))(E:row.length=size)(p:∀u∈row,u.oneCell'=true)(q:n+1<=1000000){v':Value}{w':World}
 (a:(Builtin.append_ #[t,t] ty #[v,.slice (some ⟨g,0,none⟩) 1 c]).run Tryz.prog W=.ok v' w'):v'.ownBlock=v.ownBlock∨v'.ownBlock=some W.heap.size:=by
 have D:(n+1)*b<=1000000*10000:=qt q C
 have d:∀j u,row[j]?=some u->W.cell? (((aV g 0):Addr).add j)=some u:=fun j u H=>by
  rw[zB]
  simp only[World.cell?,L]
  simpa using H
 have l:row.length=1*i.size:=by rw[m,E,qA]
 rcases f.2 with ⟨rfl,J⟩|⟨k,cap,y,rfl,I,G,K,F,x,w⟩
 ·subst J
  rw[run_append_nil W t ty e i _ A hi r (aV g 0) 1 c row l d (by omega) (by omega) (by rw[s];omega)] at a
  cases a
  exact .inr rfl
 ·by_cases h:n+1<=cap
  ·rw[run_append_room W t ty e i A hi k n cap y G (aV g 0) 1 c row l d p h (by
    rw[m,x,E]
    calc n*size+size=(n+1)*size:=by rw[Nat.add_mul];omega
     _<=cap*size:=xL _ h)] at a
   cases a
   exact .inl rfl
  ·have o:∀j u,xs[j]?=some u->W.cell? (((aV k 0):Addr).add j)=some u:=World.ownsRow.cells f (g:=k) rfl
   rw[run_append_grow W t ty e i _ A hi r (aV k 0) n cap xs (by rw[m];exact f.1) o (aV g 0) 1 c row l d (by omega) (by omega) (growslice_fits (by omega) (by rw[s];omega))] at a
   cases a
   exact .inr rfl
theorem Jh{ops:Array Oper}{rest:List Oper}{o:Oper}{a:Act}{Q:QT}{W:World}{t e:TypeId}(C:Tryz.prog.underlying t=some (.slice e))(w:o.guard=none)(s x:Operand)(J:o.op=.call {callee:=.builtin .append,args:=#[s,x],argTypes:=#[t,t]})
 (size:Nat)(b:((Tryz.prog.info? e).bind fun i=>i.zero.map fun z=>(i.size,z.cells.size,decide (i.bytes<=10000)))=some (size,size,true))(q:0 < size)
 (B:Nat)(v:Value)(n:Nat)(xs:LV)(hs:a.eval s=v)(k:W.ownsRow B e size v n xs)(g c:Nat)(row:LV)(I:a.eval x=.slice (some ⟨g,0,none⟩) 1 c)(D:W.heap[g]?=some (.cells row.toArray e (0,0)))(A:row.length=size)(f:∀u∈row,u.oneCell'=true)(l:n+1<=1000000)(m:B<=W.heap.size)
 (h:∀v' w',w'.ownsRow B e size v' (n+1) (xs++row)->W.grownBy w' v.ownBlock->(v'.ownBlock=v.ownBlock∨v'.ownBlock=some W.heap.size)->wpList Tryz.prog ops Q rest (a.put o.dst v') w'):wpList Tryz.prog ops Q (o::rest) a W:=by
 cases d:Tryz.prog.info? e with
 |none=>simp[d] at b
 |some i0=>
  cases r:i0.zero with
  |none=>simp[d,r] at b
  |some z=>
   simp only[d,r,xu,xB,za,zr,z7] at b
   obtain ⟨h1,h2,h3⟩:=b
   have y:(n+1)*i0.bytes<=1000000*10000:=qt l h3
   have p:∀j u,row[j]?=some u->W.cell? (((aV g 0):Addr).add j)=some u:=fun j u G=>by
    rw[zB]
    simp only[World.cell?,D]
    simpa using G
   obtain ⟨v',w',hr,E,H,_⟩:=run_append_own (P:=Tryz.prog) W B t o.type e i0 z size i0.bytes C d r h1 rfl h2 q v n xs k (aV g 0) 1 c row (by rw[A,qA]) p f (by unfold maxLen;omega) (by omega) m
   have hb:=PW (ty:=o.type) C d r h1 rfl h3 k D A f l hr
   refine zx w fun K F=>?_
   unfold Oper.wp
   simp[execOp,J,resolve,invoke,builtin,hs,I,hr,Result.andThen]
   exact F _ _ (h v' w' E H hb)
def L6(k:Kn):LV:=[.string k.name,.int .i64 k.q.dim.l,.int .i64 k.q.dim.h,.int .i64 k.q.dim.a,.int .i64 k.q.v.n,.int .i64 k.q.v.d,.int .i64 k.q.e,.bool k.ok]
def L7(B:Nat)(W:World)(v:Value)(a:List Kn):Prop:=W.ownsRow B 98 8 v a.length (a.flatMap L6)
theorem RT(B:Nat)(W:World):L7 B W (.slice none 0 0) []:=⟨by simp,.inl ⟨rfl,rfl⟩⟩
theorem Mu{B:Nat}{W:World}{v:Value}{a:List Kn}(h:L7 B W v a)(e:a.length<=140737488355328):∃h:Au,v=h.v∧Ph W h a:=by
 have f:=FY (a.map L6) 8 (fun cs q=>by obtain ⟨k, -,rfl⟩:=xR.1 q;rfl)
 have m:(a.map L6).flatten=a.flatMap L6:=by rw[List.flatMap_def]
 rw[m] at f
 rcases h.2 with ⟨rfl,o⟩|⟨g,cap,n,rfl,s,h5,h6,t,r,p⟩
 ·exact ⟨⟨none,0,0⟩,rfl,o.symm,e,fun i hi=>by omega⟩
 ·refine ⟨⟨some (aV g 0),a.length,cap⟩,rfl,rfl,e,fun i hi=>?_⟩
  have d:=(yd.1 h5).1
  refine ⟨g,0,L6 a[i],rfl,d,rfl,?_,rfl⟩
  intro j u l
  have c:j < 8:=(yA.1 l).1
  have b:=f.2 i (by simpa using hi) j c
  rw[zG,l,<-p] at b
  rw[zN] at b
  split at b
  ·simp only[World.cell?,h5,yy]
   simpa using b
  ·cases b
theorem JN{B:Nat}{W W':World}{v:Value}{a:List Kn}(h:L7 B W v a)(hb:Below W.heap.size W W'):L7 B W' v a:=by
 refine ⟨h.1,h.2.imp id ?_⟩
 rintro ⟨g,cap,b,rfl,c,h5,h6⟩
 exact ⟨g,cap,b,rfl,c,(hb.block g (yd.1 h5).1).trans h5,h6⟩
theorem OC{B:Nat}{b W W':World}{v:Value}{n:Nat}{xs:LV}(h:W.ownsRow B 98 8 v n xs)(d:Below B b W)(j:B<=W.heap.size)(a:W.grownBy W' v.ownBlock):Below B b W':=by
 refine d.trans ⟨a.os,a.tape,a.output,a.size,fun k f=>a.block k (by omega) (fun e=>?_)⟩
 rcases h.2 with ⟨rfl, -⟩|⟨g,cap,c,rfl,i, -⟩
 ·simp[Value.ownBlock] at e
 ·simp only[Value.ownBlock,za] at e
  omega
def Iy:List Ex->Int->Int
 |[],n=>n
 |e::r,n=>if n<=5000 then Iy r (n+Kk e 5001) else n
def GH(x:Av):Bool:=decide (x.lets.length<=100)&&(decide (x.crops.length<=100)&&(decide (x.reaches.length<=100)&&(decide (x.farms.length<=100)&&(decide (x.rots.length<=70)&&(decide (x.rights.length<=300)&&decide (x.duties.length<=300))))))
def Fo(l:List Br):Bool:=l.all fun d=>decide (d.turns.length<=70)
def EX(x:Av):Bool:=GH x&&(Fo x.rots&&decide (Iy (F6 x) 0<=5000))
theorem R9:∀(l:List Ex) (n:Int),n<=Iy l n
 |[],n=>by rw[Iy];omega
 |e::r,n=>by
  rw[Iy]
  split
  ·have h1:=(Ix e 5001).1
   have h2:=R9 r (n+Kk e 5001)
   omega
  ·omega
theorem P4:∀(l:List Ex) (n:Int),0<=n->Iy l n<=5000->∀e∈l,Kk e 5001 < 5001
 |[],n,_,_=>by simp
 |e::r,n,hn,h=>by
  rw[Iy] at h
  split at h
  ·have h1:=(Ix e 5001).1
   have h2:=R9 r (n+Kk e 5001)
   intro d hd
   rcases yI.1 hd with rfl|hd
   ·omega
   ·exact P4 r _ (by omega) h d hd
  ·omega
theorem Ra(x:Av):∀p∈Ax x,p.1∈F6 x:=by
 intro p e
 unfold F6 Jt Js GM Jr Jq IV Qf
 unfold Ax JB Il Fc Im JC Em Gj Gk at e
 have c:∀ {α:Type} {l:List α} {a:α} {i:Nat},(a,i)∈l.zipIdx->a∈l:=fun h=>by
  obtain ⟨_,h2,h3⟩:=List.mem_zipIdx h
  exact h3▸yM _
 simp only[yz,yY,yI,yZ,zH,Prod.exists] at e ⊢
 rcases e with (rfl|rfl|rfl)|⟨d,i,b,rfl⟩|⟨d,i,b,rfl⟩|⟨d,i,b,h⟩|⟨d,i,b,rfl⟩|⟨d,i,b,h⟩|⟨d,i,b,h⟩|⟨d,i,b,rfl⟩
 ·simp
 ·simp
 ·simp
 ·exact .inl (.inl (.inl (.inl (.inl (.inl (.inl ⟨d,c b,rfl⟩))))))
 ·exact .inl (.inl (.inl (.inl (.inl (.inr ⟨d,c b,rfl⟩)))))
 ·refine .inl (.inl (.inl (.inl (.inr ⟨d,c b,?_⟩))))
  unfold Ey
  rcases h with rfl|rfl|rfl|rfl|rfl|rfl|rfl|rfl<;>simp
 ·exact .inl (.inl (.inl (.inr ⟨d,c b,rfl⟩)))
 ·refine .inl (.inl (.inr ⟨d,c b,?_⟩))
  unfold GL
  simp only[yz,yY,yI,yZ,zH]
  rcases h with (rfl|rfl|rfl)|⟨k,j,f,rfl⟩
  ·simp
  ·simp
  ·simp
  ·exact .inr ⟨k,c f,rfl⟩
 ·refine .inl (.inr ⟨d,c b,?_⟩)
  unfold Ez
  rcases h with rfl|rfl|rfl|rfl|rfl<;>simp
 ·exact .inr ⟨d,c b,rfl⟩
theorem Qh{x:Av}(h:GH x=true)(a:Fo x.rots=true):Fw x:=by
 unfold GH at h
 simp only[yG,z7] at h
 unfold Fo at a
 rw[yR] at a
 obtain ⟨h1,h2,h3,b,h5,h6,c⟩:=h
 exact ⟨h1,h2,h3,b,h5,h6,c,fun d hd=>by simpa using a d hd⟩
theorem P5{x:Av}(h:EX x=true):MS x∧∀e∈Ax x,Ar e.1<=1000000:=by
 unfold EX at h
 simp only[yG,z7] at h
 obtain ⟨h1,h2,h3⟩:=h
 have a:=Qh h1 h2
 have c:=P4 (F6 x) 0 (by omega) h3
 refine ⟨⟨by have:=a.lets;omega,by have:=a.crops;omega,by have:=a.reaches;omega,by have:=a.farms;omega,by have:=a.rots;omega,by have:=a.rights;omega,by have:=a.duties;omega,fun d hd=>by have:=a.turns d hd;omega,fun e b=>?_⟩,fun e b=>?_⟩
 ·exact P0 e.1 5001 (by omega) (c _ (Ra x e b))
 ·have h1:=c _ (Ra x e b)
  have h2:=OZ e.1 5001 h1
  omega
theorem UL{N:NP}{w:World}{L:Bt}{cs:LV}{x:Av}(h:BH N w L cs x)(hN:∀b,N b->b < w.heap.size):
  Calls Tryz.prog 25 #[.agg cs.toArray] w fun e w'=>e=.returned (.bool (EX x))∧Below w.heap.size w w':=by
 have f:Hid (Wb L x):=yb ⟨h.lets.1,h.crops.1,h.reaches.1,h.farms.1,h.rots.1,h.rights.1,h.duties.1⟩
 have C:=h.ok
 have D:=h.at
 obtain ⟨B,M⟩:∃B,B=w.alloc (.cells cs.toArray 35):=⟨_,rfl⟩
 have a8:Below w.heap.size w B:=by rw[M];exact (yg _ _).alloc (yf _) _
 have ak:B.heap.size=w.heap.size+1:=by rw[M];simp
 have ag:B.heap[w.heap.size]?=some (.cells cs.toArray 35 (0,0)):=by rw[M];exact World.alloc_heap_new _ _
 have h0:BH N B L cs x:=h.same (fun _ h=>h) (fun b hb=>a8.block b (hN b hb))
 have ab:=yb h0
 have y:=yb a8;have J:=yb ak;have ai:=yb hN;have cv:=yb C
 have bt:Hid (B.rangeAt w.heap.size 0 cs):=yb (by
  have:=zo ag 0 cs.length
  simpa using this)
 have d:∀q v,cs[q]?=some v->B.cell? (aV w.heap.size q)=some v:=fun q v hq=>by
  simp only[World.cell?,ag];simpa using hq
 have ax:Hid ((Tryz.prog.info? 35).map (·.size)=some cs.length):=yb (by
  obtain ⟨c0,c1,c2,rfl,g0,g1,g2⟩:=h.cells
  obtain ⟨a0,p0,rfl,e0⟩:=g0.cells
  obtain ⟨a1,p1,rfl,e1⟩:=g1.cells
  obtain ⟨a2,p2,rfl,e2⟩:=g2.cells
  kernel_rfl)
 have c4:B.cell? (aV w.heap.size 19)=some (.slice L.lets.a L.lets.n L.lets.c):=d _ _ D.lets
 have c5:B.cell? (aV w.heap.size 20)=some (.slice L.crops.a L.crops.n L.crops.c):=d _ _ D.crops
 have c6:B.cell? (aV w.heap.size 21)=some (.slice L.reaches.a L.reaches.n L.reaches.c):=d _ _ D.reaches
 have c7:B.cell? (aV w.heap.size 22)=some (.slice L.farms.a L.farms.n L.farms.c):=d _ _ D.farms
 have c8:B.cell? (aV w.heap.size 23)=some (.slice L.rots.a L.rots.n L.rots.c):=d _ _ D.rots
 have c9:B.cell? (aV w.heap.size 24)=some (.slice L.rights.a L.rights.n L.rights.c):=d _ _ D.rights
 have bz:B.cell? (aV w.heap.size 25)=some (.slice L.duties.a L.duties.n L.duties.c):=d _ _ D.duties
 have ch:=yb c8
 have l4:L.lets.n<=140737488355328:=C.lets.1
 have l5:L.crops.n<=140737488355328:=C.crops.1
 have l6:L.reaches.n<=140737488355328:=C.reaches.1
 have l7:L.farms.n<=140737488355328:=C.farms.1
 have l8:L.rots.n<=140737488355328:=C.rots.1
 have l9:L.rights.n<=140737488355328:=C.rights.1
 have cu:L.duties.n<=140737488355328:=C.duties.1
 have bo:=yb M
 clear a8 ak ag h0 hN M D C d
 obtain ⟨ks,ad⟩:∃ks,ks=cs:=⟨_,rfl⟩
 rw[<-ad] at ab bt ax
 have HK:=yb ad
 obtain ⟨q0,q1,q2,rfl,g0,g1,g2⟩:=h.cells
 obtain ⟨a0,p0,rfl,e0⟩:=g0.cells
 obtain ⟨a1,p1,rfl,e1⟩:=g1.cells
 obtain ⟨a2,p2,rfl,e2⟩:=g2.cells
 clear h g0 g1 g2 e0 e1 e2 ad
 unfold Au.v at*
 simp only[yP,yS] at bo HK ⊢
 go_enter Tryz.func25,Tryz.ntmps25
 go_upto_region 1 with fail
 rw[<-bo.o]
 by_cases b5:L.lets.n<=100
 ·have bn:decide ((L.lets.n:Int)>100)=false:=by simp;omega
  by_cases an:L.crops.n<=100
  ·have b4:decide ((L.crops.n:Int)>100)=false:=by simp;omega
   by_cases ap:L.reaches.n<=100
   ·have av:decide ((L.reaches.n:Int)>100)=false:=by simp;omega
    by_cases bi:L.farms.n<=100
    ·have au:decide ((L.farms.n:Int)>100)=false:=by simp;omega
     by_cases bk:L.rots.n<=70
     ·have ba:decide ((L.rots.n:Int)>70)=false:=by simp;omega
      by_cases ar:L.rights.n<=300
      ·have bd:decide ((L.rights.n:Int)>300)=false:=by simp;omega
       by_cases bp:L.duties.n<=300
       ·have am:decide ((L.duties.n:Int)>300)=false:=by simp;omega
        have aa:Hid (GH x=true):=yb (by
         have h1:=f.o.lets;have h2:=f.o.crops;have h3:=f.o.reaches;have h4:=f.o.farms;have h5:=f.o.rots;have h6:=f.o.rights;have h7:=f.o.duties
         unfold GH
         simp only[yG,z7]
         omega)
        clear b5 an ap bi bk ar bp
        go_upto_region 3 with fail
        clear bn b4 av au ba bd am c4 c5 c6 c7 c8 c9 bz
        go_wp2
        have ay:Hid (Fo (x.rots.take 0)=true):=yb (by simp[Fo])
        have Z:=yb (yg B.heap.size B)
        go_loopw [3] (fun iv wr=>∃i:Nat,i<=L.rots.n∧iv=iV i∧Hid (Fo (x.rots.take i)=true)∧Hid (Below B.heap.size B wr)) (fun iv _=>L.rots.n - (intOf iv).toNat)
        case atStart=>exact ⟨0,yK _,rfl,ay,Z⟩
        case round=>
         clear ay Z
         obtain ⟨i,hi,rfl,HT,A⟩:=hrel
         have hf:wr.cell? (aV w.heap.size 23)=some (.slice L.rots.a L.rots.n L.rots.c):=(A.o.cell (p:=(aV w.heap.size 23)) (by rw[J.o];exact xQ _)).trans ch.o
         by_cases P:i < L.rots.n
         ·have F:i < x.rots.length:=by rw[<-f.o.rots];exact P
          have V:(i:Int) < (L.rots.n:Int):=by omega
          obtain ⟨b,o,R,he,af,aw,I,hv⟩:=ab.o.rots.2.2 i F
          have K:=A0 I (A.o.block b (by have:=ai.o b af;have:=J.o;omega))
          have hz:R[22]?=some (A2 L i).v∧(A2 L i).n=x.rots[i].turns.length∧x.rots[i].turns.length<=140737488355328:=by
           obtain ⟨_,_,d0,d1,d2,rfl,k0,k1,k2,ht⟩:=hv
           have l0:=k0.len;have l1:=k1.len;have l2:=k2.len
           refine ⟨?_,ht.1,ht.2.1⟩
           have e:(Value.string x.rots[i].name::(AU x.rots[i].on++(iV x.rots[i].rank::(d0++(d1++(d2++[(A2 L i).v]))))))=(Value.string x.rots[i].name::(AU x.rots[i].on++(iV x.rots[i].rank::(d0++(d1++d2)))))++[(A2 L i).v]:=by simp
           rw[e,yU (by simp[Aw,l0,l1,l2])]
           simp[Aw,l0,l1,l2]
          have ct:wr.cell? (aV b (o+i*23+22))=some (.slice (A2 L i).a (A2 L i).n (A2 L i).c):=K 22 _ hz.1
          have lt:(A2 L i).n<=140737488355328:=by rw[hz.2.1];exact hz.2.2
          rw[he] at hf
          by_cases O:(A2 L i).n<=70
          ·have cn:decide (((A2 L i).n:Int)>70)=false:=by simp;omega
           have ck:Hid (Fo (x.rots.take (i+1))=true):=yb (by
            have h:=HT.o
            unfold Fo at h ⊢
            rw[yJ F,qk,h]
            have:x.rots[i].turns.length<=70:=by rw[<-hz.2.1];exact O
            simp[this])
           clear O I K hz he hv aw af
           go_wp2
           exact ⟨⟨i+1,by omega,by push_cast;rfl,ck,A⟩,by simp[intOf];omega⟩
          ·have cn:decide (((A2 L i).n:Int)>70)=true:=by simp;omega
           have z:Hid (EX x=false):=yb (by
            have e:Fo x.rots=false:=by
             unfold Fo
             rw[xq]
             exact ⟨x.rots[i],yM F,by rw[<-hz.2.1];simpa using O⟩
            unfold EX
            rw[e];simp)
           clear O I K hz he hv aw af
           go_wp2
           go_ret
           exact ⟨AH z.o.symm,y.o.trans (A.o.mono y.o.size)⟩
         ·obtain rfl:i=L.rots.n:=by omega
          have V:decide ((L.rots.n:Int) < (L.rots.n:Int))=false:=by simp
          have a6:Hid (Fo x.rots=true):=yb (by
           have h:=HT.o
           rw[f.o.rots,yT] at h
           exact h)
          have co:=yb (A0 bt.o (A.o.block w.heap.size (by rw[J.o];exact xQ _)))
          have ce:Hid (BH N wr L ks x):=yb (ab.o.same (fun _ h=>h) (fun b hb=>A.o.block b (by have:=ai.o b hb;have:=J.o;omega)))
          have ao:Hid (∀b,N b->b < wr.heap.size):=yb (fun b hb=>by have:=ai.o b hb;have:=J.o;have:=A.o.size;omega)
          go_wp2_with (first|(refine yj rfl 35 _ rfl w.heap.size 0 rfl ks _ co.o qV rfl ax.o ?_)|(go_at_call 39;refine (UK ce.o ao.o (Qh aa.o a6.o)).mono ?_;rintro e w2 ⟨v2,rfl,b8⟩;have U:=yb b8;clear b8))
          obtain ⟨rows,bj,H⟩:=U.o.own
          have az:rows.length=(F6 x).length:=H.length
          have bw:=(Qh aa.o a6.o).top.tE
          have bq:3<=(F6 x).length:=by
           unfold F6 Jt Js GM Jr Jq IV
           simp only[ym,yx,yH]
           omega
          rcases bj with ⟨ci,⟨_,h3⟩|⟨g,cap,cw,rfl,cm,a7,cg,cc,bx,bh⟩⟩
          ·omega
          have d:∀j u,rows.flatten[j]?=some u->w2.cell? (aV g j)=some u:=fun j u hj=>by
           rw[<-bh] at hj
           have P:=(yA.1 hj).1
           rw[zc] at P
           rw[zN,yw (by omega)] at hj
           simp only[World.cell?,a7]
           simpa using hj
          have aq:Hid (∀i (hi:i < (F6 x).length),∃c,w2.rangeAt g (i*6) c∧AG N wr (F6 x)[i] c):=yb (fun i hi=>by
           have bg:i < rows.length:=by omega
           refine ⟨rows[i],fun j u hj=>d _ _ ?_,H.get i bg hi⟩
           have aj:∀(l:List LV) (k:Nat) (O:k < l.length),(∀r∈l,r.length=6)->∀j u,(l[k])[j]?=some u->l.flatten[k*6+j]?=some u:=by
            intro l
            induction l with
            |nil=>intro k O;simp at O
            |cons r t ih=>
             intro k O h6 j u hu
             have bv:=h6 r (by simp)
             cases k with
             |zero=>
              have b7:r[j]?=some u:=hu
              have cl:=(yA.1 b7).1
              simp only[zs,Nat.zero_mul,yy]
              rw[zn cl]
              exact b7
             |succ k=>
              simp only[zs]
              rw[yU (by omega),bv,show (k+1)*6+j - 6=k*6+j by omega]
              exact ih k (by simpa using O) (fun r hr=>h6 r (by simp[hr])) j u (by simpa using hu)
           refine aj rows i bg (fun r hr=>?_) j u hj
           obtain ⟨k,O,rfl⟩:=zh.1 hr
           exact (H.get k O (by omega)).len)
          have ae:Hid (rows.length=(F6 x).length):=yb az
          have bm:rows.length<=140737488355328:=by omega
          have Q:Hid (Below w.heap.size w w2):=yb ((y.o.trans (A.o.mono y.o.size)).trans (U.o.below.mono (yu y.o.size A.o.size)))
          have cd:Hid (g < w2.heap.size):=yb (yd.1 a7).1
          have b9:Hid (∀W,Below w2.heap.size w2 W->∀b,N b->W.heap[b]?=wr.heap[b]?∧b < W.heap.size):=yb (fun W hW b hb=>by
           have h1:=ao.o b hb
           have h2:=U.o.below.size
           have h3:=hW.size
           exact ⟨(hW.block b (by omega)).trans (U.o.below.block b h1),by omega⟩)
          have z:Hid (EX x=decide (Iy (F6 x) 0<=5000)):=yb (by unfold EX;rw[aa.o,a6.o];rfl)
          generalize hS:Iy (F6 x) 0=S at z
          have b0:Hid (Iy ((F6 x).drop 0) 0=S):=yb hS
          have Y:=yb (yg w2.heap.size w2)
          generalize cf:rows.length=m at ae bm
          clear hS ci a7 cg cc bx bh d H az bq bw hf V cm cf HT
          go_wp2
          go_loopw [4,6] (fun nv iv wr=>∃(i:Nat) (n:Int),nv=iV n∧iv=iV i∧i<=m∧0<=n∧n<=10001∧Hid (Iy ((F6 x).drop i) n=S)∧Hid (Below w2.heap.size w2 wr)) (fun _ iv _=>m - (intOf iv).toNat)
          case atStart=>exact ⟨0,0,rfl,rfl,yK _,by omega,by omega,b0,Y⟩
          case round=>
           clear b0 Y
           obtain ⟨i,n,rfl,rfl,hi,cq,cx,HS,G⟩:=hrel
           by_cases P:i < m
           ·have F:i < (F6 x).length:=by rw[<-ae.o];exact P
            have V:(i:Int) < (m:Int):=by omega
            by_cases be:n<=5000
            ·obtain ⟨c,I,T⟩:=aq.o i F
             have bu:=yb (A0 I (G.o.block g cd.o))
             have HC:=yb (TS (F6 x)[i] (w:=wr) (most:=5001) (AG.same (fun b h=>h) (fun b hb=>(b9.o wr G.o b hb).1) T) (fun b hb=>(b9.o wr G.o b hb).2) (by omega) (by omega))
             have ah:Hid (Iy ((F6 x).drop (i+1)) (n+Kk (F6 x)[i] 5001)=S):=yb (by
              have h:=HS.o
              rw[Hz F,Iy,yw be] at h
              exact h)
             have X:=Ix (F6 x)[i] 5001
             generalize (F6 x)[i]=E at T HC ah X
             generalize Kk E 5001=s at HC ah X
             have cp:1<=s:=X.1
             have cr:s<=5001:=by omega
             obtain ⟨a',p',rfl,_⟩:=T.cells
             clear I T X
             go_wp2_with (first|(refine yj rfl 26 _ rfl g (i*6) (by simp[Act.eval]) [iV E.op,iV E.n,iV E.u,.string E.rn,iV E.ri,.slice a' E.args.length p'] _ bu.o qM rfl (by kernel_rfl) ?_)|(go_at_call 40;refine HC.o.mono ?_;rintro e w3 ⟨rfl,bb⟩;have cj:=yb (G.o.trans (bb.mono G.o.size));clear bb))
             exact ⟨⟨i+1,n+s,rfl,by go_num,by omega,by omega,by omega,ah,cj⟩,by simp[intOf];omega⟩
            ·have ac:Hid (n=S):=yb (by
              have h:=HS.o
              rw[Hz F,Iy,yt be] at h
              exact h)
             go_wp2
             go_ret
             exact ⟨AH (by rw[z.o,<-ac.o];exact (xr (by omega)).symm),Q.o.trans (G.o.mono Q.o.size)⟩
           ·obtain rfl:i=m:=by omega
            have ac:Hid (n=S):=yb (by
             have h:=HS.o
             rw[ae.o,zI,Iy] at h
             exact h)
            have V:decide ((i:Int) < (i:Int))=false:=by simp
            go_wp2
            go_ret
            exact ⟨AH (by rw[z.o,<-ac.o]),Q.o.trans (G.o.mono Q.o.size)⟩
       ·have am:decide ((L.duties.n:Int)>300)=true:=by simp;omega
        have z:Hid (EX x=false):=yb (by
         have h:=f.o.duties
         have e:decide (x.duties.length<=300)=false:=by simp;omega
         unfold EX GH
         rw[e];simp)
        clear bp
        go_wp2
        go_ret
        exact ⟨AH z.o.symm,y.o⟩
      ·have bd:decide ((L.rights.n:Int)>300)=true:=by simp;omega
       have z:Hid (EX x=false):=yb (by
        have h:=f.o.rights
        have e:decide (x.rights.length<=300)=false:=by simp;omega
        unfold EX GH
        rw[e];simp)
       clear ar
       go_wp2
       go_ret
       exact ⟨AH z.o.symm,y.o⟩
     ·have ba:decide ((L.rots.n:Int)>70)=true:=by simp;omega
      have z:Hid (EX x=false):=yb (by
       have h:=f.o.rots
       have e:decide (x.rots.length<=70)=false:=by simp;omega
       unfold EX GH
       rw[e];simp)
      clear bk
      go_wp2
      go_ret
      exact ⟨AH z.o.symm,y.o⟩
    ·have au:decide ((L.farms.n:Int)>100)=true:=by simp;omega
     have z:Hid (EX x=false):=yb (by
      have h:=f.o.farms
      have e:decide (x.farms.length<=100)=false:=by simp;omega
      unfold EX GH
      rw[e];simp)
     clear bi
     go_wp2
     go_ret
     exact ⟨AH z.o.symm,y.o⟩
   ·have av:decide ((L.reaches.n:Int)>100)=true:=by simp;omega
    have z:Hid (EX x=false):=yb (by
     have h:=f.o.reaches
     have e:decide (x.reaches.length<=100)=false:=by simp;omega
     unfold EX GH
     rw[e];simp)
    clear ap
    go_wp2
    go_ret
    exact ⟨AH z.o.symm,y.o⟩
  ·have b4:decide ((L.crops.n:Int)>100)=true:=by simp;omega
   have z:Hid (EX x=false):=yb (by
    have h:=f.o.crops
    have e:decide (x.crops.length<=100)=false:=by simp;omega
    unfold EX GH
    rw[e];simp)
   clear an
   go_wp2
   go_ret
   exact ⟨AH z.o.symm,y.o⟩
 ·have bn:decide ((L.lets.n:Int)>100)=true:=by simp;omega
  have z:Hid (EX x=false):=yb (by
   have h:=f.o.lets
   have e:decide (x.lets.length<=100)=false:=by simp;omega
   unfold EX GH
   rw[e];simp)
  clear b5
  go_wp2
  go_ret
  exact ⟨AH z.o.symm,y.o⟩
theorem IW{ops:Array Oper}{rest:List Oper}{op:Oper}{a:Act}{w:World}{Q:QT}(c:op.guard=none)(ty:TypeId)(x y:Operand)(i:op.op=.store ty x y)
 (b o:Nat)(g:a.eval x=.pointer (some ⟨b,o,none⟩))(v:Value)(d:a.eval y=v)(e:v.cells=#[v]){p q:LV}{m:Value}{t:TypeId}(hb:w.heap[b]?=some (.cells (p++(m::q)).toArray t (0,0)))(f:p.length=o)
 (hi:(Tryz.prog.info? ty).map (·.size)=some 1)(h1:v.oneCell'=true)
 (h:∀W',DS w W' b (p++(v::q)) t->wpList Tryz.prog ops Q rest (a.put op.dst undef) W'):wpList Tryz.prog ops Q (op::rest) a w:=by
 refine GK c ty x y i b o v g d e (Jf hb (by simp;omega)) hi h1 ?_
 exact h _ (AR b t [v] o w p [m] q hb f rfl)
theorem Aq{ops:Array Oper}{rest:List Oper}{op:Oper}{a:Act}{w:World}{Q:QT}(d:op.guard=none)(ty:TypeId)(x y:Operand)(j:op.op=.store ty x y)
 (b:Nat)(i:a.eval x=.pointer (some ⟨b,0,none⟩))(c:LV)(e:a.eval y=.agg c.toArray){m:Array Value}{t:TypeId}(hb:w.heap[b]?=some (.cells m t (0,0)))(g:m.size=c.length)
 (hi:(Tryz.prog.info? ty).map (·.size)=some c.length)(h1:∀v∈c,v.oneCell'=true)
 (h:∀W',DS w W' b c t->wpList Tryz.prog ops Q rest (a.put op.dst undef) W'):wpList Tryz.prog ops Q (op::rest) a w:=by
 refine JW d ty x y j b 0 i c e (p:=[]) (m:=m.toList) (q:=[]) (by simpa using hb) rfl (by simpa using g) hi h1 fun W' f=>h W' ?_
 simpa using f
theorem DM{c:LV}(h:c.length=6):(Tryz.prog.info? 26).map (·.size)=some c.length:=by rw[h];kernel_rfl
def FL(F:NP)(l:List Nat)(k:Nat):Prop:=F k∨k∈l
section
variable{F:NP}{l l':List Nat}{W W':World}{e:Ex}{c:LV}
theorem Wc(a:∀k∈l',k∈l∨W.heap.size<=k):∀b,FL F l' b->FL F l b∨W.heap.size<=b:=fun b hb=>hb.elim (fun h=>.inl (.inl h)) fun h=>(a b h).elim (fun h=>.inl (.inr h)) .inr
end
theorem P6{B:Nat}{W:World}{t e ty:TypeId}{h:TypeInfo}{z:Value}{size:Nat}(x:Tryz.prog.underlying t=some (.slice e))(hi:Tryz.prog.info? e=some h)(q:h.zero=some z)(l:h.size=size)
 {v:Value}{n:Nat}{xs:LV}(d:W.ownsRow B e size v n xs){g c:Nat}{row:LV}(J:W.heap[g]?=some (.cells row.toArray e (0,0)))(y:row.length=size)(o:∀u∈row,u.oneCell'=true)(p:(n+1)*h.bytes<=140737488355328)(A:n+1<=140737488355328){v':Value}{w':World}
 (a:(Builtin.append_ #[t,t] ty #[v,.slice (some ⟨g,0,none⟩) 1 c]).run Tryz.prog W=.ok v' w'):v'.ownBlock=v.ownBlock∨v'.ownBlock=some W.heap.size:=by
 have b:∀j u,row[j]?=some u->W.cell? (((aV g 0):Addr).add j)=some u:=fun j u F=>by
  rw[zB]
  simp only[World.cell?,J]
  simpa using F
 have i:row.length=1*h.size:=by rw[l,y,qA]
 have D:1*h.bytes<=(n+1)*h.bytes:=xL _ (by omega)
 rcases d.2 with ⟨rfl,H⟩|⟨k,cap,w,rfl,G,E,I,C,s,r⟩
 ·subst H
  rw[run_append_nil W t ty e h _ x hi q (aV g 0) 1 c row i b (by omega) (by omega) (by omega)] at a
  cases a
  exact .inr rfl
 ·by_cases f:n+1<=cap
  ·rw[run_append_room W t ty e h x hi k n cap w E (aV g 0) 1 c row i b o f (by
    rw[l,s,y]
    calc n*size+size=(n+1)*size:=by rw[Nat.add_mul];omega
     _<=cap*size:=xL _ f)] at a
   cases a
   exact .inl rfl
  ·have m:∀j u,xs[j]?=some u->W.cell? (((aV k 0):Addr).add j)=some u:=World.ownsRow.cells d (g:=k) rfl
   rw[run_append_grow W t ty e h _ x hi q (aV k 0) n cap xs (by rw[l];exact d.1) m (aV g 0) 1 c row i b (by omega) (by omega) (growslice_fits (by omega) p)] at a
   cases a
   exact .inr rfl
theorem P7{o:Oper}{a:Act}{K:Act->World->Prop}{Q:QT}{W:World}{t e:TypeId}(A:Tryz.prog.underlying t=some (.slice e))(s x:Operand)(H:o.op=.call {callee:=.builtin .append,args:=#[s,x],argTypes:=#[t,t]})
 (size:Nat)(b:((Tryz.prog.info? e).bind fun i=>i.zero.map fun z=>(i.size,z.cells.size,decide (i.bytes<=72)))=some (size,size,true))(r:0 < size)
 (B:Nat)(v:Value)(n:Nat)(xs:LV)(hs:a.eval s=v)(l:W.ownsRow B e size v n xs)(g c:Nat)(row:LV)(G:a.eval x=.slice (some ⟨g,0,none⟩) 1 c)(C:W.heap[g]?=some (.cells row.toArray e (0,0)))(y:row.length=size)(f:∀u∈row,u.oneCell'=true)(q:(n+1)*72<=140737488355328)(m:B<=W.heap.size)
 (h:∀v' w',w'.ownsRow B e size v' (n+1) (xs++row)->W.grownBy w' v.ownBlock->(v'.ownBlock=v.ownBlock∨v'.ownBlock=some W.heap.size)->K (a.put o.dst v') w'):Oper.wp Tryz.prog o a W K Q:=by
 cases d:Tryz.prog.info? e with
 |none=>simp[d] at b
 |some i0=>
  cases w:i0.zero with
  |none=>simp[d,w] at b
  |some z=>
   simp only[d,w,xu,xB,za,zr,z7] at b
   obtain ⟨h1,h2,h3⟩:=b
   have k:(n+1)*i0.bytes<=140737488355328:=yu (Nat.mul_le_mul_left _ h3) q
   have p:∀j u,row[j]?=some u->W.cell? (((aV g 0):Addr).add j)=some u:=fun j u E=>by
    rw[zB]
    simp only[World.cell?,C]
    simpa using E
   obtain ⟨v',w',hr,D,F,_⟩:=run_append_own (P:=Tryz.prog) W B t o.type e i0 z size i0.bytes A d w h1 rfl h2 r v n xs l (aV g 0) 1 c row (by rw[y,qA]) p f (by unfold maxLen;omega) k m
   have hb:=P6 (ty:=o.type) A d w h1 l C y f k (by omega) hr
   unfold Oper.wp
   simp[execOp,H,resolve,invoke,builtin,hs,G,hr,Result.andThen]
   exact h v' w' D F hb
theorem Sl{o:Oper}{a:Act}{w:World}{K:Act->World->Prop}{Q:QT}(t e:TypeId)(x:Operand)(m:o.op=.buildSlice t 1 #[(0,x)])(cs:LV)(l:a.eval x=.agg cs.toArray)
 (n:Nat)(g:Tryz.prog.underlying t=some (.slice e))(hi:((Tryz.prog.info? e).bind fun i=>i.zero.map fun z=>(i.size,z.cells.size))=some (n,n))(k:cs.length=n)(c:0 < n)(d:n<=1000)
 (h:K (a.put o.dst (.slice (some ⟨w.heap.size,0,none⟩) 1 1)) (w.alloc (.cells cs.toArray e))):Oper.wp Tryz.prog o a w K Q:=by
 cases b:Tryz.prog.info? e with
 |none=>simp[b] at hi
 |some ie=>
  cases f:ie.zero with
  |none=>simp[b,f] at hi
  |some z=>
   simp only[b,f,xu,xB,za,zr] at hi
   obtain ⟨h1,h2⟩:=hi
   refine wp_buildSlice t e 1 _ m _ ie z g b f (by rw[h1];omega) (by rw[h1];omega) ?_ h
   have hs:((Array.range (1*ie.size)).map (z.cells[· % z.cells.size]!)).size=1*n:=by simp[h1]
   rw[h1] at hs ⊢
   generalize (Array.range (1*n)).map (z.cells[· % z.cells.size]!)=j at hs ⊢
   have:=Great.fill_whole (s:=n) c [.agg cs.toArray] j (by simp[Value.cells,k]) (by rw[hs];rfl)
   simp only[xP,List.zipIdx_nil,zv,zT,yW,zt,yV,Value.cells] at this
   simpa[l] using this
theorem Rb{i m:Nat}(h:i < m)(a:m<=140737488355328):Value.int .i64 (wrap64 ((i:Int)+1))=.int .i64 ((i+1:Nat):Int):=by
 have e:((i:Int)+1)=((i+1:Nat):Int):=by push_cast;rfl
 rw[e,AP (by rw[Int.natAbs_natCast];exact yu h (yu a (by decide)))]
theorem Rc{i m:Nat}(h:i < m):m - (intOf (.int .i64 ((i+1:Nat):Int))).toNat < m - (intOf (.int .i64 (i:Int))).toNat:=by
 simp only[intOf,Int.toNat_natCast];omega
def ob(v:Value):List Nat:=v.ownBlock.toList
def Sm{δ:Type}(V:NP->World->LV->δ->Prop):Prop:=∀(N N':NP) (w w':World) (cs:LV) (d:δ),(∀b,N b->N' b)->(∀b,N b->w'.heap[b]?=w.heap[b]?)->V N w cs d->V N' w' cs d
section
variable{δ:Type}{V:NP->World->LV->δ->Prop}{F F':NP}{l l':List Nat}{W W':World}{cs:LV}{d:δ}{v v':Value}{ds:List δ}{ty sz B C:Nat}
theorem Sm.flux(hs:Sm V)(h:V (GF F W) W cs d)(a:CO F W W')(c:∀b,F' b->F b∨W.heap.size<=b):V (GF F' W') W' cs d:=hs _ _ _ _ _ _ (fun _ hb=>hb.up a.1 c) (fun b hb=>a.2 b hb.2 hb.1) h
structure Ju (V:(Nat->Prop)->World->List Value->δ->Prop) (ty sz B:Nat) (F:Nat->Prop) (l:List Nat) (W:World) (v:Value) (ds:List δ):Prop where
 own:∃rows:List (List Value),W.ownsRow B ty sz v rows.length rows.flatten∧(∀r∈rows,r.length=sz)∧AB (fun cs d=>V (GF (FL F (l++ob v)) W) W cs d) rows ds
theorem TV:Ju V ty sz B F l W (.slice none 0 0) []:=⟨[],⟨by simp,.inl ⟨rfl,rfl⟩⟩,by simp,trivial⟩
theorem Qi{n:Nat}{xs:LV}(h:W.ownsRow B ty sz v n xs):∀k∈ob v,B<=k∧k < W.heap.size:=by
 intro k a
 rcases h.2 with ⟨rfl,_⟩|⟨g,cap,b,rfl,c,h5,_⟩
 ·simp[ob,Value.ownBlock] at a
 ·simp only[ob,Value.ownBlock,Option.toList_some,ze] at a
  subst a
  exact ⟨c,(yd.1 h5).1⟩
theorem Ju.lt(h:Ju V ty sz B F l W v ds):∀k∈ob v,B<=k∧k < W.heap.size:=by
 obtain ⟨rows,h1,_⟩:=h.own
 exact Qi h1
theorem MI{n:Nat}{xs:LV}(h:W.ownsRow B ty sz v n xs):∃a m c,v=.slice a m c:=by
 rcases h.2 with ⟨rfl,_⟩|⟨g,cap,b,rfl,_⟩
 ·exact ⟨_,_,_,rfl⟩
 ·exact ⟨_,_,_,rfl⟩
theorem Ju.slice(h:Ju V ty sz B F l W v ds):∃a m c,v=.slice a m c:=by
 obtain ⟨rows,h1,_⟩:=h.own
 exact MI h1
theorem Ii{n:Nat}{xs:LV}(h:W.ownsRow B ty sz v n xs)(hb:∀k∈ob v,W'.heap[k]?=W.heap[k]?):W'.ownsRow B ty sz v n xs:=by
 obtain ⟨h1,h2⟩:=h
 refine ⟨h1,h2.imp id ?_⟩
 rintro ⟨g,cap,a,rfl,b,h5,h6⟩
 exact ⟨g,cap,a,rfl,b,(hb g (by simp[ob,Value.ownBlock])).trans h5,h6⟩
theorem Qj(a:∀k∈l',k∈l∨W.heap.size<=k):∀b,FL F l' b->FL F l b∨W.heap.size<=b:=Wc a
theorem Ju.up(hs:Sm V)(h:Ju V ty sz B F l W v ds)(b:CO (FL F (l++ob v)) W W')(hb:∀k∈ob v,W'.heap[k]?=W.heap[k]?)(c:∀k∈l',k∈l∨W.heap.size<=k):Ju V ty sz B F l' W' v ds:=by
 obtain ⟨rows,h1,h2,h3⟩:=h.own
 refine ⟨rows,Ii h1 hb,h2,AB.mono (fun _ _ d=>hs.flux d b (Qj fun k a=>?_)) h3⟩
 rcases yz.1 a with a|a
 ·exact (c k a).imp (fun h=>yz.2 (.inl h)) id
 ·exact .inl (yz.2 (.inr a))
theorem CO.more(b:CO (FL F l) W W')(a:List Nat):CO (FL F (l++a)) W W':=b.wide fun _ _ h=>h.elim .inl fun h=>.inr (yz.2 (.inl h))
structure Wd (V:(Nat->Prop)->World->List Value->δ->Prop) (ty sz B:Nat) (F:Nat->Prop) (l:List Nat) (W W':World) (v v':Value) (ds:List δ):Prop where
 grow:Ju V ty sz B F l W' v' ds
 flux:CO (FL F (l++ob v)) W W'
 below:Below B W W'
 obs:∀k∈l++ob v',k∈l++ob v∨W.heap.size<=k
theorem P8{rows:List LV}{row:LV}{o:Obj}(hs:Sm V)(w:AB (fun cs d=>V (GF (FL F (l++ob v)) W) W cs d) rows ds)(hr:∀r∈rows,r.length=sz)(g:W.ownsRow B ty sz v rows.length rows.flatten)
 (s:V (GF (FL F (l++ob v)) W) W row d)(m:row.length=sz)(i:W'.ownsRow B ty sz v' (rows.length+1) (rows.flatten++row))(a:(W.alloc o).grownBy W' v.ownBlock)(n:v'.ownBlock=v.ownBlock∨v'.ownBlock=some (W.alloc o).heap.size)(x:B<=W.heap.size):Wd V ty sz B F l W W' v v' (ds++[d]):=by
 have q:Below W.heap.size W (W.alloc o):=(yg _ _).alloc (yf _) _
 have u:(W.alloc o).heap.size=W.heap.size+1:=by simp
 have p:∀k∈ob v',k∈ob v∨W.heap.size<=k:=fun k b=>by
  rcases n with e|e
  ·left;unfold ob at b ⊢;rwa [e] at b
  ·right;unfold ob at b;rw[e,u] at b;simp at b;omega
 have f:CO (FL F (l++ob v)) W W':=by
  refine (CO.below q).trans ⟨a.size,fun k b t=>a.block k b fun e=>t (.inr (yz.2 (.inr ?_)))⟩
  unfold ob;rw[<-e];simp
 have c:∀k∈l++ob v',k∈l++ob v∨W.heap.size<=k:=fun k b=>by
  rcases yz.1 b with b|b
  ·exact .inl (yz.2 (.inl b))
  ·exact (p k b).imp (fun h=>yz.2 (.inr h)) id
 refine ⟨⟨rows++[row],by simpa using i,?_,?_⟩,f,?_,c⟩
 ·intro r j
  rcases yz.1 j with j|j
  ·exact hr r j
  ·rw[ze.1 j];exact m
 ·exact AB.append (AB.mono (fun _ _ h=>hs.flux h f (Qj c)) w) ⟨hs.flux s f (Qj c),trivial⟩
 ·refine (q.mono (by omega)).trans ⟨a.os,a.tape,a.output,a.size,fun k b=>a.block k (by omega) fun e=>?_⟩
  have:=(Qi g k (by unfold ob;rw[<-e];simp)).1
  omega
theorem Ju.row(hs:Sm V)(h:Ju V ty sz B F l W v ds)(n:CO (FL F l) W W')(hb:∀k∈ob v,W'.heap[k]?=W.heap[k]?)(w:∀b,F b->b < B)(d:ds.length<=140737488355328):∃h:Au,v=h.v∧BE (GF F W') W' sz (V (GF F W') W') h ds:=by
 obtain ⟨rows,h1,h2,h3⟩:=h.own
 have m:rows.length=ds.length:=AB.length h3
 have p:∀i (hi:i < ds.length) (a:i < rows.length),V (GF F W') W' rows[i] ds[i]:=fun i hi a=>hs.flux (AB.get h3 i a hi) (n.more _) (fun b hb=>.inl (.inl hb))
 rcases h1.2 with ⟨rfl,s⟩|⟨g,cap,r,rfl,y,h5,h6,z,x,t⟩
 ·exact ⟨⟨none,0,0⟩,rfl,by rw[<-m,s],d,fun i hi=>by omega⟩
 ·refine ⟨⟨some (aV g 0),rows.length,cap⟩,rfl,m,d,fun i hi=>?_⟩
  have a:i < rows.length:=by omega
  have f:=hb g (by simp[ob,Value.ownBlock])
  have q:=(yd.1 h5).1
  refine ⟨g,0,rows[i],rfl,⟨fun h=>by have:=w g h;omega,by have:=n.1;omega⟩,h2 _ (yM a),?_,p i hi a⟩
  intro j u o
  have e:j < sz:=by rw[<-h2 _ (yM a)];exact (yA.1 o).1
  have c:=(FY rows sz h2).2 i a j e
  rw[o,<-t] at c
  rw[zN] at c
  split at c
  ·simp only[World.cell?,f,h5,yy]
   simpa using c
  ·cases c
end
def UM(N:NP)(w:World)(cs:LV)(d:Ex):Prop:=AG N w d cs
theorem IX:Sm UM:=fun _ _ _ _ _ _ a hb h=>AG.same a hb h
theorem UN{N:NP}{W:World}{h:Au}{ds:List Ex}(k:BE N W 6 (UM N W) h ds):D8 N W h.a 0 ds:=by
 refine Qu fun i hi=>?_
 obtain ⟨b,o,cs,h1,h2,h3,c,h5⟩:=k.2.2 i hi
 exact ⟨b,o,cs,h1,h2,by simpa using c,h5⟩
set_option linter.unusedSimpArgs false
structure Vn (fid:Nat) (caps:Array Value) (g:Ex->Ex) (J:(Nat->Prop)->World->Prop):Prop where
 stab:∀G G' W W',J G W->CO G W W'->(∀b,G' b->G b∨W.heap.size<=b)->J G' W'
 enter:∀args w,(callFunc fid args).run Tryz.prog w=.ok (.enter fid args) w
 call:∀(G:Nat->Prop) (W:World) (e:Ex) (cs:List Value),J G W->AG (GF G W) W e cs->(∀k,G k->k < W.heap.size)->
  Calls Tryz.prog fid (#[.agg cs.toArray]++caps) W fun x W'=>∃cs':List Value,x=.returned (.agg cs'.toArray)∧AG (GF G W') W' (g e) cs'∧Below W.heap.size W W'
def Wv(c:Nat)(b:Array Value)(g:Ex->Ex)(J:NP->World->Prop)(left:Nat)(e:Ex):Prop:=∀(G:NP) (w:World) (cs:LV),Ij e->J G w->AG (GF G w) w e cs->(∀k,G k->k < w.heap.size)->
 Calls Tryz.prog 12 #[.agg cs.toArray,.int .i64 left,.func (.func c) #[] b] w fun x w'=>∃a:LV,x=.returned (.agg a.toArray)∧AG (GF G w') w' (DZ g left e) a∧Below w.heap.size w w'
structure Rg (w:World) (row:List Value) (wr:World):Prop where
 below:Below w.heap.size w wr
 box:wr.heap[w.heap.size]?=some (.cells row.toArray 26 (0,0))
 res:wr.heap[w.heap.size+1]?=some (.cells [Value.int .i64 0,.int .i64 0,.int .i64 0,.string {data:=#[]},.int .i64 0,.slice none 0 0].toArray 26 (0,0))
section
variable{w wr W:World}{row yr yr':LV}{C:Nat}
theorem Rg.lt(h:Rg w row wr):w.heap.size+2<=wr.heap.size:=(yd.1 h.res).1
theorem Rg.up(h:Rg w row wr)(a:w.heap.size+2<=C)(hb:Below C wr W):Rg w row W:=
 ⟨h.below.trans (hb.mono (by omega)),(hb.block _ (by omega)).trans h.box,(hb.block _ (by omega)).trans h.res⟩
theorem Rg.wrote(h:Rg w row wr){b:Nat}{c:LV}{t:TypeId}(a:DS wr W b c t)(hb:w.heap.size+2<=b):Rg w row W:=
 ⟨a.below h.below (by omega),(a.block _ (by omega)).trans h.box,(a.block _ (by omega)).trans h.res⟩
structure TY (w:World) (row yr:List Value) (wr:World):Prop where
 cb:Rg w row wr
 y:wr.heap[w.heap.size+2]?=some (.cells yr.toArray 26 (0,0))
theorem TY.lt(h:TY w row yr wr):w.heap.size+3<=wr.heap.size:=(yd.1 h.y).1
theorem TY.up(h:TY w row yr wr)(a:w.heap.size+3<=C)(hb:Below C wr W):TY w row yr W:=⟨h.cb.up (by omega) hb,(hb.block _ (by omega)).trans h.y⟩
theorem TY.wrote(h:TY w row yr wr)(a:DS wr W (w.heap.size+2) yr' 26):TY w row yr' W:=⟨h.cb.wrote a (yf _),a.row⟩
end
theorem Jv{w w1:World}{op nn u:Int}{rn:ByteArray}{ri:Int}{v:Value}(h:w1=(w.alloc (.cells #[.int .i64 op,.int .i64 nn,.int .i64 u,.string rn,.int .i64 ri,v] 26)).alloc (.cells #[.int .i64 0,.int .i64 0,.int .i64 0,.string {data:=#[]},.int .i64 0,.slice none 0 0] 26)):Rg w [.int .i64 op,.int .i64 nn,.int .i64 u,.string rn,.int .i64 ri,v] w1:=by
 subst h
 refine ⟨((yg _ _).alloc (yf _) _).alloc (by simp) _,?_,?_⟩
 ·rw[yD _ _ _ (by simp)];exact World.alloc_heap_new _ _
 ·have:=World.alloc_heap_new (w.alloc (.cells #[iV op,iV nn,iV u,.string rn,iV ri,v] 26)) (.cells ja 26)
  simpa using this
theorem Sv{g:Ex->Ex}{left:Nat}{op n u:Int}{rn:ByteArray}{ri:Int}{args:List Ex}(h:args.length=0∨left=0):DZ g left (.mk op n u rn ri args)=g (.mk op n u rn ri args):=by
 cases left with
 |zero=>rw[DZ]
 |succ l=>rw[DZ,yw (h.resolve_right (by omega))]
theorem Pf(g:Ex->Ex)(k:Nat):∀l,N7 g k l=l.map (DZ g k)
 |[]=>by rw[N7];rfl
 |e::r=>by rw[N7,Pf g k r];rfl
theorem IZ{z:Nat}{i:Array Value}{g:Ex->Ex}{J:NP->World->Prop}(N:Vn z i g J){left:Nat}{op nn u ri:Int}{rn:ByteArray}{args:List Ex}(h0:args.length=0∨left=0):Wv z i g J left (.mk op nn u rn ri args):=by
 intro G w cs _ K E M
 rw[Sv h0]
 have I:=yb E
 obtain ⟨row,p⟩:∃r,r=cs:=⟨_,rfl⟩
 rw[<-p] at I
 have F:=yb p
 rw[AG] at E
 obtain ⟨a,cap,rfl,U, -, -⟩:=E
 generalize L:args.length=m at*
 have V:=yb L
 have R:=yb K
 have T:=yb M
 have H:=yb N
 clear K M N L p
 have D:m=0∨((((m:Int)==0)=false)∧left=0):=by
  rcases qn m with h|h
  ·exact .inl h
  ·exact .inr ⟨by simp;omega,h0.resolve_left (by omega)⟩
 clear h0
 rcases D with rfl|⟨O,rfl⟩
 all_goals
  go_enter Tryz.func12,Tryz.ntmps12
  refine Ae fun P B=>?_
  go_wp2
  refine B.o _ _ ?_
  clear B P
  generalize q:(w.alloc _).alloc _=w1
  have c:=Jv q.symm
  obtain ⟨-, -, -, -, -,Q⟩:=Ce c.box
  rw[<-F.o] at c
  have n:=yb c
  have t:Hid (CO G w w1):=yb (CO.below c.below)
  have C:Hid (∀b,FL G [w.heap.size,w.heap.size+1] b->G b∨w.heap.size<=b):=yb (fun b hb=>hb.imp id (fun h=>by simp at h;omega))
  have f:=yb (H.o.call (FL G [w.heap.size,w.heap.size+1]) w1 _ row (H.o.stab _ _ _ _ R.o t.o C.o) (I.o.flux t.o C.o) (fun k v=>by
   have h1:=c.lt
   rcases v with v|v
   ·have:=T.o k v;omega
   ·simp at v;omega))
  clear q c
  go_wp2_with (first
   |(with_reducible refine yj rfl 26 _ rfl w.heap.size 0 (by kernel_rfl) row _ (AD n.o.box) qM (by kernel_rfl) (DM I.o.len) ?_))
  rw[H.o.enter,Oper.upon_enter]
  refine f.o.mono ?_
  rintro e w2 ⟨res,rfl,x,A⟩
  have d:=yb x
  have y:=yb (n.o.up n.o.lt A)
  clear x A f
  rename_i S l
  first|refine l.o _ _ ?_|refine l _ _ ?_
  clear l S
  with_reducible refine Aq rfl 26 _ _ rfl (w.heap.size+1) (by kernel_rfl) res (by kernel_rfl) y.o.res (by rw[d.o.len];kernel_rfl) (DM d.o.len) (Bm d.o) ?_
  intro W s
  have j:=yb s
  clear s
  go_wp2
  refine Bg rfl rfl j.o.row qM rfl (by rw[d.o.len];kernel_rfl) ?_
  exact ⟨res,rfl,d.o.flux (j.o.flux (.inr (by simp))) (fun b hb=>.inl (.inl hb)),j.o.below y.o.below (by omega)⟩
def Ww(g:Ex->Ex)(G:NP)(w:World)(row a:LV)(left:Nat)(args:List Ex)(i:Nat)(wr:World):Prop:=
 ∃v,TY w row (a++(v::[])) wr∧Ju UM 26 6 (w.heap.size+3) G [w.heap.size,w.heap.size+1,w.heap.size+2] wr v ((args.take i).map (DZ g left))
theorem Pg{R:Nat}{z:Array Value}{g:Ex->Ex}{J:NP->World->Prop}(hc:Vn R z g J):∀(left:Nat),left<=9->∀e:Ex,Wv R z g J left e:=by
 intro left
 induction left with
 |zero=>intro _ e;obtain ⟨op,nn,u,rn,ri,args⟩:=e;exact IZ hc (.inr rfl)
 |succ left ih=>
 intro cl e
 obtain ⟨op,nn,u,rn,ri,args⟩:=e
 by_cases h0:args.length=0
 ·exact IZ hc (.inl h0)
 intro G w cs hw hJ hv hG
 rw[DZ,yt h0,Pf]
 rw[Ij] at hw
 obtain ⟨row,ae⟩:∃r,r=cs:=⟨_,rfl⟩
 have B:=yb ae
 rw[AG] at hv
 obtain ⟨a,cap,rfl,hl,b8,ac⟩:=hv
 obtain ⟨m,hm⟩:∃m,m=args.length:=⟨_,rfl⟩
 rw[<-hm] at ae B ⊢
 have d5:((m:Int)==0)=false:=by simp;omega
 have HM:=yb hm
 have HJ:=yb hJ
 have HG:=yb hG
 have HC:=yb hc
 have cj:=yb b8
 have bn:=yb ac
 have ce:=yb hw
 have IH:=yb (ih (by omega))
 have N:Hid (m<=1954687338268):=yb (by have:=hw.1;omega)
 obtain ⟨lf,ch⟩:∃lf:Int,((left+1:Nat):Int)=lf:=⟨_,rfl⟩
 have d7:(lf==0)=false:=by simp;omega
 have d4:IntKind.i64.wrap (lf - 1)=(left:Int):=by rw[IntKind.wrap_i64];omega
 rw[ch]
 clear ch hJ hG hc hm ae b8 ac hw ih h0 hl
 go_enter Tryz.func12,Tryz.ntmps12
 refine Ae fun K1 be=>?_
 go_wp2
 refine be.o _ _ ?_
 clear be K1
 generalize au:(w.alloc _).alloc _=w1
 have Q:=Jv au.symm
 have hz:w1.heap.size=w.heap.size+2:=by rw[<-au];simp
 have HZ:=yb hz
 obtain ⟨-, -, -, -, -,ak⟩:=Ce Q.box
 rw[<-B.o] at Q
 have Z:=yb Q
 have ax:Hid (row.length=6):=yb (by rw[B.o];rfl)
 have cp:Hid (∀v∈row,v.oneCell'=true):=yb (by rw[B.o];simp[Value.oneCell'])
 clear au Q hz
 go_upto_region 4 with (first
  |(with_reducible refine yj rfl 26 _ rfl w.heap.size 0 (by kernel_rfl) row _ (AD Z.o.box) qM (by kernel_rfl) (DM ax.o) ?_)
  |(with_reducible refine Aq rfl 26 _ _ rfl w1.heap.size (by kernel_rfl) row (by kernel_rfl) (World.alloc_heap_new _ _) (by rw[ax.o];kernel_rfl) (DM ax.o) cp.o ?_;intro x3 b9;have ap:=yb b9;clear b9))
 have bk:TY w row row x3:=⟨Z.o.up (yf _) (ap.o.below ((yg _ _).alloc (by have:=Z.o.lt;omega) _) (by have:=HZ.o;omega)),by rw[<-HZ.o];exact ap.o.row⟩
 rw[HZ.o]
 have ah:=yb bk
 clear bk ap Z ak
 obtain ⟨M,a7⟩:∃M:LV,M=[iV op,iV nn,iV u,.string rn,iV ri]:=⟨_,rfl⟩
 have a2:=yb a7
 have ai:Hid (M.length=5):=yb (by rw[a7];rfl)
 have ba:Hid (x3.heap[w.heap.size+2]?=some (.cells (M++(Value.slice a m cap::[])).toArray 26 (0,0))):=yb (by have h:=ah.o.y;rw[B.o] at h;rw[a7];exact h)
 clear a7
 go_upto_region 5 with (first
  |(with_reducible refine IW rfl 24 _ _ rfl (w.heap.size+2) 5 (by kernel_rfl) (.slice none 0 0) (by kernel_rfl) (by kernel_rfl) (p:=M) (m:=.slice a m cap) (q:=[]) (t:=26) ba.o ai.o (by kernel_rfl) (by kernel_rfl) ?_;intro x4 bb;have aj:=yb (ah.o.wrote bb);clear bb))
 have ak:x4.cell? (aV w.heap.size 5)=some (.slice a m cap):=by have h:=aj.o.cb.box;rw[B.o] at h;simp[World.cell?,h]
 obtain ⟨I,hI⟩:∃I:Nat->World->Prop,I=Ww g G w row M left args:=⟨_,rfl⟩
 have HI:=yb hI
 have ay:Hid (I 0 x4):=yb (by rw[hI];exact ⟨_,aj.o,by simpa using TV⟩)
 clear hI ah aj ba
 go_wp2
 clear ak
 go_loopw [26] (fun iv wr=>∃i:Nat,iv=iV i∧i<=m∧Hid (I i wr)) (fun iv _=>m - (intOf iv).toNat)
 case atStart=>exact ⟨0,rfl,yK _,ay⟩
 case round=>
  clear ay
  obtain ⟨i,rfl,hi,bi⟩:=hrel
  obtain ⟨v,hY,av⟩:Ww g G w row M left args i wr:=by have h:=bi.o;rw[HI.o] at h;exact h
  obtain ⟨va,s,l,rfl⟩:=av.slice
  have O:=yb hY;have A:=yb av
  have bm:wr.cell? (aV (w.heap.size+2) 5)=some (.slice va s l):=by
   have h:=hY.y
   rw[a2.o] at h
   simp[World.cell?,h]
  have d3:=yb bm
  clear bi hY av bm
  have ag:m<=140737488355328:=by have:=N.o;omega
  by_cases a6:i < m
  ·have P:i < args.length:=by rw[<-HM.o];exact a6
   have bt:(i:Int) < (m:Int):=by omega
   obtain ⟨bq,oq,ct,he,bv,ao,Y⟩:=Du bn.o i P
   obtain rfl:a=some (aV bq oq):=he
   rw[yy] at ao
   have cc:Hid ((args.take (i+1)).map (DZ g left)=(args.take i).map (DZ g left)++[DZ g left args[i]]):=yb (by rw[yJ P,zF];rfl)
   have cx:Hid ((i+1)*72<=140737488355328):=yb (by have:=ce.o.1;have:=HM.o;omega)
   have cf:Hid (Ij args[i]):=yb (MJ ce.o.2 i P)
   have az:=yb (IH.o args[i])
   have cm:Hid (((args.take i).map (DZ g left)).length=i):=yb (by simp;omega)
   generalize hD:args[i]=D at Y cc cf az
   clear hD
   have bj:=yb Y
   have a0:Hid (ct.length=6):=yb Y.len
   have ck:Hid (wr.rangeAt bq (oq+i*6) ct):=yb (A0 ao (O.o.cb.below.block bq bv.2))
   have co:=yb (Rb a6 ag)
   have bo:Hid (i < m):=yb a6
   clear ao Y bv P
   go_upto_region 8 with (first
    |(with_reducible refine yj rfl 26 _ rfl bq (oq+i*6) (by kernel_rfl) ct _ ck.o qM (by kernel_rfl) (DM a0.o) ?_)
    |(with_reducible refine Aq rfl 26 _ _ rfl wr.heap.size (by kernel_rfl) ct (by kernel_rfl) (World.alloc_heap_new _ _) (by rw[yq,a0.o];kernel_rfl) (DM a0.o) (Bm bj.o) ?_;intro j bw;have af:=yb bw;clear bw))
   have U:Hid (Below wr.heap.size wr j):=yb (af.o.below ((yg _ _).alloc (yf _) _) (yf _))
   have an:Hid (wr.heap.size < j.heap.size):=yb (by rw[af.o.size];simp)
   have d0:Hid (CO G w j):=yb (CO.below (O.o.cb.below.trans (U.o.mono O.o.cb.below.size)))
   have bx:Hid (∀b,FL G ([w.heap.size,w.heap.size+1,w.heap.size+2]++ob (.slice va s l)) b->G b∨w.heap.size<=b):=yb (fun b hb=>hb.imp (fun h=>h) (fun h=>by
    rcases yz.1 h with h|h
    ·simp at h;omega
    ·have:=(A.o.lt b h).1;omega))
   have cy:Hid (∀b,FL G ([w.heap.size,w.heap.size+1,w.heap.size+2]++ob (.slice va s l)) b->b < wr.heap.size):=yb (fun k f=>by
    have h1:=O.o.lt
    rcases f with f|f
    ·have:=HG.o k f;omega
    ·rcases yz.1 f with h|h
     ·simp at h;omega
     ·exact (A.o.lt k h).2)
   have ab:Hid (∀V,Below j.heap.size j V->Calls Tryz.prog 12 #[.agg ct.toArray,iV left,.func (.func R) #[] z] V fun x w'=>∃bh:LV,x=.returned (.agg bh.toArray)∧AG (GF (FL G ([w.heap.size,w.heap.size+1,w.heap.size+2]++ob (.slice va s l))) w') w' (DZ g left D) bh∧Below V.heap.size V w'):=yb (fun V hV=>by
    have hf:CO G w V:=d0.o.trans (CO.below hV)
    exact az.o (FL G ([w.heap.size,w.heap.size+1,w.heap.size+2]++ob (.slice va s l))) V ct cf.o (HC.o.stab _ _ _ _ HJ.o hf bx.o) (bj.o.flux hf bx.o) (fun k f=>by have:=cy.o k f;have:=an.o;have:=hV.size;omega))
   have c:Hid (Below j.heap.size j j.drew):=yb (yg _ _).drew
   have aa:Hid (∀V,Below j.heap.size j V->V.cell? (aV (w.heap.size+2) 5)=some (.slice va s l)):=yb (fun V hV=>by
    have h1:=O.o.lt
    have h:=(hV.block (w.heap.size+2) (by have:=an.o;omega)).trans (U.o.block (w.heap.size+2) (by omega))
    have h2:=d3.o
    unfold World.cell? at h2 ⊢
    simp only at h2 ⊢
    rw[h];exact h2)
   have ci:Hid (∀V,Below j.heap.size j V->V.rangeAt wr.heap.size 0 ct):=yb (fun V hV=>A0 (AD af.o.row) (hV.block _ an.o))
   refine DP (by kernel_rfl) (fun V=>Below j.heap.size j V) 8 ?_
   refine Ai (i:=0) (v:=pV (w.heap.size+2) 5) rfl (by kernel_rfl) (by kernel_rfl) (by kernel_rfl) (fun _ _ _ h=>h) (by kernel_rfl) (Or.inl ⟨by rfl,?_⟩) (fun _=>c.o) ?_
   ·intro W _;go_simp
   refine Bb (i:=1) (v:=.slice va s l) rfl (by kernel_rfl) (by kernel_rfl) (by kernel_rfl) (fun _ _ _ h=>h) (by kernel_rfl) (Or.inl ⟨by rfl,?_⟩) c.o ?_
   ·intro W hW;have cr:=aa.o W hW;go_simp
   refine Ai (i:=3) (v:=iV lf) rfl (by kernel_rfl) (by kernel_rfl) (by kernel_rfl) (fun _ _ _ h=>h) (by kernel_rfl) (Or.inl ⟨by rfl,?_⟩) (fun _=>c.o) ?_
   ·intro W _;go_simp
   refine Ai (i:=4) (v:=iV left) rfl (by kernel_rfl) (by kernel_rfl) (by kernel_rfl) (fun _ _ _ h=>h) (by kernel_rfl) (Or.inl ⟨by rfl,?_⟩) (fun _=>c.o) ?_
   ·intro W _;go_simp
   refine Ai (i:=5) (v:=.func (.func R) #[] z) rfl (by kernel_rfl) (by kernel_rfl) (by kernel_rfl) (fun _ _ _ h=>h) (by kernel_rfl) (Or.inl ⟨by rfl,?_⟩) (fun _=>c.o) ?_
   ·intro W _;go_simp
   refine Al (i:=2) (by kernel_rfl) rfl (fun K d=>?_)
   rw[yw (by kernel_rfl)]
   refine xO 26 _ rfl wr.heap.size 0 (by kernel_rfl) ct _ (ci.o _ c.o) qM rfl (DM a0.o) ?_
   refine d.o _ _ (fun _=>c.o) ?_
   clear d K
   refine Al (i:=6) (by kernel_rfl) rfl (fun K d=>?_)
   go_simp
   refine (ab.o _ c.o).mono ?_
   rintro e x2 ⟨res,rfl,c9,b7⟩
   have a8:Hid (Below j.heap.size j x2):=yb (c.o.trans (b7.mono c.o.size))
   have H:=yb c9
   refine d.o _ _ (fun _=>a8.o) ?_
   clear d K c9 b7 ab c aa ci
   have aw:Hid (Below wr.heap.size wr x2):=yb (U.o.trans (a8.o.mono U.o.size))
   have bu:Hid (TY w row (M++(Value.slice va s l::[])) x2):=yb (O.o.up O.o.lt aw.o)
   obtain ⟨rows,X,b5,F⟩:=(A.o.up IX (CO.below aw.o) (fun k f=>aw.o.block k (A.o.lt k f).2) (fun _ h=>.inl h)).own
   have d2:=yb X;have cq:=yb b5;have cg:=yb F
   have ad:Hid (w.heap.size+3<=x2.heap.size):=yb bu.o.lt
   have bd:Hid ((x2.alloc (.cells res.toArray 26)).ownsRow (w.heap.size+3) 26 6 (.slice va s l) rows.length rows.flatten):=yb (Ii X fun k f=>((yg _ _).alloc (yf _) _).block k (Qi X k f).2)
   have bp:Hid ((rows.length+1)*72<=140737488355328):=yb (by rw[AB.length F,cm.o];exact cx.o)
   have cv:Hid (w.heap.size+3<=(x2.alloc (.cells res.toArray 26)).heap.size):=yb (by have:=ad.o;simp;omega)
   clear X b5 F
   refine Al (i:=7) (by kernel_rfl) rfl (fun K d=>?_)
   rw[yw (by kernel_rfl)]
   refine Sl 24 26 _ rfl res (by kernel_rfl) 6 qL (by kernel_rfl) H.o.len (by omega) (by omega) ?_
   refine d.o _ _ (fun _=>a8.o.alloc a8.o.size _) ?_
   clear d K
   refine Al (i:=8) (by kernel_rfl) rfl (fun K d=>?_)
   rw[yw (by kernel_rfl)]
   refine P7 qL _ _ rfl 6 (by kernel_rfl) (by omega) (w.heap.size+3) (.slice va s l) rows.length rows.flatten (by kernel_rfl) bd.o x2.heap.size 1 res (by kernel_rfl) (World.alloc_heap_new _ _) H.o.len (Bm H.o) bp.o cv.o ?_
   intro vx x8 L b4 bg
   obtain ⟨xa,xn,xc,rfl⟩:=MI L
   have am:=yb (P8 IX cg.o cq.o d2.o H.o H.o.len L b4 bg ad.o)
   clear L b4 bg
   have aq:=yb (bu.o.up (yf _) am.o.below)
   refine d.o _ _ (by intro h;cases h) ?_
   clear d K
   have E:=aq.o.y
   rw[a2.o] at E
   have cn:=E
   have c5:x8.cell? (aV (w.heap.size+2) 5)=some (.slice va s l):=by simp[World.cell?,E]
   have f5:x8.frozen? (aV (w.heap.size+2) 5)=false:=by simp[World.frozen?,E]
   clear E cn
   refine Al (i:=9) (by kernel_rfl) rfl (fun K d=>?_)
   go_simp
   refine d.o _ _ (by intro h;cases h) ?_
   clear d K
   refine Al (i:=10) (by kernel_rfl) rfl (fun K d=>?_)
   go_simp
   refine d.o _ _ (by intro h;cases h) ?_
   clear d K
   refine DO (by kernel_rfl) ?_
   have cd:DS x8 (x8.setCell (aV (w.heap.size+2) 5) (.slice xa xn xc)) (w.heap.size+2) (M++(Value.slice xa xn xc::[])) 26:=AR _ _ [.slice xa xn xc] 5 x8 M [.slice va s l] [] aq.o.y ai.o rfl
   have ar:=yb cd
   clear cd c5 f5 hi a6 bt
   go_wp2
   have cw:Hid (I (i+1) (x8.setCell (aV (w.heap.size+2) 5) (.slice xa xn xc))):=yb (by
    rw[HI.o]
    refine ⟨.slice xa xn xc,aq.o.wrote ar.o,?_⟩
    have h:=am.o.grow.up (l':=[w.heap.size,w.heap.size+1,w.heap.size+2]) IX (ar.o.flux (.inr (by simp))) (fun k f=>ar.o.block k (by have:=(am.o.grow.lt k f).1;omega)) (fun _ h=>.inl h)
    rw[<-cc.o] at h
    exact h)
   rw[co.o]
   exact ⟨⟨i+1,rfl,bo.o,cw⟩,Rc bo.o⟩
  ·obtain rfl:i=m:=by omega
   have bt:decide ((i:Int) < (i:Int))=false:=by simp
   have c8:Hid (Ju UM 26 6 (w.heap.size+3) G [w.heap.size,w.heap.size+1,w.heap.size+2] wr (.slice va s l) (args.map (DZ g left))):=yb (by have h:=A.o;rw[HM.o,yT] at h;exact h)
   obtain ⟨Dz,C⟩:∃r:LV,r=M++(Value.slice va s l::[]):=⟨_,rfl⟩
   have T:Hid (Dz.length=6):=yb (by rw[C,ym,ai.o];rfl)
   have cz:=yb C
   have d1:Hid (∀v∈Dz,v.oneCell'=true):=yb (by rw[C,a2.o];simp[Value.oneCell'])
   have cu:Hid (wr.heap[w.heap.size+2]?=some (.cells Dz.toArray 26 (0,0))):=yb (by rw[C];exact O.o.y)
   clear C A
   go_wp2_with (first
    |(with_reducible refine yj rfl 26 _ rfl (w.heap.size+2) 0 (by kernel_rfl) Dz _ (AD cu.o) qM (by kernel_rfl) (DM T.o) ?_)
    |(with_reducible refine Aq rfl 26 _ _ rfl (w.heap.size+1) (by kernel_rfl) Dz (by kernel_rfl) O.o.cb.res (by rw[T.o];kernel_rfl) (DM T.o) d1.o ?_;intro x6 b0;have S:=yb b0;clear b0))
   refine Bg rfl rfl S.o.row qM rfl (by rw[T.o];kernel_rfl) ?_
   refine ⟨Dz,rfl,?_,S.o.below O.o.cb.below (by omega)⟩
   rw[cz.o,a2.o,AG]
   obtain ⟨h,he,bz⟩:=c8.o.row IX (S.o.flux (.inr (by simp))) (fun k f=>S.o.block k (by have:=(c8.o.lt k f).1;omega)) (fun k f=>by have:=HG.o k f;omega) (by have:=HM.o;have:=N.o;simp;omega)
   have hn:h.n=(args.map (DZ g left)).length:=bz.1
   obtain ⟨ha,d6,cr⟩:=h
   simp only[Au.v,qv] at he
   obtain ⟨rfl,rfl,rfl⟩:=he
   simp only at hn
   subst hn
   exact ⟨va,l,rfl,by have:=HM.o;have:=N.o;simp;omega,cj.o,UN bz⟩
set_option linter.unusedSimpArgs false
set_option linter.unusedVariables false
theorem TZ{N N':NP}{w W:World}{op nn u:Int}{rn:ByteArray}{ri:Int}{args:List Ex}{cs:LV}(h:AG N w (.mk op nn u rn ri args) cs)(g:∀b,N b->N' b)(hb:∀b,N b->W.heap[b]?=w.heap[b]?):
  ∃a cap,cs=[.int .i64 op,.int .i64 nn,.int .i64 u,.string rn,.int .i64 ri,.slice a args.length cap]∧∀c d e:Int,AG N' W (.mk c d e rn ri args) [.int .i64 c,.int .i64 d,.int .i64 e,.string rn,.int .i64 ri,.slice a args.length cap]:=by
 rw[AG] at h
 obtain ⟨a,cap,h1,h2,h3,f⟩:=h
 refine ⟨a,cap,h1,fun c d e=>?_⟩
 rw[AG]
 exact ⟨a,cap,rfl,h2,h3,f.same g hb⟩
def Vx(p:Nat)(v:Int)(G:NP)(W:World):Prop:=GF G W p∧W.cell? ⟨p,0,none⟩=some (.int .i64 v)
theorem Vx.up{p:Nat}{v:Int}{G c:NP}{W W':World}(h:Vx p v G W)(a:CO G W W')(d:∀b,c b->G b∨W.heap.size<=b):Vx p v c W':=
 ⟨h.1.up a.1 d,by have h2:=h.2;unfold World.cell? at h2 ⊢;simp only at h2 ⊢;rw[a.2 p h.1.2 h.1.1];exact h2⟩
structure WM (p q r:Nat) (a b c:Int) (G:Nat->Prop) (W:World):Prop where
 l:Vx p a G W
 h:Vx q b G W
 a:Vx r c G W
end Go.Proofs.YtjofgpfocadomaaGreatDoor
