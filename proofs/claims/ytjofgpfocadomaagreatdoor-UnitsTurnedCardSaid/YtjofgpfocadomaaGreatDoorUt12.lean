/- Parts of the proof, in short words: Go Vc Hj Hk Hl -/
import Derived.Test.YtjofgpfocadomaaGreatDoorUt0
import Derived.Test.YtjofgpfocadomaaGreatDoorUt10
import Derived.Test.YtjofgpfocadomaaGreatDoorUt11
import Derived.Test.YtjofgpfocadomaaGreatDoorUt8
import Derived.Test.YtjofgpfocadomaaGreatDoorUt3
import Derived.Test.YtjofgpfocadomaaGreatDoorUt9
set_option maxRecDepth 100000
set_option maxHeartbeats 32000000
set_option linter.unusedSimpArgs false
namespace Go.Proofs.YtjofgpfocadomaaGreatDoor
open Go.RowKit
theorem PA{B:Nat}{W:World}{t e ty:TypeId}{i:TypeInfo}{z:Value}{size b:Nat}(A:Tryz.prog.underlying t=some (.slice e))(hi:Tryz.prog.info? e=some i)(r:i.zero=some z)(m:i.size=size)(s:i.bytes=b)(C:b<=10000)
 {v:Value}{n:Nat}{xs:LV}(f:W.ownsRow B e size v n xs){g c:Nat}{row:LV}(L:W.heap[g]?=some (.cells row.toArray e (0,0)))(E:row.length=size)(p:∀u∈row,u.oneCell'=true)(q:n+1<=1000000){v':Value}{w':World}
 (a:(Builtin.append_ #[t,t] ty #[v,.slice (some ⟨g,0,none⟩) 1 c]).run Tryz.prog W=.ok v' w'):v'.ownBlock=v.ownBlock∨v'.ownBlock=some W.heap.size:=by
 have D:(n+1)*b<=1000000*10000:=qt q C
 have d:∀j u,row[j]?=some u->W.cell? (((aV g 0):Addr).add j)=some u:=fun j u H=>by
  rw[zB]
  simp only[World.cell?,L]
  simpa using H
 have l:row.length=1*i.size:=by rw[m,E,qA]
 rcases f.2 with ⟨rfl,J⟩|⟨k,cap,y,rfl,I,G,K,F,x,w⟩
 ·subst J
  rw[run_append_nil W t ty e i _ A hi r (aV g 0) 1 c row l d (by omega) (by omega) (by rw[s];omega)] at a
  cases a
  exact .inr rfl
 ·by_cases h:n+1<=cap
  ·rw[run_append_room W t ty e i A hi k n cap y G (aV g 0) 1 c row l d p h (by
    rw[m,x,E]
    calc n*size+size=(n+1)*size:=by rw[Nat.add_mul];omega
     _<=cap*size:=xL _ h)] at a
   cases a
   exact .inl rfl
  ·have o:∀j u,xs[j]?=some u->W.cell? (((aV k 0):Addr).add j)=some u:=World.ownsRow.cells f (g:=k) rfl
   rw[run_append_grow W t ty e i _ A hi r (aV k 0) n cap xs (by rw[m];exact f.1) o (aV g 0) 1 c row l d (by omega) (by omega) (growslice_fits (by omega) (by rw[s];omega))] at a
   cases a
   exact .inr rfl
theorem J5{ops:Array Oper}{rest:List Oper}{o:Oper}{a:Act}{Q:QT}{W:World}{t e:TypeId}(C:Tryz.prog.underlying t=some (.slice e))(w:o.guard=none)(s x:Operand)(J:o.op=.call {callee:=.builtin .append,args:=#[s,x],argTypes:=#[t,t]})
 (size:Nat)(b:((Tryz.prog.info? e).bind fun i=>i.zero.map fun z=>(i.size,z.cells.size,decide (i.bytes<=10000)))=some (size,size,true))(q:0 < size)
 (B:Nat)(v:Value)(n:Nat)(xs:LV)(hs:a.eval s=v)(k:W.ownsRow B e size v n xs)(g c:Nat)(row:LV)(I:a.eval x=.slice (some ⟨g,0,none⟩) 1 c)(D:W.heap[g]?=some (.cells row.toArray e (0,0)))(A:row.length=size)(f:∀u∈row,u.oneCell'=true)(l:n+1<=1000000)(m:B<=W.heap.size)
 (h:∀v' w',w'.ownsRow B e size v' (n+1) (xs++row)->W.grownBy w' v.ownBlock->(v'.ownBlock=v.ownBlock∨v'.ownBlock=some W.heap.size)->wpList Tryz.prog ops Q rest (a.put o.dst v') w'):wpList Tryz.prog ops Q (o::rest) a W:=by
 cases d:Tryz.prog.info? e with
 |none=>simp[d] at b
 |some i0=>
  cases r:i0.zero with
  |none=>simp[d,r] at b
  |some z=>
   simp only[d,r,xu,xB,za,zr,z7] at b
   obtain ⟨h1,h2,h3⟩:=b
   have y:(n+1)*i0.bytes<=1000000*10000:=qt l h3
   have p:∀j u,row[j]?=some u->W.cell? (((aV g 0):Addr).add j)=some u:=fun j u G=>by
    rw[zB]
    simp only[World.cell?,D]
    simpa using G
   obtain ⟨v',w',hr,E,H,_⟩:=run_append_own (P:=Tryz.prog) W B t o.type e i0 z size i0.bytes C d r h1 rfl h2 q v n xs k (aV g 0) 1 c row (by rw[A,qA]) p f (by unfold maxLen;omega) (by omega) m
   have hb:=PA (ty:=o.type) C d r h1 rfl h3 k D A f l hr
   refine zx w fun K F=>?_
   unfold Oper.wp
   simp[execOp,J,resolve,invoke,builtin,hs,I,hr,Result.andThen]
   exact F _ _ (h v' w' E H hb)
def KN(k:Kn):LV:=[.string k.name,.int .i64 k.q.dim.l,.int .i64 k.q.dim.h,.int .i64 k.q.dim.a,.int .i64 k.q.v.n,.int .i64 k.q.v.d,.int .i64 k.q.e,.bool k.ok]
def KO(B:Nat)(W:World)(v:Value)(a:List Kn):Prop:=W.ownsRow B 98 8 v a.length (a.flatMap KN)
theorem Rk(B:Nat)(W:World):KO B W (.slice none 0 0) []:=⟨by simp,.inl ⟨rfl,rfl⟩⟩
theorem Mg{B:Nat}{W:World}{v:Value}{a:List Kn}(h:KO B W v a)(e:a.length<=140737488355328):∃h:Au,v=h.v∧OW W h a:=by
 have f:=FW (a.map KN) 8 (fun cs q=>by obtain ⟨k, -,rfl⟩:=xR.1 q;rfl)
 have m:(a.map KN).flatten=a.flatMap KN:=by rw[List.flatMap_def]
 rw[m] at f
 rcases h.2 with ⟨rfl,o⟩|⟨g,cap,n,rfl,s,h5,h6,t,r,p⟩
 ·exact ⟨⟨none,0,0⟩,rfl,o.symm,e,fun i hi=>by omega⟩
 ·refine ⟨⟨some (aV g 0),a.length,cap⟩,rfl,rfl,e,fun i hi=>?_⟩
  have d:=(yd.1 h5).1
  refine ⟨g,0,KN a[i],rfl,d,rfl,?_,rfl⟩
  intro j u l
  have c:j < 8:=(yA.1 l).1
  have b:=f.2 i (by simpa using hi) j c
  rw[zG,l,<-p] at b
  rw[zN] at b
  split at b
  ·simp only[World.cell?,h5,yy]
   simpa using b
  ·cases b
theorem Ju{B:Nat}{W W':World}{v:Value}{a:List Kn}(h:KO B W v a)(hb:Below W.heap.size W W'):KO B W' v a:=by
 refine ⟨h.1,h.2.imp id ?_⟩
 rintro ⟨g,cap,b,rfl,c,h5,h6⟩
 exact ⟨g,cap,b,rfl,c,(hb.block g (yd.1 h5).1).trans h5,h6⟩
theorem Oe{B:Nat}{b W W':World}{v:Value}{n:Nat}{xs:LV}(h:W.ownsRow B 98 8 v n xs)(d:Below B b W)(j:B<=W.heap.size)(a:W.grownBy W' v.ownBlock):Below B b W':=by
 refine d.trans ⟨a.os,a.tape,a.output,a.size,fun k f=>a.block k (by omega) (fun e=>?_)⟩
 rcases h.2 with ⟨rfl, -⟩|⟨g,cap,c,rfl,i, -⟩
 ·simp[Value.ownBlock] at e
 ·simp only[Value.ownBlock,za] at e
  omega
def Iq:List Ex->Int->Int
 |[],n=>n
 |e::r,n=>if n<=5000 then Iq r (n+JZ e 5001) else n
def GB(x:AB):Bool:=decide (x.lets.length<=100)&&(decide (x.crops.length<=100)&&(decide (x.reaches.length<=100)&&(decide (x.farms.length<=100)&&(decide (x.rots.length<=70)&&(decide (x.rights.length<=300)&&decide (x.duties.length<=300))))))
def Fk(l:List BG):Bool:=l.all fun d=>decide (d.turns.length<=70)
def EP(x:AB):Bool:=GB x&&(Fk x.rots&&decide (Iq (EY x) 0<=5000))
theorem QF:∀(l:List Ex) (n:Int),n<=Iq l n
 |[],n=>by rw[Iq];omega
 |e::r,n=>by
  rw[Iq]
  split
  ·have h1:=(Ip e 5001).1
   have h2:=QF r (n+JZ e 5001)
   omega
  ·omega
theorem OH:∀(l:List Ex) (n:Int),0<=n->Iq l n<=5000->∀e∈l,JZ e 5001 < 5001
 |[],n,_,_=>by simp
 |e::r,n,hn,h=>by
  rw[Iq] at h
  split at h
  ·have h1:=(Ip e 5001).1
   have h2:=QF r (n+JZ e 5001)
   intro d hd
   rcases yI.1 hd with rfl|hd
   ·omega
   ·exact OH r _ (by omega) h d hd
  ·omega
theorem QG(x:AB):∀p∈AD x,p.1∈EY x:=by
 intro p e
 unfold EY Jd Jc GJ Jb Ja IK PU
 unfold AD K9 Ie F4 If Jj Ef Gg Gh at e
 have c:∀ {α:Type} {l:List α} {a:α} {i:Nat},(a,i)∈l.zipIdx->a∈l:=fun h=>by
  obtain ⟨_,h2,h3⟩:=List.mem_zipIdx h
  exact h3▸yM _
 simp only[yz,yY,yI,yZ,zH,Prod.exists] at e ⊢
 rcases e with (rfl|rfl|rfl)|⟨d,i,b,rfl⟩|⟨d,i,b,rfl⟩|⟨d,i,b,h⟩|⟨d,i,b,rfl⟩|⟨d,i,b,h⟩|⟨d,i,b,h⟩|⟨d,i,b,rfl⟩
 ·simp
 ·simp
 ·simp
 ·exact .inl (.inl (.inl (.inl (.inl (.inl (.inl ⟨d,c b,rfl⟩))))))
 ·exact .inl (.inl (.inl (.inl (.inl (.inr ⟨d,c b,rfl⟩)))))
 ·refine .inl (.inl (.inl (.inl (.inr ⟨d,c b,?_⟩))))
  unfold Ep
  rcases h with rfl|rfl|rfl|rfl|rfl|rfl|rfl|rfl<;>simp
 ·exact .inl (.inl (.inl (.inr ⟨d,c b,rfl⟩)))
 ·refine .inl (.inl (.inr ⟨d,c b,?_⟩))
  unfold GI
  simp only[yz,yY,yI,yZ,zH]
  rcases h with (rfl|rfl|rfl)|⟨k,j,f,rfl⟩
  ·simp
  ·simp
  ·simp
  ·exact .inr ⟨k,c f,rfl⟩
 ·refine .inl (.inr ⟨d,c b,?_⟩)
  unfold Er
  rcases h with rfl|rfl|rfl|rfl|rfl<;>simp
 ·exact .inr ⟨d,c b,rfl⟩
theorem PW{x:AB}(h:GB x=true)(a:Fk x.rots=true):Fw x:=by
 unfold GB at h
 simp only[yG,z7] at h
 unfold Fk at a
 rw[yR] at a
 obtain ⟨h1,h2,h3,b,h5,h6,c⟩:=h
 exact ⟨h1,h2,h3,b,h5,h6,c,fun d hd=>by simpa using a d hd⟩
theorem OI{x:AB}(h:EP x=true):My x∧∀e∈AD x,AE e.1<=1000000:=by
 unfold EP at h
 simp only[yG,z7] at h
 obtain ⟨h1,h2,h3⟩:=h
 have a:=PW h1 h2
 have c:=OH (EY x) 0 (by omega) h3
 refine ⟨⟨by have:=a.lets;omega,by have:=a.crops;omega,by have:=a.reaches;omega,by have:=a.farms;omega,by have:=a.rots;omega,by have:=a.rights;omega,by have:=a.duties;omega,fun d hd=>by have:=a.turns d hd;omega,fun e b=>?_⟩,fun e b=>?_⟩
 ·exact OD e.1 5001 (by omega) (c _ (QG x e b))
 ·have h1:=c _ (QG x e b)
  have h2:=OC e.1 5001 h1
  omega
theorem Uk{N:NP}{w:World}{L:Bz}{cs:LV}{x:AB}(h:BT N w L cs x)(hN:∀b,N b->b < w.heap.size):
  Calls Tryz.prog 25 #[.agg cs.toArray] w fun e w'=>e=.returned (.bool (EP x))∧Below w.heap.size w w':=by
 have f:Hid (VC L x):=yb ⟨h.lets.1,h.crops.1,h.reaches.1,h.farms.1,h.rots.1,h.rights.1,h.duties.1⟩
 have C:=h.ok
 have D:=h.at
 obtain ⟨B,M⟩:∃B,B=w.alloc (.cells cs.toArray 35):=⟨_,rfl⟩
 have a8:Below w.heap.size w B:=by rw[M];exact (yg _ _).alloc (yf _) _
 have ak:B.heap.size=w.heap.size+1:=by rw[M];simp
 have ag:B.heap[w.heap.size]?=some (.cells cs.toArray 35 (0,0)):=by rw[M];exact World.alloc_heap_new _ _
 have h0:BT N B L cs x:=h.same (fun _ h=>h) (fun b hb=>a8.block b (hN b hb))
 have ab:=yb h0
 have y:=yb a8;have J:=yb ak;have ai:=yb hN;have cv:=yb C
 have bt:Hid (B.rangeAt w.heap.size 0 cs):=yb (by
  have:=zo ag 0 cs.length
  simpa using this)
 have d:∀q v,cs[q]?=some v->B.cell? (aV w.heap.size q)=some v:=fun q v hq=>by
  simp only[World.cell?,ag];simpa using hq
 have ax:Hid ((Tryz.prog.info? 35).map (·.size)=some cs.length):=yb (by
  obtain ⟨c0,c1,c2,rfl,g0,g1,g2⟩:=h.cells
  obtain ⟨a0,p0,rfl,e0⟩:=g0.cells
  obtain ⟨a1,p1,rfl,e1⟩:=g1.cells
  obtain ⟨a2,p2,rfl,e2⟩:=g2.cells
  kernel_rfl)
 have c4:B.cell? (aV w.heap.size 19)=some (.slice L.lets.a L.lets.n L.lets.c):=d _ _ D.lets
 have c5:B.cell? (aV w.heap.size 20)=some (.slice L.crops.a L.crops.n L.crops.c):=d _ _ D.crops
 have c6:B.cell? (aV w.heap.size 21)=some (.slice L.reaches.a L.reaches.n L.reaches.c):=d _ _ D.reaches
 have c7:B.cell? (aV w.heap.size 22)=some (.slice L.farms.a L.farms.n L.farms.c):=d _ _ D.farms
 have c8:B.cell? (aV w.heap.size 23)=some (.slice L.rots.a L.rots.n L.rots.c):=d _ _ D.rots
 have c9:B.cell? (aV w.heap.size 24)=some (.slice L.rights.a L.rights.n L.rights.c):=d _ _ D.rights
 have bz:B.cell? (aV w.heap.size 25)=some (.slice L.duties.a L.duties.n L.duties.c):=d _ _ D.duties
 have ch:=yb c8
 have l4:L.lets.n<=140737488355328:=C.lets.1
 have l5:L.crops.n<=140737488355328:=C.crops.1
 have l6:L.reaches.n<=140737488355328:=C.reaches.1
 have l7:L.farms.n<=140737488355328:=C.farms.1
 have l8:L.rots.n<=140737488355328:=C.rots.1
 have l9:L.rights.n<=140737488355328:=C.rights.1
 have cu:L.duties.n<=140737488355328:=C.duties.1
 have bo:=yb M
 clear a8 ak ag h0 hN M D C d
 obtain ⟨ks,ad⟩:∃ks,ks=cs:=⟨_,rfl⟩
 rw[<-ad] at ab bt ax
 have HK:=yb ad
 obtain ⟨q0,q1,q2,rfl,g0,g1,g2⟩:=h.cells
 obtain ⟨a0,p0,rfl,e0⟩:=g0.cells
 obtain ⟨a1,p1,rfl,e1⟩:=g1.cells
 obtain ⟨a2,p2,rfl,e2⟩:=g2.cells
 clear h g0 g1 g2 e0 e1 e2 ad
 unfold Au.v at*
 simp only[yP,yS] at bo HK ⊢
 go_enter Tryz.func25,Tryz.ntmps25
 go_upto_region 1 with fail
 rw[<-bo.o]
 by_cases b5:L.lets.n<=100
 ·have bn:decide ((L.lets.n:Int)>100)=false:=by simp;omega
  by_cases an:L.crops.n<=100
  ·have b4:decide ((L.crops.n:Int)>100)=false:=by simp;omega
   by_cases ap:L.reaches.n<=100
   ·have av:decide ((L.reaches.n:Int)>100)=false:=by simp;omega
    by_cases bi:L.farms.n<=100
    ·have au:decide ((L.farms.n:Int)>100)=false:=by simp;omega
     by_cases bk:L.rots.n<=70
     ·have ba:decide ((L.rots.n:Int)>70)=false:=by simp;omega
      by_cases ar:L.rights.n<=300
      ·have bd:decide ((L.rights.n:Int)>300)=false:=by simp;omega
       by_cases bp:L.duties.n<=300
       ·have am:decide ((L.duties.n:Int)>300)=false:=by simp;omega
        have aa:Hid (GB x=true):=yb (by
         have h1:=f.o.lets;have h2:=f.o.crops;have h3:=f.o.reaches;have h4:=f.o.farms;have h5:=f.o.rots;have h6:=f.o.rights;have h7:=f.o.duties
         unfold GB
         simp only[yG,z7]
         omega)
        clear b5 an ap bi bk ar bp
        go_upto_region 3 with fail
        clear bn b4 av au ba bd am c4 c5 c6 c7 c8 c9 bz
        go_wp2
        have ay:Hid (Fk (x.rots.take 0)=true):=yb (by simp[Fk])
        have Z:=yb (yg B.heap.size B)
        go_loopw [3] (fun iv wr=>∃i:Nat,i<=L.rots.n∧iv=iV i∧Hid (Fk (x.rots.take i)=true)∧Hid (Below B.heap.size B wr)) (fun iv _=>L.rots.n - (intOf iv).toNat)
        case atStart=>exact ⟨0,yK _,rfl,ay,Z⟩
        case round=>
         clear ay Z
         obtain ⟨i,hi,rfl,HT,A⟩:=hrel
         have hf:wr.cell? (aV w.heap.size 23)=some (.slice L.rots.a L.rots.n L.rots.c):=(A.o.cell (p:=(aV w.heap.size 23)) (by rw[J.o];exact xQ _)).trans ch.o
         by_cases P:i < L.rots.n
         ·have F:i < x.rots.length:=by rw[<-f.o.rots];exact P
          have V:(i:Int) < (L.rots.n:Int):=by omega
          obtain ⟨b,o,R,he,af,aw,I,hv⟩:=ab.o.rots.2.2 i F
          have K:=A0 I (A.o.block b (by have:=ai.o b af;have:=J.o;omega))
          have hz:R[22]?=some (A2 L i).v∧(A2 L i).n=x.rots[i].turns.length∧x.rots[i].turns.length<=140737488355328:=by
           obtain ⟨_,_,d0,d1,d2,rfl,k0,k1,k2,ht⟩:=hv
           have l0:=k0.len;have l1:=k1.len;have l2:=k2.len
           refine ⟨?_,ht.1,ht.2.1⟩
           have e:(Value.string x.rots[i].name::(AX x.rots[i].on++(iV x.rots[i].rank::(d0++(d1++(d2++[(A2 L i).v]))))))=(Value.string x.rots[i].name::(AX x.rots[i].on++(iV x.rots[i].rank::(d0++(d1++d2)))))++[(A2 L i).v]:=by simp
           rw[e,yU (by simp[Av,l0,l1,l2])]
           simp[Av,l0,l1,l2]
          have ct:wr.cell? (aV b (o+i*23+22))=some (.slice (A2 L i).a (A2 L i).n (A2 L i).c):=K 22 _ hz.1
          have lt:(A2 L i).n<=140737488355328:=by rw[hz.2.1];exact hz.2.2
          rw[he] at hf
          by_cases O:(A2 L i).n<=70
          ·have cn:decide (((A2 L i).n:Int)>70)=false:=by simp;omega
           have ck:Hid (Fk (x.rots.take (i+1))=true):=yb (by
            have h:=HT.o
            unfold Fk at h ⊢
            rw[yJ F,qk,h]
            have:x.rots[i].turns.length<=70:=by rw[<-hz.2.1];exact O
            simp[this])
           clear O I K hz he hv aw af
           go_wp2
           exact ⟨⟨i+1,by omega,by push_cast;rfl,ck,A⟩,by simp[intOf];omega⟩
          ·have cn:decide (((A2 L i).n:Int)>70)=true:=by simp;omega
           have z:Hid (EP x=false):=yb (by
            have e:Fk x.rots=false:=by
             unfold Fk
             rw[xq]
             exact ⟨x.rots[i],yM F,by rw[<-hz.2.1];simpa using O⟩
            unfold EP
            rw[e];simp)
           clear O I K hz he hv aw af
           go_wp2
           go_ret
           exact ⟨AK z.o.symm,y.o.trans (A.o.mono y.o.size)⟩
         ·obtain rfl:i=L.rots.n:=by omega
          have V:decide ((L.rots.n:Int) < (L.rots.n:Int))=false:=by simp
          have a6:Hid (Fk x.rots=true):=yb (by
           have h:=HT.o
           rw[f.o.rots,yT] at h
           exact h)
          have co:=yb (A0 bt.o (A.o.block w.heap.size (by rw[J.o];exact xQ _)))
          have ce:Hid (BT N wr L ks x):=yb (ab.o.same (fun _ h=>h) (fun b hb=>A.o.block b (by have:=ai.o b hb;have:=J.o;omega)))
          have ao:Hid (∀b,N b->b < wr.heap.size):=yb (fun b hb=>by have:=ai.o b hb;have:=J.o;have:=A.o.size;omega)
          go_wp2_with (first|(refine yj rfl 35 _ rfl w.heap.size 0 rfl ks _ co.o qV rfl ax.o ?_)|(go_at_call 39;refine (Uj ce.o ao.o (PW aa.o a6.o)).mono ?_;rintro e w2 ⟨v2,rfl,b8⟩;have U:=yb b8;clear b8))
          obtain ⟨rows,bj,H⟩:=U.o.own
          have az:rows.length=(EY x).length:=H.length
          have bw:=(PW aa.o a6.o).top.tE
          have bq:3<=(EY x).length:=by
           unfold EY Jd Jc GJ Jb Ja IK
           simp only[ym,yx,yH]
           omega
          rcases bj with ⟨ci,⟨_,h3⟩|⟨g,cap,cw,rfl,cm,a7,cg,cc,bx,bh⟩⟩
          ·omega
          have d:∀j u,rows.flatten[j]?=some u->w2.cell? (aV g j)=some u:=fun j u hj=>by
           rw[<-bh] at hj
           have P:=(yA.1 hj).1
           rw[zc] at P
           rw[zN,yw (by omega)] at hj
           simp only[World.cell?,a7]
           simpa using hj
          have aq:Hid (∀i (hi:i < (EY x).length),∃c,w2.rangeAt g (i*6) c∧AH N wr (EY x)[i] c):=yb (fun i hi=>by
           have bg:i < rows.length:=by omega
           refine ⟨rows[i],fun j u hj=>d _ _ ?_,H.get i bg hi⟩
           have aj:∀(l:List LV) (k:Nat) (O:k < l.length),(∀r∈l,r.length=6)->∀j u,(l[k])[j]?=some u->l.flatten[k*6+j]?=some u:=by
            intro l
            induction l with
            |nil=>intro k O;simp at O
            |cons r t ih=>
             intro k O h6 j u hu
             have bv:=h6 r (by simp)
             cases k with
             |zero=>
              have b7:r[j]?=some u:=hu
              have cl:=(yA.1 b7).1
              simp only[zs,Nat.zero_mul,yy]
              rw[zn cl]
              exact b7
             |succ k=>
              simp only[zs]
              rw[yU (by omega),bv,show (k+1)*6+j - 6=k*6+j by omega]
              exact ih k (by simpa using O) (fun r hr=>h6 r (by simp[hr])) j u (by simpa using hu)
           refine aj rows i bg (fun r hr=>?_) j u hj
           obtain ⟨k,O,rfl⟩:=zh.1 hr
           exact (H.get k O (by omega)).len)
          have ae:Hid (rows.length=(EY x).length):=yb az
          have bm:rows.length<=140737488355328:=by omega
          have Q:Hid (Below w.heap.size w w2):=yb ((y.o.trans (A.o.mono y.o.size)).trans (U.o.below.mono (yu y.o.size A.o.size)))
          have cd:Hid (g < w2.heap.size):=yb (yd.1 a7).1
          have b9:Hid (∀W,Below w2.heap.size w2 W->∀b,N b->W.heap[b]?=wr.heap[b]?∧b < W.heap.size):=yb (fun W hW b hb=>by
           have h1:=ao.o b hb
           have h2:=U.o.below.size
           have h3:=hW.size
           exact ⟨(hW.block b (by omega)).trans (U.o.below.block b h1),by omega⟩)
          have z:Hid (EP x=decide (Iq (EY x) 0<=5000)):=yb (by unfold EP;rw[aa.o,a6.o];rfl)
          generalize hS:Iq (EY x) 0=S at z
          have b0:Hid (Iq ((EY x).drop 0) 0=S):=yb hS
          have Y:=yb (yg w2.heap.size w2)
          generalize cf:rows.length=m at ae bm
          clear hS ci a7 cg cc bx bh d H az bq bw hf V cm cf HT
          go_wp2
          go_loopw [4,6] (fun nv iv wr=>∃(i:Nat) (n:Int),nv=iV n∧iv=iV i∧i<=m∧0<=n∧n<=10001∧Hid (Iq ((EY x).drop i) n=S)∧Hid (Below w2.heap.size w2 wr)) (fun _ iv _=>m - (intOf iv).toNat)
          case atStart=>exact ⟨0,0,rfl,rfl,yK _,by omega,by omega,b0,Y⟩
          case round=>
           clear b0 Y
           obtain ⟨i,n,rfl,rfl,hi,cq,cx,HS,G⟩:=hrel
           by_cases P:i < m
           ·have F:i < (EY x).length:=by rw[<-ae.o];exact P
            have V:(i:Int) < (m:Int):=by omega
            by_cases be:n<=5000
            ·obtain ⟨c,I,T⟩:=aq.o i F
             have bu:=yb (A0 I (G.o.block g cd.o))
             have HC:=yb (Tt (EY x)[i] (w:=wr) (most:=5001) (AH.same (fun b h=>h) (fun b hb=>(b9.o wr G.o b hb).1) T) (fun b hb=>(b9.o wr G.o b hb).2) (by omega) (by omega))
             have ah:Hid (Iq ((EY x).drop (i+1)) (n+JZ (EY x)[i] 5001)=S):=yb (by
              have h:=HS.o
              rw[Hv F,Iq,yw be] at h
              exact h)
             have X:=Ip (EY x)[i] 5001
             generalize (EY x)[i]=E at T HC ah X
             generalize JZ E 5001=s at HC ah X
             have cp:1<=s:=X.1
             have cr:s<=5001:=by omega
             obtain ⟨a',p',rfl,_⟩:=T.cells
             clear I T X
             go_wp2_with (first|(refine yj rfl 26 _ rfl g (i*6) (by simp[Act.eval]) [iV E.op,iV E.n,iV E.u,.string E.rn,iV E.ri,.slice a' E.args.length p'] _ bu.o qM rfl (by kernel_rfl) ?_)|(go_at_call 40;refine HC.o.mono ?_;rintro e w3 ⟨rfl,bb⟩;have cj:=yb (G.o.trans (bb.mono G.o.size));clear bb))
             exact ⟨⟨i+1,n+s,rfl,by go_num,by omega,by omega,by omega,ah,cj⟩,by simp[intOf];omega⟩
            ·have ac:Hid (n=S):=yb (by
              have h:=HS.o
              rw[Hv F,Iq,yt be] at h
              exact h)
             go_wp2
             go_ret
             exact ⟨AK (by rw[z.o,<-ac.o];exact (xr (by omega)).symm),Q.o.trans (G.o.mono Q.o.size)⟩
           ·obtain rfl:i=m:=by omega
            have ac:Hid (n=S):=yb (by
             have h:=HS.o
             rw[ae.o,zI,Iq] at h
             exact h)
            have V:decide ((i:Int) < (i:Int))=false:=by simp
            go_wp2
            go_ret
            exact ⟨AK (by rw[z.o,<-ac.o]),Q.o.trans (G.o.mono Q.o.size)⟩
       ·have am:decide ((L.duties.n:Int)>300)=true:=by simp;omega
        have z:Hid (EP x=false):=yb (by
         have h:=f.o.duties
         have e:decide (x.duties.length<=300)=false:=by simp;omega
         unfold EP GB
         rw[e];simp)
        clear bp
        go_wp2
        go_ret
        exact ⟨AK z.o.symm,y.o⟩
      ·have bd:decide ((L.rights.n:Int)>300)=true:=by simp;omega
       have z:Hid (EP x=false):=yb (by
        have h:=f.o.rights
        have e:decide (x.rights.length<=300)=false:=by simp;omega
        unfold EP GB
        rw[e];simp)
       clear ar
       go_wp2
       go_ret
       exact ⟨AK z.o.symm,y.o⟩
     ·have ba:decide ((L.rots.n:Int)>70)=true:=by simp;omega
      have z:Hid (EP x=false):=yb (by
       have h:=f.o.rots
       have e:decide (x.rots.length<=70)=false:=by simp;omega
       unfold EP GB
       rw[e];simp)
      clear bk
      go_wp2
      go_ret
      exact ⟨AK z.o.symm,y.o⟩
    ·have au:decide ((L.farms.n:Int)>100)=true:=by simp;omega
     have z:Hid (EP x=false):=yb (by
      have h:=f.o.farms
      have e:decide (x.farms.length<=100)=false:=by simp;omega
      unfold EP GB
      rw[e];simp)
     clear bi
     go_wp2
     go_ret
     exact ⟨AK z.o.symm,y.o⟩
   ·have av:decide ((L.reaches.n:Int)>100)=true:=by simp;omega
    have z:Hid (EP x=false):=yb (by
     have h:=f.o.reaches
     have e:decide (x.reaches.length<=100)=false:=by simp;omega
     unfold EP GB
     rw[e];simp)
    clear ap
    go_wp2
    go_ret
    exact ⟨AK z.o.symm,y.o⟩
  ·have b4:decide ((L.crops.n:Int)>100)=true:=by simp;omega
   have z:Hid (EP x=false):=yb (by
    have h:=f.o.crops
    have e:decide (x.crops.length<=100)=false:=by simp;omega
    unfold EP GB
    rw[e];simp)
   clear an
   go_wp2
   go_ret
   exact ⟨AK z.o.symm,y.o⟩
 ·have bn:decide ((L.lets.n:Int)>100)=true:=by simp;omega
  have z:Hid (EP x=false):=yb (by
   have h:=f.o.lets
   have e:decide (x.lets.length<=100)=false:=by simp;omega
   unfold EP GB
   rw[e];simp)
  clear b5
  go_wp2
  go_ret
  exact ⟨AK z.o.symm,y.o⟩
theorem FA{ops:Array Oper}{rest:List Oper}{op:Oper}{a:Act}{w:World}{Q:QT}(c:op.guard=none)(ty:TypeId)(x y:Operand)(i:op.op=.store ty x y)
 (b o:Nat)(g:a.eval x=.pointer (some ⟨b,o,none⟩))(v:Value)(d:a.eval y=v)(e:v.cells=#[v]){p q:LV}{m:Value}{t:TypeId}(hb:w.heap[b]?=some (.cells (p++(m::q)).toArray t (0,0)))(f:p.length=o)
 (hi:(Tryz.prog.info? ty).map (·.size)=some 1)(h1:v.oneCell'=true)
 (h:∀W',Bh w W' b (p++(v::q)) t->wpList Tryz.prog ops Q rest (a.put op.dst undef) W'):wpList Tryz.prog ops Q (op::rest) a w:=by
 refine GH c ty x y i b o v g d e (Ay hb (by simp;omega)) hi h1 ?_
 exact h _ (Ab b t [v] o w p [m] q hb f rfl)
theorem Az{ops:Array Oper}{rest:List Oper}{op:Oper}{a:Act}{w:World}{Q:QT}(d:op.guard=none)(ty:TypeId)(x y:Operand)(j:op.op=.store ty x y)
 (b:Nat)(i:a.eval x=.pointer (some ⟨b,0,none⟩))(c:LV)(e:a.eval y=.agg c.toArray){m:Array Value}{t:TypeId}(hb:w.heap[b]?=some (.cells m t (0,0)))(g:m.size=c.length)
 (hi:(Tryz.prog.info? ty).map (·.size)=some c.length)(h1:∀v∈c,v.oneCell'=true)
 (h:∀W',Bh w W' b c t->wpList Tryz.prog ops Q rest (a.put op.dst undef) W'):wpList Tryz.prog ops Q (op::rest) a w:=by
 refine JE d ty x y j b 0 i c e (p:=[]) (m:=m.toList) (q:=[]) (by simpa using hb) rfl (by simpa using g) hi h1 fun W' f=>h W' ?_
 simpa using f
theorem C9{c:LV}(h:c.length=6):(Tryz.prog.info? 26).map (·.size)=some c.length:=by rw[h];kernel_rfl
def FL(F:NP)(l:List Nat)(k:Nat):Prop:=F k∨k∈l
section
variable{F:NP}{l l':List Nat}{W W':World}{e:Ex}{c:LV}
theorem VD(a:∀k∈l',k∈l∨W.heap.size<=k):∀b,FL F l' b->FL F l b∨W.heap.size<=b:=fun b hb=>hb.elim (fun h=>.inl (.inl h)) fun h=>(a b h).elim (fun h=>.inl (.inr h)) .inr
end
theorem Ul{i m:Nat}(h:i < m)(a:m<=140737488355328):Value.int .i64 (wrap64 ((i:Int)+1))=.int .i64 ((i+1:Nat):Int):=by
 have e:((i:Int)+1)=((i+1:Nat):Int):=by push_cast;rfl
 rw[e,AS (by rw[Int.natAbs_natCast];exact yu h (yu a (by decide)))]
theorem Um{i m:Nat}(h:i < m):m - (intOf (.int .i64 ((i+1:Nat):Int))).toNat < m - (intOf (.int .i64 (i:Int))).toNat:=by
 simp only[intOf,Int.toNat_natCast];omega
def ob(v:Value):List Nat:=v.ownBlock.toList
def Un{δ:Type}(V:NP->World->LV->δ->Prop):Prop:=∀(N N':NP) (w w':World) (cs:LV) (d:δ),(∀b,N b->N' b)->(∀b,N b->w'.heap[b]?=w.heap[b]?)->V N w cs d->V N' w' cs d
section
variable{δ:Type}{V:NP->World->LV->δ->Prop}{F F':NP}{l l':List Nat}{W W':World}{cs:LV}{d:δ}{v v':Value}{ds:List δ}{ty sz B C:Nat}
theorem Un.flux(hs:Un V)(h:V (GF F W) W cs d)(a:Db F W W')(c:∀b,F' b->F b∨W.heap.size<=b):V (GF F' W') W' cs d:=hs _ _ _ _ _ _ (fun _ hb=>hb.up a.1 c) (fun b hb=>a.2 b hb.2 hb.1) h
structure LI (V:(Nat->Prop)->World->List Value->δ->Prop) (ty sz B:Nat) (F:Nat->Prop) (l:List Nat) (W:World) (v:Value) (ds:List δ):Prop where
 own:∃rows:List (List Value),W.ownsRow B ty sz v rows.length rows.flatten∧(∀r∈rows,r.length=sz)∧AG (fun cs d=>V (GF (FL F (l++ob v)) W) W cs d) rows ds
theorem UX{n:Nat}{xs:LV}(h:W.ownsRow B ty sz v n xs):∀k∈ob v,B<=k∧k < W.heap.size:=by
 intro k a
 rcases h.2 with ⟨rfl,_⟩|⟨g,cap,b,rfl,c,h5,_⟩
 ·simp[ob,Value.ownBlock] at a
 ·simp only[ob,Value.ownBlock,Option.toList_some,ze] at a
  subst a
  exact ⟨c,(yd.1 h5).1⟩
theorem LI.lt(h:LI V ty sz B F l W v ds):∀k∈ob v,B<=k∧k < W.heap.size:=by
 obtain ⟨rows,h1,_⟩:=h.own
 exact UX h1
theorem RQ{n:Nat}{xs:LV}(h:W.ownsRow B ty sz v n xs):∃a m c,v=.slice a m c:=by
 rcases h.2 with ⟨rfl,_⟩|⟨g,cap,b,rfl,_⟩
 ·exact ⟨_,_,_,rfl⟩
 ·exact ⟨_,_,_,rfl⟩
theorem LI.slice(h:LI V ty sz B F l W v ds):∃a m c,v=.slice a m c:=by
 obtain ⟨rows,h1,_⟩:=h.own
 exact RQ h1
theorem LK{n:Nat}{xs:LV}(h:W.ownsRow B ty sz v n xs)(hb:∀k∈ob v,W'.heap[k]?=W.heap[k]?):W'.ownsRow B ty sz v n xs:=by
 obtain ⟨h1,h2⟩:=h
 refine ⟨h1,h2.imp id ?_⟩
 rintro ⟨g,cap,a,rfl,b,h5,h6⟩
 exact ⟨g,cap,a,rfl,b,(hb g (by simp[ob,Value.ownBlock])).trans h5,h6⟩
theorem UY(a:∀k∈l',k∈l∨W.heap.size<=k):∀b,FL F l' b->FL F l b∨W.heap.size<=b:=VD a
theorem LI.up(hs:Un V)(h:LI V ty sz B F l W v ds)(b:Db (FL F (l++ob v)) W W')(hb:∀k∈ob v,W'.heap[k]?=W.heap[k]?)(c:∀k∈l',k∈l∨W.heap.size<=k):LI V ty sz B F l' W' v ds:=by
 obtain ⟨rows,h1,h2,h3⟩:=h.own
 refine ⟨rows,LK h1 hb,h2,AG.mono (fun _ _ d=>hs.flux d b (UY fun k a=>?_)) h3⟩
 rcases yz.1 a with a|a
 ·exact (c k a).imp (fun h=>yz.2 (.inl h)) id
 ·exact .inl (yz.2 (.inr a))
theorem Db.more(b:Db (FL F l) W W')(a:List Nat):Db (FL F (l++a)) W W':=b.wide fun _ _ h=>h.elim .inl fun h=>.inr (yz.2 (.inl h))
structure VV (V:(Nat->Prop)->World->List Value->δ->Prop) (ty sz B:Nat) (F:Nat->Prop) (l:List Nat) (W W':World) (v v':Value) (ds:List δ):Prop where
 grow:LI V ty sz B F l W' v' ds
 flux:Db (FL F (l++ob v)) W W'
 below:Below B W W'
 obs:∀k∈l++ob v',k∈l++ob v∨W.heap.size<=k
theorem LI.row(hs:Un V)(h:LI V ty sz B F l W v ds)(n:Db (FL F l) W W')(hb:∀k∈ob v,W'.heap[k]?=W.heap[k]?)(w:∀b,F b->b < B)(d:ds.length<=140737488355328):∃h:Au,v=h.v∧BL (GF F W') W' sz (V (GF F W') W') h ds:=by
 obtain ⟨rows,h1,h2,h3⟩:=h.own
 have m:rows.length=ds.length:=AG.length h3
 have p:∀i (hi:i < ds.length) (a:i < rows.length),V (GF F W') W' rows[i] ds[i]:=fun i hi a=>hs.flux (AG.get h3 i a hi) (n.more _) (fun b hb=>.inl (.inl hb))
 rcases h1.2 with ⟨rfl,s⟩|⟨g,cap,r,rfl,y,h5,h6,z,x,t⟩
 ·exact ⟨⟨none,0,0⟩,rfl,by rw[<-m,s],d,fun i hi=>by omega⟩
 ·refine ⟨⟨some (aV g 0),rows.length,cap⟩,rfl,m,d,fun i hi=>?_⟩
  have a:i < rows.length:=by omega
  have f:=hb g (by simp[ob,Value.ownBlock])
  have q:=(yd.1 h5).1
  refine ⟨g,0,rows[i],rfl,⟨fun h=>by have:=w g h;omega,by have:=n.1;omega⟩,h2 _ (yM a),?_,p i hi a⟩
  intro j u o
  have e:j < sz:=by rw[<-h2 _ (yM a)];exact (yA.1 o).1
  have c:=(FW rows sz h2).2 i a j e
  rw[o,<-t] at c
  rw[zN] at c
  split at c
  ·simp only[World.cell?,f,h5,yy]
   simpa using c
  ·cases c
end
set_option linter.unusedSimpArgs false
structure VY (fid:Nat) (caps:Array Value) (g:Ex->Ex) (J:(Nat->Prop)->World->Prop):Prop where
 stab:∀G G' W W',J G W->Db G W W'->(∀b,G' b->G b∨W.heap.size<=b)->J G' W'
 enter:∀args w,(callFunc fid args).run Tryz.prog w=.ok (.enter fid args) w
 call:∀(G:Nat->Prop) (W:World) (e:Ex) (cs:List Value),J G W->AH (GF G W) W e cs->(∀k,G k->k < W.heap.size)->
  Calls Tryz.prog fid (#[.agg cs.toArray]++caps) W fun x W'=>∃cs':List Value,x=.returned (.agg cs'.toArray)∧AH (GF G W') W' (g e) cs'∧Below W.heap.size W W'
structure S4 (w:World) (row:List Value) (wr:World):Prop where
 below:Below w.heap.size w wr
 box:wr.heap[w.heap.size]?=some (.cells row.toArray 26 (0,0))
 res:wr.heap[w.heap.size+1]?=some (.cells [Value.int .i64 0,.int .i64 0,.int .i64 0,.string {data:=#[]},.int .i64 0,.slice none 0 0].toArray 26 (0,0))
section
variable{w wr W:World}{row yr yr':LV}{C:Nat}
theorem S4.lt(h:S4 w row wr):w.heap.size+2<=wr.heap.size:=(yd.1 h.res).1
theorem S4.up(h:S4 w row wr)(a:w.heap.size+2<=C)(hb:Below C wr W):S4 w row W:=
 ⟨h.below.trans (hb.mono (by omega)),(hb.block _ (by omega)).trans h.box,(hb.block _ (by omega)).trans h.res⟩
theorem S4.wrote(h:S4 w row wr){b:Nat}{c:LV}{t:TypeId}(a:Bh wr W b c t)(hb:w.heap.size+2<=b):S4 w row W:=
 ⟨a.below h.below (by omega),(a.block _ (by omega)).trans h.box,(a.block _ (by omega)).trans h.res⟩
structure UD (w:World) (row yr:List Value) (wr:World):Prop where
 cb:S4 w row wr
 y:wr.heap[w.heap.size+2]?=some (.cells yr.toArray 26 (0,0))
theorem UD.lt(h:UD w row yr wr):w.heap.size+3<=wr.heap.size:=(yd.1 h.y).1
theorem UD.up(h:UD w row yr wr)(a:w.heap.size+3<=C)(hb:Below C wr W):UD w row yr W:=⟨h.cb.up (by omega) hb,(hb.block _ (by omega)).trans h.y⟩
theorem UD.wrote(h:UD w row yr wr)(a:Bh wr W (w.heap.size+2) yr' 26):UD w row yr' W:=⟨h.cb.wrote a (yf _),a.row⟩
end
theorem Tz{w w1:World}{op nn u:Int}{rn:ByteArray}{ri:Int}{v:Value}(h:w1=(w.alloc (.cells #[.int .i64 op,.int .i64 nn,.int .i64 u,.string rn,.int .i64 ri,v] 26)).alloc (.cells #[.int .i64 0,.int .i64 0,.int .i64 0,.string {data:=#[]},.int .i64 0,.slice none 0 0] 26)):S4 w [.int .i64 op,.int .i64 nn,.int .i64 u,.string rn,.int .i64 ri,v] w1:=by
 subst h
 refine ⟨((yg _ _).alloc (yf _) _).alloc (by simp) _,?_,?_⟩
 ·rw[yD _ _ _ (by simp)];exact World.alloc_heap_new _ _
 ·have:=World.alloc_heap_new (w.alloc (.cells #[iV op,iV nn,iV u,.string rn,iV ri,v] 26)) (.cells ja 26)
  simpa using this
set_option linter.unusedSimpArgs false
set_option linter.unusedVariables false
theorem TA{N N':NP}{w W:World}{op nn u:Int}{rn:ByteArray}{ri:Int}{args:List Ex}{cs:LV}(h:AH N w (.mk op nn u rn ri args) cs)(g:∀b,N b->N' b)(hb:∀b,N b->W.heap[b]?=w.heap[b]?):
  ∃a cap,cs=[.int .i64 op,.int .i64 nn,.int .i64 u,.string rn,.int .i64 ri,.slice a args.length cap]∧∀c d e:Int,AH N' W (.mk c d e rn ri args) [.int .i64 c,.int .i64 d,.int .i64 e,.string rn,.int .i64 ri,.slice a args.length cap]:=by
 rw[AH] at h
 obtain ⟨a,cap,h1,h2,h3,f⟩:=h
 refine ⟨a,cap,h1,fun c d e=>?_⟩
 rw[AH]
 exact ⟨a,cap,rfl,h2,h3,f.same g hb⟩
def V9(p:Nat)(v:Int)(G:NP)(W:World):Prop:=GF G W p∧W.cell? ⟨p,0,none⟩=some (.int .i64 v)
theorem V9.up{p:Nat}{v:Int}{G c:NP}{W W':World}(h:V9 p v G W)(a:Db G W W')(d:∀b,c b->G b∨W.heap.size<=b):V9 p v c W':=
 ⟨h.1.up a.1 d,by have h2:=h.2;unfold World.cell? at h2 ⊢;simp only at h2 ⊢;rw[a.2 p h.1.2 h.1.1];exact h2⟩
structure Wn (p q r:Nat) (a b c:Int) (G:Nat->Prop) (W:World):Prop where
 l:V9 p a G W
 h:V9 q b G W
 a:V9 r c G W
end Go.Proofs.YtjofgpfocadomaaGreatDoor
