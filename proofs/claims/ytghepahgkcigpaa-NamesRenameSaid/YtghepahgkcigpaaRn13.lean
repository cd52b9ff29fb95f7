/- Parts of the proof, in short words: Vc Za Zb Zc Zd Bs Bb Bc Zp -/
import Derived.Test.YtghepahgkcigpaaRn0
import Derived.Test.YtghepahgkcigpaaRn11
import Derived.Test.YtghepahgkcigpaaRn7
import Derived.Test.YtghepahgkcigpaaRn3
import Derived.Test.YtghepahgkcigpaaRn12
import Derived.Test.YtghepahgkcigpaaRn8
import Derived.StillTailTactics
set_option maxRecDepth 100000
set_option maxHeartbeats 64000000
set_option linter.unusedSimpArgs false
namespace Go.Proofs.Ytghepahgkcigpaa
open Go.RowKit
def Jk:List Ex->Int->Int
 |[],n=>n
 |e::r,n=>if n<=5000 then Jk r (n+KW e 5001) else n
def I3(x:Am):Bool:=decide (x.lets.length<=100)&&(decide (x.crops.length<=100)&&(decide (x.reaches.length<=100)&&(decide (x.farms.length<=100)&&(decide (x.rots.length<=70)&&(decide (x.rights.length<=300)&&decide (x.duties.length<=300))))))
def Ga(l:List B6):Bool:=l.all fun d=>decide (d.turns.length<=70)
def FP(x:Am):Bool:=I3 x&&(Ga x.rots&&decide (Jk (CP x) 0<=5000))
theorem RD:∀(l:List Ex) (n:Int),n<=Jk l n
 |[],n=>by rw[Jk];omega
 |e::r,n=>by
  rw[Jk]
  split
  ·have h1:=(Jb e 5001).1
   have h2:=RD r (n+KW e 5001)
   omega
  ·omega
theorem Pv:∀(l:List Ex) (n:Int),0<=n->Jk l n<=5000->∀e∈l,KW e 5001 < 5001
 |[],n,_,_=>by simp
 |e::r,n,hn,h=>by
  rw[Jk] at h
  split at h
  ·have h1:=(Jb e 5001).1
   have h2:=RD r (n+KW e 5001)
   intro d hd
   rcases yK.1 hd with rfl|hd
   ·omega
   ·exact Pv r _ (by omega) h d hd
  ·omega
theorem RE(x:Am):∀p∈AN x,p.1∈CP x:=by
 intro p e
 unfold CP Kj Ki I7 Kh Kg JH QH
 unfold AN Ie Fu Du Fv HY DD Eo Ep at e
 have c:∀ {α:Type} {l:List α} {a:α} {i:Nat},(a,i)∈l.zipIdx->a∈l:=fun h=>by
  obtain ⟨_,h2,h3⟩:=List.mem_zipIdx h
  exact h3▸yz _
 simp only[yi,yQ,yK,zp,xv,Prod.exists] at e ⊢
 rcases e with (rfl|rfl|rfl)|⟨d,i,b,rfl⟩|⟨d,i,b,rfl⟩|⟨d,i,b,h⟩|⟨d,i,b,rfl⟩|⟨d,i,b,h⟩|⟨d,i,b,h⟩|⟨d,i,b,rfl⟩
 ·simp
 ·simp
 ·simp
 ·exact .inl (.inl (.inl (.inl (.inl (.inl (.inl ⟨d,c b,rfl⟩))))))
 ·exact .inl (.inl (.inl (.inl (.inl (.inr ⟨d,c b,rfl⟩)))))
 ·refine .inl (.inl (.inl (.inl (.inr ⟨d,c b,?_⟩))))
  unfold F2
  rcases h with rfl|rfl|rfl|rfl|rfl|rfl|rfl|rfl<;>simp
 ·exact .inl (.inl (.inl (.inr ⟨d,c b,rfl⟩)))
 ·refine .inl (.inl (.inr ⟨d,c b,?_⟩))
  unfold I6
  simp only[yi,yQ,yK,zp,xv]
  rcases h with (rfl|rfl|rfl)|⟨k,j,hk,rfl⟩
  ·simp
  ·simp
  ·simp
  ·exact .inr ⟨k,c hk,rfl⟩
 ·refine .inl (.inr ⟨d,c b,?_⟩)
  unfold F3
  rcases h with rfl|rfl|rfl|rfl|rfl<;>simp
 ·exact .inr ⟨d,c b,rfl⟩
theorem O4{x:Am}(h:I3 x=true)(a:Ga x.rots=true):Fw x:=by
 unfold I3 at h
 simp only[yv,yW] at h
 unfold Ga at a
 rw[yO] at a
 obtain ⟨h1,h2,h3,h4,h5,h6,b⟩:=h
 exact ⟨h1,h2,h3,h4,h5,h6,b,fun d hd=>by simpa using a d hd⟩
theorem Uj{x:Am}(h:FP x=true):Ih x∧∀e∈AN x,AJ e.1<=1000000:=by
 unfold FP at h
 simp only[yv,yW] at h
 obtain ⟨h1,h2,h3⟩:=h
 have a:=O4 h1 h2
 have c:=Pv (CP x) 0 (by omega) h3
 refine ⟨⟨by have:=a.lets;omega,by have:=a.crops;omega,by have:=a.reaches;omega,by have:=a.farms;omega,by have:=a.rots;omega,by have:=a.rights;omega,by have:=a.duties;omega,fun d hd=>by have:=a.turns d hd;omega,fun e b=>?_⟩,fun e b=>?_⟩
 ·exact OH e.1 5001 (by omega) (c _ (RE x e b))
 ·have h1:=c _ (RE x e b)
  have h2:=OG e.1 5001 h1
  omega
theorem RF{N:NP}{w:World}{L:Bw}{cs:LV}{x:Am}(h:Bb N w L cs x)(hN:∀b,N b->b < w.heap.size):
  Calls Try.prog 10 #[.agg cs.toArray] w fun e w'=>e=.returned (.bool (FP x))∧Below w.heap.size w w':=by
 have f:Hid (Wl L x):=yb ⟨h.lets.1,h.crops.1,h.reaches.1,h.farms.1,h.rots.1,h.rights.1,h.duties.1⟩
 have z:=h.ok
 have D:=h.at
 obtain ⟨B,O⟩:∃B,B=w.alloc (.cells cs.toArray 35):=⟨_,rfl⟩
 have ad:Below w.heap.size w B:=by rw[O];exact (yg _ _).alloc (yf _) _
 have ap:B.heap.size=w.heap.size+1:=by rw[O];simp
 have a7:B.heap[w.heap.size]?=some (.cells cs.toArray 35 (0,0)):=by rw[O];exact World.alloc_heap_new _ _
 have h0:Bb N B L cs x:=h.same (fun _ h=>h) (fun b hb=>ad.block b (hN b hb))
 have ai:=yb h0
 have y:=yb ad;have M:=yb ap;have af:=yb hN;have cq:=yb z
 have ak:Hid (B.rangeAt w.heap.size 0 cs):=yb (by
  have:=yU a7 0 cs.length
  simpa using this)
 have d:∀q v,cs[q]?=some v->B.cell? (aV w.heap.size q)=some v:=fun q v hq=>by
  simp only[World.cell?,a7];simpa using hq
 have bh:Hid ((Try.prog.info? 35).map (·.size)=some cs.length):=yb (by
  obtain ⟨c0,c1,c2,rfl,g0,g1,g2⟩:=h.cells
  obtain ⟨a0,p0,rfl,e0⟩:=g0.cells
  obtain ⟨a1,p1,rfl,e1⟩:=g1.cells
  obtain ⟨a2,p2,rfl,e2⟩:=g2.cells
  kernel_rfl)
 have c4:B.cell? (aV w.heap.size 19)=some (.slice L.lets.a L.lets.n L.lets.c):=d _ _ D.lets
 have c5:B.cell? (aV w.heap.size 20)=some (.slice L.crops.a L.crops.n L.crops.c):=d _ _ D.crops
 have c6:B.cell? (aV w.heap.size 21)=some (.slice L.reaches.a L.reaches.n L.reaches.c):=d _ _ D.reaches
 have c7:B.cell? (aV w.heap.size 22)=some (.slice L.farms.a L.farms.n L.farms.c):=d _ _ D.farms
 have c8:B.cell? (aV w.heap.size 23)=some (.slice L.rots.a L.rots.n L.rots.c):=d _ _ D.rots
 have c9:B.cell? (aV w.heap.size 24)=some (.slice L.rights.a L.rights.n L.rights.c):=d _ _ D.rights
 have ce:B.cell? (aV w.heap.size 25)=some (.slice L.duties.a L.duties.n L.duties.c):=d _ _ D.duties
 have bw:=yb c8
 have l4:L.lets.n<=140737488355328:=z.lets.1
 have l5:L.crops.n<=140737488355328:=z.crops.1
 have l6:L.reaches.n<=140737488355328:=z.reaches.1
 have l7:L.farms.n<=140737488355328:=z.farms.1
 have l8:L.rots.n<=140737488355328:=z.rots.1
 have l9:L.rights.n<=140737488355328:=z.rights.1
 have cr:L.duties.n<=140737488355328:=z.duties.1
 have bq:=yb O
 clear ad ap a7 h0 hN O D z d
 obtain ⟨ks,ah⟩:∃ks,ks=cs:=⟨_,rfl⟩
 rw[<-ah] at ai ak bh
 have HK:=yb ah
 obtain ⟨q0,q1,q2,rfl,g0,g1,g2⟩:=h.cells
 obtain ⟨a0,p0,rfl,e0⟩:=g0.cells
 obtain ⟨a1,p1,rfl,e1⟩:=g1.cells
 obtain ⟨a2,p2,rfl,e2⟩:=g2.cells
 clear h g0 g1 g2 e0 e1 e2 ah
 unfold Ai.v at*
 simp only[z8,zk] at bq HK ⊢
 go_enter Try.func10,Try.ntmps10
 go_upto_region 1 with fail
 rw[<-bq.o]
 by_cases al:L.lets.n<=100
 ·have ar:decide ((L.lets.n:Int)>100)=false:=by simp;omega
  by_cases bg:L.crops.n<=100
  ·have ao:decide ((L.crops.n:Int)>100)=false:=by simp;omega
   by_cases bu:L.reaches.n<=100
   ·have b5:decide ((L.reaches.n:Int)>100)=false:=by simp;omega
    by_cases bj:L.farms.n<=100
    ·have ba:decide ((L.farms.n:Int)>100)=false:=by simp;omega
     by_cases ax:L.rots.n<=70
     ·have az:decide ((L.rots.n:Int)>70)=false:=by simp;omega
      by_cases aw:L.rights.n<=300
      ·have bd:decide ((L.rights.n:Int)>300)=false:=by simp;omega
       by_cases bn:L.duties.n<=300
       ·have aj:decide ((L.duties.n:Int)>300)=false:=by simp;omega
        have ag:Hid (I3 x=true):=yb (by
         have h1:=f.o.lets;have h2:=f.o.crops;have h3:=f.o.reaches;have h4:=f.o.farms;have h5:=f.o.rots;have h6:=f.o.rights;have h7:=f.o.duties
         unfold I3
         simp only[yv,yW]
         omega)
        clear al bg bu bj ax aw bn
        go_upto_region 3 with fail
        clear ar ao b5 ba az bd aj c4 c5 c6 c7 c8 c9 ce
        go_wp2
        have b9:Hid (Ga (x.rots.take 0)=true):=yb (by simp[Ga])
        have Y:=yb (yg B.heap.size B)
        go_loopw [3] (fun iv wr=>∃i:Nat,i<=L.rots.n∧iv=iV i∧Hid (Ga (x.rots.take i)=true)∧Hid (Below B.heap.size B wr)) (fun iv _=>L.rots.n - (intOf iv).toNat)
        case atStart=>exact ⟨0,yC _,rfl,b9,Y⟩
        case round=>
         clear b9 Y
         obtain ⟨i,hi,rfl,HT,A⟩:=hrel
         have hf:wr.cell? (aV w.heap.size 23)=some (.slice L.rots.a L.rots.n L.rots.c):=(A.o.cell (p:=(aV w.heap.size 23)) (by rw[M.o];exact xK _)).trans bw.o
         by_cases J:i < L.rots.n
         ·have F:i < x.rots.length:=by rw[<-f.o.rots];exact J
          have T:(i:Int) < (L.rots.n:Int):=by omega
          obtain ⟨b,o,R,he,ac,bb,I,hv⟩:=ai.o.rots.2.2 i F
          have K:=A2 I (A.o.block b (by have:=af.o b ac;have:=M.o;omega))
          have hz:R[22]?=some (A4 L i).v∧(A4 L i).n=x.rots[i].turns.length∧x.rots[i].turns.length<=140737488355328:=by
           obtain ⟨_,_,d0,d1,d2,rfl,k0,k1,k2,ht⟩:=hv
           have l0:=k0.len;have l1:=k1.len;have l2:=k2.len
           refine ⟨?_,ht.1,ht.2.1⟩
           have e:(Value.string x.rots[i].name::(An x.rots[i].on++(iV x.rots[i].rank::(d0++(d1++(d2++[(A4 L i).v]))))))=(Value.string x.rots[i].name::(An x.rots[i].on++(iV x.rots[i].rank::(d0++(d1++d2)))))++[(A4 L i).v]:=by simp
           rw[e,yL (by simp[A8,l0,l1,l2])]
           simp[A8,l0,l1,l2]
          have ct:wr.cell? (aV b (o+i*23+22))=some (.slice (A4 L i).a (A4 L i).n (A4 L i).c):=K 22 _ hz.1
          have lt:(A4 L i).n<=140737488355328:=by rw[hz.2.1];exact hz.2.2
          rw[he] at hf
          by_cases hk:(A4 L i).n<=70
          ·have co:decide (((A4 L i).n:Int)>70)=false:=by simp;omega
           have ck:Hid (Ga (x.rots.take (i+1))=true):=yb (by
            have h:=HT.o
            unfold Ga at h ⊢
            rw[yt F,zj,h]
            have:x.rots[i].turns.length<=70:=by rw[<-hz.2.1];exact hk
            simp[this])
           clear hk I K hz he hv bb ac
           go_wp2
           exact ⟨⟨i+1,by omega,by push_cast;rfl,ck,A⟩,by simp[intOf];omega⟩
          ·have co:decide (((A4 L i).n:Int)>70)=true:=by simp;omega
           have C:Hid (FP x=false):=yb (by
            have e:Ga x.rots=false:=by
             unfold Ga
             rw[xx]
             exact ⟨x.rots[i],yz F,by rw[<-hz.2.1];simpa using hk⟩
            unfold FP
            rw[e];simp)
           clear hk I K hz he hv bb ac
           go_wp2
           go_ret
           exact ⟨BG C.o.symm,y.o.trans (A.o.mono y.o.size)⟩
         ·obtain rfl:i=L.rots.n:=by omega
          have T:decide ((L.rots.n:Int) < (L.rots.n:Int))=false:=by simp
          have aa:Hid (Ga x.rots=true):=yb (by
           have h:=HT.o
           rw[f.o.rots,yx] at h
           exact h)
          have cg:=yb (A2 ak.o (A.o.block w.heap.size (by rw[M.o];exact xK _)))
          have cn:Hid (Bb N wr L ks x):=yb (ai.o.same (fun _ h=>h) (fun b hb=>A.o.block b (by have:=af.o b hb;have:=M.o;omega)))
          have b8:Hid (∀b,N b->b < wr.heap.size):=yb (fun b hb=>by have:=af.o b hb;have:=M.o;have:=A.o.size;omega)
          go_wp2_with (first|(refine ym rfl 35 _ rfl w.heap.size 0 rfl ks _ cg.o qM rfl bh.o ?_)|(go_at_call 22;refine (NZ cn.o b8.o (O4 ag.o aa.o)).mono ?_;rintro e w2 ⟨v2,rfl,aq⟩;have Q:=yb aq;clear aq))
          obtain ⟨rows,be,H⟩:=Q.o.own
          have bp:rows.length=(CP x).length:=H.length
          have cl:=(O4 ag.o aa.o).top.tE
          have b3:3<=(CP x).length:=by
           unfold CP Kj Ki I7 Kh Kg JH
           simp only[yq,yI,yM]
           omega
          rcases be with ⟨ca,⟨_,h3⟩|⟨g,cap,cp,rfl,bv,ae,cc,cm,cf,bo⟩⟩
          ·omega
          have d:∀j u,rows.flatten[j]?=some u->w2.cell? (aV g j)=some u:=fun j u hj=>by
           rw[<-bo] at hj
           have J:=(yA.1 hj).1
           rw[yP] at J
           rw[zJ,yw (by omega)] at hj
           simp only[World.cell?,ae]
           simpa using hj
          have bi:Hid (∀i (hi:i < (CP x).length),∃c,w2.rangeAt g (i*6) c∧AS N wr (CP x)[i] c):=yb (fun i hi=>by
           have bm:i < rows.length:=by omega
           refine ⟨rows[i],fun j u hj=>d _ _ ?_,H.get i bm hi⟩
           have b4:∀(l:List LV) (k:Nat) (hk:k < l.length),(∀r∈l,r.length=6)->∀j u,(l[k])[j]?=some u->l.flatten[k*6+j]?=some u:=by
            intro l
            induction l with
            |nil=>intro k hk;simp at hk
            |cons r t ih=>
             intro k hk h6 j u hu
             have cd:=h6 r (by simp)
             cases k with
             |zero=>
              have au:r[j]?=some u:=hu
              have ch:=(yA.1 au).1
              simp only[xY,Nat.zero_mul,yB]
              rw[zC ch]
              exact au
             |succ k=>
              simp only[xY]
              rw[yL (by omega),cd,show (k+1)*6+j - 6=k*6+j by omega]
              exact ih k (by simpa using hk) (fun r hr=>h6 r (by simp[hr])) j u (by simpa using hu)
           refine b4 rows i bm (fun r hr=>?_) j u hj
           obtain ⟨k,hk,rfl⟩:=zg.1 hr
           exact (H.get k hk (by omega)).len)
          have a6:Hid (rows.length=(CP x).length):=yb bp
          have an:rows.length<=140737488355328:=by omega
          have P:Hid (Below w.heap.size w w2):=yb ((y.o.trans (A.o.mono y.o.size)).trans (Q.o.below.mono (yl y.o.size A.o.size)))
          have bz:Hid (g < w2.heap.size):=yb (ye.1 ae).1
          have am:Hid (∀W,Below w2.heap.size w2 W->∀b,N b->W.heap[b]?=wr.heap[b]?∧b < W.heap.size):=yb (fun W hW b hb=>by
           have h1:=b8.o b hb
           have h2:=Q.o.below.size
           have h3:=hW.size
           exact ⟨(hW.block b (by omega)).trans (Q.o.below.block b h1),by omega⟩)
          have C:Hid (FP x=decide (Jk (CP x) 0<=5000)):=yb (by unfold FP;rw[ag.o,aa.o];rfl)
          generalize hS:Jk (CP x) 0=S at C
          have av:Hid (Jk ((CP x).drop 0) 0=S):=yb hS
          have X:=yb (yg w2.heap.size w2)
          generalize ci:rows.length=m at a6 an
          clear hS ca ae cc cm cf bo d H bp b3 cl hf T bv ci HT
          go_wp2
          go_loopw [4,6] (fun nv iv wr=>∃(i:Nat) (n:Int),nv=iV n∧iv=iV i∧i<=m∧0<=n∧n<=10001∧Hid (Jk ((CP x).drop i) n=S)∧Hid (Below w2.heap.size w2 wr)) (fun _ iv _=>m - (intOf iv).toNat)
          case atStart=>exact ⟨0,0,rfl,rfl,yC _,by omega,by omega,av,X⟩
          case round=>
           clear av X
           obtain ⟨i,n,rfl,rfl,hi,cv,cw,HS,G⟩:=hrel
           by_cases J:i < m
           ·have F:i < (CP x).length:=by rw[<-a6.o];exact J
            have T:(i:Int) < (m:Int):=by omega
            by_cases bt:n<=5000
            ·obtain ⟨c,I,U⟩:=bi.o i F
             have cj:=yb (A2 I (G.o.block g bz.o))
             have HC:=yb (Tu (CP x)[i] (w:=wr) (most:=5001) (AS.same (fun b h=>h) (fun b hb=>(am.o wr G.o b hb).1) U) (fun b hb=>(am.o wr G.o b hb).2) (by omega) (by omega))
             have Z:Hid (Jk ((CP x).drop (i+1)) (n+KW (CP x)[i] 5001)=S):=yb (by
              have h:=HS.o
              rw[DC F,Jk,yw bt] at h
              exact h)
             have V:=Jb (CP x)[i] 5001
             generalize (CP x)[i]=E at U HC Z V
             generalize KW E 5001=s at HC Z V
             have cx:1<=s:=V.1
             have cu:s<=5001:=by omega
             obtain ⟨a',p',rfl,_⟩:=U.cells
             clear I U V
             go_wp2_with (first|(refine ym rfl 26 _ rfl g (i*6) (by simp[Act.eval]) [iV E.op,iV E.n,iV E.u,.string E.rn,iV E.ri,.slice a' E.args.length p'] _ cj.o qD rfl (by kernel_rfl) ?_)|(go_at_call 23;refine HC.o.mono ?_;rintro e w3 ⟨rfl,ay⟩;have c3:=yb (G.o.trans (ay.mono G.o.size));clear ay))
             exact ⟨⟨i+1,n+s,rfl,by go_num,by omega,by omega,by omega,Z,c3⟩,by simp[intOf];omega⟩
            ·have a8:Hid (n=S):=yb (by
              have h:=HS.o
              rw[DC F,Jk,yu bt] at h
              exact h)
             go_wp2
             go_ret
             exact ⟨BG (by rw[C.o,<-a8.o];exact (xR (by omega)).symm),P.o.trans (G.o.mono P.o.size)⟩
           ·obtain rfl:i=m:=by omega
            have a8:Hid (n=S):=yb (by
             have h:=HS.o
             rw[a6.o,zo,Jk] at h
             exact h)
            have T:decide ((i:Int) < (i:Int))=false:=by simp
            go_wp2
            go_ret
            exact ⟨BG (by rw[C.o,<-a8.o]),P.o.trans (G.o.mono P.o.size)⟩
       ·have aj:decide ((L.duties.n:Int)>300)=true:=by simp;omega
        have C:Hid (FP x=false):=yb (by
         have h:=f.o.duties
         have e:decide (x.duties.length<=300)=false:=by simp;omega
         unfold FP I3
         rw[e];simp)
        clear bn
        go_wp2
        go_ret
        exact ⟨BG C.o.symm,y.o⟩
      ·have bd:decide ((L.rights.n:Int)>300)=true:=by simp;omega
       have C:Hid (FP x=false):=yb (by
        have h:=f.o.rights
        have e:decide (x.rights.length<=300)=false:=by simp;omega
        unfold FP I3
        rw[e];simp)
       clear aw
       go_wp2
       go_ret
       exact ⟨BG C.o.symm,y.o⟩
     ·have az:decide ((L.rots.n:Int)>70)=true:=by simp;omega
      have C:Hid (FP x=false):=yb (by
       have h:=f.o.rots
       have e:decide (x.rots.length<=70)=false:=by simp;omega
       unfold FP I3
       rw[e];simp)
      clear ax
      go_wp2
      go_ret
      exact ⟨BG C.o.symm,y.o⟩
    ·have ba:decide ((L.farms.n:Int)>100)=true:=by simp;omega
     have C:Hid (FP x=false):=yb (by
      have h:=f.o.farms
      have e:decide (x.farms.length<=100)=false:=by simp;omega
      unfold FP I3
      rw[e];simp)
     clear bj
     go_wp2
     go_ret
     exact ⟨BG C.o.symm,y.o⟩
   ·have b5:decide ((L.reaches.n:Int)>100)=true:=by simp;omega
    have C:Hid (FP x=false):=yb (by
     have h:=f.o.reaches
     have e:decide (x.reaches.length<=100)=false:=by simp;omega
     unfold FP I3
     rw[e];simp)
    clear bu
    go_wp2
    go_ret
    exact ⟨BG C.o.symm,y.o⟩
  ·have ao:decide ((L.crops.n:Int)>100)=true:=by simp;omega
   have C:Hid (FP x=false):=yb (by
    have h:=f.o.crops
    have e:decide (x.crops.length<=100)=false:=by simp;omega
    unfold FP I3
    rw[e];simp)
   clear bg
   go_wp2
   go_ret
   exact ⟨BG C.o.symm,y.o⟩
 ·have ar:decide ((L.lets.n:Int)>100)=true:=by simp;omega
  have C:Hid (FP x=false):=yb (by
   have h:=f.o.lets
   have e:decide (x.lets.length<=100)=false:=by simp;omega
   unfold FP I3
   rw[e];simp)
  clear al
  go_wp2
  go_ret
  exact ⟨BG C.o.symm,y.o⟩

theorem Bb.len{N:NP}{w:World}{L:Bw}{cs:LV}{x:Am}(h:Bb N w L cs x):cs.length=26:=by
 obtain ⟨c0,c1,c2,rfl,b,g1,a⟩:=h.cells
 simp[b.len,g1.len,a.len]

theorem Vt{x:Am}(h:FP x=true):Fw x:=by
 unfold FP at h
 simp only[yv] at h
 exact O4 h.1 h.2.1
theorem Gw{α:Type}{l:List α}{a:α}(h:a∈l):∃i,(a,i)∈l.zipIdx:=by
 obtain ⟨i,hi,rfl⟩:=xM h
 exact ⟨i,List.mem_zipIdx_iff_getElem?.2 (by simp[hi])⟩
theorem Ul{x:Am}(h:Ih x):Rz x:=by
 have b:=h.exprs
 unfold AN Ie Fu Du Fv HY DD Eo Ep at b
 simp only[yi,yQ,yK,zp,xv] at b
 have a:∀ {e:Ex} {k:Int},_->Bg e:=fun {e k} hh=>b (e,k) hh
 refine ⟨h,a (k:=0) (.inl (.inl rfl)),a (k:=0) (.inl (.inr (.inl rfl))),a (k:=0) (.inl (.inr (.inr rfl))),?_,?_,?_,?_,?_,?_,?_⟩
 ·intro d hd
  obtain ⟨i,hi⟩:=Gw hd
  exact a (k:=1+(i:Int)) (.inr (.inl ⟨(d,i),hi,rfl⟩))
 ·intro d hd
  obtain ⟨i,hi⟩:=Gw hd
  exact a (k:=0) (.inr (.inr (.inl ⟨(d,i),hi,rfl⟩)))
 ·intro d hd
  obtain ⟨i,hi⟩:=Gw hd
  have hk:∀ {e:Ex},_->Bg e:=fun {e} hh=>a (e:=e) (k:=0) (.inr (.inr (.inr (.inl ⟨(d,i),hi,hh⟩))))
  exact ⟨hk (.inl rfl),hk (.inr (.inl rfl)),hk (.inr (.inr (.inl rfl))),hk (.inr (.inr (.inr (.inl rfl)))),hk (.inr (.inr (.inr (.inr (.inl rfl))))),hk (.inr (.inr (.inr (.inr (.inr (.inl rfl)))))),hk (.inr (.inr (.inr (.inr (.inr (.inr (.inl rfl))))))),hk (.inr (.inr (.inr (.inr (.inr (.inr (.inr rfl)))))))⟩
 ·intro d hd
  obtain ⟨i,hi⟩:=Gw hd
  exact a (k:=0) (.inr (.inr (.inr (.inr (.inl ⟨(d,i),hi,rfl⟩)))))
 ·intro d hd
  obtain ⟨i,hi⟩:=Gw hd
  have hk:∀ {e:Ex},_->Bg e:=fun {e} hh=>a (e:=e) (k:=0) (.inr (.inr (.inr (.inr (.inr (.inl ⟨(d,i),hi,hh⟩))))))
  refine ⟨⟨hk (.inl (.inl rfl)),hk (.inl (.inr (.inl rfl))),hk (.inl (.inr (.inr rfl)))⟩,h.turns d hd,fun z f=>?_⟩
  obtain ⟨j,c⟩:=Gw f
  exact hk (.inr ⟨(z,j),c,rfl⟩)
 ·intro d hd
  obtain ⟨i,hi⟩:=Gw hd
  have hk:∀ {e:Ex},_->Bg e:=fun {e} hh=>a (e:=e) (k:=0) (.inr (.inr (.inr (.inr (.inr (.inr (.inl ⟨(d,i),hi,hh⟩)))))))
  exact ⟨hk (.inl rfl),hk (.inr (.inl rfl)),hk (.inr (.inr (.inl rfl))),hk (.inr (.inr (.inr (.inl rfl)))),hk (.inr (.inr (.inr (.inr rfl))))⟩
 ·intro d hd
  obtain ⟨i,hi⟩:=Gw hd
  exact a (k:=0) (.inr (.inr (.inr (.inr (.inr (.inr (.inr ⟨(d,i),hi,rfl⟩)))))))
section
variable{t:Tb}
mutual
theorem Nj:∀e:Ex,Bg e->Bg (Jc t e)
 |.mk op n u rn ri args,h=>by
  rw[Bg] at h
  rw[Jc,Bg,Iq]
  exact ⟨h.1,Nk args h.2⟩
theorem Nk:∀l:List Ex,E1 l->E1 (Hn t l)
 |[],_=>by rw[Hn,E1];trivial
 |e::r,h=>by
  rw[E1] at h
  rw[Hn,E1]
  exact ⟨Nj e h.1,Nk r h.2⟩
end
theorem Vu{x:Am}(h:Ih x):Ih (x.mp (fT t) (gT t)):=by
 refine ⟨by simpa[Am.mp] using h.lets,by simpa[Am.mp] using h.crops,by simpa[Am.mp] using h.reaches,by simpa[Am.mp] using h.farms,by simpa[Am.mp] using h.rots,by simpa[Am.mp] using h.rights,by simpa[Am.mp] using h.duties,?_,?_⟩
 ·intro d hd
  simp only[Am.mp] at hd
  obtain ⟨i,hi,rfl⟩:=xM hd
  rw[zs]
  have:=h.turns _ (yz (l:=x.rots) (n:=i) (by simpa using hi))
  simpa[B6.mp] using this
 ·intro e a
  rw[IQ] at a
  obtain ⟨d,hd,rfl⟩:=zy.1 a
  have:=h.exprs d hd
  unfold QE fT
  simp only
  split
  ·exact this
  ·exact Nj _ this
end
set_option linter.unusedSimpArgs false
theorem La{B:Nat}{w:World}{v:Value}{l:LB}(h:E2 B w v l)(hl:l.length<=140737488355328):∃h:Ai,v=h.v∧AW w h 1 0 l∧∀b o i,h.a=some ⟨b,o,i⟩->B<=b∧b < w.heap.size:=by
 obtain ⟨hd,c,d⟩:=h.nm hl
 refine ⟨hd,c,d,fun b o i hb=>?_⟩
 rcases h.1.2 with ⟨h1,h2⟩|⟨g,cap,e,h1,h4,h5,_⟩
 ·rw[h1] at c;unfold Ai.v at c;simp only[xf] at c;have h6:=c.1;rw[hb] at h6;cases h6
 ·rw[h1] at c;unfold Ai.v at c;simp only[xf] at c;have h6:=c.1;rw[hb] at h6;cases h6;exact ⟨h4,(ye.1 h5).1⟩
structure SN (G:Nat->Prop) (W:World) (h:Ai) (l:List ByteArray):Prop where
 nm:AW W h 1 0 l
 on:∀b o i,h.a=some ⟨b,o,i⟩->G b
theorem SN.to{G G':NP}{W W':World}{h:Ai}{l:LB}(c:SN G W h l)(hb:∀k,G k->W'.heap[k]?=W.heap[k]?)(hs:W.heap.size<=W'.heap.size)(d:∀k,G k->G' k):SN G' W' h l:=by
 obtain ⟨⟨h1,h2,h3⟩,h4⟩:=c
 refine ⟨⟨h1,h2,fun i hi=>?_⟩,fun b o i hb=>d b (h4 b o i hb)⟩
 obtain ⟨b,o,cs,g1,e,f,a,g⟩:=h3 i hi
 exact ⟨b,o,cs,g1,yr e hs,f,A2 a (hb b (h4 b o none g1)),g⟩
theorem Lb(G:NP)(W:World):SN G W ⟨none,0,0⟩ []:=⟨⟨rfl,by simp,fun i hi=>absurd hi (by simp)⟩,fun b o i h=>by cases h⟩
structure Mw (G:Nat->Prop) (W:World) (h0 h1 h2 h3:Ai) (t:Tb):Prop where
 lets:SN G W h0 t.lets
 crops:SN G W h1 t.crops
 reaches:SN G W h2 t.reaches
 farms:SN G W h3 t.farms
theorem Mw.to{G G':NP}{W W':World}{h0 h1 h2 h3:Ai}{t:Tb}(h:Mw G W h0 h1 h2 h3 t)(hb:∀k,G k->W'.heap[k]?=W.heap[k]?)(hs:W.heap.size<=W'.heap.size)(a:∀k,G k->G' k):Mw G' W' h0 h1 h2 h3 t:=
 ⟨h.lets.to hb hs a,h.crops.to hb hs a,h.reaches.to hb hs a,h.farms.to hb hs a⟩
def Xm(w:World)(t:Tb)(e:Ending)(w':World):Prop:=∃h0 h1 h2 h3:Ai,e=.returned (.agg #[h0.v,h1.v,h2.v,h3.v])∧Mw (fun k=>w.heap.size<=k∧k < w'.heap.size) w' h0 h1 h2 h3 t∧Below w.heap.size w w'
structure DI (R B:Nat) (W0:World) (p q:List Value) (l:List ByteArray) (v:Value) (W:World):Prop where
 row:W.heap[R]?=some (.cells (p++(v::q)).toArray 44 (0,0))
 own:E2 B W v l
 bx:BX (fun k=>k=R) B W0 W
theorem DI.up{R B:Nat}{W0 W W':World}{p q:LV}{l:LB}{v:Value}(h:DI R B W0 p q l v W)(a:R < W.heap.size)(b:B<=W.heap.size)(hb:Below W.heap.size W W'):DI R B W0 p q l v W':=
 ⟨(hb.block _ a).trans h.row,h.own.up hb,h.bx.trans (.of (hb.mono b))⟩
theorem DI.put{R B:Nat}{W0 W W1 c:World}{p q:LV}{l m:LB}{v u:Value}(h:DI R B W0 p q l v W)(d:R < B)(g:B<=W.heap.size)(b:E2 B W1 u m)(e:W.grownBy W1 v.ownBlock)(a:Au W1 c R (p++(u::q)) 44):DI R B W0 p q m u c:=by
 refine ⟨a.row,⟨BH b.1 fun k hk=>a.block k (by have:=(FB b.1 k hk).1;omega),b.2⟩,?_⟩
 have hb:Below B W W1:=JB (yg _ _) g h.own e
 have f:BX (fun k=>k=R) B W1 c:=⟨a.os,a.tape,a.output,by rw[a.size];exact yf _,fun i _ hi=>a.block i hi⟩
 exact (h.bx.trans (.of hb)).trans f
theorem IY{W W':World}{v:Value}{R B:Nat}{l:LB}(d:W.grownBy W' v.ownBlock)(a:E2 B W v l)(b:R < B)(c:B<=W.heap.size):W'.heap[R]?=W.heap[R]?:=
 (JB (yg B W) c a d).block R b
theorem O7{N:NP}{w:World}{L:Bw}{cs:LV}{x:Am}(h:Bb N w L cs x)(hN:∀b,N b->b < w.heap.size)(bq:Fw x):
  Calls Try.prog 16 #[.agg cs.toArray] w (Xm w (Tb.of x)):=by
 have O:=yb (h.nms hN)
 have c3:Hid (Wl L x):=yb ⟨h.lets.1,h.crops.1,h.reaches.1,h.farms.1,h.rots.1,h.rights.1,h.duties.1⟩
 have be:=yb bq
 have bz:=yb h.ok
 have bh:=yb h.at
 clear h hN bq
 go_enter Try.func16,Try.ntmps16
 refine Af fun K hK=>?_
 go_wp2_with (first|(with_reducible refine EY rfl 35 _ rfl cs.toArray (by kernel_rfl) ?_))
 refine hK.o _ _ ?_
 clear hK K
 obtain ⟨w1,b8⟩:∃z:World,z=(w.alloc (.cells cs.toArray 35)).alloc (.cells #[.slice none 0 0,.slice none 0 0,.slice none 0 0,.slice none 0 0] 44):=⟨_,rfl⟩
 rw[<-b8]
 have bb:Hid (Below w.heap.size w w1):=yb (by rw[b8];exact ((yg _ _).alloc (yf _) _).alloc (by simp) _)
 have bv:Hid (w1.heap.size=w.heap.size+2):=yb (by rw[b8];simp)
 have bd:Hid (w1.heap[w.heap.size]?=some (.cells cs.toArray 35 (0,0))):=yb (by rw[b8,yF _ _ _ (by simp)];exact World.alloc_heap_new _ _)
 have bp:Hid (w1.heap[w.heap.size+1]?=some (.cells (j8:LV).toArray 44 (0,0))):=yb (by
  have h:=World.alloc_heap_new (w.alloc (.cells cs.toArray 35)) (.cells #[.slice none 0 0,.slice none 0 0,.slice none 0 0,.slice none 0 0] 44)
  rw[b8];simpa using h)
 clear b8
 have a1:Hid (Mw (fun k=>w.heap.size+2<=k∧k < w1.heap.size) w1 ⟨none,0,0⟩ ⟨none,0,0⟩ ⟨none,0,0⟩ ⟨none,0,0⟩ ⟨[],[],[],[]⟩):=yb ⟨Lb _ _,Lb _ _,Lb _ _,Lb _ _⟩
 have s:Hid (BX (fun k=>k=w.heap.size+1) (w.heap.size+1) w1 w1):=yb (BX.refl _ _ _)
 have Y:Hid (w1.heap[w.heap.size+1]?=some (.cells ([Ai.v ⟨none,0,0⟩,Ai.v ⟨none,0,0⟩,Ai.v ⟨none,0,0⟩,Ai.v ⟨none,0,0⟩]:LV).toArray 44 (0,0))):=yb bp.o
 have a:Hid (w.heap.size+2<=w1.heap.size):=yb (by rw[bv.o];exact yf _)
 clear bp
 obtain ⟨v1,bm⟩:∃z:World,z=w1:=⟨_,rfl⟩
 rw[<-bm] at a1 Y a ⊢
 have s:Hid (BX (fun k=>k=w.heap.size+1) (w.heap.size+1) w1 v1):=yb (by rw[bm];exact BX.refl _ _ _)
 clear bm
 obtain ⟨⟨ha,u,hc⟩,hL⟩:∃h:Ai,L.lets=h:=⟨_,rfl⟩
 obtain ⟨nms,d⟩:∃l:LB,l=(x.lets.map (·.name)):=⟨_,rfl⟩
 have B:Hid (nms.length<=300):=yb (by have:=be.o.lets;rw[d];simp;omega)
 have R:AW w ⟨ha,u,hc⟩ 7 0 nms:=by have h:=O.o.lets;rw[hL] at h;rw[d];exact h
 have HR:=yb R.2.2
 have HN:Hid (u=nms.length):=yb R.1
 have a8:u<=140737488355328:=by have:=HN.o;have:=B.o;omega
 have ar:=yb d
 have j:Hid (cs[19]?=some (.slice ha u hc)):=yb (by have h:=bh.o.lets;rw[hL] at h;exact h)
 clear R hL d
 have hf:v1.cell? (aV w.heap.size 19)=some (.slice ha u hc):=by
  have e:=(s.o.block w.heap.size (by omega) (by omega)).trans bd.o
  simp only[World.cell?,e]
  simpa using j.o
 obtain ⟨I,hI⟩:∃I:Nat->World->Prop,I=fun i wr=>∃v,DI (w.heap.size+1) v1.heap.size v1 [] [Ai.v ⟨none,0,0⟩,Ai.v ⟨none,0,0⟩,Ai.v ⟨none,0,0⟩] (nms.take i) v wr:=⟨_,rfl⟩
 have HI:=yb hI
 have aj:Hid (I 0 v1):=yb (by
  rw[hI]
  exact ⟨.slice none 0 0,Y.o,by simpa using GX _ _,BX.refl _ _ _⟩)
 clear hI
 refine Af fun K hK=>?_
 go_wp2
 go_loopw [14] (fun iv wr=>∃i:Nat,iv=iV i∧i<=u∧Hid (I i wr)) (fun iv _=>u - (intOf iv).toNat)
 case atStart=>exact ⟨0,rfl,yC _,aj⟩
 case round=>
  clear aj
  obtain ⟨i,rfl,hi,HJ⟩:=hrel
  obtain ⟨v,hD⟩:∃v,DI (w.heap.size+1) v1.heap.size v1 [] [Ai.v ⟨none,0,0⟩,Ai.v ⟨none,0,0⟩,Ai.v ⟨none,0,0⟩] (nms.take i) v wr:=by have h:=HJ.o;rw[HI.o] at h;exact h
  have g:=yb hD
  clear HJ hD
  by_cases a2:i < u
  ·have Q:i < nms.length:=by rw[<-HN.o];exact a2
   have ac:(i:Int) < (u:Int):=by omega
   obtain ⟨b,o,W,he,T,E,a7,M,f,P⟩:=HR.o i Q
   obtain rfl:ha=some (aV b o):=he
   have c:Hid (nms.take (i+1)=nms.take i++[nms[i]]):=yb (yt Q)
   have af:Hid ((nms.take i).length+1<=1000000):=yb (by have:=B.o;rw[yP];omega)
   generalize nms[i]=nm at f P c
   generalize az:nms.take i=l0 at g af c
   clear az
   have ag:Hid (wr.rangeAt b (o+i*7) W):=yb (A2 a7 (((g.o.bx.block b (yr T (by have:=a.o;omega)) (by omega))).trans ((s.o.block b (by omega) (by omega)).trans (bb.o.block b T))))
   have A:=yb E;have an:=yb M;have O:=yb f;have au:=yb P
   have ae:Hid (v1.heap.size<=wr.heap.size):=yb g.o.bx.size
   have ai:Hid (w.heap.size+1 < wr.heap.size):=yb (by have:=ae.o;have:=a.o;omega)
   clear a7 E M f P T Q
   go_upto_region 4 with (first
    |(with_reducible refine ym rfl 55 _ rfl b (o+i*7) (by kernel_rfl) W _ ag.o qT (by kernel_rfl) (AU (n:=7) (by kernel_rfl) A.o) ?_)
    |(with_reducible refine Ae rfl 55 _ _ rfl wr.heap.size (by kernel_rfl) W (by kernel_rfl) (World.alloc_heap_new _ _) (by rw[yD,A.o];kernel_rfl) (AU (n:=7) (by kernel_rfl) A.o) an.o ?_;intro U ak;have Z:=yb ak;clear ak))
   have am:Hid (Below wr.heap.size wr U):=yb (AA Z.o)
   have bj:U.cell? (aV wr.heap.size 0)=some (.string nm):=by
    have h:=Aw Z.o.row
    have:=h 0 _ O.o
    simpa using this
   have D:=yb (g.o.up ai.o ae.o am.o)
   have bn:U.cell? (aV (w.heap.size+1) 0)=some v:=by
    have h:=D.o.row
    simp only[World.cell?,h]
    simp
   clear Z ag A an O
   have S:Hid (v1.heap.size<=(U.alloc (.cells #[.string nm] 9)).heap.size):=yb (by have:=D.o.bx.size;simp;omega)
   have C:=yb (D.o.up (yr ai.o am.o.size) D.o.bx.size ((yg _ _).alloc (yf _) (.cells #[.string nm] 9)))
   have aa:Hid ((U.alloc (.cells #[.string nm] 9)).heap[U.heap.size]?=some (.cells #[.string nm] 9 (0,0))):=yb (World.alloc_heap_new _ _)
   have ad:Hid (w.heap.size+1 < v1.heap.size):=yb (by have:=a.o;omega)
   go_wp2_with (first
    |(at_builtin;refine CE v1.heap.size rfl _ _ rfl v l0 rfl C.o.own U.heap.size 1 nm rfl aa.o au.o af.o S.o ?_;intro aw c5 w5 al X;have ay:=yb al;have aq:=yb X;have av:=yb ((IY X C.o.own ad.o S.o).trans C.o.row);clear al X)
    |(with_reducible refine Al rfl 43 _ _ rfl (w.heap.size+1) 0 (by kernel_rfl) (.slice aw (l0.length+1) c5) (by kernel_rfl) (by kernel_rfl) (p:=[]) (m:=v) (q:=[Ai.v ⟨none,0,0⟩,Ai.v ⟨none,0,0⟩,Ai.v ⟨none,0,0⟩]) (t:=44) av.o (by kernel_rfl) (by kernel_rfl) (by kernel_rfl) ?_;intro w6 ah;have ax:=yb ah;clear ah))
   exact ⟨⟨i+1,by push_cast;rfl,by omega,yb (by rw[HI.o];exact ⟨_,by rw[c.o];exact C.o.put ad.o S.o ay.o aq.o ax.o⟩)⟩,by simp[intOf];omega⟩
  ·obtain rfl:i=u:=by omega
   have ac:decide ((i:Int) < (i:Int))=false:=by simp
   have a6:E2 v1.heap.size wr v nms:=by
    have h:=g.o.own
    rw[HN.o,yx] at h
    exact h
   obtain ⟨y,rfl,f,V⟩:=La a6 (by have:=B.o;omega)
   obtain ⟨V1,b5⟩:∃z:World,z=wr:=⟨_,rfl⟩
   have J:Hid (w.heap.size+2<=V1.heap.size):=yb (by rw[b5];have:=g.o.bx.size;have:=a.o;omega)
   have G:Hid (BX (fun k=>k=w.heap.size+1) (w.heap.size+1) w1 V1):=yb (by rw[b5];exact s.o.trans (g.o.bx.mono (by have:=a.o;omega)))
   have H:Hid (V1.heap[w.heap.size+1]?=some (.cells ([Ai.v y,Ai.v ⟨none,0,0⟩,Ai.v ⟨none,0,0⟩,Ai.v ⟨none,0,0⟩]:LV).toArray 44 (0,0))):=yb (by rw[b5];exact g.o.row)
   have F:Hid (Mw (fun k=>w.heap.size+2<=k∧k < V1.heap.size) V1 y ⟨none,0,0⟩ ⟨none,0,0⟩ ⟨none,0,0⟩ ⟨(x.lets.map (·.name)),[],[],[]⟩):=yb (by
    rw[b5]
    have h:=a1.o.to (G':=fun k=>w.heap.size+2<=k∧k < wr.heap.size) (fun k hk=>g.o.bx.block k hk.2 (by have:=hk.1;omega)) g.o.bx.size (fun k hk=>⟨hk.1,yr hk.2 g.o.bx.size⟩)
    exact ⟨⟨by rw[<-ar.o];exact f,fun b o i hb=>⟨by have:=(V b o i hb).1;have:=a.o;omega,(V b o i hb).2⟩⟩,h.crops,h.reaches,h.farms⟩)
   clear g a s Y a1 a6 f V HI ac hi a2 HR HN B j hf a8
   rw[<-b5]
   clear b5
   have a:=J;have s:=G;have Y:=H;have a1:=F
   clear J G H F
   go_wp2
   refine hK.o _ _ ?_
   obtain ⟨⟨ha,u,hc⟩,hL⟩:∃h:Ai,L.crops=h:=⟨_,rfl⟩
   obtain ⟨nms,d⟩:∃l:LB,l=(x.crops.map (·.name)):=⟨_,rfl⟩
   have B:Hid (nms.length<=300):=yb (by have:=be.o.crops;rw[d];simp;omega)
   have R:AW w ⟨ha,u,hc⟩ 7 0 nms:=by have h:=O.o.crops;rw[hL] at h;rw[d];exact h
   have HR:=yb R.2.2
   have HN:Hid (u=nms.length):=yb R.1
   have a8:u<=140737488355328:=by have:=HN.o;have:=B.o;omega
   have ar:=yb d
   have j:Hid (cs[20]?=some (.slice ha u hc)):=yb (by have h:=bh.o.crops;rw[hL] at h;exact h)
   clear R hL d
   have hf:V1.cell? (aV w.heap.size 20)=some (.slice ha u hc):=by
    have e:=(s.o.block w.heap.size (by omega) (by omega)).trans bd.o
    simp only[World.cell?,e]
    simpa using j.o
   obtain ⟨I,hI⟩:∃I:Nat->World->Prop,I=fun i wr=>∃v,DI (w.heap.size+1) V1.heap.size V1 [Ai.v y] [Ai.v ⟨none,0,0⟩,Ai.v ⟨none,0,0⟩] (nms.take i) v wr:=⟨_,rfl⟩
   have HI:=yb hI
   have aj:Hid (I 0 V1):=yb (by
    rw[hI]
    exact ⟨.slice none 0 0,Y.o,by simpa using GX _ _,BX.refl _ _ _⟩)
   clear hI
   refine Af fun K hK=>?_
   go_wp2
   go_loopw [29] (fun iv wr=>∃i:Nat,iv=iV i∧i<=u∧Hid (I i wr)) (fun iv _=>u - (intOf iv).toNat)
   case atStart=>exact ⟨0,rfl,yC _,aj⟩
   case round=>
    clear aj
    obtain ⟨i,rfl,hi,HJ⟩:=hrel
    obtain ⟨v,hD⟩:∃v,DI (w.heap.size+1) V1.heap.size V1 [Ai.v y] [Ai.v ⟨none,0,0⟩,Ai.v ⟨none,0,0⟩] (nms.take i) v wr:=by have h:=HJ.o;rw[HI.o] at h;exact h
    have g:=yb hD
    clear HJ hD
    by_cases a2:i < u
    ·have Q:i < nms.length:=by rw[<-HN.o];exact a2
     have ac:(i:Int) < (u:Int):=by omega
     obtain ⟨b,o,W,he,T,E,a7,M,f,P⟩:=HR.o i Q
     obtain rfl:ha=some (aV b o):=he
     have c:Hid (nms.take (i+1)=nms.take i++[nms[i]]):=yb (yt Q)
     have af:Hid ((nms.take i).length+1<=1000000):=yb (by have:=B.o;rw[yP];omega)
     generalize nms[i]=nm at f P c
     generalize az:nms.take i=l0 at g af c
     clear az
     have ag:Hid (wr.rangeAt b (o+i*7) W):=yb (A2 a7 (((g.o.bx.block b (yr T (by have:=a.o;omega)) (by omega))).trans ((s.o.block b (by omega) (by omega)).trans (bb.o.block b T))))
     have A:=yb E;have an:=yb M;have O:=yb f;have au:=yb P
     have ae:Hid (V1.heap.size<=wr.heap.size):=yb g.o.bx.size
     have ai:Hid (w.heap.size+1 < wr.heap.size):=yb (by have:=ae.o;have:=a.o;omega)
     clear a7 E M f P T Q
     go_upto_region 9 with (first
      |(with_reducible refine ym rfl 57 _ rfl b (o+i*7) (by kernel_rfl) W _ ag.o qU (by kernel_rfl) (AU (n:=7) (by kernel_rfl) A.o) ?_)
      |(with_reducible refine Ae rfl 57 _ _ rfl wr.heap.size (by kernel_rfl) W (by kernel_rfl) (World.alloc_heap_new _ _) (by rw[yD,A.o];kernel_rfl) (AU (n:=7) (by kernel_rfl) A.o) an.o ?_;intro U ak;have Z:=yb ak;clear ak))
     have am:Hid (Below wr.heap.size wr U):=yb (AA Z.o)
     have bj:U.cell? (aV wr.heap.size 0)=some (.string nm):=by
      have h:=Aw Z.o.row
      have:=h 0 _ O.o
      simpa using this
     have D:=yb (g.o.up ai.o ae.o am.o)
     have bn:U.cell? (aV (w.heap.size+1) 1)=some v:=by
      have h:=D.o.row
      simp only[World.cell?,h]
      simp
     clear Z ag A an O
     have S:Hid (V1.heap.size<=(U.alloc (.cells #[.string nm] 9)).heap.size):=yb (by have:=D.o.bx.size;simp;omega)
     have C:=yb (D.o.up (yr ai.o am.o.size) D.o.bx.size ((yg _ _).alloc (yf _) (.cells #[.string nm] 9)))
     have aa:Hid ((U.alloc (.cells #[.string nm] 9)).heap[U.heap.size]?=some (.cells #[.string nm] 9 (0,0))):=yb (World.alloc_heap_new _ _)
     have ad:Hid (w.heap.size+1 < V1.heap.size):=yb (by have:=a.o;omega)
     go_wp2_with (first
      |(at_builtin;refine CE V1.heap.size rfl _ _ rfl v l0 rfl C.o.own U.heap.size 1 nm rfl aa.o au.o af.o S.o ?_;intro aw c5 w5 al X;have ay:=yb al;have aq:=yb X;have av:=yb ((IY X C.o.own ad.o S.o).trans C.o.row);clear al X)
      |(with_reducible refine Al rfl 43 _ _ rfl (w.heap.size+1) 1 (by kernel_rfl) (.slice aw (l0.length+1) c5) (by kernel_rfl) (by kernel_rfl) (p:=[Ai.v y]) (m:=v) (q:=[Ai.v ⟨none,0,0⟩,Ai.v ⟨none,0,0⟩]) (t:=44) av.o (by kernel_rfl) (by kernel_rfl) (by kernel_rfl) ?_;intro w6 ah;have ax:=yb ah;clear ah))
     exact ⟨⟨i+1,by push_cast;rfl,by omega,yb (by rw[HI.o];exact ⟨_,by rw[c.o];exact C.o.put ad.o S.o ay.o aq.o ax.o⟩)⟩,by simp[intOf];omega⟩
    ·obtain rfl:i=u:=by omega
     have ac:decide ((i:Int) < (i:Int))=false:=by simp
     have a6:E2 V1.heap.size wr v nms:=by
      have h:=g.o.own
      rw[HN.o,yx] at h
      exact h
     obtain ⟨a0,rfl,f,V⟩:=La a6 (by have:=B.o;omega)
     obtain ⟨V2,b3⟩:∃z:World,z=wr:=⟨_,rfl⟩
     have J:Hid (w.heap.size+2<=V2.heap.size):=yb (by rw[b3];have:=g.o.bx.size;have:=a.o;omega)
     have G:Hid (BX (fun k=>k=w.heap.size+1) (w.heap.size+1) w1 V2):=yb (by rw[b3];exact s.o.trans (g.o.bx.mono (by have:=a.o;omega)))
     have H:Hid (V2.heap[w.heap.size+1]?=some (.cells ([Ai.v y,Ai.v a0,Ai.v ⟨none,0,0⟩,Ai.v ⟨none,0,0⟩]:LV).toArray 44 (0,0))):=yb (by rw[b3];exact g.o.row)
     have F:Hid (Mw (fun k=>w.heap.size+2<=k∧k < V2.heap.size) V2 y a0 ⟨none,0,0⟩ ⟨none,0,0⟩ ⟨(x.lets.map (·.name)),(x.crops.map (·.name)),[],[]⟩):=yb (by
      rw[b3]
      have h:=a1.o.to (G':=fun k=>w.heap.size+2<=k∧k < wr.heap.size) (fun k hk=>g.o.bx.block k hk.2 (by have:=hk.1;omega)) g.o.bx.size (fun k hk=>⟨hk.1,yr hk.2 g.o.bx.size⟩)
      exact ⟨h.lets,⟨by rw[<-ar.o];exact f,fun b o i hb=>⟨by have:=(V b o i hb).1;have:=a.o;omega,(V b o i hb).2⟩⟩,h.reaches,h.farms⟩)
     clear g a s Y a1 a6 f V HI ac hi a2 HR HN B j hf a8
     rw[<-b3]
     clear b3
     have a:=J;have s:=G;have Y:=H;have a1:=F
     clear J G H F
     go_wp2
     refine hK.o _ _ ?_
     obtain ⟨⟨ha,u,hc⟩,hL⟩:∃h:Ai,L.reaches=h:=⟨_,rfl⟩
     obtain ⟨nms,d⟩:∃l:LB,l=(x.reaches.map (·.name)):=⟨_,rfl⟩
     have B:Hid (nms.length<=300):=yb (by have:=be.o.reaches;rw[d];simp;omega)
     have R:AW w ⟨ha,u,hc⟩ 51 0 nms:=by have h:=O.o.reaches;rw[hL] at h;rw[d];exact h
     have HR:=yb R.2.2
     have HN:Hid (u=nms.length):=yb R.1
     have a8:u<=140737488355328:=by have:=HN.o;have:=B.o;omega
     have ar:=yb d
     have j:Hid (cs[21]?=some (.slice ha u hc)):=yb (by have h:=bh.o.reaches;rw[hL] at h;exact h)
     clear R hL d
     have hf:V2.cell? (aV w.heap.size 21)=some (.slice ha u hc):=by
      have e:=(s.o.block w.heap.size (by omega) (by omega)).trans bd.o
      simp only[World.cell?,e]
      simpa using j.o
     obtain ⟨I,hI⟩:∃I:Nat->World->Prop,I=fun i wr=>∃v,DI (w.heap.size+1) V2.heap.size V2 [Ai.v y,Ai.v a0] [Ai.v ⟨none,0,0⟩] (nms.take i) v wr:=⟨_,rfl⟩
     have HI:=yb hI
     have aj:Hid (I 0 V2):=yb (by
      rw[hI]
      exact ⟨.slice none 0 0,Y.o,by simpa using GX _ _,BX.refl _ _ _⟩)
     clear hI
     refine Af fun K hK=>?_
     go_wp2
     go_loopw [44] (fun iv wr=>∃i:Nat,iv=iV i∧i<=u∧Hid (I i wr)) (fun iv _=>u - (intOf iv).toNat)
     case atStart=>exact ⟨0,rfl,yC _,aj⟩
     case round=>
      clear aj
      obtain ⟨i,rfl,hi,HJ⟩:=hrel
      obtain ⟨v,hD⟩:∃v,DI (w.heap.size+1) V2.heap.size V2 [Ai.v y,Ai.v a0] [Ai.v ⟨none,0,0⟩] (nms.take i) v wr:=by have h:=HJ.o;rw[HI.o] at h;exact h
      have g:=yb hD
      clear HJ hD
      by_cases a2:i < u
      ·have Q:i < nms.length:=by rw[<-HN.o];exact a2
       have ac:(i:Int) < (u:Int):=by omega
       obtain ⟨b,o,W,he,T,E,a7,M,f,P⟩:=HR.o i Q
       obtain rfl:ha=some (aV b o):=he
       have c:Hid (nms.take (i+1)=nms.take i++[nms[i]]):=yb (yt Q)
       have af:Hid ((nms.take i).length+1<=1000000):=yb (by have:=B.o;rw[yP];omega)
       generalize nms[i]=nm at f P c
       generalize az:nms.take i=l0 at g af c
       clear az
       have ag:Hid (wr.rangeAt b (o+i*51) W):=yb (A2 a7 (((g.o.bx.block b (yr T (by have:=a.o;omega)) (by omega))).trans ((s.o.block b (by omega) (by omega)).trans (bb.o.block b T))))
       have A:=yb E;have an:=yb M;have O:=yb f;have au:=yb P
       have ae:Hid (V2.heap.size<=wr.heap.size):=yb g.o.bx.size
       have ai:Hid (w.heap.size+1 < wr.heap.size):=yb (by have:=ae.o;have:=a.o;omega)
       clear a7 E M f P T Q
       go_upto_region 14 with (first
        |(with_reducible refine ym rfl 51 _ rfl b (o+i*51) (by kernel_rfl) W _ ag.o qS (by kernel_rfl) (AU (n:=51) (by kernel_rfl) A.o) ?_)
        |(with_reducible refine Ae rfl 51 _ _ rfl wr.heap.size (by kernel_rfl) W (by kernel_rfl) (World.alloc_heap_new _ _) (by rw[yD,A.o];kernel_rfl) (AU (n:=51) (by kernel_rfl) A.o) an.o ?_;intro U ak;have Z:=yb ak;clear ak))
       have am:Hid (Below wr.heap.size wr U):=yb (AA Z.o)
       have bj:U.cell? (aV wr.heap.size 0)=some (.string nm):=by
        have h:=Aw Z.o.row
        have:=h 0 _ O.o
        simpa using this
       have D:=yb (g.o.up ai.o ae.o am.o)
       have bn:U.cell? (aV (w.heap.size+1) 2)=some v:=by
        have h:=D.o.row
        simp only[World.cell?,h]
        simp
       clear Z ag A an O
       have S:Hid (V2.heap.size<=(U.alloc (.cells #[.string nm] 9)).heap.size):=yb (by have:=D.o.bx.size;simp;omega)
       have C:=yb (D.o.up (yr ai.o am.o.size) D.o.bx.size ((yg _ _).alloc (yf _) (.cells #[.string nm] 9)))
       have aa:Hid ((U.alloc (.cells #[.string nm] 9)).heap[U.heap.size]?=some (.cells #[.string nm] 9 (0,0))):=yb (World.alloc_heap_new _ _)
       have ad:Hid (w.heap.size+1 < V2.heap.size):=yb (by have:=a.o;omega)
       go_wp2_with (first
        |(at_builtin;refine CE V2.heap.size rfl _ _ rfl v l0 rfl C.o.own U.heap.size 1 nm rfl aa.o au.o af.o S.o ?_;intro aw c5 w5 al X;have ay:=yb al;have aq:=yb X;have av:=yb ((IY X C.o.own ad.o S.o).trans C.o.row);clear al X)
        |(with_reducible refine Al rfl 43 _ _ rfl (w.heap.size+1) 2 (by kernel_rfl) (.slice aw (l0.length+1) c5) (by kernel_rfl) (by kernel_rfl) (p:=[Ai.v y,Ai.v a0]) (m:=v) (q:=[Ai.v ⟨none,0,0⟩]) (t:=44) av.o (by kernel_rfl) (by kernel_rfl) (by kernel_rfl) ?_;intro w6 ah;have ax:=yb ah;clear ah))
       exact ⟨⟨i+1,by push_cast;rfl,by omega,yb (by rw[HI.o];exact ⟨_,by rw[c.o];exact C.o.put ad.o S.o ay.o aq.o ax.o⟩)⟩,by simp[intOf];omega⟩
      ·obtain rfl:i=u:=by omega
       have ac:decide ((i:Int) < (i:Int))=false:=by simp
       have a6:E2 V2.heap.size wr v nms:=by
        have h:=g.o.own
        rw[HN.o,yx] at h
        exact h
       obtain ⟨ao,rfl,f,V⟩:=La a6 (by have:=B.o;omega)
       obtain ⟨V3,b9⟩:∃z:World,z=wr:=⟨_,rfl⟩
       have J:Hid (w.heap.size+2<=V3.heap.size):=yb (by rw[b9];have:=g.o.bx.size;have:=a.o;omega)
       have G:Hid (BX (fun k=>k=w.heap.size+1) (w.heap.size+1) w1 V3):=yb (by rw[b9];exact s.o.trans (g.o.bx.mono (by have:=a.o;omega)))
       have H:Hid (V3.heap[w.heap.size+1]?=some (.cells ([Ai.v y,Ai.v a0,Ai.v ao,Ai.v ⟨none,0,0⟩]:LV).toArray 44 (0,0))):=yb (by rw[b9];exact g.o.row)
       have F:Hid (Mw (fun k=>w.heap.size+2<=k∧k < V3.heap.size) V3 y a0 ao ⟨none,0,0⟩ ⟨(x.lets.map (·.name)),(x.crops.map (·.name)),(x.reaches.map (·.name)),[]⟩):=yb (by
        rw[b9]
        have h:=a1.o.to (G':=fun k=>w.heap.size+2<=k∧k < wr.heap.size) (fun k hk=>g.o.bx.block k hk.2 (by have:=hk.1;omega)) g.o.bx.size (fun k hk=>⟨hk.1,yr hk.2 g.o.bx.size⟩)
        exact ⟨h.lets,h.crops,⟨by rw[<-ar.o];exact f,fun b o i hb=>⟨by have:=(V b o i hb).1;have:=a.o;omega,(V b o i hb).2⟩⟩,h.farms⟩)
       clear g a s Y a1 a6 f V HI ac hi a2 HR HN B j hf a8
       rw[<-b9]
       clear b9
       have a:=J;have s:=G;have Y:=H;have a1:=F
       clear J G H F
       go_wp2
       refine hK.o _ _ ?_
       obtain ⟨⟨ha,u,hc⟩,hL⟩:∃h:Ai,L.farms=h:=⟨_,rfl⟩
       obtain ⟨nms,d⟩:∃l:LB,l=(x.farms.map (·.name)):=⟨_,rfl⟩
       have B:Hid (nms.length<=300):=yb (by have:=be.o.farms;rw[d];simp;omega)
       have R:AW w ⟨ha,u,hc⟩ 12 0 nms:=by have h:=O.o.farms;rw[hL] at h;rw[d];exact h
       have HR:=yb R.2.2
       have HN:Hid (u=nms.length):=yb R.1
       have a8:u<=140737488355328:=by have:=HN.o;have:=B.o;omega
       have ar:=yb d
       have j:Hid (cs[22]?=some (.slice ha u hc)):=yb (by have h:=bh.o.farms;rw[hL] at h;exact h)
       clear R hL d
       have hf:V3.cell? (aV w.heap.size 22)=some (.slice ha u hc):=by
        have e:=(s.o.block w.heap.size (by omega) (by omega)).trans bd.o
        simp only[World.cell?,e]
        simpa using j.o
       obtain ⟨I,hI⟩:∃I:Nat->World->Prop,I=fun i wr=>∃v,DI (w.heap.size+1) V3.heap.size V3 [Ai.v y,Ai.v a0,Ai.v ao] [] (nms.take i) v wr:=⟨_,rfl⟩
       have HI:=yb hI
       have aj:Hid (I 0 V3):=yb (by
        rw[hI]
        exact ⟨.slice none 0 0,Y.o,by simpa using GX _ _,BX.refl _ _ _⟩)
       clear hI
       refine Af fun K hK=>?_
       go_wp2
       go_loopw [59] (fun iv wr=>∃i:Nat,iv=iV i∧i<=u∧Hid (I i wr)) (fun iv _=>u - (intOf iv).toNat)
       case atStart=>exact ⟨0,rfl,yC _,aj⟩
       case round=>
        clear aj
        obtain ⟨i,rfl,hi,HJ⟩:=hrel
        obtain ⟨v,hD⟩:∃v,DI (w.heap.size+1) V3.heap.size V3 [Ai.v y,Ai.v a0,Ai.v ao] [] (nms.take i) v wr:=by have h:=HJ.o;rw[HI.o] at h;exact h
        have g:=yb hD
        clear HJ hD
        by_cases a2:i < u
        ·have Q:i < nms.length:=by rw[<-HN.o];exact a2
         have ac:(i:Int) < (u:Int):=by omega
         obtain ⟨b,o,W,he,T,E,a7,M,f,P⟩:=HR.o i Q
         obtain rfl:ha=some (aV b o):=he
         have c:Hid (nms.take (i+1)=nms.take i++[nms[i]]):=yb (yt Q)
         have af:Hid ((nms.take i).length+1<=1000000):=yb (by have:=B.o;rw[yP];omega)
         generalize nms[i]=nm at f P c
         generalize az:nms.take i=l0 at g af c
         clear az
         have ag:Hid (wr.rangeAt b (o+i*12) W):=yb (A2 a7 (((g.o.bx.block b (yr T (by have:=a.o;omega)) (by omega))).trans ((s.o.block b (by omega) (by omega)).trans (bb.o.block b T))))
         have A:=yb E;have an:=yb M;have O:=yb f;have au:=yb P
         have ae:Hid (V3.heap.size<=wr.heap.size):=yb g.o.bx.size
         have ai:Hid (w.heap.size+1 < wr.heap.size):=yb (by have:=ae.o;have:=a.o;omega)
         clear a7 E M f P T Q
         go_upto_region 19 with (first
          |(with_reducible refine ym rfl 59 _ rfl b (o+i*12) (by kernel_rfl) W _ ag.o qV (by kernel_rfl) (AU (n:=12) (by kernel_rfl) A.o) ?_)
          |(with_reducible refine Ae rfl 59 _ _ rfl wr.heap.size (by kernel_rfl) W (by kernel_rfl) (World.alloc_heap_new _ _) (by rw[yD,A.o];kernel_rfl) (AU (n:=12) (by kernel_rfl) A.o) an.o ?_;intro U ak;have Z:=yb ak;clear ak))
         have am:Hid (Below wr.heap.size wr U):=yb (AA Z.o)
         have bj:U.cell? (aV wr.heap.size 0)=some (.string nm):=by
          have h:=Aw Z.o.row
          have:=h 0 _ O.o
          simpa using this
         have D:=yb (g.o.up ai.o ae.o am.o)
         have bn:U.cell? (aV (w.heap.size+1) 3)=some v:=by
          have h:=D.o.row
          simp only[World.cell?,h]
          simp
         clear Z ag A an O
         have S:Hid (V3.heap.size<=(U.alloc (.cells #[.string nm] 9)).heap.size):=yb (by have:=D.o.bx.size;simp;omega)
         have C:=yb (D.o.up (yr ai.o am.o.size) D.o.bx.size ((yg _ _).alloc (yf _) (.cells #[.string nm] 9)))
         have aa:Hid ((U.alloc (.cells #[.string nm] 9)).heap[U.heap.size]?=some (.cells #[.string nm] 9 (0,0))):=yb (World.alloc_heap_new _ _)
         have ad:Hid (w.heap.size+1 < V3.heap.size):=yb (by have:=a.o;omega)
         go_wp2_with (first
          |(at_builtin;refine CE V3.heap.size rfl _ _ rfl v l0 rfl C.o.own U.heap.size 1 nm rfl aa.o au.o af.o S.o ?_;intro aw c5 w5 al X;have ay:=yb al;have aq:=yb X;have av:=yb ((IY X C.o.own ad.o S.o).trans C.o.row);clear al X)
          |(with_reducible refine Al rfl 43 _ _ rfl (w.heap.size+1) 3 (by kernel_rfl) (.slice aw (l0.length+1) c5) (by kernel_rfl) (by kernel_rfl) (p:=[Ai.v y,Ai.v a0,Ai.v ao]) (m:=v) (q:=[]) (t:=44) av.o (by kernel_rfl) (by kernel_rfl) (by kernel_rfl) ?_;intro w6 ah;have ax:=yb ah;clear ah))
         exact ⟨⟨i+1,by push_cast;rfl,by omega,yb (by rw[HI.o];exact ⟨_,by rw[c.o];exact C.o.put ad.o S.o ay.o aq.o ax.o⟩)⟩,by simp[intOf];omega⟩
        ·obtain rfl:i=u:=by omega
         have ac:decide ((i:Int) < (i:Int))=false:=by simp
         have a6:E2 V3.heap.size wr v nms:=by
          have h:=g.o.own
          rw[HN.o,yx] at h
          exact h
         obtain ⟨bg,rfl,f,V⟩:=La a6 (by have:=B.o;omega)
         obtain ⟨V4,b4⟩:∃z:World,z=wr:=⟨_,rfl⟩
         have J:Hid (w.heap.size+2<=V4.heap.size):=yb (by rw[b4];have:=g.o.bx.size;have:=a.o;omega)
         have G:Hid (BX (fun k=>k=w.heap.size+1) (w.heap.size+1) w1 V4):=yb (by rw[b4];exact s.o.trans (g.o.bx.mono (by have:=a.o;omega)))
         have H:Hid (V4.heap[w.heap.size+1]?=some (.cells ([Ai.v y,Ai.v a0,Ai.v ao,Ai.v bg]:LV).toArray 44 (0,0))):=yb (by rw[b4];exact g.o.row)
         have F:Hid (Mw (fun k=>w.heap.size+2<=k∧k < V4.heap.size) V4 y a0 ao bg ⟨(x.lets.map (·.name)),(x.crops.map (·.name)),(x.reaches.map (·.name)),(x.farms.map (·.name))⟩):=yb (by
          rw[b4]
          have h:=a1.o.to (G':=fun k=>w.heap.size+2<=k∧k < wr.heap.size) (fun k hk=>g.o.bx.block k hk.2 (by have:=hk.1;omega)) g.o.bx.size (fun k hk=>⟨hk.1,yr hk.2 g.o.bx.size⟩)
          exact ⟨h.lets,h.crops,h.reaches,⟨by rw[<-ar.o];exact f,fun b o i hb=>⟨by have:=(V b o i hb).1;have:=a.o;omega,(V b o i hb).2⟩⟩⟩)
         clear g a s Y a1 a6 f V HI ac hi a2 HR HN B j hf a8
         rw[<-b4]
         clear b4
         have a:=J;have s:=G;have Y:=H;have a1:=F
         clear J G H F
         go_wp2
         refine hK.o _ _ ?_
         refine wp_seq ?_
         obtain ⟨row,ap⟩:∃r:LV,r=[Ai.v y,Ai.v a0,Ai.v ao,Ai.v bg]:=⟨_,rfl⟩
         have bi:Hid (row.length=4):=yb (by rw[ap];rfl)
         have bw:Hid (∀v∈row,v.oneCell'=true):=yb (by rw[ap];simp[Ai.v,Value.oneCell'])
         have bt:Hid (V4.heap[w.heap.size+1]?=some (.cells row.toArray 44 (0,0))):=yb (by rw[ap];exact Y.o)
         have bu:=yb ap
         clear ap Y
         go_wp2_with (first
          |(refine ym rfl 44 _ rfl (w.heap.size+1) 0 rfl row _ (Aw bt.o) qO rfl (AU (n:=4) (by kernel_rfl) bi.o) ?_)
          |(refine Ae rfl 44 _ _ rfl (w.heap.size+1) rfl row rfl bt.o (by rw[yD]) (AU (n:=4) (by kernel_rfl) bi.o) bw.o ?_;intro w9 bo;have ba:=yb bo;clear bo))
         refine G6 rfl rfl ba.o.row qO rfl (AU (n:=4) (by kernel_rfl) bi.o) ?_
         refine ⟨y,a0,ao,bg,by rw[bu.o],?_,?_⟩
         ·exact a1.o.to (fun k hk=>ba.o.block k (by have:=hk.1;omega)) (by rw[ba.o.size];exact yf _) (fun k hk=>⟨by have:=hk.1;omega,by rw[ba.o.size];exact hk.2⟩)
         ·have h4:=(s.o.mono (C':=w.heap.size) (by omega))
          have h5:Below w.heap.size w1 V4:=⟨h4.os,h4.tape,h4.output,h4.size,fun b hb=>h4.block b hb (by omega)⟩
          exact ba.o.below (bb.o.trans h5) (by omega)
set_option linter.unusedSimpArgs false
def BD(s e k:Nat):Prop:=s<=k∧k < e
def WK(h:Ai × Ai × Ai × Ai)(n:Nat):Ai:=if n=0 then h.1 else if n=1 then h.2.1 else if n=2 then h.2.2.1 else h.2.2.2
structure XO (s0 Ba Bo:Nat) (h:Ai × Ai × Ai × Ai) (t:Tb) (b:Bool) (W:World):Prop where
 all:W.heap[Ba]?=some (.cells #[h.1.v,h.2.1.v,h.2.2.1.v,h.2.2.2.v] 44 (0,0))
 ok:W.heap[Bo]?=some (.cells #[.bool b] 4 (0,0))
 d:Mw (BD s0 Ba) W h.1 h.2.1 h.2.2.1 h.2.2.2 t
structure Pl where
 kind:Int
 name:ByteArray
 a:Rf
 b:Rf
 n:Int
 is:Bool
def KM(p:Pl):LV:=[.int .i64 p.kind,.string p.name,.string p.a.name,.int .i64 p.a.n,.string p.b.name,.int .i64 p.b.n,.int .i64 p.n,.bool p.is]
def Ia:Rf:=⟨⟨#[]⟩,0⟩
def JP(d:CF):List Pl:=[⟨2,d.name,Ia,Ia,0,false⟩]
def Gx(d:Br):List Pl:=[⟨3,d.name,Ia,Ia,0,false⟩]
def ED(d:At):List Pl:=[⟨4,d.name,d.frm,Ia,0,false⟩]
def Gy(d:Bd):List Pl:=[⟨5,d.name,d.on,d.crop,0,d.river⟩]
def H9(k:Bv):List Pl:=[⟨7,⟨#[]⟩,k.farm,Ia,0,false⟩]
def JQ(d:B6):List Pl:=[⟨6,d.name,d.on,Ia,d.rank,false⟩]++d.turns.flatMap H9
def EE(d:AG):List Pl:=[⟨8,d.name,d.farm,d.reach,d.rank,false⟩,⟨9,⟨#[]⟩,Ia,Ia,d.kind,false⟩]
def Gz(d:BR):List Pl:=[⟨10,d.name,d.farm,d.reach,0,false⟩]
def SS(x:Am):List Pl:=[⟨1,x.name,Ia,Ia,0,false⟩]
def T8(x:Am):List Pl:=SS x++x.lets.flatMap JP
def T9(x:Am):List Pl:=T8 x++x.crops.flatMap Gx
def Ta(x:Am):List Pl:=T9 x++x.reaches.flatMap ED
def Tc(x:Am):List Pl:=Ta x++x.farms.flatMap Gy
def Td(x:Am):List Pl:=Tc x++x.rots.flatMap JQ
def Te(x:Am):List Pl:=Td x++x.rights.flatMap EE
def CC(x:Am):List Pl:=Te x++x.duties.flatMap Gz
structure XM (x:Am):Prop where
 p1:(SS x).length<=1
 p2:(T8 x).length<=101
 p3:(T9 x).length<=201
 p4:(Ta x).length<=301
 p5:(Tc x).length<=401
 p6:(Td x).length<=5371
 p7:(Te x).length<=5971
 p8:(CC x).length<=6271
theorem PH{d:B6}(h:d.turns.length<=70):(JQ d).length<=71:=by
 have h1:(d.turns.flatMap H9).length<=d.turns.length*1:=AK fun _ _=>by simp[H9]
 simp only[JQ,yq,yI,yM]
 omega
theorem Hw{x:Am}(h:Fw x):XM x:=by
 have h1:=h.lets;have h2:=h.crops;have h3:=h.reaches;have h4:=h.farms;have h5:=h.rots;have h6:=h.rights;have a:=h.duties
 have e1:(x.lets.flatMap JP).length<=x.lets.length*1:=AK fun _ _=>by simp[JP]
 have e2:(x.crops.flatMap Gx).length<=x.crops.length*1:=AK fun _ _=>by simp[Gx]
 have b:(x.reaches.flatMap ED).length<=x.reaches.length*1:=AK fun _ _=>by simp[ED]
 have g:(x.farms.flatMap Gy).length<=x.farms.length*1:=AK fun _ _=>by simp[Gy]
 have e:(x.rots.flatMap JQ).length<=x.rots.length*71:=AK fun d hd=>PH (h.turns d hd)
 have c:(x.rights.flatMap EE).length<=x.rights.length*2:=AK fun _ _=>by simp[EE]
 have f:(x.duties.flatMap Gz).length<=x.duties.length*1:=AK fun _ _=>by simp[Gz]
 refine ⟨?_,?_,?_,?_,?_,?_,?_,?_⟩<;>simp only[CC,Te,Td,Tc,Ta,T9,T8,SS,yq,yI,yM]<;>omega
def Fq(B:Nat)(w:World)(v:Value)(l:List Pl):Prop:=w.ownsRow B 125 8 v l.length (l.flatMap KM)
theorem Fq.up{B:Nat}{w w':World}{v:Value}{l:List Pl}(h:Fq B w v l)(hb:Below w.heap.size w w'):Fq B w' v l:=by
 obtain ⟨h1,h2⟩:=h
 refine ⟨h1,h2.imp id ?_⟩
 rintro ⟨g,cap,a,h3,h4,h5,h6⟩
 exact ⟨g,cap,a,h3,h4,(hb.block g (ye.1 h5).1).trans h5,h6⟩
theorem Fs{B:Nat}{c w w':World}{v:Value}{l:List Pl}(h:Below B c w)(i:B<=w.heap.size)(d:Fq B w v l)(a:w.grownBy w' v.ownBlock):Below B c w':=by
 refine h.trans ⟨a.os,a.tape,a.output,a.size,fun b hb=>a.block b (by omega) (fun e=>?_)⟩
 rcases d.2 with ⟨rfl,_⟩|⟨g,cap,f,rfl,h4,_⟩
 ·cases e
 ·simp only[Value.ownBlock,yY] at e
  omega
theorem JR(l:List Pl):(l.flatMap KM).length=l.length*8∧∀u∈l.flatMap KM,u.oneCell'=true:=by
 induction l with
 |nil=>simp
 |cons p r ih=>
  refine ⟨by simp only[zv,yq,ih.1,yI];simp[KM];omega,fun u a=>?_⟩
  rw[zv] at a
  rcases yi.1 a with a|a
  ·simp[KM] at a
   rcases a with h|h|h|h|h|h|h|h<;>rw[h]<;>rfl
  ·exact ih.2 u a
theorem Ca{ops:Array Oper}{rest:List Oper}{o:Oper}{a:Act}{Q:QT}{W:World}(B:Nat)(r:o.guard=none)(s x:Operand)(C:o.op=.call {callee:=.builtin .append,args:=#[s,x],argTypes:=#[122,122]})
 (v:Value)(l:List Pl)(hs:a.eval s=v)(p:Fq B W v l)(g m c:Nat)(d:List Pl)(H:a.eval x=.slice (some ⟨g,0,none⟩) m c)(D:m=d.length)(G:W.heap[g]?=some (.cells (d.flatMap KM).toArray 125 (0,0)))
 (y:l.length+d.length<=1000000)(k:B<=W.heap.size)
 (h:∀(w:Option Addr) (n c:Nat) w',Fq B w' (.slice w n c) (l++d)->W.grownBy w' v.ownBlock->wpList Try.prog ops Q rest (a.put o.dst (.slice w n c)) w'):wpList Try.prog ops Q (o::rest) a W:=by
 subst D
 refine yG r fun K E=>?_
 have h0:((Try.prog.info? 125).bind fun i=>i.zero.map fun z=>(i.size,z.cells.size,i.bytes))=some (8,8,88):=by kernel_rfl
 cases e:Try.prog.info? 125 with
 |none=>rw[e] at h0;cases h0
 |some i0=>
  rw[e] at h0
  cases t:i0.zero with
  |none=>simp[t] at h0
  |some z=>
  simp only[t,xJ,xT,yY,zw] at h0
  obtain ⟨A,I,F⟩:=h0
  have f:∀j u,(d.flatMap KM)[j]?=some u->W.cell? (((aV g 0):Addr).add j)=some u:=fun j u J=>by
   rw[zD]
   simp only[World.cell?,G]
   simpa using J
  refine qu W s x 122 C B 125 i0 z 8 88 qw e t A F I (by decide) v l.length _ hs p (aV g 0) d.length c (d.flatMap KM) H (JR d).1 f (JR d).2 (by unfold maxLen;omega) (by omega) k ?_
  intro v' w' b q _
  obtain ⟨va,L,vc,rfl⟩:=CY b
  exact E _ _ (h va L vc w' (by unfold Fq;rw[yq,zG];exact b) q)
structure Ps (w:World) (cs:List Value) (W:World) (v:Value) (l:List Pl):Prop where
 below:Below w.heap.size w W
 box:W.heap[w.heap.size]?=some (.cells cs.toArray 35 (0,0))
 own:Fq (w.heap.size+1) W v l
 size:w.heap.size+1<=W.heap.size
theorem Ps.cell{w W:World}{cs:LV}{v:Value}{l:List Pl}{p q:LV}{u:Value}(h:Ps w cs W v l)(hc:cs=p++(u::q)){o:Nat}(a:p.length=o):W.cell? ⟨w.heap.size,o,none⟩=some u:=by
 have h1:=Aw h.box
 rw[hc] at h1
 have h2:=AO (p:=p) (c:=[u]) (q:=q) h1
 rw[a,yB] at h2
 exact CL h2
theorem Ps.next{w W W':World}{cs:LV}{v v':Value}{l a:List Pl}(h:Ps w cs W v l)(hb:Below (w.heap.size+1) W W')(b:Fq (w.heap.size+1) W' v' (l++a)):Ps w cs W' v' (l++a):=
 ⟨h.below.trans (hb.mono (by omega)),(hb.block _ (by omega)).trans h.box,b,yl h.size hb.size⟩
def Hx(w:World)(l:List Pl)(e:Ending)(w':World):Prop:=∃v,e=.returned v∧Fq w.heap.size w' v l∧Below w.heap.size w w'
theorem O8{W:World}{b o:Nat}{p q:LV}{u:Value}(h:W.rangeAt b o (p++(u::q))):W.cell? ⟨b,o+p.length,none⟩=some u:=CL (AO (p:=p) (c:=[u]) (q:=q) h)
end Go.Proofs.Ytghepahgkcigpaa
