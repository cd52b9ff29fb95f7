/- Parts of the proof, in short words: Yt Zr Zs Zt Zu Ah -/
import Derived.Test.YtghepahgkcigpaaRf0
import Derived.Test.YtghepahgkcigpaaRf18
import Derived.Test.YtghepahgkcigpaaRf19
import Derived.Test.YtghepahgkcigpaaRf20
import Derived.StillTailTactics
import Derived.Deep.CutBlock
import Derived.Test.YtghepahgkcigpaaRf4
import Derived.Test.YtghepahgkcigpaaRf7
import Derived.Test.YtghepahgkcigpaaRf21
set_option maxRecDepth 100000
set_option maxHeartbeats 64000000
set_option linter.unusedSimpArgs false
namespace Go.Proofs.Ytghepahgkcigpaa
open Go.RowKit




set_option linter.unusedSimpArgs false
theorem V8{id:Nat}{caps:Array Value}{F G:NP}{J:Bool->World->Prop}{g:Int->Rf->Rf}{q:Int->Rf->Bool}{b:Bool}{w W:World}{cs:LV}{u:Nat->Value}{x y:Aq}{L:Bz}{c0 c1 c2:LV}{h0 h1 h2 h3:Ah}(hc:JH id caps F g q J)(hv:BC (GF G w) w L cs x)(db:SH x)(dd:∀k,F k->G k)(hG:∀k,G k->k < w.heap.size)(hu:UF id caps w u)
 (hS:MS F w cs (.string y.name::(c0++(c1++(c2++[h0.v,h1.v,h2.v,h3.v,.slice none 0 0,.slice none 0 0,.slice none 0 0])))) W)(hY:Di 4 (GF (FL G [w.heap.size,w.heap.size+1,w.heap.size+2]) W) W c0 c1 c2 h0 h1 h2 h3 ⟨none,0,0⟩ ⟨none,0,0⟩ ⟨none,0,0⟩ y)(hJ:J b W):
  Code.wp Try.prog (DO 8 (Try.f17.body.getD .skip)) (bodyPost Try.prog Try.f17 (MP F G J (((b&&x.rots.all (I6 q))&&x.rights.all (Dc q))&&x.duties.all (E3 q)) (⟨y.name,y.season,y.cap,y.start,y.lets,y.crops,y.reaches,y.farms,(x.rots.map (I5 g)),(x.rights.map (D0 g)),(x.duties.map (E2 g))⟩:Aq) w)) {tmps:=Jj u,defers:=[]} W:=by
 have dp:∀k,F k->k < w.heap.size:=fun k d=>hG k (dd k d)
 obtain ⟨⟨a,n,c⟩,hL⟩:∃h:Ah,L.rots=h:=⟨_,rfl⟩
 obtain ⟨s0,s1,s2,e3,g0,g1,g2⟩:=hv.cells
 have d5:W.cell? (aV w.heap.size 23)=some (.slice a n c):=by
  refine hS.cell (p:=.string x.name::(s0++(s1++(s2++[L.lets.v,L.crops.v,L.reaches.v,L.farms.v])))) (q:=[L.rights.v,L.duties.v]) ?_ (by simp[g0.len,g1.len,g2.len])
  rw[e3,hL]
  simp[yl,Ah.v]
 have co:AF (GF G w) w 23 (Lo (GF G w) w) ⟨a,n,c⟩ x.rots:=hL▸QU hv
 have ev:=yb co.2.2
 have bp:Hid (n=x.rots.length):=yb co.1
 have d6:Hid (x.rots.length<=100000):=yb db.slim.rots
 have HN:Hid (n<=140737488355328):=yb (by have:=bp.o;have:=d6.o;omega)
 obtain ⟨P,hP⟩:∃P:LV,P=.string y.name::(c0++(c1++(c2++[h0.v,h1.v,h2.v,h3.v]))):=⟨_,rfl⟩
 have eg:Hid (P.length=23):=yb (by rw[hP];simp[hY.e0.len,hY.e1.len,hY.e2.len])
 have ei:MS F w cs (P++(.slice none 0 0:: qY)) W:=by rw[hP];simpa[yl] using hS
 obtain ⟨I,hI⟩:∃I:Nat->World->Prop,I=fun i W=>∃v,MI Lo 64 23 F G J b w cs P qY (fun N W=>Di 4 N W c0 c1 c2 h0 h1 h2 h3 ⟨none,0,0⟩ ⟨none,0,0⟩ ⟨none,0,0⟩ y) (fun i=>(x.rots.take i).all (I6 q)) (fun i=>(x.rots.take i).map (I5 g)) i v W:=⟨_,rfl⟩
 have dm:Hid (I 0 W):=yb (by
  rw[hI]
  exact ⟨_,ei,by simpa using hJ,by simpa[ob,Value.ownBlock] using hY,by simpa using DP⟩)
 have HI:=yb hI;have HV:=yb hv;have HC:=yb hc;have dl:=yb db;have R:=yb dd;have HG:=yb hG;have a2:=yb dp;have eo:=yb hP;have HU:=yb hu;have fi:=yb hY.name
 rw[FE,hu.u1,hu.u2,hu.u4,hu.u5]
 clear hv db hc dd hG dp hS hY hJ hP hL e3 g0 g1 g2 co ei hI hu
 refine Ap fun K hK=>?_
 go_wp2
 go_loopw [178] (fun iv wr=>∃i:Nat,iv=iV i∧i<=n∧Hid (I i wr)) (fun iv _=>n - (intOf iv).toNat)
 case atStart=>exact ⟨0,rfl,yz _,dm⟩
 case round=>
  clear dm d5
  obtain ⟨i,rfl,hi,bw⟩:=hrel
  obtain ⟨v,hM⟩:∃v,MI Lo 64 23 F G J b w cs P qY (fun N W=>Di 4 N W c0 c1 c2 h0 h1 h2 h3 ⟨none,0,0⟩ ⟨none,0,0⟩ ⟨none,0,0⟩ y) (fun i=>(x.rots.take i).all (I6 q)) (fun i=>(x.rots.take i).map (I5 g)) i v wr:=by have h:=bw.o;rw[HI.o] at h;exact h
  obtain ⟨va,M,H,rfl⟩:=hM.grow.slice
  have HM:=yb hM
  clear bw hM
  have fc:n<=140737488355328:=HN.o
  by_cases er:i < n
  ·have c4:i < x.rots.length:=by rw[<-bp.o];exact er
   have ep:(i:Int) < (n:Int):=by omega
   obtain ⟨bq,oq,ct,he,c5,ca,bh,de⟩:=ev.o i c4
   obtain rfl:a=some (aV bq oq):=he
   have bz:Hid ((b&&(x.rots.take (i+1)).all (I6 q))=((b&&(x.rots.take i).all (I6 q))&&I6 q x.rots[i])):=yb (by
    rw[yq c4,zh,ze,zu,yT,<-zc])
   have cn:Hid ((x.rots.take (i+1)).map (I5 g)=(x.rots.take i).map (I5 g)++[I5 g x.rots[i]]):=yb (by rw[yq c4,zb];rfl)
   have f1:Hid (i+1<=1000000):=yb (by have:=bp.o;have:=d6.o;omega)
   have aj:=yb (dl.o.rots _ (yy c4))
   have f3:Hid (((x.rots.take i).map (I5 g)).length=i):=yb (by simp;omega)
   generalize hD:x.rots[i]=D at de bz cn aj
   clear hD
   generalize eh:(b&&(x.rots.take i).all (I6 q))=bb at bz
   have HJ:Hid (J bb wr):=yb (by rw[<-eh];exact HM.o.j)
   clear eh
   have c6:=yb (MQ de).2
   have ai:=yb ca
   obtain ⟨nm,U,rk,e0,e1,e2,ts⟩:=D
   obtain ⟨⟨ta,tn,tc⟩,cq,d9,c0,c1,c2,rfl,x0,x1,x2,cr⟩:=de
   simp only[Ah.v] at bh ai c6
   simp only at bh ai c6 bz cn aj cq d9 x0 x1 x2
   obtain ⟨ct,aw⟩:∃ct:LV,ct=(.string nm::(Am U++(iV rk::(c0++(c1++(c2++[.slice ta tn tc])))))):=⟨_,rfl⟩
   rw[<-aw] at bh ai c6
   have em:=yb aw
   have ez:=yb cr.2.2;have bi:Hid (tn=ts.length):=yb cr.1
   clear cr
   have eq:=yb cq
   have e7:=yb d9
   have dr:Hid (wr.rangeAt bq (oq+i*23) ct):=yb (A3 bh (HM.o.ms.bx.block bq c5.2 (fun k=>c5.1 (R.o _ k))))
   have ff:Hid (bq < wr.heap.size):=yb (yp c5.2 HM.o.ms.bx.size)
   have dt:Hid (Au (fun c e=>AW (GF G w) w e c) [c0,c1,c2] [e0,e1,e2]):=yb ⟨x0,x1,x2,trivial⟩
   have ap:Hid (∀k∈(([w.heap.size,w.heap.size+1,w.heap.size+2]++ob (.slice va M H))++[wr.heap.size]),w.heap.size<=k∧k<=wr.heap.size):=yb (by
    have h1:=HM.o.ms.lt
    intro k d
    rcases yo.1 d with d|d
    ·rcases yo.1 d with d|d
     ·simp at d;omega
     ·have:=HM.o.grow.lt k d;omega
    ·simp at d;omega)
   have B:=yb HM.o.ms.lt
   have f4:Hid (¬ F wr.heap.size):=yb (fun h=>by have:=a2.o _ h;have:=B.o;omega)
   clear aw bh c5 ca cq d9 x0 x1 x2
   go_upto_block 11 with fail
   refine wp_block ?_
   refine Ap fun K1 bu=>?_
   go_wp2_with (first
    |(with_reducible refine yj rfl 64 _ rfl bq (oq+i*23) (by kernel_rfl) ct _ dr.o qL (by kernel_rfl) (Cl (n:=23) (by kernel_rfl) ai.o) ?_)
    |(with_reducible refine Ae rfl 64 _ _ rfl wr.heap.size (by kernel_rfl) ct (by kernel_rfl) (World.alloc_heap_new _ _) (by rw[yB,ai.o];kernel_rfl) (Cl (n:=23) (by kernel_rfl) ai.o) c6.o ?_;intro X1 dv;have ah:=yb dv;clear dv))
   refine bu.o _ _ ?_
   clear bu
   have A:Hid (TB F wr 64 (.string nm::(Am U++(iV rk::(c0++(c1++(c2++[.slice ta tn tc])))))) X1):=yb (by rw[<-em.o];exact ED ah.o)
   have s:Hid (J bb X1):=yb (HC.o.stab _ _ _ HJ.o (fun k d=>(Az ah.o).block k (by have:=a2.o k d;have:=B.o;omega)) (Az ah.o).size)
   have f:Hid (VE G (([w.heap.size,w.heap.size+1,w.heap.size+2]++ob (.slice va M H))++[wr.heap.size]) X1 [c0,c1,c2] [e0,e1,e2]):=yb (Au.mono (fun _ _ h=>h.flux ((HM.o.ms.bx.trans (A.o.bx.mono HM.o.ms.bx.size)).flux (ye _) R.o) (fun k d=>d.imp (fun h=>h) (fun h=>(ap.o k h).1))) dt.o)
   clear ah dr dt
   have ax:=yb (HC.o.call (bb) X1 2 wr.heap.size 1 (.string nm::([]:LV)) U (iV rk::(c0++(c1++(c2++[.slice ta tn tc])))) 64 s.o (by have h:=A.o.row;simpa[yl] using h) (by simp) f4.o e7.o (by decide) (by decide))
   refine Ap fun K1 bu=>?_
   go_wp2
   rw[HC.o.enter,zR]
   refine ax.o.mono ?_
   rintro e X2 ⟨rfl,hj,hx⟩
   have au:WX F X1 X2 wr.heap.size (.string nm::(Am (g 2 U)++(iV rk::(c0++(c1++(c2++[.slice ta tn tc])))))) 64:=by simpa[yl] using hx
   have S:=A.o.cb au;have hE:=f.o.cb au R.o (by simp)
   clear A s f ax hx
   have A:=yb S;have f:=yb hE;have s:=yb hj
   clear S hE hj au
   go_wp2
   refine bu.o _ _ ?_
   clear bu
   refine Ap fun K3 ey=>?_
   obtain ⟨RW,d3⟩:∃r:LV,r=(.string nm::(Am (g 2 U)++(iV rk::(c0++(c1++(c2++[.slice ta tn tc])))))):=⟨_,rfl⟩
   have ba:=yb d3
   rw[<-d3] at A
   clear d3
   obtain ⟨w0,w1,w2,_⟩:=f.o
   have a8:=yb w0.len
   have aa:=yb w1.len
   have a7:=yb w2.len
   clear w0 w1 w2
   have S:=A.o.drew;have hE:=f.o.drew;have hj:=HC.o.stab _ _ X2.drew s.o (fun _ _=>rfl) (ye _)
   clear A f s
   have A:=yb S;have f:=yb hE;have s:=yb hj
   clear S hE hj
   have T:Hid (∀k,F k->k < wr.heap.size):=yb (fun k d=>by have:=a2.o k d;have:=B.o;omega)
   refine wp_region_noPanic ?_
   refine Cx (by kernel_rfl) (fun W=>W.heap[wr.heap.size]?=some (.cells RW.toArray 64 (0,0))) 13 ?_
   refine A1 (i:=0) (v:=pV wr.heap.size 4) rfl (by kernel_rfl) (by kernel_rfl) (by kernel_rfl) (fun _ _ _ h=>h) (by kernel_rfl) (Or.inl ⟨by rfl,?_⟩) (fun _=>A.o.row) ?_
   ·intro w _;go_simp
   refine An (i:=1) (v:=.agg (c0).toArray) rfl (by kernel_rfl) (by kernel_rfl) (by kernel_rfl) (fun _ _ _ h=>h) (by kernel_rfl) (yK (by rfl) 26 _ rfl (wr.heap.size) 4 (by kernel_rfl) (c0) _ (fun W hW=>BH hW (p:=(.string nm::(Am (g 2 U)++(iV rk::([]:LV))))) (q:=(c1++(c2++[.slice ta tn tc]))) (by rw[ba.o];simp) (by simp[A7,a8.o,aa.o,a7.o])) qq rfl (BW a8.o)) A.o.row ?_
   refine A1 (i:=2) (v:=.func (.func id) #[] caps) rfl (by kernel_rfl) (by kernel_rfl) (by kernel_rfl) (fun _ _ _ h=>h) (by kernel_rfl) (Or.inl ⟨by rfl,?_⟩) (fun _=>A.o.row) ?_
   ·intro w _;go_simp
   refine A1 (i:=4) (v:=pV wr.heap.size 10) rfl (by kernel_rfl) (by kernel_rfl) (by kernel_rfl) (fun _ _ _ h=>h) (by kernel_rfl) (Or.inl ⟨by rfl,?_⟩) (fun _=>A.o.row) ?_
   ·intro w _;go_simp
   refine An (i:=5) (v:=.agg (c1).toArray) rfl (by kernel_rfl) (by kernel_rfl) (by kernel_rfl) (fun _ _ _ h=>h) (by kernel_rfl) (yK (by rfl) 26 _ rfl (wr.heap.size) 10 (by kernel_rfl) (c1) _ (fun W hW=>BH hW (p:=(.string nm::(Am (g 2 U)++(iV rk::(c0++([]:LV)))))) (q:=(c2++[.slice ta tn tc])) (by rw[ba.o];simp) (by simp[A7,a8.o,aa.o,a7.o])) qq rfl (BW aa.o)) A.o.row ?_
   refine A1 (i:=6) (v:=.func (.func id) #[] caps) rfl (by kernel_rfl) (by kernel_rfl) (by kernel_rfl) (fun _ _ _ h=>h) (by kernel_rfl) (Or.inl ⟨by rfl,?_⟩) (fun _=>A.o.row) ?_
   ·intro w _;go_simp
   refine A1 (i:=8) (v:=pV wr.heap.size 16) rfl (by kernel_rfl) (by kernel_rfl) (by kernel_rfl) (fun _ _ _ h=>h) (by kernel_rfl) (Or.inl ⟨by rfl,?_⟩) (fun _=>A.o.row) ?_
   ·intro w _;go_simp
   refine An (i:=9) (v:=.agg (c2).toArray) rfl (by kernel_rfl) (by kernel_rfl) (by kernel_rfl) (fun _ _ _ h=>h) (by kernel_rfl) (yK (by rfl) 26 _ rfl (wr.heap.size) 16 (by kernel_rfl) (c2) _ (fun W hW=>BH hW (p:=(.string nm::(Am (g 2 U)++(iV rk::(c0++(c1++([]:LV))))))) (q:=[.slice ta tn tc]) (by rw[ba.o];simp) (by simp[A7,a8.o,aa.o,a7.o])) qq rfl (BW a7.o)) A.o.row ?_
   refine A1 (i:=10) (v:=.func (.func id) #[] caps) rfl (by kernel_rfl) (by kernel_rfl) (by kernel_rfl) (fun _ _ _ h=>h) (by kernel_rfl) (Or.inl ⟨by rfl,?_⟩) (fun _=>A.o.row) ?_
   ·intro w _;go_simp
   refine A4 (i:=3) (by kernel_rfl) rfl (fun K hK=>?_)
   go_simp
   have Q:=yb (B8 HC.o e0 (FL G (([w.heap.size,w.heap.size+1,w.heap.size+2]++ob (.slice va M H))++[wr.heap.size])) ((bb&&q 2 U)) X2.drew c0 aj.o.1.1 s.o (by obtain ⟨w0,w1,w2,_⟩:=f.o;exact w0) (fun k d=>.inl (R.o k d)) (fun k d=>by
    have h1:=A.o.lt;have h2:=B.o
    rcases d with d|d
    ·have:=HG.o k d;omega
    ·have:=(ap.o k d).2;omega))
   refine Q.o.mono ?_
   rintro e Z0 ⟨z,rfl,a1,Z,V⟩
   have S:=A.o.call T.o V
   have hE:VE G (([w.heap.size,w.heap.size+1,w.heap.size+2]++ob (.slice va M H))++[wr.heap.size]) Z0 [z,c1,c2] [AV g e0,e1,e2]:=by
    obtain ⟨w0,w1,w2,_⟩:=f.o.bcall V R.o
    exact ⟨a1,w1,w2,trivial⟩
   have ad:=yb a1.len
   refine hK.o _ _ (fun _=>S.row) ?_
   clear hK K A f s Q a1 V
   have A:=yb S;have f:=yb hE;have s:=yb Z
   clear S hE Z
   refine A4 (i:=7) (by kernel_rfl) rfl (fun K hK=>?_)
   go_simp
   have Q:=yb (B8 HC.o e1 (FL G (([w.heap.size,w.heap.size+1,w.heap.size+2]++ob (.slice va M H))++[wr.heap.size])) (((bb&&q 2 U)&&AS q e0)) Z0 c1 aj.o.1.2.1 s.o (by obtain ⟨w0,w1,w2,_⟩:=f.o;exact w1) (fun k d=>.inl (R.o k d)) (fun k d=>by
    have h1:=A.o.lt;have h2:=B.o
    rcases d with d|d
    ·have:=HG.o k d;omega
    ·have:=(ap.o k d).2;omega))
   refine Q.o.mono ?_
   rintro e Z1 ⟨C,rfl,a1,Z,V⟩
   have S:=A.o.call T.o V
   have hE:VE G (([w.heap.size,w.heap.size+1,w.heap.size+2]++ob (.slice va M H))++[wr.heap.size]) Z1 [z,C,c2] [AV g e0,AV g e1,e2]:=by
    obtain ⟨w0,w1,w2,_⟩:=f.o.bcall V R.o
    exact ⟨w0,a1,w2,trivial⟩
   have af:=yb a1.len
   refine hK.o _ _ (fun _=>S.row) ?_
   clear hK K A f s Q a1 V
   have A:=yb S;have f:=yb hE;have s:=yb Z
   clear S hE Z
   refine A4 (i:=11) (by kernel_rfl) rfl (fun K hK=>?_)
   go_simp
   have Q:=yb (B8 HC.o e2 (FL G (([w.heap.size,w.heap.size+1,w.heap.size+2]++ob (.slice va M H))++[wr.heap.size])) ((((bb&&q 2 U)&&AS q e0)&&AS q e1)) Z1 c2 aj.o.1.2.2 s.o (by obtain ⟨w0,w1,w2,_⟩:=f.o;exact w2) (fun k d=>.inl (R.o k d)) (fun k d=>by
    have h1:=A.o.lt;have h2:=B.o
    rcases d with d|d
    ·have:=HG.o k d;omega
    ·have:=(ap.o k d).2;omega))
   refine Q.o.mono ?_
   rintro e Z2 ⟨E,rfl,a1,Z,V⟩
   have S:=A.o.call T.o V
   have hE:VE G (([w.heap.size,w.heap.size+1,w.heap.size+2]++ob (.slice va M H))++[wr.heap.size]) Z2 [z,C,E] [AV g e0,AV g e1,AV g e2]:=by
    obtain ⟨w0,w1,w2,_⟩:=f.o.bcall V R.o
    exact ⟨w0,w1,a1,trivial⟩
   have ag:=yb a1.len
   refine hK.o _ _ (fun _=>S.row) ?_
   clear hK K A f s Q a1 V
   have A:=yb S;have f:=yb hE;have s:=yb Z
   clear S hE Z
   rw[ba.o] at A
   refine A4 (i:=12) (by kernel_rfl) rfl (fun K hK=>?_)
   go_simp
   refine hK.o _ _ (fun _=>by rw[ba.o];exact A.o.row) ?_
   clear hK K
   refine A4 (i:=13) (by kernel_rfl) rfl (fun K hK=>?_)
   rw[yx (by rfl)]
   refine AD 26 _ _ rfl wr.heap.size 4 (by kernel_rfl) z (by kernel_rfl) (p:=(.string nm::(Am (g 2 U)++(iV rk::([]:LV))))) (m:=c0) (q:=(c1++(c2++[.slice ta tn tc]))) (t:=64) (by have h:=A.o.row;simpa using h) (by simp[A7,a8.o,aa.o,a7.o,ad.o,af.o,ag.o]) (by rw[a8.o,ad.o]) (BW ad.o) (Ai (by obtain ⟨w0,w1,w2,_⟩:=f.o;exact w0)) ?_
   intro S0 ae
   have O:AE Z2 S0 wr.heap.size (.string nm::(Am (g 2 U)++(iV rk::(z++(c1++(c2++[.slice ta tn tc])))))) 64:=by simpa using ae
   refine hK.o _ _ (by intro h;cases h) ?_
   have S:=A.o.wrote O;have hE:=f.o.wrt O (by simp);have hj:=HC.o.stab _ _ _ s.o (fun k d=>O.block k (by have:=T.o k d;omega)) (by rw[O.size];exact ye _)
   clear hK K A f s ae O
   have A:=yb S;have f:=yb hE;have s:=yb hj
   clear S hE hj
   refine A4 (i:=14) (by kernel_rfl) rfl (fun K hK=>?_)
   go_simp
   refine hK.o _ _ (by intro h;cases h) ?_
   clear hK K
   refine A4 (i:=15) (by kernel_rfl) rfl (fun K hK=>?_)
   rw[yx (by rfl)]
   refine AD 26 _ _ rfl wr.heap.size 10 (by kernel_rfl) C (by kernel_rfl) (p:=(.string nm::(Am (g 2 U)++(iV rk::(z++([]:LV)))))) (m:=c1) (q:=(c2++[.slice ta tn tc])) (t:=64) (by have h:=A.o.row;simpa using h) (by simp[A7,a8.o,aa.o,a7.o,ad.o,af.o,ag.o]) (by rw[aa.o,af.o]) (BW af.o) (Ai (by obtain ⟨w0,w1,w2,_⟩:=f.o;exact w1)) ?_
   intro S1 ae
   have O:AE S0 S1 wr.heap.size (.string nm::(Am (g 2 U)++(iV rk::(z++(C++(c2++[.slice ta tn tc])))))) 64:=by simpa using ae
   refine hK.o _ _ (by intro h;cases h) ?_
   have S:=A.o.wrote O;have hE:=f.o.wrt O (by simp);have hj:=HC.o.stab _ _ _ s.o (fun k d=>O.block k (by have:=T.o k d;omega)) (by rw[O.size];exact ye _)
   clear hK K A f s ae O
   have A:=yb S;have f:=yb hE;have s:=yb hj
   clear S hE hj
   refine A4 (i:=16) (by kernel_rfl) rfl (fun K hK=>?_)
   go_simp
   refine hK.o _ _ (by intro h;cases h) ?_
   clear hK K
   refine A4 (i:=17) (by kernel_rfl) rfl (fun K hK=>?_)
   rw[yx (by rfl)]
   refine AD 26 _ _ rfl wr.heap.size 16 (by kernel_rfl) E (by kernel_rfl) (p:=(.string nm::(Am (g 2 U)++(iV rk::(z++(C++([]:LV))))))) (m:=c2) (q:=[.slice ta tn tc]) (t:=64) (by have h:=A.o.row;simpa using h) (by simp[A7,a8.o,aa.o,a7.o,ad.o,af.o,ag.o]) (by rw[a7.o,ag.o]) (BW ag.o) (Ai (by obtain ⟨w0,w1,w2,_⟩:=f.o;exact w2)) ?_
   intro S2 ae
   have O:AE S1 S2 wr.heap.size (.string nm::(Am (g 2 U)++(iV rk::(z++(C++(E++[.slice ta tn tc])))))) 64:=by simpa using ae
   refine hK.o _ _ (by intro h;cases h) ?_
   have S:=A.o.wrote O;have hE:=f.o.wrt O (by simp);have hj:=HC.o.stab _ _ _ s.o (fun k d=>O.block k (by have:=T.o k d;omega)) (by rw[O.size];exact ye _)
   clear hK K A f s ae O
   have A:=yb S;have f:=yb hE;have s:=yb hj
   clear S hE hj
   refine Cw (by kernel_rfl) ?_
   refine NoPanic.normal ?_
   refine ey.o _ _ ?_
   refine Ap fun K4 dy=>?_
   go_wp2
   refine dy.o _ _ ?_
   clear dy
   have ca:S2.cell? (aV wr.heap.size 22)=some (.slice ta tn tc):=CT (A.o.part (p:=(.string nm::(Am (g 2 U)++(iV rk::(z++(C++(E++([]:LV)))))))) (m:=[.slice ta tn tc]) (q:=([]:LV)) (by simp) (by simp[A7,ad.o,af.o,ag.o]))
   obtain ⟨I2,cv⟩:∃I2:Nat->Value->World->Prop,I2=fun j v Y=>TB F wr 64 (.string nm::(Am (g 2 U)++(iV rk::(z++(C++(E++[.slice ta tn tc])))))) Y∧VE G ((([w.heap.size,w.heap.size+1,w.heap.size+2]++ob (.slice va M H))++[wr.heap.size])++ob v) Y [z,C,E] [AV g e0,AV g e1,AV g e2]∧J (((((bb&&q 2 U)&&AS q e0)&&AS q e1)&&AS q e2)&&(ts.take j).all (GH q)) Y∧Dw Dj 66 8 (wr.heap.size+1) G (([w.heap.size,w.heap.size+1,w.heap.size+2]++ob (.slice va M H))++[wr.heap.size]) Y v ((ts.take j).map (H9 g)):=⟨_,rfl⟩
   have ch:Hid (I2 0 (.slice none 0 0) S2):=yb (by rw[cv];exact ⟨A.o,by simpa[ob,Value.ownBlock] using f.o,by simpa using s.o,by simpa using DP⟩)
   have e4:=yb cv
   have f8:Hid (tn<=140737488355328):=yb (by have:=bi.o;have:=aj.o.2.1;omega)
   clear A f s cv
   refine Ap fun K5 ek=>?_
   obtain ⟨wo,rfl⟩:∃wo:World,wo=wr:=⟨_,rfl⟩
   go_wp2
   go_loopw [17,203] (fun f7 jv X=>∃j:Nat,jv=iV j∧j<=tn∧Hid (I2 j f7 X)) (fun _ jv _=>tn - (intOf jv).toNat)
   case atStart=>exact ⟨0,rfl,yz _,ch⟩
   case round=>
    clear ch ca
    obtain ⟨j,rfl,hj,bw⟩:=hrel
    obtain ⟨S,hE,hJ,bj⟩:TB F wo 64 (.string nm::(Am (g 2 U)++(iV rk::(z++(C++(E++[.slice ta tn tc])))))) wr∧VE G ((([w.heap.size,w.heap.size+1,w.heap.size+2]++ob (.slice va M H))++[wo.heap.size])++ob u17) wr [z,C,E] [AV g e0,AV g e1,AV g e2]∧J (((((bb&&q 2 U)&&AS q e0)&&AS q e1)&&AS q e2)&&(ts.take j).all (GH q)) wr∧Dw Dj 66 8 (wo.heap.size+1) G (([w.heap.size,w.heap.size+1,w.heap.size+2]++ob (.slice va M H))++[wo.heap.size]) wr u17 ((ts.take j).map (H9 g)):=by have h:=bw.o;rw[e4.o] at h;exact h
    obtain ⟨ya,yn,yc,rfl⟩:=bj.slice
    have bm:=yb S;have ec:=yb hE;have b7:=yb bj
    have fd:tn<=140737488355328:=f8.o
    have bk:=yb S.lt
    have c9:Hid (∀k∈(([w.heap.size,w.heap.size+1,w.heap.size+2]++ob (.slice va M H))++[wo.heap.size])++ob (.slice ya yn yc),w.heap.size<=k∧k < wr.heap.size):=yb (by
     have h1:=S.lt
     have h2:=B.o
     intro k d
     rcases yo.1 d with d|d
     ·have:=ap.o k d;omega
     ·have:=bj.lt k d;omega)
    by_cases e9:j < tn
    ·have b9:j < ts.length:=by rw[<-bi.o];exact e9
     have en:(j:Int) < (tn:Int):=by omega
     obtain ⟨bt,ot,cu,fb,ao,dk,c8,cm⟩:=ez.o j b9
     obtain rfl:ta=some (aV bt ot):=fb
     have c3:Hid ((((((bb&&q 2 U)&&AS q e0)&&AS q e1)&&AS q e2)&&(ts.take (j+1)).all (GH q))=((((((bb&&q 2 U)&&AS q e0)&&AS q e1)&&AS q e2)&&(ts.take j).all (GH q))&&GH q ts[j])):=yb (by
      rw[yq b9,zh,ze,zu,yT,<-zc])
     have ci:Hid ((ts.take (j+1)).map (H9 g)=(ts.take j).map (H9 g)++[H9 g ts[j]]):=yb (by rw[yq b9,zb];rfl)
     have ed:Hid (j+1<=1000000):=yb (by have:=bi.o;have:=aj.o.2.1;omega)
     have dj:Hid (Bd ts[j].len):=yb (aj.o.2.2 _ (yy b9))
     have eu:Hid (((ts.take j).map (H9 g)).length=j):=yb (by simp;omega)
     generalize ew:ts[j]=D2 at cm c3 ci dj
     clear ew
     generalize dq:(((((bb&&q 2 U)&&AS q e0)&&AS q e1)&&AS q e2)&&(ts.take j).all (GH q))=bn at hJ c3
     clear dq
     have b4:=yb dk;have d4:=yb (KZ cm).2
     obtain ⟨tf,te⟩:=D2
     obtain ⟨df,cl,rfl,xl⟩:=cm
     simp only at c8 b4 d4 c3 ci dj df xl
     obtain ⟨cz,d8⟩:∃cz:LV,cz=(Am tf++cl):=⟨_,rfl⟩
     rw[<-d8] at c8 b4 d4
     have f9:=yb d8
     have ef:=yb df
     have el:Hid (wr.rangeAt bt (ot+j*8) cz):=yb (A3 (A3 c8 (HM.o.ms.bx.block bt ao.2 (fun k=>ao.1 (R.o _ k)))) (S.bx.block bt (yp ao.2 HM.o.ms.bx.size) (fun k=>ao.1 (R.o _ k))))
     have fg:Hid (bt < wr.heap.size):=yb (yp (yp ao.2 HM.o.ms.bx.size) S.bx.size)
     have f0:Hid (AW (GF (FL G (((([w.heap.size,w.heap.size+1,w.heap.size+2]++ob (.slice va M H))++[wo.heap.size])++ob (.slice ya yn yc))++[wr.heap.size])) wr) wr te cl):=yb (xl.flux ((HM.o.ms.bx.trans (S.bx.mono HM.o.ms.bx.size)).flux (ye _) R.o) (fun k d=>d.imp (fun h=>h) (fun h=>by
      rcases yo.1 h with h|h
      ·exact (c9.o k h).1
      ·have:=B.o;have:=bk.o;simp at h;omega)))
     have T:Hid (∀k,F k->k < wr.heap.size):=yb (fun k d=>by have:=a2.o k d;have:=B.o;have:=bk.o;omega)
     have f2:=yb hJ
     clear d8 c8 ao dk df xl S hE hJ bj b9
     go_upto_region 47 with (first
      |(with_reducible refine yj rfl 66 _ rfl bt (ot+j*8) (by kernel_rfl) cz _ el.o qM (by kernel_rfl) (Cl (n:=8) (by kernel_rfl) b4.o) ?_)
      |(with_reducible refine Ae rfl 66 _ _ rfl wr.heap.size (by kernel_rfl) cz (by kernel_rfl) (World.alloc_heap_new _ _) (by rw[yB,b4.o];kernel_rfl) (Cl (n:=8) (by kernel_rfl) b4.o) d4.o ?_;intro Y1 e8;have ah:=yb e8;clear e8))
     have cp:Hid (TB F wr 66 (Am tf++cl) Y1):=yb (by rw[<-f9.o];exact ED ah.o)
     have eb:Hid (J bn Y1):=yb (HC.o.stab _ _ _ f2.o (fun k d=>(Az ah.o).block k (T.o k d)) (Az ah.o).size)
     have e6:Hid (AW (GF (FL G (((([w.heap.size,w.heap.size+1,w.heap.size+2]++ob (.slice va M H))++[wo.heap.size])++ob (.slice ya yn yc))++[wr.heap.size])) Y1) Y1 te cl):=yb (f0.o.flux' (Bl.below (Az ah.o)))
     have ax:=yb (HC.o.call bn Y1 3 wr.heap.size 0 ([]:LV) tf cl 66 eb.o (by have h:=cp.o.row;simpa using h) rfl (fun h=>xA _ (T.o _ h)) ef.o (by decide) (by decide))
     go_upto_region 48 with fail
     rw[HC.o.enter,zR]
     refine ax.o.mono ?_
     rintro e Y2 ⟨rfl,Z,au⟩
     have cw:WX F Y1 Y2 wr.heap.size (Am (g 3 tf)++cl) 66:=by simpa using au
     have c7:=yb (cp.o.cb cw)
     have di:Hid (AW (GF (FL G (((([w.heap.size,w.heap.size+1,w.heap.size+2]++ob (.slice va M H))++[wo.heap.size])++ob (.slice ya yn yc))++[wr.heap.size])) Y2) Y2 te cl):=yb (e6.o.flux' (cw.flux (fun k d=>.inl (R.o k d)) (.inr (by simp))))
     have dz:=yb Z
     clear cp e6 eb ax au cw Z ah
     have dx:=yb (c7.o.part (p:=Am (g 3 tf)) (m:=cl) (q:=([]:LV)) (off:=2) (by simp) (by simp[A7]))
     have Q:=yb (B8 HC.o te (FL G (((([w.heap.size,w.heap.size+1,w.heap.size+2]++ob (.slice va M H))++[wo.heap.size])++ob (.slice ya yn yc))++[wr.heap.size])) (bn&&q 3 tf) Y2 cl dj.o dz.o di.o (fun k d=>.inl (R.o k d)) (fun k d=>by
      have h1:=c7.o.lt;have h2:=bk.o;have h3:=B.o
      rcases d with d|d
      ·have:=HG.o k d;omega
      ·rcases yo.1 d with d|d
       ·have:=(c9.o k d).2;omega
       ·simp at d;omega))
     have cx:=yb di.o.len
     go_upto_region 49 with (first
      |(with_reducible refine yj rfl 26 _ rfl wr.heap.size 2 (by kernel_rfl) cl _ dx.o qq (by kernel_rfl) (BW cx.o) ?_)
      |(go_at_call 65;refine Q.o.mono ?_;rintro e Y3 ⟨dh,rfl,a1,Z,V⟩;have bs:=yb a1;have ee:=yb Z;have d2:=yb (c7.o.call T.o V);clear a1 Z V)
      |(with_reducible refine Ct rfl 26 _ _ rfl wr.heap.size 2 (by kernel_rfl) dh (by kernel_rfl) (p:=Am (g 3 tf)) (m:=cl) (q:=([]:LV)) (t:=66) (by have h:=d2.o.row;simpa using h) (by simp[A7]) (by rw[cx.o,bs.o.len]) (BW bs.o.len) (Ai bs.o) ?_;intro Y4 ae;have ay:Hid (AE Y3 Y4 wr.heap.size (Am (g 3 tf)++dh) 66):=yb (by simpa using ae);clear ae))
     have ar:=yb (d2.o.wrote ay.o)
     have f5:=yb (HC.o.stab _ _ _ ee.o (fun k d=>ay.o.block k (by have:=T.o k d;omega)) (by rw[ay.o.size];exact ye _))
     obtain ⟨rz,da⟩:∃r:LV,r=(Am (g 3 tf)++dh):=⟨_,rfl⟩
     rw[<-da] at ar
     have an:Hid (Dj (GF (FL G ((([w.heap.size,w.heap.size+1,w.heap.size+2]++ob (.slice va M H))++[wo.heap.size])++ob (.slice ya yn yc))) Y4) Y4 rz (H9 g ⟨tf,te⟩)):=yb (by
      rw[da]
      exact ⟨HC.o.name _ _ ef.o,_,rfl,bs.o.fl (ay.o.flux (.inr (by simp))) (fun k d=>.inl (yo.2 (.inl d)))⟩)
     clear da c7 d2 di dz ee ay bs dx cx Q
     have ak:=yb (KZ an.o).1;have d0:=yb (KZ an.o).2
     have bv:Hid (Bl (FL G ((([w.heap.size,w.heap.size+1,w.heap.size+2]++ob (.slice va M H))++[wo.heap.size])++ob (.slice ya yn yc))) wr Y4):=yb (ar.o.bx.flux (ye _) (fun k d=>.inl (R.o k d)))
     have b3:=b7.o.up (l':=(([w.heap.size,w.heap.size+1,w.heap.size+2]++ob (.slice va M H))++[wo.heap.size])) Hv bv.o (fun k d=>ar.o.bx.block k (b7.o.lt k d).2 (fun h=>by have:=a2.o k h;have:=(b7.o.lt k d).1;have:=B.o;omega)) (fun _ h=>.inl h)
     obtain ⟨rows,al,az,ac⟩:=b3.own
     have dc:=yb al;have d7:=yb az;have bd:=yb ac
     have am:Hid (wo.heap.size+1<=Y4.heap.size):=yb (by have:=bk.o;have:=ar.o.bx.size;omega)
     have bo:Hid ((Y4.alloc (.cells rz.toArray 66)).ownsRow (wo.heap.size+1) 66 8 (.slice ya yn yc) rows.length rows.flatten):=yb (Bv al fun k d=>((yg _ _).alloc (ye _) _).block k (EJ al k d).2)
     have be:Hid (rows.length+1<=1000000):=yb (by rw[Au.length ac,eu.o];exact ed.o)
     have cy:Hid (wo.heap.size+1<=(Y4.alloc (.cells rz.toArray 66)).heap.size):=yb (by have:=am.o;simp;omega)
     clear al az ac b3
     go_upto_region 50 with (first
      |(with_reducible refine yj rfl 66 _ rfl wr.heap.size 0 (by kernel_rfl) rz _ (Ax ar.o.row) qM (by kernel_rfl) (Cl (n:=8) (by kernel_rfl) ak.o) ?_)
      |(with_reducible refine BO rfl 62 66 _ rfl rz (by kernel_rfl) 8 qK (by kernel_rfl) ak.o (by omega) (by omega) ?_)
      |(at_builtin;refine Bg qK rfl _ _ rfl 8 (by kernel_rfl) (by omega) (wo.heap.size+1) (.slice ya yn yc) rows.length rows.flatten (by kernel_rfl) bo.o Y4.heap.size 1 rz (by kernel_rfl) (World.alloc_heap_new _ _) ak.o d0.o be.o cy.o ?_;intro vx y8 ab av b8;obtain ⟨xa,xn,xc,rfl⟩:=CX ab;have a0:=yb (Cy Hv bd.o d7.o dc.o an.o ak.o ab av b8 am.o);clear ab av b8))
     go_wp2
     have e5:Hid (BX F (wo.heap.size+1) wr y8):=yb ((ar.o.bx.mono bk.o).trans (.of a0.o.below))
     have cj:Hid (I2 (j+1) (.slice xa xn xc) y8):=yb (by
      rw[e4.o]
      refine ⟨⟨bm.o.bx.trans (e5.o.mono (by omega)),(e5.o.block _ (by omega) (fun h=>by have:=a2.o _ h;have:=B.o;omega)).trans bm.o.row⟩,(ec.o.up bv.o (fun _ h=>.inl h)).up a0.o.flux a0.o.obs,?_,?_⟩
      ·rw[c3.o,show (bn&&GH q ⟨tf,te⟩)=((bn&&q 3 tf)&&AS q te) by simp[GH,zc]]
       exact HC.o.stab _ _ _ f5.o (fun k d=>a0.o.below.block k (by have:=a2.o k d;have:=B.o;omega)) a0.o.flux.1
      ·rw[ci.o];exact a0.o.grow)
     exact ⟨⟨j+1,by push_cast;rfl,by omega,cj⟩,by simp[intOf];omega⟩
    ·obtain rfl:j=tn:=by omega
     have en:decide ((j:Int) < (j:Int))=false:=by simp
     have s:Hid (J (((((bb&&q 2 U)&&AS q e0)&&AS q e1)&&AS q e2)&&ts.all (GH q)) wr):=yb (by have h:=hJ;simp only[bi.o,yw] at h;exact h)
     have bg:Dw Dj 66 8 (wo.heap.size+1) G (([w.heap.size,w.heap.size+1,w.heap.size+2]++ob (.slice va M H))++[wo.heap.size]) wr (.slice ya yn yc) (ts.map (H9 g)):=by have h:=b7.o;simp only[bi.o,yw] at h;exact h
     obtain ⟨ck,cg,cd⟩:=bg.done Hv (fun k d=>by have:=HG.o k d;have:=B.o;omega) (fun k d=>by have:=(ap.o k d).2;omega) (by have:=aj.o.2.1;simp;omega)
     have du:Hid (VE G (([w.heap.size,w.heap.size+1,w.heap.size+2]++ob (.slice va M H))++[wo.heap.size]) wr [z,C,E] [AV g e0,AV g e1,AV g e2]):=yb (hE.up (Bl.refl _ _) (fun k d=>.inl (yo.2 (.inl d))))
     have cf:=yb cd;have cc:=yb cg
     have fe:Hid (∀k∈(([w.heap.size,w.heap.size+1,w.heap.size+2]++ob (.slice va M H))++[wo.heap.size]),w.heap.size<=k∧k < wr.heap.size):=yb (fun k d=>c9.o k (yo.2 (.inl d)))
     clear S hE hJ bj bg cg cd b7 ec c9
     go_wp2
     refine ek.o _ _ ?_
     go_upto_region 52 with (first
      |(with_reducible refine Ag rfl 62 _ _ rfl wo.heap.size 22 (by kernel_rfl) (.slice ya yn yc) (by kernel_rfl) (by kernel_rfl) (p:=(.string nm::(Am (g 2 U)++(iV rk::(z++(C++(E++([]:LV)))))))) (m:=.slice ta j tc) (q:=([]:LV)) (t:=64) (by have h:=bm.o.row;simpa using h) (by simp[A7,ad.o,af.o,ag.o]) (by kernel_rfl) (by kernel_rfl) ?_;intro S9 b5;have a6:Hid (AE wr S9 wo.heap.size (.string nm::(Am (g 2 U)++(iV rk::(z++(C++(E++[.slice ya yn yc])))))) 64):=yb (by simpa using b5);clear b5))
     have A:=yb (bm.o.wrote a6.o)
     have f:=yb (du.o.wrt a6.o (by simp))
     have ea:=yb (HC.o.stab _ _ _ s.o (fun k d=>a6.o.block k (by have:=a2.o k d;have:=B.o;omega)) (by rw[a6.o.size];exact ye _))
     have et:Hid (AF (GF (FL G ([w.heap.size,w.heap.size+1,w.heap.size+2]++ob (.slice va M H))) S9) S9 8 (Dj (GF (FL G ([w.heap.size,w.heap.size+1,w.heap.size+2]++ob (.slice va M H))) S9) S9) ⟨ya,yn,yc⟩ (ts.map (H9 g))):=yb (by
      have h:AF (GF (FL G (([w.heap.size,w.heap.size+1,w.heap.size+2]++ob (.slice va M H))++[wo.heap.size])) wr) wr 8 (Dj (GF (FL G (([w.heap.size,w.heap.size+1,w.heap.size+2]++ob (.slice va M H))++[wo.heap.size])) wr) wr) ck (ts.map (H9 g)):=cf.o
      have e:ck=⟨ya,yn,yc⟩:=by
       have h2:=cc.o
       obtain ⟨p1,p2,p3⟩:=ck
       simp only[Ah.v,zX] at h2
       obtain ⟨rfl,rfl,rfl⟩:=h2
       rfl
      rw[e] at h
      exact h.flux Hv (a6.o.flux (.inr (by simp))) (fun k d=>.inl (d.imp (fun h=>h) (fun h=>yo.2 (.inl h)))))
     clear bm du s cf cc a6
     have s:=yb ea.o
     clear ea
     obtain ⟨aq,dg⟩:∃r:LV,r=(.string nm::(Am (g 2 U)++(iV rk::(z++(C++(E++[.slice ya yn yc])))))):=⟨_,rfl⟩
     rw[<-dg] at A
     have an:Hid (Lo (GF (FL G ([w.heap.size,w.heap.size+1,w.heap.size+2]++ob (.slice va M H))) S9) S9 aq (I5 g ⟨nm,U,rk,e0,e1,e2,ts⟩)):=yb (by
      rw[dg]
      obtain ⟨x0,x1,x2,_⟩:=f.o.up (l':=[w.heap.size,w.heap.size+1,w.heap.size+2]++ob (.slice va M H)) (Bl.refl _ _) (fun k d=>.inl (yo.2 (.inl d)))
      exact ⟨_,eq.o,HC.o.name _ _ e7.o,_,_,_,rfl,x0,x1,x2,et.o⟩)
     clear dg f
     have ak:=yb (MQ an.o).1;have d0:=yb (MQ an.o).2
     have d1:Hid (MS F w cs (P++(.slice va M H:: qY)) S9):=yb (HM.o.ms.up a2.o B.o A.o.bx)
     have fh:S9.cell? (aV (w.heap.size+2) 23)=some (.slice va M H):=d1.o.cellx rfl eg.o
     have bv:Hid (Bl (FL G ([w.heap.size,w.heap.size+1,w.heap.size+2]++ob (.slice va M H))) wo S9):=yb (A.o.bx.flux (ye _) (fun k d=>.inl (R.o k d)))
     have b3:=HM.o.grow.up (l':=[w.heap.size,w.heap.size+1,w.heap.size+2]) G7 bv.o (fun k d=>A.o.bx.block k (HM.o.grow.lt k d).2 (fun h=>by have:=a2.o k h;have:=(HM.o.grow.lt k d).1;omega)) (fun _ h=>.inl h)
     obtain ⟨rows,al,az,ac⟩:=b3.own
     have dc:=yb al;have d7:=yb az;have bd:=yb ac
     have am:Hid (w.heap.size+3<=S9.heap.size):=yb d1.o.lt
     have bo:Hid ((S9.alloc (.cells aq.toArray 64)).ownsRow (w.heap.size+3) 64 23 (.slice va M H) rows.length rows.flatten):=yb (Bv al fun k d=>((yg _ _).alloc (ye _) _).block k (EJ al k d).2)
     have be:Hid (rows.length+1<=1000000):=yb (by rw[Au.length ac,f3.o];exact f1.o)
     have cy:Hid (w.heap.size+3<=(S9.alloc (.cells aq.toArray 64)).heap.size):=yb (by have:=am.o;simp;omega)
     clear al az ac b3
     go_upto_region 53 with (first
      |(with_reducible refine yj rfl 64 _ rfl wo.heap.size 0 (by kernel_rfl) aq _ (Ax A.o.row) qL (by kernel_rfl) (Cl (n:=23) (by kernel_rfl) ak.o) ?_)
      |(with_reducible refine BO rfl 31 64 _ rfl aq (by kernel_rfl) 23 qy (by kernel_rfl) ak.o (by omega) (by omega) ?_)
      |(at_builtin;refine Bg qy rfl _ _ rfl 23 (by kernel_rfl) (by omega) (w.heap.size+3) (.slice va M H) rows.length rows.flatten (by kernel_rfl) bo.o S9.heap.size 1 aq (by kernel_rfl) (World.alloc_heap_new _ _) ak.o d0.o be.o cy.o ?_;intro vx x8 ab av b8;obtain ⟨xa,xn,xc,rfl⟩:=CX ab;have a0:=yb (Cy G7 bd.o d7.o dc.o an.o ak.o ab av b8 am.o);have ce:=yb (d1.o.up a2.o (ye _) (.of a0.o.below));clear ab av b8)
      |(with_reducible refine Ag rfl 31 _ _ rfl (w.heap.size+2) 23 (by kernel_rfl) (.slice xa xn xc) (by kernel_rfl) (by kernel_rfl) (p:=P) (m:=.slice va M H) (q:= qY) (t:=35) ce.o.x eg.o (by kernel_rfl) (by kernel_rfl) ?_;intro x9 b5;have a6:=yb b5;clear b5))
     go_wp2
     have cj:Hid (I (i+1) x9):=yb (by
      rw[HI.o]
      refine ⟨.slice xa xn xc,ce.o.wrote a6.o,?_,?_,?_⟩
      ·rw[show (b&&(x.rots.take (i+1)).all (I6 q))=(((((bb&&q 2 U)&&AS q e0)&&AS q e1)&&AS q e2)&&ts.all (GH q)) by rw[bz.o];simp[I6,zc]]
       exact HC.o.stab _ _ _ s.o (fun k d=>(a6.o.block k (by have:=a2.o k d;omega)).trans (a0.o.below.block k (by have:=a2.o k d;omega))) (by rw[a6.o.size];exact a0.o.flux.1)
      ·exact ((HM.o.got.flux bv.o (fun _ h=>.inl h)).flux a0.o.flux (IG a0.o.obs)).flux (a6.o.flux (.inr (by simp))) (fun _ h=>.inl h)
      ·have h:=a0.o.grow.up (l':=[w.heap.size,w.heap.size+1,w.heap.size+2]) G7 (a6.o.flux (.inr (by simp))) (fun k d=>a6.o.block k (by have:=(a0.o.grow.lt k d).1;omega)) (fun _ h=>.inl h)
       rw[<-cn.o] at h
       exact h)
     exact ⟨⟨i+1,by push_cast;rfl,by omega,cj⟩,by simp[intOf];omega⟩
  ·obtain rfl:i=n:=by omega
   have ep:decide ((i:Int) < (i:Int))=false:=by simp
   have HQ:Hid (J (b&&x.rots.all (I6 q)) wr):=yb (by have h:=HM.o.j;simp only[bp.o,yw] at h;exact h)
   have bg:Dw Lo 64 23 (w.heap.size+3) G [w.heap.size,w.heap.size+1,w.heap.size+2] wr (.slice va M H) (x.rots.map (I5 g)):=by have h:=HM.o.grow;simp only[bp.o,yw] at h;exact h
   obtain ⟨hd,ej,dw⟩:=bg.done G7 (fun k d=>by have:=HG.o k d;omega) (fun k d=>by simp at d;omega) (by have:=d6.o;simp;omega)
   have fa:Hid (Di 5 (GF (FL G [w.heap.size,w.heap.size+1,w.heap.size+2]) wr) wr c0 c1 c2 h0 h1 h2 h3 hd ⟨none,0,0⟩ ⟨none,0,0⟩ (⟨y.name,y.season,y.cap,y.start,y.lets,y.crops,y.reaches,y.farms,(x.rots.map (I5 g)),y.rights,y.duties⟩:Aq)):=yb (by
    have h:=HM.o.got.flux (F':=FL G [w.heap.size,w.heap.size+1,w.heap.size+2]) (Bl.refl _ _) (fun k d=>.inl (d.imp (fun h=>h) (fun h=>yo.2 (.inl h))))
    exact ⟨h.name,h.e0,h.e1,h.e2,fun d=>h.lets (by omega),fun d=>h.crops (by omega),fun d=>h.reaches (by omega),fun d=>h.farms (by omega),fun _=>dw,fun d=>absurd d (by omega),fun d=>absurd d (by omega)⟩)
   rw[ej] at HM
   have f6:=yb HM.o.ms
   clear bg ej dw HM
   go_wp2
   refine hK.o _ _ ?_
   refine FF (P:=fun l=>Code.wp Try.prog _ _ ⟨l,[]⟩ wr) rfl ?_
   refine U3 (y:=(⟨y.name,y.season,y.cap,y.start,y.lets,y.crops,y.reaches,y.farms,(x.rots.map (I5 g)),y.rights,y.duties⟩:Aq)) HC.o HV.o dl.o R.o HG.o ?_ (by have h:=f6.o;rw[eo.o] at h;simpa[yl] using h) fa.o HQ.o
   exact ⟨rfl,rfl,rfl,rfl⟩
end Go.Proofs.Ytghepahgkcigpaa
