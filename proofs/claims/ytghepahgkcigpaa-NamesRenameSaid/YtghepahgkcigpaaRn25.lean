/- The law's mapped: its loop over rots (printed by gen_df.py). -/
import Derived.Test.YtghepahgkcigpaaRn0
import Derived.Test.YtghepahgkcigpaaRn14
import Derived.Deep.CutBlock
set_option maxHeartbeats 64000000
set_option maxRecDepth 100000
set_option linter.unusedSimpArgs false
namespace Go.Proofs.Ytghepahgkcigpaa
open Go.RowKit
set_option linter.unusedSimpArgs false
theorem Xk{bl:List Nat}{Bs:Nat}{id:Nat}{caps:Array Value}{F G:NP}{J:Bool->World->Prop}{g:Int->Rf->Rf}{q:Int->Rf->Bool}{b:Bool}{w W:World}{cs:LV}{u:Nat->Value}{x y:Am}{L:Bw}{c0 c1 c2:LV}{h0 h1 h2 h3:Ai}(ap:Jj bl Bs w W)(hc:KK id caps F g q J)(hv:Bb (GF G w) w L cs x)(df:Rz x)(d9:∀k,F k->G k)(hG:∀k,G k->k < w.heap.size)(hu:UF id caps w u)
 (hS:MS F w cs (.string y.name::(c0++(c1++(c2++[h0.v,h1.v,h2.v,h3.v,.slice none 0 0,.slice none 0 0,.slice none 0 0])))) W)(hY:Bp 4 (w.heap.size+3) bl (GF (FL G bl) W) W c0 c1 c2 h0 h1 h2 h3 ⟨none,0,0⟩ ⟨none,0,0⟩ ⟨none,0,0⟩ y)(hJ:J b W):
  Code.wp Try.prog (CJ 8 (Try.f17.body.getD .skip)) (bodyPost Try.prog Try.f17 (US F G J (((b&&x.rots.all (Ji q))&&x.rights.all (E5 q))&&x.duties.all (Fo q)) (⟨y.name,y.season,y.cap,y.start,y.lets,y.crops,y.reaches,y.farms,(x.rots.map (Fm g)),(x.rights.map (Ck g)),(x.duties.map (Dz g))⟩:Am) w)) {tmps:=Kl u,defers:=[]} W:=by
 have dy:∀k,F k->k < w.heap.size:=fun k hk=>hG k (d9 k hk)
 obtain ⟨⟨a,n,c⟩,hL⟩:∃h:Ai,L.rots=h:=⟨_,rfl⟩
 obtain ⟨s0,s1,s2,eu,g0,g1,g2⟩:=hv.cells
 have d6:W.cell? (aV w.heap.size 23)=some (.slice a n c):=by
  refine hS.cell (p:=.string x.name::(s0++(s1++(s2++[L.lets.v,L.crops.v,L.reaches.v,L.farms.v])))) (q:=[L.rights.v,L.duties.v]) ?_ (by simp[g0.len,g1.len,g2.len])
  rw[eu,hL]
  simp[yp,Ai.v]
 have dh:Av (GF G w) w 23 (LW (GF G w) w) ⟨a,n,c⟩ x.rots:=hL▸SD hv
 have f7:=yb dh.2.2
 have bw:Hid (n=x.rots.length):=yb dh.1
 have dr:Hid (x.rots.length<=100000):=yb df.slim.rots
 have HN:Hid (n<=140737488355328):=yb (by have:=bw.o;have:=dr.o;omega)
 obtain ⟨P,hP⟩:∃P:LV,P=.string y.name::(c0++(c1++(c2++[h0.v,h1.v,h2.v,h3.v]))):=⟨_,rfl⟩
 have en:Hid (P.length=23):=yb (by rw[hP];simp[hY.e0.len,hY.e1.len,hY.e2.len])
 have ea:MS F w cs (P++(.slice none 0 0:: jc)) W:=by rw[hP];simpa[yp] using hS
 obtain ⟨I,hI⟩:∃I:Nat->World->Prop,I=fun i W=>∃v,RC bl Bs LW 64 23 F G J b w cs P jc (fun N W=>Bp 4 (w.heap.size+3) bl N W c0 c1 c2 h0 h1 h2 h3 ⟨none,0,0⟩ ⟨none,0,0⟩ ⟨none,0,0⟩ y) (fun i=>(x.rots.take i).all (Ji q)) (fun i=>(x.rots.take i).map (Fm g)) i v W:=⟨_,rfl⟩
 have e5:Hid (I 0 W):=yb (by
  rw[hI]
  exact ⟨_,ea,by simpa using hJ,by simpa[ob,Value.ownBlock] using hY,by simpa using EA,ap.le⟩)
 have aa:=yb ap.lo;have b4:=yb ap.mem;have fb:=yb ap.b0;have f2:=yb ap.b1;have av:=yb ap.b2
 have HI:=yb hI;have HV:=yb hv;have HC:=yb hc;have ej:=yb df;have M:=yb d9;have HG:=yb hG;have a1:=yb dy;have f9:=yb hP;have HU:=yb hu;have g3:=yb hY.name
 rw[Gt,hu.u1,hu.u2,hu.u4,hu.u5]
 clear ap hv df hc d9 hG dy hS hY hJ hP hL eu g0 g1 g2 dh ea hI hu
 refine Af fun K hK=>?_
 go_wp2
 go_loopw [178] (fun iv wr=>∃i:Nat,iv=iV i∧i<=n∧Hid (I i wr)) (fun iv _=>n - (intOf iv).toNat)
 case atStart=>exact ⟨0,rfl,yC _,e5⟩
 case round=>
  clear e5 d6
  obtain ⟨i,rfl,hi,cg⟩:=hrel
  obtain ⟨v,hM⟩:∃v,RC bl Bs LW 64 23 F G J b w cs P jc (fun N W=>Bp 4 (w.heap.size+3) bl N W c0 c1 c2 h0 h1 h2 h3 ⟨none,0,0⟩ ⟨none,0,0⟩ ⟨none,0,0⟩ y) (fun i=>(x.rots.take i).all (Ji q)) (fun i=>(x.rots.take i).map (Fm g)) i v wr:=by have h:=cg.o;rw[HI.o] at h;exact h
  obtain ⟨va,H,vc,rfl⟩:=hM.grow.slice
  have HM:=yb hM
  clear cg hM
  have fv:n<=140737488355328:=HN.o
  by_cases ez:i < n
  ·have cj:i < x.rots.length:=by rw[<-bw.o];exact ez
   have fh:(i:Int) < (n:Int):=by omega
   obtain ⟨bq,oq,ct,he,ch,ce,bo,du⟩:=f7.o i cj
   obtain rfl:a=some (aV bq oq):=he
   have cd:Hid ((b&&(x.rots.take (i+1)).all (Ji q))=((b&&(x.rots.take i).all (Ji q))&&Ji q x.rots[i])):=yb (by
    rw[yt cj,zj,zf,zA,yX,<-zc])
   have d8:Hid ((x.rots.take (i+1)).map (Fm g)=(x.rots.take i).map (Fm g)++[Fm g x.rots[i]]):=yb (by rw[yt cj,zb];rfl)
   have f1:Hid (i+1<=1000000):=yb (by have:=bw.o;have:=dr.o;omega)
   have an:=yb (ej.o.rots _ (yz cj))
   have fm:Hid (((x.rots.take i).map (Fm g)).length=i):=yb (by simp;omega)
   generalize hD:x.rots[i]=D at du cd d8 an
   clear hD
   generalize em:(b&&(x.rots.take i).all (Ji q))=bb at cd
   have HJ:Hid (J bb wr):=yb (by rw[<-em];exact HM.o.j)
   clear em
   have ci:=yb (L3 du).2
   have al:=yb ce
   obtain ⟨nm,V,rk,e0,e1,e2,ts⟩:=D
   obtain ⟨⟨ta,tn,tc⟩,dc,dg,c0,c1,c2,rfl,x0,x1,x2,di⟩:=du
   simp only[Ai.v] at bo al ci
   simp only at bo al ci cd d8 an dc dg x0 x1 x2
   obtain ⟨ct,be⟩:∃ct:LV,ct=(.string nm::(An V++(iV rk::(c0++(c1++(c2++[.slice ta tn tc])))))):=⟨_,rfl⟩
   rw[<-be] at bo al ci
   have fq:=yb be
   have fo:=yb di.2.2;have bz:Hid (tn=ts.length):=yb di.1
   clear di
   have fj:=yb dc
   have el:=yb dg
   have ec:Hid (wr.rangeAt bq (oq+i*23) ct):=yb (A2 bo (HM.o.ms.bx.block bq ch.2 (fun k=>ch.1 (M.o _ k))))
   have fz:Hid (bq < wr.heap.size):=yb (yr ch.2 HM.o.ms.bx.size)
   have eh:Hid (Az (fun c e=>AS (GF G w) w e c) [c0,c1,c2] [e0,e1,e2]):=yb ⟨x0,x1,x2,trivial⟩
   have ay:Hid (∀k∈((bl++ob (.slice va H vc))++[wr.heap.size]),w.heap.size<=k∧k<=wr.heap.size):=yb (by
    have h1:=HM.o.ms.lt
    intro k hk
    rcases yi.1 hk with hk|hk
    ·rcases yi.1 hk with hk|hk
     ·have:=b4.o k hk;have:=HM.o.bs;omega
     ·have:=HM.o.grow.lt k hk;have:=aa.o;omega
    ·simp at hk;omega)
   have B:=yb HM.o.ms.lt;have e8:=yb HM.o.bs
   have ff:Hid (¬ F wr.heap.size):=yb (fun h=>by have:=a1.o _ h;have:=B.o;omega)
   clear be bo ch ce dc dg x0 x1 x2
   go_upto_block 11 with fail
   refine wp_block ?_
   refine Af fun K1 c9=>?_
   go_wp2_with (first
    |(with_reducible refine ym rfl 64 _ rfl bq (oq+i*23) (by kernel_rfl) ct _ ec.o qX (by kernel_rfl) (AU (n:=23) (by kernel_rfl) al.o) ?_)
    |(with_reducible refine Ae rfl 64 _ _ rfl wr.heap.size (by kernel_rfl) ct (by kernel_rfl) (World.alloc_heap_new _ _) (by rw[yD,al.o];kernel_rfl) (AU (n:=23) (by kernel_rfl) al.o) ci.o ?_;intro X1 ef;have aj:=yb ef;clear ef))
   refine c9.o _ _ ?_
   clear c9
   have A:Hid (TB F wr 64 (.string nm::(An V++(iV rk::(c0++(c1++(c2++[.slice ta tn tc])))))) X1):=yb (by rw[<-fq.o];exact Fp aj.o)
   have s:Hid (J bb X1):=yb (HC.o.stab _ _ _ HJ.o (fun k hk=>(AA aj.o).block k (by have:=a1.o k hk;have:=B.o;omega)) (AA aj.o).size)
   have f:Hid (VE G ((bl++ob (.slice va H vc))++[wr.heap.size]) X1 [c0,c1,c2] [e0,e1,e2]):=yb (Az.mono (fun _ _ h=>h.flux ((HM.o.ms.bx.trans (A.o.bx.mono HM.o.ms.bx.size)).flux (yf _) M.o) (fun k hk=>hk.imp (fun h=>h) (fun h=>(ay.o k h).1))) eh.o)
   clear aj ec eh
   have b3:=yb (HC.o.call (bb) X1 2 wr.heap.size 1 (.string nm::([]:LV)) V (iV rk::(c0++(c1++(c2++[.slice ta tn tc])))) 64 s.o (by have h:=A.o.row;simpa[yp] using h) (by simp) ff.o el.o (by decide) (by decide))
   refine Af fun K1 c9=>?_
   go_wp2
   rw[HC.o.enter,zW]
   refine b3.o.mono ?_
   rintro e X2 ⟨rfl,hj,hx⟩
   have au:WX F X1 X2 wr.heap.size (.string nm::(An (g 2 V)++(iV rk::(c0++(c1++(c2++[.slice ta tn tc])))))) 64:=by simpa[yp] using hx
   have Q:=A.o.cb au;have hE:=f.o.cb au M.o (by simp)
   clear A s f b3 hx
   have A:=yb Q;have f:=yb hE;have s:=yb hj
   clear Q hE hj au
   go_wp2
   refine c9.o _ _ ?_
   clear c9
   refine Af fun K3 fp=>?_
   obtain ⟨RW,d3⟩:∃r:LV,r=(.string nm::(An (g 2 V)++(iV rk::(c0++(c1++(c2++[.slice ta tn tc])))))):=⟨_,rfl⟩
   have b5:=yb d3
   rw[<-d3] at A
   clear d3
   obtain ⟨w0,w1,w2,_⟩:=f.o
   have a7:=yb w0.len
   have ac:=yb w1.len
   have a8:=yb w2.len
   clear w0 w1 w2
   have Q:=A.o.drew;have hE:=f.o.drew;have hj:=HC.o.stab _ _ X2.drew s.o (fun _ _=>rfl) (yf _)
   clear A f s
   have A:=yb Q;have f:=yb hE;have s:=yb hj
   clear Q hE hj
   have R:Hid (∀k,F k->k < wr.heap.size):=yb (fun k hk=>by have:=a1.o k hk;have:=B.o;omega)
   refine wp_region_noPanic ?_
   refine BZ (by kernel_rfl) (fun W=>W.heap[wr.heap.size]?=some (.cells RW.toArray 64 (0,0))) 13 ?_
   refine A1 (i:=0) (v:=pV wr.heap.size 4) rfl (by kernel_rfl) (by kernel_rfl) (by kernel_rfl) (fun _ _ _ h=>h) (by kernel_rfl) (Or.inl ⟨by rfl,?_⟩) (fun _=>A.o.row) ?_
   ·intro w _;go_simp
   refine Aj (i:=1) (v:=.agg (c0).toArray) rfl (by kernel_rfl) (by kernel_rfl) (by kernel_rfl) (fun _ _ _ h=>h) (by kernel_rfl) (yS (by rfl) 26 _ rfl (wr.heap.size) 4 (by kernel_rfl) (c0) _ (fun W hW=>BT hW (p:=(.string nm::(An (g 2 V)++(iV rk::([]:LV))))) (q:=(c1++(c2++[.slice ta tn tc]))) (by rw[b5.o];simp) (by simp[A8,a7.o,ac.o,a8.o])) qD rfl (Ci a7.o)) A.o.row ?_
   refine A1 (i:=2) (v:=.func (.func id) #[] caps) rfl (by kernel_rfl) (by kernel_rfl) (by kernel_rfl) (fun _ _ _ h=>h) (by kernel_rfl) (Or.inl ⟨by rfl,?_⟩) (fun _=>A.o.row) ?_
   ·intro w _;go_simp
   refine A1 (i:=4) (v:=pV wr.heap.size 10) rfl (by kernel_rfl) (by kernel_rfl) (by kernel_rfl) (fun _ _ _ h=>h) (by kernel_rfl) (Or.inl ⟨by rfl,?_⟩) (fun _=>A.o.row) ?_
   ·intro w _;go_simp
   refine Aj (i:=5) (v:=.agg (c1).toArray) rfl (by kernel_rfl) (by kernel_rfl) (by kernel_rfl) (fun _ _ _ h=>h) (by kernel_rfl) (yS (by rfl) 26 _ rfl (wr.heap.size) 10 (by kernel_rfl) (c1) _ (fun W hW=>BT hW (p:=(.string nm::(An (g 2 V)++(iV rk::(c0++([]:LV)))))) (q:=(c2++[.slice ta tn tc])) (by rw[b5.o];simp) (by simp[A8,a7.o,ac.o,a8.o])) qD rfl (Ci ac.o)) A.o.row ?_
   refine A1 (i:=6) (v:=.func (.func id) #[] caps) rfl (by kernel_rfl) (by kernel_rfl) (by kernel_rfl) (fun _ _ _ h=>h) (by kernel_rfl) (Or.inl ⟨by rfl,?_⟩) (fun _=>A.o.row) ?_
   ·intro w _;go_simp
   refine A1 (i:=8) (v:=pV wr.heap.size 16) rfl (by kernel_rfl) (by kernel_rfl) (by kernel_rfl) (fun _ _ _ h=>h) (by kernel_rfl) (Or.inl ⟨by rfl,?_⟩) (fun _=>A.o.row) ?_
   ·intro w _;go_simp
   refine Aj (i:=9) (v:=.agg (c2).toArray) rfl (by kernel_rfl) (by kernel_rfl) (by kernel_rfl) (fun _ _ _ h=>h) (by kernel_rfl) (yS (by rfl) 26 _ rfl (wr.heap.size) 16 (by kernel_rfl) (c2) _ (fun W hW=>BT hW (p:=(.string nm::(An (g 2 V)++(iV rk::(c0++(c1++([]:LV))))))) (q:=[.slice ta tn tc]) (by rw[b5.o];simp) (by simp[A8,a7.o,ac.o,a8.o])) qD rfl (Ci a8.o)) A.o.row ?_
   refine A1 (i:=10) (v:=.func (.func id) #[] caps) rfl (by kernel_rfl) (by kernel_rfl) (by kernel_rfl) (fun _ _ _ h=>h) (by kernel_rfl) (Or.inl ⟨by rfl,?_⟩) (fun _=>A.o.row) ?_
   ·intro w _;go_simp
   refine A0 (i:=3) (by kernel_rfl) rfl (fun K hK=>?_)
   go_simp
   have S:=yb (Bn HC.o e0 (FL G ((bl++ob (.slice va H vc))++[wr.heap.size])) ((bb&&q 2 V)) X2.drew c0 an.o.1.1 s.o (by obtain ⟨w0,w1,w2,_⟩:=f.o;exact w0) (fun k hk=>.inl (M.o k hk)) (fun k hk=>by
    have h1:=A.o.lt;have h2:=B.o
    rcases hk with hk|hk
    ·have:=HG.o k hk;omega
    ·have:=(ay.o k hk).2;omega))
   refine S.o.mono ?_
   rintro e Z0 ⟨z,rfl,a2,a6,a0⟩
   have Q:=A.o.call R.o a0
   have hE:VE G ((bl++ob (.slice va H vc))++[wr.heap.size]) Z0 [z,c1,c2] [AQ g e0,e1,e2]:=by
    obtain ⟨w0,w1,w2,_⟩:=f.o.bcall a0 M.o
    exact ⟨a2,w1,w2,trivial⟩
   have ai:=yb a2.len
   refine hK.o _ _ (fun _=>Q.row) ?_
   clear hK K A f s S a2 a0
   have A:=yb Q;have f:=yb hE;have s:=yb a6
   clear Q hE a6
   refine A0 (i:=7) (by kernel_rfl) rfl (fun K hK=>?_)
   go_simp
   have S:=yb (Bn HC.o e1 (FL G ((bl++ob (.slice va H vc))++[wr.heap.size])) (((bb&&q 2 V)&&Bh q e0)) Z0 c1 an.o.1.2.1 s.o (by obtain ⟨w0,w1,w2,_⟩:=f.o;exact w1) (fun k hk=>.inl (M.o k hk)) (fun k hk=>by
    have h1:=A.o.lt;have h2:=B.o
    rcases hk with hk|hk
    ·have:=HG.o k hk;omega
    ·have:=(ay.o k hk).2;omega))
   refine S.o.mono ?_
   rintro e Z1 ⟨C,rfl,a2,a6,a0⟩
   have Q:=A.o.call R.o a0
   have hE:VE G ((bl++ob (.slice va H vc))++[wr.heap.size]) Z1 [z,C,c2] [AQ g e0,AQ g e1,e2]:=by
    obtain ⟨w0,w1,w2,_⟩:=f.o.bcall a0 M.o
    exact ⟨w0,a2,w2,trivial⟩
   have ad:=yb a2.len
   refine hK.o _ _ (fun _=>Q.row) ?_
   clear hK K A f s S a2 a0
   have A:=yb Q;have f:=yb hE;have s:=yb a6
   clear Q hE a6
   refine A0 (i:=11) (by kernel_rfl) rfl (fun K hK=>?_)
   go_simp
   have S:=yb (Bn HC.o e2 (FL G ((bl++ob (.slice va H vc))++[wr.heap.size])) ((((bb&&q 2 V)&&Bh q e0)&&Bh q e1)) Z1 c2 an.o.1.2.2 s.o (by obtain ⟨w0,w1,w2,_⟩:=f.o;exact w2) (fun k hk=>.inl (M.o k hk)) (fun k hk=>by
    have h1:=A.o.lt;have h2:=B.o
    rcases hk with hk|hk
    ·have:=HG.o k hk;omega
    ·have:=(ay.o k hk).2;omega))
   refine S.o.mono ?_
   rintro e Z2 ⟨E,rfl,a2,a6,a0⟩
   have Q:=A.o.call R.o a0
   have hE:VE G ((bl++ob (.slice va H vc))++[wr.heap.size]) Z2 [z,C,E] [AQ g e0,AQ g e1,AQ g e2]:=by
    obtain ⟨w0,w1,w2,_⟩:=f.o.bcall a0 M.o
    exact ⟨w0,w1,a2,trivial⟩
   have ae:=yb a2.len
   refine hK.o _ _ (fun _=>Q.row) ?_
   clear hK K A f s S a2 a0
   have A:=yb Q;have f:=yb hE;have s:=yb a6
   clear Q hE a6
   rw[b5.o] at A
   refine A0 (i:=12) (by kernel_rfl) rfl (fun K hK=>?_)
   go_simp
   refine hK.o _ _ (fun _=>by rw[b5.o];exact A.o.row) ?_
   clear hK K
   refine A0 (i:=13) (by kernel_rfl) rfl (fun K hK=>?_)
   rw[yw (by rfl)]
   refine A9 26 _ _ rfl wr.heap.size 4 (by kernel_rfl) z (by kernel_rfl) (p:=(.string nm::(An (g 2 V)++(iV rk::([]:LV))))) (m:=c0) (q:=(c1++(c2++[.slice ta tn tc]))) (t:=64) (by have h:=A.o.row;simpa using h) (by simp[A8,a7.o,ac.o,a8.o,ai.o,ad.o,ae.o]) (by rw[a7.o,ai.o]) (Ci ai.o) (Ao (by obtain ⟨w0,w1,w2,_⟩:=f.o;exact w0)) ?_
   intro S0 ah
   have O:Au Z2 S0 wr.heap.size (.string nm::(An (g 2 V)++(iV rk::(z++(c1++(c2++[.slice ta tn tc])))))) 64:=by simpa using ah
   refine hK.o _ _ (by intro h;cases h) ?_
   have Q:=A.o.wrote O;have hE:=f.o.wrt O (by simp);have hj:=HC.o.stab _ _ _ s.o (fun k hk=>O.block k (by have:=R.o k hk;omega)) (by rw[O.size];exact yf _)
   clear hK K A f s ah O
   have A:=yb Q;have f:=yb hE;have s:=yb hj
   clear Q hE hj
   refine A0 (i:=14) (by kernel_rfl) rfl (fun K hK=>?_)
   go_simp
   refine hK.o _ _ (by intro h;cases h) ?_
   clear hK K
   refine A0 (i:=15) (by kernel_rfl) rfl (fun K hK=>?_)
   rw[yw (by rfl)]
   refine A9 26 _ _ rfl wr.heap.size 10 (by kernel_rfl) C (by kernel_rfl) (p:=(.string nm::(An (g 2 V)++(iV rk::(z++([]:LV)))))) (m:=c1) (q:=(c2++[.slice ta tn tc])) (t:=64) (by have h:=A.o.row;simpa using h) (by simp[A8,a7.o,ac.o,a8.o,ai.o,ad.o,ae.o]) (by rw[ac.o,ad.o]) (Ci ad.o) (Ao (by obtain ⟨w0,w1,w2,_⟩:=f.o;exact w1)) ?_
   intro S1 ah
   have O:Au S0 S1 wr.heap.size (.string nm::(An (g 2 V)++(iV rk::(z++(C++(c2++[.slice ta tn tc])))))) 64:=by simpa using ah
   refine hK.o _ _ (by intro h;cases h) ?_
   have Q:=A.o.wrote O;have hE:=f.o.wrt O (by simp);have hj:=HC.o.stab _ _ _ s.o (fun k hk=>O.block k (by have:=R.o k hk;omega)) (by rw[O.size];exact yf _)
   clear hK K A f s ah O
   have A:=yb Q;have f:=yb hE;have s:=yb hj
   clear Q hE hj
   refine A0 (i:=16) (by kernel_rfl) rfl (fun K hK=>?_)
   go_simp
   refine hK.o _ _ (by intro h;cases h) ?_
   clear hK K
   refine A0 (i:=17) (by kernel_rfl) rfl (fun K hK=>?_)
   rw[yw (by rfl)]
   refine A9 26 _ _ rfl wr.heap.size 16 (by kernel_rfl) E (by kernel_rfl) (p:=(.string nm::(An (g 2 V)++(iV rk::(z++(C++([]:LV))))))) (m:=c2) (q:=[.slice ta tn tc]) (t:=64) (by have h:=A.o.row;simpa using h) (by simp[A8,a7.o,ac.o,a8.o,ai.o,ad.o,ae.o]) (by rw[a8.o,ae.o]) (Ci ae.o) (Ao (by obtain ⟨w0,w1,w2,_⟩:=f.o;exact w2)) ?_
   intro S2 ah
   have O:Au S1 S2 wr.heap.size (.string nm::(An (g 2 V)++(iV rk::(z++(C++(E++[.slice ta tn tc])))))) 64:=by simpa using ah
   refine hK.o _ _ (by intro h;cases h) ?_
   have Q:=A.o.wrote O;have hE:=f.o.wrt O (by simp);have hj:=HC.o.stab _ _ _ s.o (fun k hk=>O.block k (by have:=R.o k hk;omega)) (by rw[O.size];exact yf _)
   clear hK K A f s ah O
   have A:=yb Q;have f:=yb hE;have s:=yb hj
   clear Q hE hj
   refine AF (by kernel_rfl) ?_
   refine NoPanic.normal ?_
   refine fp.o _ _ ?_
   refine Af fun K4 dz=>?_
   go_wp2
   refine dz.o _ _ ?_
   clear dz
   have ce:S2.cell? (aV wr.heap.size 22)=some (.slice ta tn tc):=CL (A.o.part (p:=(.string nm::(An (g 2 V)++(iV rk::(z++(C++(E++([]:LV)))))))) (m:=[.slice ta tn tc]) (q:=([]:LV)) (by simp) (by simp[A8,ai.o,ad.o,ae.o]))
   obtain ⟨I2,cy⟩:∃I2:Nat->Value->World->Prop,I2=fun j v Y=>TB F wr 64 (.string nm::(An (g 2 V)++(iV rk::(z++(C++(E++[.slice ta tn tc])))))) Y∧VE G (((bl++ob (.slice va H vc))++[wr.heap.size])++ob v) Y [z,C,E] [AQ g e0,AQ g e1,AQ g e2]∧J (((((bb&&q 2 V)&&Bh q e0)&&Bh q e1)&&Bh q e2)&&(ts.take j).all (It q)) Y∧DV E0 66 8 (wr.heap.size+1) G ((bl++ob (.slice va H vc))++[wr.heap.size]) Y v ((ts.take j).map (FG g)):=⟨_,rfl⟩
   have cp:Hid (I2 0 (.slice none 0 0) S2):=yb (by rw[cy];exact ⟨A.o,by simpa[ob,Value.ownBlock] using f.o,by simpa using s.o,by simpa using EA⟩)
   have ep:=yb cy
   have fa:Hid (tn<=140737488355328):=yb (by have:=bz.o;have:=an.o.2.1;omega)
   clear A f s cy
   refine Af fun K5 fs=>?_
   obtain ⟨Z,rfl⟩:∃Z:World,Z=wr:=⟨_,rfl⟩
   go_wp2
   go_loopw [17,203] (fun f4 jv X=>∃j:Nat,jv=iV j∧j<=tn∧Hid (I2 j f4 X)) (fun _ jv _=>tn - (intOf jv).toNat)
   case atStart=>exact ⟨0,rfl,yC _,cp⟩
   case round=>
    clear cp ce
    obtain ⟨j,rfl,hj,cg⟩:=hrel
    obtain ⟨Q,hE,hJ,b8⟩:TB F Z 64 (.string nm::(An (g 2 V)++(iV rk::(z++(C++(E++[.slice ta tn tc])))))) wr∧VE G (((bl++ob (.slice va H vc))++[Z.heap.size])++ob u17) wr [z,C,E] [AQ g e0,AQ g e1,AQ g e2]∧J (((((bb&&q 2 V)&&Bh q e0)&&Bh q e1)&&Bh q e2)&&(ts.take j).all (It q)) wr∧DV E0 66 8 (Z.heap.size+1) G ((bl++ob (.slice va H vc))++[Z.heap.size]) wr u17 ((ts.take j).map (FG g)):=by have h:=cg.o;rw[ep.o] at h;exact h
    obtain ⟨ya,yn,yc,rfl⟩:=b8.slice
    have c8:=yb Q;have et:=yb hE;have bd:=yb b8
    have fx:tn<=140737488355328:=fa.o
    have b9:=yb Q.lt
    have cm:Hid (∀k∈((bl++ob (.slice va H vc))++[Z.heap.size])++ob (.slice ya yn yc),w.heap.size<=k∧k < wr.heap.size):=yb (by
     have h1:=Q.lt
     have h2:=B.o
     intro k hk
     rcases yi.1 hk with hk|hk
     ·have:=ay.o k hk;omega
     ·have:=b8.lt k hk;omega)
    by_cases eg:j < tn
    ·have bi:j < ts.length:=by rw[<-bz.o];exact eg
     have fe:(j:Int) < (tn:Int):=by omega
     obtain ⟨bt,ot,cu,ft,aw,e9,ck,d4⟩:=fo.o j bi
     obtain rfl:ta=some (aV bt ot):=ft
     have ca:Hid ((((((bb&&q 2 V)&&Bh q e0)&&Bh q e1)&&Bh q e2)&&(ts.take (j+1)).all (It q))=((((((bb&&q 2 V)&&Bh q e0)&&Bh q e1)&&Bh q e2)&&(ts.take j).all (It q))&&It q ts[j])):=yb (by
      rw[yt bi,zj,zf,zA,yX,<-zc])
     have cw:Hid ((ts.take (j+1)).map (FG g)=(ts.take j).map (FG g)++[FG g ts[j]]):=yb (by rw[yt bi,zb];rfl)
     have ew:Hid (j+1<=1000000):=yb (by have:=bz.o;have:=an.o.2.1;omega)
     have cx:Hid (Bg ts[j].len):=yb (an.o.2.2 _ (yz bi))
     have fu:Hid (((ts.take j).map (FG g)).length=j):=yb (by simp;omega)
     generalize f3:ts[j]=D2 at d4 ca cw cx
     clear f3
     generalize ed:(((((bb&&q 2 V)&&Bh q e0)&&Bh q e1)&&Bh q e2)&&(ts.take j).all (It q))=az at hJ ca
     clear ed
     have bu:=yb e9;have d5:=yb (M7 d4).2
     obtain ⟨tf,te⟩:=D2
     obtain ⟨d0,cl,rfl,xl⟩:=d4
     simp only at ck bu d5 ca cw cx d0 xl
     obtain ⟨cz,da⟩:∃cz:LV,cz=(An tf++cl):=⟨_,rfl⟩
     rw[<-da] at ck bu d5
     have f8:=yb da
     have ee:=yb d0
     have f5:Hid (wr.rangeAt bt (ot+j*8) cz):=yb (A2 (A2 ck (HM.o.ms.bx.block bt aw.2 (fun k=>aw.1 (M.o _ k)))) (Q.bx.block bt (yr aw.2 HM.o.ms.bx.size) (fun k=>aw.1 (M.o _ k))))
     have g5:Hid (bt < wr.heap.size):=yb (yr (yr aw.2 HM.o.ms.bx.size) Q.bx.size)
     have fg:Hid (AS (GF (FL G ((((bl++ob (.slice va H vc))++[Z.heap.size])++ob (.slice ya yn yc))++[wr.heap.size])) wr) wr te cl):=yb (xl.flux ((HM.o.ms.bx.trans (Q.bx.mono HM.o.ms.bx.size)).flux (yf _) M.o) (fun k hk=>hk.imp (fun h=>h) (fun h=>by
      rcases yi.1 h with h|h
      ·exact (cm.o k h).1
      ·have:=B.o;have:=b9.o;simp at h;omega)))
     have R:Hid (∀k,F k->k < wr.heap.size):=yb (fun k hk=>by have:=a1.o k hk;have:=B.o;have:=b9.o;omega)
     have f6:=yb hJ
     clear da ck aw e9 d0 xl Q hE hJ b8 bi
     go_upto_region 47 with (first
      |(with_reducible refine ym rfl 66 _ rfl bt (ot+j*8) (by kernel_rfl) cz _ f5.o qY (by kernel_rfl) (AU (n:=8) (by kernel_rfl) bu.o) ?_)
      |(with_reducible refine Ae rfl 66 _ _ rfl wr.heap.size (by kernel_rfl) cz (by kernel_rfl) (World.alloc_heap_new _ _) (by rw[yD,bu.o];kernel_rfl) (AU (n:=8) (by kernel_rfl) bu.o) d5.o ?_;intro Y1 e3;have aj:=yb e3;clear e3))
     have de:Hid (TB F wr 66 (An tf++cl) Y1):=yb (by rw[<-f8.o];exact Fp aj.o)
     have ek:Hid (J az Y1):=yb (HC.o.stab _ _ _ f6.o (fun k hk=>(AA aj.o).block k (R.o k hk)) (AA aj.o).size)
     have eq:Hid (AS (GF (FL G ((((bl++ob (.slice va H vc))++[Z.heap.size])++ob (.slice ya yn yc))++[wr.heap.size])) Y1) Y1 te cl):=yb (fg.o.flux' (BM.below (AA aj.o)))
     have b3:=yb (HC.o.call az Y1 3 wr.heap.size 0 ([]:LV) tf cl 66 ek.o (by have h:=de.o.row;simpa using h) rfl (fun h=>xE _ (R.o _ h)) ee.o (by decide) (by decide))
     go_upto_region 48 with fail
     rw[HC.o.enter,zW]
     refine b3.o.mono ?_
     rintro e Y2 ⟨rfl,a6,au⟩
     have dw:WX F Y1 Y2 wr.heap.size (An (g 3 tf)++cl) 66:=by simpa using au
     have cf:=yb (de.o.cb dw)
     have dm:Hid (AS (GF (FL G ((((bl++ob (.slice va H vc))++[Z.heap.size])++ob (.slice ya yn yc))++[wr.heap.size])) Y2) Y2 te cl):=yb (eq.o.flux' (dw.flux (fun k hk=>.inl (M.o k hk)) (.inr (by simp[av.o]))))
     have dx:=yb a6
     clear de eq ek b3 au dw a6 aj
     have eo:=yb (cf.o.part (p:=An (g 3 tf)) (m:=cl) (q:=([]:LV)) (off:=2) (by simp) (by simp[A8]))
     have S:=yb (Bn HC.o te (FL G ((((bl++ob (.slice va H vc))++[Z.heap.size])++ob (.slice ya yn yc))++[wr.heap.size])) (az&&q 3 tf) Y2 cl cx.o dx.o dm.o (fun k hk=>.inl (M.o k hk)) (fun k hk=>by
      have h1:=cf.o.lt;have h2:=b9.o;have h3:=B.o
      rcases hk with hk|hk
      ·have:=HG.o k hk;omega
      ·rcases yi.1 hk with hk|hk
       ·have:=(cm.o k hk).2;omega
       ·simp at hk;omega))
     have d1:=yb dm.o.len
     go_upto_region 49 with (first
      |(with_reducible refine ym rfl 26 _ rfl wr.heap.size 2 (by kernel_rfl) cl _ eo.o qD (by kernel_rfl) (Ci d1.o) ?_)
      |(go_at_call 65;refine S.o.mono ?_;rintro e Y3 ⟨dv,rfl,a2,a6,a0⟩;have bp:=yb a2;have er:=yb a6;have db:=yb (cf.o.call R.o a0);clear a2 a6 a0)
      |(with_reducible refine CW rfl 26 _ _ rfl wr.heap.size 2 (by kernel_rfl) dv (by kernel_rfl) (p:=An (g 3 tf)) (m:=cl) (q:=([]:LV)) (t:=66) (by have h:=db.o.row;simpa using h) (by simp[A8]) (by rw[d1.o,bp.o.len]) (Ci bp.o.len) (Ao bp.o) ?_;intro Y4 ah;have bj:Hid (Au Y3 Y4 wr.heap.size (An (g 3 tf)++dv) 66):=yb (by simpa using ah);clear ah))
     have ax:=yb (db.o.wrote bj.o)
     have fk:=yb (HC.o.stab _ _ _ er.o (fun k hk=>bj.o.block k (by have:=R.o k hk;omega)) (by rw[bj.o.size];exact yf _))
     obtain ⟨rz,dj⟩:∃r:LV,r=(An (g 3 tf)++dv):=⟨_,rfl⟩
     rw[<-dj] at ax
     have aq:Hid (E0 (GF (FL G (((bl++ob (.slice va H vc))++[Z.heap.size])++ob (.slice ya yn yc))) Y4) Y4 rz (FG g ⟨tf,te⟩)):=yb (by
      rw[dj]
      exact ⟨HC.o.name _ _ ee.o,_,rfl,bp.o.fl (bj.o.flux (.inr (by simp[av.o]))) (fun k hk=>.inl (yi.2 (.inl hk)))⟩)
     clear dj cf db dm dx er bj bp eo d1 S
     have ao:=yb (M7 aq.o).1;have d2:=yb (M7 aq.o).2
     have bm:Hid (BM (FL G (((bl++ob (.slice va H vc))++[Z.heap.size])++ob (.slice ya yn yc))) wr Y4):=yb (ax.o.bx.flux (yf _) (fun k hk=>.inl (M.o k hk)))
     have c6:=bd.o.up (l':=((bl++ob (.slice va H vc))++[Z.heap.size])) IM bm.o (fun k hk=>ax.o.bx.block k (bd.o.lt k hk).2 (fun h=>by have:=a1.o k h;have:=(bd.o.lt k hk).1;have:=B.o;omega)) (fun _ h=>.inl h)
     obtain ⟨rows,am,c7,ag⟩:=c6.own
     have dk:=yb am;have d7:=yb c7;have bn:=yb ag
     have ak:Hid (Z.heap.size+1<=Y4.heap.size):=yb (by have:=b9.o;have:=ax.o.bx.size;omega)
     have bh:Hid ((Y4.alloc (.cells rz.toArray 66)).ownsRow (Z.heap.size+1) 66 8 (.slice ya yn yc) rows.length rows.flatten):=yb (BH am fun k hk=>((yg _ _).alloc (yf _) _).block k (FB am k hk).2)
     have ba:Hid (rows.length+1<=1000000):=yb (by rw[Az.length ag,fu.o];exact ew.o)
     have dd:Hid (Z.heap.size+1<=(Y4.alloc (.cells rz.toArray 66)).heap.size):=yb (by have:=ak.o;simp;omega)
     clear am c7 ag c6
     go_upto_region 50 with (first
      |(with_reducible refine ym rfl 66 _ rfl wr.heap.size 0 (by kernel_rfl) rz _ (Aw ax.o.row) qY (by kernel_rfl) (AU (n:=8) (by kernel_rfl) ao.o) ?_)
      |(with_reducible refine Cc rfl 62 66 _ rfl rz (by kernel_rfl) 8 qW (by kernel_rfl) ao.o (by omega) (by omega) ?_)
      |(at_builtin;refine BA qW rfl _ _ rfl 8 (by kernel_rfl) (by omega) (Z.heap.size+1) (.slice ya yn yc) rows.length rows.flatten (by kernel_rfl) bh.o Y4.heap.size 1 rz (by kernel_rfl) (World.alloc_heap_new _ _) ao.o d2.o ba.o dd.o ?_;intro vx y8 af c5 c3;obtain ⟨xa,xn,xc,rfl⟩:=CY af;have T:=yb (D5 IM bn.o d7.o dk.o aq.o ao.o af c5 c3 ak.o);clear af c5 c3))
     go_wp2
     have ei:Hid (BX F (Z.heap.size+1) wr y8):=yb ((ax.o.bx.mono b9.o).trans (.of T.o.below))
     have dl:Hid (I2 (j+1) (.slice xa xn xc) y8):=yb (by
      rw[ep.o]
      refine ⟨⟨c8.o.bx.trans (ei.o.mono (by omega)),(ei.o.block _ (by omega) (fun h=>by have:=a1.o _ h;have:=B.o;omega)).trans c8.o.row⟩,(et.o.up bm.o (fun _ h=>.inl h)).up T.o.flux T.o.obs,?_,?_⟩
      ·rw[ca.o,show (az&&It q ⟨tf,te⟩)=((az&&q 3 tf)&&Bh q te) by simp[It,zc]]
       exact HC.o.stab _ _ _ fk.o (fun k hk=>T.o.below.block k (by have:=a1.o k hk;have:=B.o;omega)) T.o.flux.1
      ·rw[cw.o];exact T.o.grow)
     exact ⟨⟨j+1,by push_cast;rfl,by omega,dl⟩,by simp[intOf];omega⟩
    ·obtain rfl:j=tn:=by omega
     have fe:decide ((j:Int) < (j:Int))=false:=by simp
     have s:Hid (J (((((bb&&q 2 V)&&Bh q e0)&&Bh q e1)&&Bh q e2)&&ts.all (It q)) wr):=yb (by have h:=hJ;simp only[bz.o,yx] at h;exact h)
     have bv:DV E0 66 8 (Z.heap.size+1) G ((bl++ob (.slice va H vc))++[Z.heap.size]) wr (.slice ya yn yc) (ts.map (FG g)):=by have h:=bd.o;simp only[bz.o,yx] at h;exact h
     obtain ⟨dq,cn,cv⟩:=bv.done IM (fun k hk=>by have:=HG.o k hk;have:=B.o;omega) (fun k hk=>by have:=(ay.o k hk).2;omega) (by have:=an.o.2.1;simp;omega)
     have eb:Hid (VE G ((bl++ob (.slice va H vc))++[Z.heap.size]) wr [z,C,E] [AQ g e0,AQ g e1,AQ g e2]):=yb (hE.up (BM.refl _ _) (fun k hk=>.inl (yi.2 (.inl hk))))
     have cq:=yb cv;have co:=yb cn
     have g4:Hid (∀k∈((bl++ob (.slice va H vc))++[Z.heap.size]),w.heap.size<=k∧k < wr.heap.size):=yb (fun k hk=>cm.o k (yi.2 (.inl hk)))
     clear Q hE hJ b8 bv cn cv bd et cm
     go_wp2
     refine fs.o _ _ ?_
     go_upto_region 52 with (first
      |(with_reducible refine Al rfl 62 _ _ rfl Z.heap.size 22 (by kernel_rfl) (.slice ya yn yc) (by kernel_rfl) (by kernel_rfl) (p:=(.string nm::(An (g 2 V)++(iV rk::(z++(C++(E++([]:LV)))))))) (m:=.slice ta j tc) (q:=([]:LV)) (t:=64) (by have h:=c8.o.row;simpa using h) (by simp[A8,ai.o,ad.o,ae.o]) (by kernel_rfl) (by kernel_rfl) ?_;intro S9 bg;have U:Hid (Au wr S9 Z.heap.size (.string nm::(An (g 2 V)++(iV rk::(z++(C++(E++[.slice ya yn yc])))))) 64):=yb (by simpa using bg);clear bg))
     have A:=yb (c8.o.wrote U.o)
     have f:=yb (eb.o.wrt U.o (by simp))
     have e6:=yb (HC.o.stab _ _ _ s.o (fun k hk=>U.o.block k (by have:=a1.o k hk;have:=B.o;omega)) (by rw[U.o.size];exact yf _))
     have f0:Hid (Av (GF (FL G (bl++ob (.slice va H vc))) S9) S9 8 (E0 (GF (FL G (bl++ob (.slice va H vc))) S9) S9) ⟨ya,yn,yc⟩ (ts.map (FG g))):=yb (by
      have h:Av (GF (FL G ((bl++ob (.slice va H vc))++[Z.heap.size])) wr) wr 8 (E0 (GF (FL G ((bl++ob (.slice va H vc))++[Z.heap.size])) wr) wr) dq (ts.map (FG g)):=cq.o
      have e:dq=⟨ya,yn,yc⟩:=by
       have h2:=co.o
       obtain ⟨p1,p2,p3⟩:=dq
       simp only[Ai.v,xf] at h2
       obtain ⟨rfl,rfl,rfl⟩:=h2
       rfl
      rw[e] at h
      exact h.flux IM (U.o.flux (.inr (by simp[av.o]))) (fun k hk=>.inl (hk.imp (fun h=>h) (fun h=>yi.2 (.inl h)))))
     clear c8 eb s cq co U
     have s:=yb e6.o
     clear e6
     obtain ⟨ar,dt⟩:∃r:LV,r=(.string nm::(An (g 2 V)++(iV rk::(z++(C++(E++[.slice ya yn yc])))))):=⟨_,rfl⟩
     rw[<-dt] at A
     have aq:Hid (LW (GF (FL G (bl++ob (.slice va H vc))) S9) S9 ar (Fm g ⟨nm,V,rk,e0,e1,e2,ts⟩)):=yb (by
      rw[dt]
      obtain ⟨x0,x1,x2,_⟩:=f.o.up (l':=bl++ob (.slice va H vc)) (BM.refl _ _) (fun k hk=>.inl (yi.2 (.inl hk)))
      exact ⟨_,fj.o,HC.o.name _ _ el.o,_,_,_,rfl,x0,x1,x2,f0.o⟩)
     clear dt f
     have ao:=yb (L3 aq.o).1;have d2:=yb (L3 aq.o).2
     have e4:Hid (MS F w cs (P++(.slice va H vc:: jc)) S9):=yb (HM.o.ms.up a1.o B.o A.o.bx)
     have g6:S9.cell? (aV (w.heap.size+2) 23)=some (.slice va H vc):=e4.o.cellx rfl en.o
     have bm:Hid (BM (FL G (bl++ob (.slice va H vc))) Z S9):=yb (A.o.bx.flux (yf _) (fun k hk=>.inl (M.o k hk)))
     have c6:=HM.o.grow.up (l':=bl) Dx bm.o (fun k hk=>A.o.bx.block k (HM.o.grow.lt k hk).2 (fun h=>by have:=a1.o k h;have:=(HM.o.grow.lt k hk).1;have:=aa.o;omega)) (fun _ h=>.inl h)
     obtain ⟨rows,am,c7,ag⟩:=c6.own
     have dk:=yb am;have d7:=yb c7;have bn:=yb ag
     have ak:Hid (Bs<=S9.heap.size):=yb (yl e8.o A.o.bx.size)
     have bh:Hid ((S9.alloc (.cells ar.toArray 64)).ownsRow Bs 64 23 (.slice va H vc) rows.length rows.flatten):=yb (BH am fun k hk=>((yg _ _).alloc (yf _) _).block k (FB am k hk).2)
     have ba:Hid (rows.length+1<=1000000):=yb (by rw[Az.length ag,fm.o];exact f1.o)
     have dd:Hid (Bs<=(S9.alloc (.cells ar.toArray 64)).heap.size):=yb (by have:=ak.o;simp;omega)
     clear am c7 ag c6
     go_upto_region 53 with (first
      |(with_reducible refine ym rfl 64 _ rfl Z.heap.size 0 (by kernel_rfl) ar _ (Aw A.o.row) qX (by kernel_rfl) (AU (n:=23) (by kernel_rfl) ao.o) ?_)
      |(with_reducible refine Cc rfl 31 64 _ rfl ar (by kernel_rfl) 23 qJ (by kernel_rfl) ao.o (by omega) (by omega) ?_)
      |(at_builtin;refine BA qJ rfl _ _ rfl 23 (by kernel_rfl) (by omega) Bs (.slice va H vc) rows.length rows.flatten (by kernel_rfl) bh.o S9.heap.size 1 ar (by kernel_rfl) (World.alloc_heap_new _ _) ao.o d2.o ba.o dd.o ?_;intro vx x8 af c5 c3;obtain ⟨xa,xn,xc,rfl⟩:=CY af;have T:=yb (D5 Dx bn.o d7.o dk.o aq.o ao.o af c5 c3 ak.o);have cr:=yb (e4.o.up a1.o aa.o (.of T.o.below));clear af c5 c3)
      |(with_reducible refine Al rfl 31 _ _ rfl (w.heap.size+2) 23 (by kernel_rfl) (.slice xa xn xc) (by kernel_rfl) (by kernel_rfl) (p:=P) (m:=.slice va H vc) (q:= jc) (t:=35) cr.o.x en.o (by kernel_rfl) (by kernel_rfl) ?_;intro x9 bg;have U:=yb bg;clear bg))
     go_wp2
     have dl:Hid (I (i+1) x9):=yb (by
      rw[HI.o]
      refine ⟨.slice xa xn xc,cr.o.wrote U.o,?_,?_,?_,?_⟩
      ·rw[show (b&&(x.rots.take (i+1)).all (Ji q))=(((((bb&&q 2 V)&&Bh q e0)&&Bh q e1)&&Bh q e2)&&ts.all (It q)) by rw[cd.o];simp[Ji,zc]]
       exact HC.o.stab _ _ _ s.o (fun k hk=>(U.o.block k (by have:=a1.o k hk;omega)).trans (T.o.below.block k (by have:=a1.o k hk;have:=aa.o;omega))) (by rw[U.o.size];exact T.o.flux.1)
      ·exact ((HM.o.got.flux bm.o (fun _ h=>.inl h) (fun x hx hm=>A.o.bx.block x (by have:=(b4.o x hm).2;have:=e8.o;omega) (fun h=>by have:=a1.o x h;omega))).flux T.o.flux (JC T.o.obs) (fun x _ hm=>T.o.below.block x (b4.o x hm).2)).flux (U.o.flux (.inr (by simp[av.o]))) (fun _ h=>.inl h) (fun x hx _=>U.o.block x (by omega))
      ·have h:=T.o.grow.up (l':=bl) Dx (U.o.flux (.inr (by simp[av.o]))) (fun k hk=>U.o.block k (by have:=(T.o.grow.lt k hk).1;have:=aa.o;omega)) (fun _ h=>.inl h)
       rw[<-d8.o] at h
       exact h
      ·exact yl ak.o (by rw[U.o.size];exact T.o.flux.1))
     exact ⟨⟨i+1,by push_cast;rfl,by omega,dl⟩,by simp[intOf];omega⟩
  ·obtain rfl:i=n:=by omega
   have fh:decide ((i:Int) < (i:Int))=false:=by simp
   have HQ:Hid (J (b&&x.rots.all (Ji q)) wr):=yb (by have h:=HM.o.j;simp only[bw.o,yx] at h;exact h)
   have bv:DV LW 64 23 Bs G bl wr (.slice va H vc) (x.rots.map (Fm g)):=by have h:=HM.o.grow;simp only[bw.o,yx] at h;exact h
   obtain ⟨hd,ev,e7,cc⟩:=bv.XQ (by have:=dr.o;simp;omega)
   rw[ev] at HM
   have ey:=yb HM.o.bs
   have fc:Hid (Bp 5 (w.heap.size+3) (bl++ob hd.v) (GF (FL G (bl++ob hd.v)) wr) wr c0 c1 c2 h0 h1 h2 h3 hd ⟨none,0,0⟩ ⟨none,0,0⟩ (⟨y.name,y.season,y.cap,y.start,y.lets,y.crops,y.reaches,y.farms,(x.rots.map (Fm g)),y.rights,y.duties⟩:Am)):=yb (by
    have h:=HM.o.got
    have hz:=h.set (j:=4) (d:=ob hd.v) (fun x hx=>(b4.o x hx).2) aa.o (fun x hx=>(cc x hx).1) (fun x hx=>(cc x hx).2) (by
     intro i hi fy
     obtain rfl|rfl:i=5∨i=6:=by omega
     all_goals rfl)
    exact ⟨h.name,h.e0,h.e1,h.e2,fun hk=>h.lets (by omega),fun hk=>h.crops (by omega),fun hk=>h.reaches (by omega),fun hk=>h.farms (by omega),fun _=>e7,fun hk=>absurd hk (by omega),fun hk=>absurd hk (by omega),hz.1,fun d hd x hx=>(hz.2 d hd x hx).1,fun d hd x hx=>(hz.2 d hd x hx).2⟩)
   have fi:=yb HM.o.ms
   have fd:Hid (Jj (bl++ob hd.v) wr.heap.size w wr):=yb ⟨yl aa.o ey.o,yf _,fun x hx=>by
    rcases yi.1 hx with hx|hx
    ·have:=b4.o x hx;have:=ey.o;omega
    ·have h1:=(cc x hx).1;have h2:=(HM.o.grow.lt x hx).2;have:=aa.o;omega,yi.2 (.inl fb.o),yi.2 (.inl f2.o),yi.2 (.inl av.o)⟩
   clear bv ev e7 HM cc
   go_wp2
   refine hK.o _ _ ?_
   refine Gu (P:=fun l=>Code.wp Try.prog _ _ ⟨l,[]⟩ wr) rfl ?_
   refine Vr (bl:=bl++ob hd.v) (Bs:=wr.heap.size) (y:=(⟨y.name,y.season,y.cap,y.start,y.lets,y.crops,y.reaches,y.farms,(x.rots.map (Fm g)),y.rights,y.duties⟩:Am)) fd.o HC.o HV.o ej.o M.o HG.o ?_ (by have h:=fi.o;rw[f9.o] at h;simpa[yp] using h) fc.o HQ.o
   exact ⟨rfl,rfl,rfl,rfl⟩
end Go.Proofs.Ytghepahgkcigpaa
