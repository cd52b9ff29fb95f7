/- Parts of the proof, in short words: Dk Dl Dm -/
import Derived.Test.YtghepahgkcigpaaRn0
import Derived.Test.YtghepahgkcigpaaRn29
import Derived.Deep.CutBlock
import Derived.Test.YtghepahgkcigpaaRn28
set_option maxRecDepth 100000
set_option maxHeartbeats 64000000
set_option linter.unusedSimpArgs false
namespace Go.Proofs.Ytghepahgkcigpaa
open Go.RowKit
set_option linter.unusedSimpArgs false
theorem Wq{bl:List Nat}{Bs:Nat}{id:Nat}{caps:Array Value}{F G:NP}{J:Bool->World->Prop}{g:Int->Rf->Rf}{q:Int->Rf->Bool}{b:Bool}{w W:World}{cs:LV}{u:Nat->Value}{x y:Am}{L:Bw}{c0 c1 c2:LV}{h0:Ai}(M:Jj bl Bs w W)(hc:KK id caps F g q J)(hv:Bb (GF G w) w L cs x)(ak:Rz x)(au:∀k,F k->G k)(hG:∀k,G k->k < w.heap.size)(hu:UF id caps w u)
 (hS:MS F w cs (.string y.name::(c0++(c1++(c2++[h0.v,.slice none 0 0,.slice none 0 0,.slice none 0 0,.slice none 0 0,.slice none 0 0,.slice none 0 0])))) W)(hY:Bp 1 (w.heap.size+3) bl (GF (FL G bl) W) W c0 c1 c2 h0 ⟨none,0,0⟩ ⟨none,0,0⟩ ⟨none,0,0⟩ ⟨none,0,0⟩ ⟨none,0,0⟩ ⟨none,0,0⟩ y)(hJ:J b W):
  Code.wp Try.prog (CJ 5 (Try.f17.body.getD .skip)) (bodyPost Try.prog Try.f17 (US F G J ((((((b&&x.crops.all (I1 q))&&x.reaches.zipIdx.all (fun p=>F4 q p.2 p.1))&&x.farms.all (Gv q))&&x.rots.all (Ji q))&&x.rights.all (E5 q))&&x.duties.all (Fo q)) (⟨y.name,y.season,y.cap,y.start,y.lets,(x.crops.map (Ek g)),(x.reaches.zipIdx.map (fun p=>Cj g p.2 p.1)),(x.farms.map (DJ g)),(x.rots.map (Fm g)),(x.rights.map (Ck g)),(x.duties.map (Dz g))⟩:Am) w)) {tmps:=Kl u,defers:=[]} W:=by
 have bo:∀k,F k->k < w.heap.size:=fun k hk=>hG k (au k hk)
 obtain ⟨⟨a,n,c⟩,hL⟩:∃h:Ai,L.crops=h:=⟨_,rfl⟩
 obtain ⟨s0,s1,s2,bp,g0,g1,g2⟩:=hv.cells
 have an:W.cell? (aV w.heap.size 20)=some (.slice a n c):=by
  refine hS.cell (p:=.string x.name::(s0++(s1++(s2++[L.lets.v])))) (q:=[L.reaches.v,L.farms.v,L.rots.v,L.rights.v,L.duties.v]) ?_ (by simp[g0.len,g1.len,g2.len])
  rw[bp,hL]
  simp[yp,Ai.v]
 have ao:Av (GF G w) w 7 (DZ (GF G w) w) ⟨a,n,c⟩ x.crops:=hL▸hv.crops
 have cy:=yb ao.2.2
 have a1:Hid (n=x.crops.length):=yb ao.1
 have am:Hid (x.crops.length<=100000):=yb ak.slim.crops
 have HN:Hid (n<=140737488355328):=yb (by have:=a1.o;have:=am.o;omega)
 obtain ⟨P,hP⟩:∃P:LV,P=.string y.name::(c0++(c1++(c2++[h0.v]))):=⟨_,rfl⟩
 have cd:Hid (P.length=20):=yb (by rw[hP];simp[hY.e0.len,hY.e1.len,hY.e2.len])
 have bi:MS F w cs (P++(.slice none 0 0:: j7)) W:=by rw[hP];simpa[yp] using hS
 obtain ⟨I,hI⟩:∃I:Nat->World->Prop,I=fun i W=>∃v,RC bl Bs DZ 57 7 F G J b w cs P j7 (fun N W=>Bp 1 (w.heap.size+3) bl N W c0 c1 c2 h0 ⟨none,0,0⟩ ⟨none,0,0⟩ ⟨none,0,0⟩ ⟨none,0,0⟩ ⟨none,0,0⟩ ⟨none,0,0⟩ y) (fun i=>(x.crops.take i).all (I1 q)) (fun i=>(x.crops.take i).map (Ek g)) i v W:=⟨_,rfl⟩
 have ca:Hid (I 0 W):=yb (by
  rw[hI]
  exact ⟨_,bi,by simpa using hJ,by simpa[ob,Value.ownBlock] using hY,by simpa using EA,M.le⟩)
 have f:=yb M.lo;have Y:=yb M.mem;have cl:=yb M.b0;have cx:=yb M.b1;have Q:=yb M.b2
 have HI:=yb hI;have HV:=yb hv;have HC:=yb hc;have bj:=yb ak;have X:=yb au;have HG:=yb hG;have z:=yb bo;have ck:=yb hP;have HU:=yb hu;have d4:=yb hY.name
 rw[Gt,hu.u1,hu.u2,hu.u4,hu.u5]
 clear M hv ak hc au hG bo hS hY hJ hP hL bp g0 g1 g2 ao bi hI hu
 refine Af fun K hK=>?_
 go_wp2
 go_loopw [69] (fun iv wr=>∃i:Nat,iv=iV i∧i<=n∧Hid (I i wr)) (fun iv _=>n - (intOf iv).toNat)
 case atStart=>exact ⟨0,rfl,yC _,ca⟩
 case round=>
  clear ca an
  obtain ⟨i,rfl,hi,cf⟩:=hrel
  obtain ⟨v,hM⟩:∃v,RC bl Bs DZ 57 7 F G J b w cs P j7 (fun N W=>Bp 1 (w.heap.size+3) bl N W c0 c1 c2 h0 ⟨none,0,0⟩ ⟨none,0,0⟩ ⟨none,0,0⟩ ⟨none,0,0⟩ ⟨none,0,0⟩ ⟨none,0,0⟩ y) (fun i=>(x.crops.take i).all (I1 q)) (fun i=>(x.crops.take i).map (Ek g)) i v wr:=by have h:=cf.o;rw[HI.o] at h;exact h
  obtain ⟨va,S,vc,rfl⟩:=hM.grow.slice
  have s:=yb hM
  clear cf hM
  have d3:n<=140737488355328:=HN.o
  by_cases cn:i < n
  ·have a6:i < x.crops.length:=by rw[<-a1.o];exact cn
   have cr:(i:Int) < (n:Int):=by omega
   obtain ⟨bq,oq,ct,he,ad,c7,a8,aq⟩:=cy.o i a6
   obtain rfl:a=some (aV bq oq):=he
   have ac:Hid ((b&&(x.crops.take (i+1)).all (I1 q))=((b&&(x.crops.take i).all (I1 q))&&I1 q x.crops[i])):=yb (by
    rw[yt a6,zj,zf,zA,yX,<-zc])
   have ar:Hid ((x.crops.take (i+1)).map (Ek g)=(x.crops.take i).map (Ek g)++[Ek g x.crops[i]]):=yb (by rw[yt a6,zb];rfl)
   have cp:Hid (i+1<=1000000):=yb (by have:=a1.o;have:=am.o;omega)
   have al:=yb (bj.o.crops _ (yz a6))
   have d1:Hid (((x.crops.take i).map (Ek g)).length=i):=yb (by simp;omega)
   generalize hD:x.crops[i]=D at aq ac ar al
   clear hD
   generalize c5:(b&&(x.crops.take i).all (I1 q))=bb at ac
   have HJ:Hid (J bb wr):=yb (by rw[<-c5];exact s.o.j)
   clear c5
   have ax:=yb (M6 aq).2
   have H:=yb c7
   obtain ⟨nm,e0⟩:=D
   obtain ⟨az,c0,rfl,x0⟩:=aq
   simp only at a8 H ax ac ar al az x0
   obtain ⟨ct,V⟩:∃ct:LV,ct=(.string nm::c0):=⟨_,rfl⟩
   rw[<-V] at a8 H ax
   have cq:=yb V
   have cv:=yb az
   have bz:Hid (wr.rangeAt bq (oq+i*7) ct):=yb (A2 a8 (s.o.ms.bx.block bq ad.2 (fun k=>ad.1 (X.o _ k))))
   have d7:Hid (bq < wr.heap.size):=yb (yr ad.2 s.o.ms.bx.size)
   have ch:Hid (Az (fun c e=>AS (GF G w) w e c) [c0] [e0]):=yb ⟨x0,trivial⟩
   have bu:Hid (∀k∈((bl++ob (.slice va S vc))++[wr.heap.size]),w.heap.size<=k∧k<=wr.heap.size):=yb (by
    have h1:=s.o.ms.lt
    intro k hk
    rcases yi.1 hk with hk|hk
    ·rcases yi.1 hk with hk|hk
     ·have:=Y.o k hk;have:=s.o.bs;omega
     ·have:=s.o.grow.lt k hk;have:=f.o;omega
    ·simp at hk;omega)
   have A:=yb s.o.ms.lt;have bm:=yb s.o.bs
   have d5:Hid (¬ F wr.heap.size):=yb (fun h=>by have:=z.o _ h;have:=A.o;omega)
   clear V a8 ad c7 az x0
   go_upto_region 13 with (first
    |(with_reducible refine ym rfl 57 _ rfl bq (oq+i*7) (by kernel_rfl) ct _ bz.o qU (by kernel_rfl) (AU (n:=7) (by kernel_rfl) H.o) ?_)
    |(with_reducible refine Ae rfl 57 _ _ rfl wr.heap.size (by kernel_rfl) ct (by kernel_rfl) (World.alloc_heap_new _ _) (by rw[yD,H.o];kernel_rfl) (AU (n:=7) (by kernel_rfl) H.o) ax.o ?_;intro X1 cc;have ag:=yb cc;clear cc))
   have R:Hid (TB F wr 57 (.string nm::c0) X1):=yb (by rw[<-cq.o];exact Fp ag.o)
   have af:Hid (J bb X1):=yb (HC.o.stab _ _ _ HJ.o (fun k hk=>(AA ag.o).block k (by have:=z.o k hk;have:=A.o;omega)) (AA ag.o).size)
   have bw:Hid (VE G ((bl++ob (.slice va S vc))++[wr.heap.size]) X1 [c0] [e0]):=yb (Az.mono (fun _ _ h=>h.flux ((s.o.ms.bx.trans (R.o.bx.mono s.o.ms.bx.size)).flux (yf _) X.o) (fun k hk=>hk.imp (fun h=>h) (fun h=>(bu.o k h).1))) ch.o)
   clear ag bz ch
   have be:=yb (R.o.part (p:=(.string nm::([]:LV))) (m:=c0) (q:=([]:LV)) (off:=1) (by simp) (by simp))
   have av:=bw.o.1
   have b3:=yb av.len
   have ah:=yb (Bn HC.o e0 (FL G ((bl++ob (.slice va S vc))++[wr.heap.size])) (bb) X1 c0 al af.o av (fun k hk=>.inl (X.o k hk)) (fun k hk=>by
    have h1:=R.o.lt;have h2:=A.o
    rcases hk with hk|hk
    ·have:=HG.o k hk;omega
    ·have:=(bu.o k hk).2;omega))
   clear av
   go_upto_region 14 with (first
    |(with_reducible refine ym rfl 26 _ rfl wr.heap.size 1 (by kernel_rfl) c0 _ be.o qD (by kernel_rfl) (Ci b3.o) ?_)
    |(go_at_call 65;refine ah.o.mono ?_;rintro e X2 ⟨res,rfl,bv,c6,ay⟩;have T:=yb bv;have bt:=yb c6;have Q:=yb ay;have aw:=yb (R.o.call (fun k hk=>by have:=z.o k hk;have:=A.o;omega) ay);clear bv c6 ay)
    |(with_reducible refine CW rfl 26 _ _ rfl wr.heap.size 1 (by kernel_rfl) res (by kernel_rfl) (p:=(.string nm::([]:LV))) (m:=c0) (q:=([]:LV)) (t:=57) (by have h:=aw.o.row;simpa[yp] using h) (by simp) (by rw[b3.o,T.o.len]) (Ci T.o.len) (Ao T.o) ?_;intro X3 b8;have a2:Hid (Au X2 X3 wr.heap.size (.string nm::res) 57):=yb (by simpa[yp] using b8);clear b8))
   have hT:=aw.o.wrote a2.o
   have HR:Hid (AS (GF (FL G ((bl++ob (.slice va S vc))++[wr.heap.size])) X3) X3 (AQ g e0) res):=yb (T.o.fl (a2.o.flux (.inr (by simp[Q.o]))) (fun _ h=>.inl h))
   have hj:=HC.o.stab _ _ _ bt.o (fun k hk=>a2.o.block k (by have:=z.o k hk;have:=A.o;omega)) (by rw[a2.o.size];exact yf _)
   clear R aw af bt bw T Q a2 be b3 ah
   have R:=yb hT;have af:=yb hj
   clear hT hj
   obtain ⟨O,ap⟩:∃r:LV,r=(.string nm::res):=⟨_,rfl⟩
   rw[<-ap] at R
   have aj:Hid (DZ (GF (FL G (bl++ob (.slice va S vc))) X3) X3 O (Ek g ⟨nm,e0⟩)):=yb (by
    rw[ap]
    have x0:AS (GF (FL G (bl++ob (.slice va S vc))) X3) X3 (AQ g e0) res:=HR.o.fl (BM.refl _ _) (fun k hk=>.inl (yi.2 (.inl hk)))
    exact ⟨cv.o,_,rfl,x0⟩)
   clear ap HR
   have ae:=yb (M6 aj.o).1;have d2:=yb (M6 aj.o).2
   have c8:Hid (MS F w cs (P++(.slice va S vc:: j7)) X3):=yb (s.o.ms.up z.o A.o R.o.bx)
   have d8:X3.cell? (aV (w.heap.size+2) 20)=some (.slice va S vc):=c8.o.cellx rfl cd.o
   have ba:Hid (BM (FL G (bl++ob (.slice va S vc))) wr X3):=yb (R.o.bx.flux (yf _) (fun k hk=>.inl (X.o k hk)))
   have b9:=s.o.grow.up (l':=bl) CZ ba.o (fun k hk=>R.o.bx.block k (s.o.grow.lt k hk).2 (fun h=>by have:=z.o k h;have:=(s.o.grow.lt k hk).1;have:=f.o;omega)) (fun _ h=>.inl h)
   obtain ⟨rows,a7,bn,U⟩:=b9.own
   have cz:=yb a7;have cw:=yb bn;have bh:=yb U
   have a0:Hid (Bs<=X3.heap.size):=yb (yl bm.o R.o.bx.size)
   have bg:Hid ((X3.alloc (.cells O.toArray 57)).ownsRow Bs 57 7 (.slice va S vc) rows.length rows.flatten):=yb (BH a7 fun k hk=>((yg _ _).alloc (yf _) _).block k (FB a7 k hk).2)
   have b5:Hid (rows.length+1<=1000000):=yb (by rw[Az.length U,d1.o];exact cp.o)
   have cj:Hid (Bs<=(X3.alloc (.cells O.toArray 57)).heap.size):=yb (by have:=a0.o;simp;omega)
   clear a7 bn U b9
   go_upto_region 15 with (first
    |(with_reducible refine ym rfl 57 _ rfl wr.heap.size 0 (by kernel_rfl) O _ (Aw R.o.row) qU (by kernel_rfl) (AU (n:=7) (by kernel_rfl) ae.o) ?_)
    |(with_reducible refine Cc rfl 28 57 _ rfl O (by kernel_rfl) 7 qF (by kernel_rfl) ae.o (by omega) (by omega) ?_)
    |(at_builtin;refine BA qF rfl _ _ rfl 7 (by kernel_rfl) (by omega) Bs (.slice va S vc) rows.length rows.flatten (by kernel_rfl) bg.o X3.heap.size 1 O (by kernel_rfl) (World.alloc_heap_new _ _) ae.o d2.o b5.o cj.o ?_;intro vx x8 Z b4 cg;obtain ⟨xa,xn,xc,rfl⟩:=CY Z;have B:=yb (D5 CZ bh.o cw.o cz.o aj.o ae.o Z b4 cg a0.o);have ai:=yb (c8.o.up z.o f.o (.of B.o.below));clear Z b4 cg)
    |(with_reducible refine Al rfl 28 _ _ rfl (w.heap.size+2) 20 (by kernel_rfl) (.slice xa xn xc) (by kernel_rfl) (by kernel_rfl) (p:=P) (m:=.slice va S vc) (q:= j7) (t:=35) ai.o.x cd.o (by kernel_rfl) (by kernel_rfl) ?_;intro x9 bd;have E:=yb bd;clear bd))
   go_wp2
   have d0:Hid (I (i+1) x9):=yb (by
    rw[HI.o]
    refine ⟨.slice xa xn xc,ai.o.wrote E.o,?_,?_,?_,?_⟩
    ·rw[show (b&&(x.crops.take (i+1)).all (I1 q))=(bb&&Bh q e0) by rw[ac.o];simp[I1,zc]]
     exact HC.o.stab _ _ _ af.o (fun k hk=>(E.o.block k (by have:=z.o k hk;omega)).trans (B.o.below.block k (by have:=z.o k hk;have:=f.o;omega))) (by rw[E.o.size];exact B.o.flux.1)
    ·exact ((s.o.got.flux ba.o (fun _ h=>.inl h) (fun x C hm=>R.o.bx.block x (by have:=(Y.o x hm).2;have:=bm.o;omega) (fun h=>by have:=z.o x h;omega))).flux B.o.flux (JC B.o.obs) (fun x _ hm=>B.o.below.block x (Y.o x hm).2)).flux (E.o.flux (.inr (by simp[Q.o]))) (fun _ h=>.inl h) (fun x C _=>E.o.block x (by omega))
    ·have h:=B.o.grow.up (l':=bl) CZ (E.o.flux (.inr (by simp[Q.o]))) (fun k hk=>E.o.block k (by have:=(B.o.grow.lt k hk).1;have:=f.o;omega)) (fun _ h=>.inl h)
     rw[<-ar.o] at h
     exact h
    ·exact yl a0.o (by rw[E.o.size];exact B.o.flux.1))
   exact ⟨⟨i+1,by push_cast;rfl,by omega,d0⟩,by simp[intOf];omega⟩
  ·obtain rfl:i=n:=by omega
   have cr:decide ((i:Int) < (i:Int))=false:=by simp
   have HQ:Hid (J (b&&x.crops.all (I1 q)) wr):=yb (by have h:=s.o.j;simp only[a1.o,yx] at h;exact h)
   have c3:DV DZ 57 7 Bs G bl wr (.slice va S vc) (x.crops.map (Ek g)):=by have h:=s.o.grow;simp only[a1.o,yx] at h;exact h
   obtain ⟨hd,c9,ce,aa⟩:=c3.XQ (by have:=am.o;simp;omega)
   rw[c9] at s
   have ci:=yb s.o.bs
   have cm:Hid (Bp 2 (w.heap.size+3) (bl++ob hd.v) (GF (FL G (bl++ob hd.v)) wr) wr c0 c1 c2 h0 hd ⟨none,0,0⟩ ⟨none,0,0⟩ ⟨none,0,0⟩ ⟨none,0,0⟩ ⟨none,0,0⟩ (⟨y.name,y.season,y.cap,y.start,y.lets,(x.crops.map (Ek g)),y.reaches,y.farms,y.rots,y.rights,y.duties⟩:Am)):=yb (by
    have h:=s.o.got
    have hz:=h.set (j:=1) (d:=ob hd.v) (fun x C=>(Y.o x C).2) f.o (fun x C=>(aa x C).1) (fun x C=>(aa x C).2) (by
     intro i hi d6
     obtain rfl|rfl|rfl|rfl|rfl:i=2∨i=3∨i=4∨i=5∨i=6:=by omega
     all_goals rfl)
    exact ⟨h.name,h.e0,h.e1,h.e2,fun hk=>h.lets (by omega),fun _=>ce,fun hk=>absurd hk (by omega),fun hk=>absurd hk (by omega),fun hk=>absurd hk (by omega),fun hk=>absurd hk (by omega),fun hk=>absurd hk (by omega),hz.1,fun d hd x C=>(hz.2 d hd x C).1,fun d hd x C=>(hz.2 d hd x C).2⟩)
   have cu:=yb s.o.ms
   have co:Hid (Jj (bl++ob hd.v) wr.heap.size w wr):=yb ⟨yl f.o ci.o,yf _,fun x C=>by
    rcases yi.1 C with C|C
    ·have:=Y.o x C;have:=ci.o;omega
    ·have h1:=(aa x C).1;have h2:=(s.o.grow.lt x C).2;have:=f.o;omega,yi.2 (.inl cl.o),yi.2 (.inl cx.o),yi.2 (.inl Q.o)⟩
   clear c3 c9 ce s aa
   go_wp2
   refine hK.o _ _ ?_
   refine Gu (P:=fun l=>Code.wp Try.prog _ _ ⟨l,[]⟩ wr) rfl ?_
   refine Vs (bl:=bl++ob hd.v) (Bs:=wr.heap.size) (y:=(⟨y.name,y.season,y.cap,y.start,y.lets,(x.crops.map (Ek g)),y.reaches,y.farms,y.rots,y.rights,y.duties⟩:Am)) co.o HC.o HV.o bj.o X.o HG.o ?_ (by have h:=cu.o;rw[ck.o] at h;simpa[yp] using h) cm.o HQ.o
   exact ⟨rfl,rfl,rfl,rfl⟩
set_option linter.unusedSimpArgs false
theorem Xl{bl:List Nat}{Bs:Nat}{id:Nat}{caps:Array Value}{F G:NP}{J:Bool->World->Prop}{g:Int->Rf->Rf}{q:Int->Rf->Bool}{b:Bool}{w W:World}{cs:LV}{u:Nat->Value}{x y:Am}{L:Bw}{c0 c1 c2:LV}(M:Jj bl Bs w W)(hc:KK id caps F g q J)(hv:Bb (GF G w) w L cs x)(ak:Rz x)(au:∀k,F k->G k)(hG:∀k,G k->k < w.heap.size)(hu:UF id caps w u)
 (hS:MS F w cs (.string y.name::(c0++(c1++(c2++[.slice none 0 0,.slice none 0 0,.slice none 0 0,.slice none 0 0,.slice none 0 0,.slice none 0 0,.slice none 0 0])))) W)(hY:Bp 0 (w.heap.size+3) bl (GF (FL G bl) W) W c0 c1 c2 ⟨none,0,0⟩ ⟨none,0,0⟩ ⟨none,0,0⟩ ⟨none,0,0⟩ ⟨none,0,0⟩ ⟨none,0,0⟩ ⟨none,0,0⟩ y)(hJ:J b W):
  Code.wp Try.prog (CJ 4 (Try.f17.body.getD .skip)) (bodyPost Try.prog Try.f17 (US F G J (((((((b&&x.lets.all (M8 q))&&x.crops.all (I1 q))&&x.reaches.zipIdx.all (fun p=>F4 q p.2 p.1))&&x.farms.all (Gv q))&&x.rots.all (Ji q))&&x.rights.all (E5 q))&&x.duties.all (Fo q)) (⟨y.name,y.season,y.cap,y.start,(x.lets.map (Hu g)),(x.crops.map (Ek g)),(x.reaches.zipIdx.map (fun p=>Cj g p.2 p.1)),(x.farms.map (DJ g)),(x.rots.map (Fm g)),(x.rights.map (Ck g)),(x.duties.map (Dz g))⟩:Am) w)) {tmps:=Kl u,defers:=[]} W:=by
 have bo:∀k,F k->k < w.heap.size:=fun k hk=>hG k (au k hk)
 obtain ⟨⟨a,n,c⟩,hL⟩:∃h:Ai,L.lets=h:=⟨_,rfl⟩
 obtain ⟨s0,s1,s2,bp,g0,g1,g2⟩:=hv.cells
 have an:W.cell? (aV w.heap.size 19)=some (.slice a n c):=by
  refine hS.cell (p:=.string x.name::(s0++(s1++(s2++[])))) (q:=[L.crops.v,L.reaches.v,L.farms.v,L.rots.v,L.rights.v,L.duties.v]) ?_ (by simp[g0.len,g1.len,g2.len])
  rw[bp,hL]
  simp[yp,Ai.v]
 have ao:Av (GF G w) w 7 (GB (GF G w) w) ⟨a,n,c⟩ x.lets:=hL▸hv.lets
 have cy:=yb ao.2.2
 have a1:Hid (n=x.lets.length):=yb ao.1
 have am:Hid (x.lets.length<=100000):=yb ak.slim.lets
 have HN:Hid (n<=140737488355328):=yb (by have:=a1.o;have:=am.o;omega)
 obtain ⟨P,hP⟩:∃P:LV,P=.string y.name::(c0++(c1++(c2++[]))):=⟨_,rfl⟩
 have cd:Hid (P.length=19):=yb (by rw[hP];simp[hY.e0.len,hY.e1.len,hY.e2.len])
 have bi:MS F w cs (P++(.slice none 0 0:: j6)) W:=by rw[hP];simpa[yp] using hS
 obtain ⟨I,hI⟩:∃I:Nat->World->Prop,I=fun i W=>∃v,RC bl Bs GB 55 7 F G J b w cs P j6 (fun N W=>Bp 0 (w.heap.size+3) bl N W c0 c1 c2 ⟨none,0,0⟩ ⟨none,0,0⟩ ⟨none,0,0⟩ ⟨none,0,0⟩ ⟨none,0,0⟩ ⟨none,0,0⟩ ⟨none,0,0⟩ y) (fun i=>(x.lets.take i).all (M8 q)) (fun i=>(x.lets.take i).map (Hu g)) i v W:=⟨_,rfl⟩
 have ca:Hid (I 0 W):=yb (by
  rw[hI]
  exact ⟨_,bi,by simpa using hJ,by simpa[ob,Value.ownBlock] using hY,by simpa using EA,M.le⟩)
 have f:=yb M.lo;have Y:=yb M.mem;have cl:=yb M.b0;have cx:=yb M.b1;have Q:=yb M.b2
 have HI:=yb hI;have HV:=yb hv;have HC:=yb hc;have bj:=yb ak;have X:=yb au;have HG:=yb hG;have z:=yb bo;have ck:=yb hP;have HU:=yb hu;have d4:=yb hY.name
 rw[Gt,hu.u1,hu.u2,hu.u4,hu.u5]
 clear M hv ak hc au hG bo hS hY hJ hP hL bp g0 g1 g2 ao bi hI hu
 refine Af fun K hK=>?_
 go_wp2
 go_loopw [50] (fun iv wr=>∃i:Nat,iv=iV i∧i<=n∧Hid (I i wr)) (fun iv _=>n - (intOf iv).toNat)
 case atStart=>exact ⟨0,rfl,yC _,ca⟩
 case round=>
  clear ca an
  obtain ⟨i,rfl,hi,cf⟩:=hrel
  obtain ⟨v,hM⟩:∃v,RC bl Bs GB 55 7 F G J b w cs P j6 (fun N W=>Bp 0 (w.heap.size+3) bl N W c0 c1 c2 ⟨none,0,0⟩ ⟨none,0,0⟩ ⟨none,0,0⟩ ⟨none,0,0⟩ ⟨none,0,0⟩ ⟨none,0,0⟩ ⟨none,0,0⟩ y) (fun i=>(x.lets.take i).all (M8 q)) (fun i=>(x.lets.take i).map (Hu g)) i v wr:=by have h:=cf.o;rw[HI.o] at h;exact h
  obtain ⟨va,S,vc,rfl⟩:=hM.grow.slice
  have s:=yb hM
  clear cf hM
  have d3:n<=140737488355328:=HN.o
  by_cases cn:i < n
  ·have a6:i < x.lets.length:=by rw[<-a1.o];exact cn
   have cr:(i:Int) < (n:Int):=by omega
   obtain ⟨bq,oq,ct,he,ad,c7,a8,aq⟩:=cy.o i a6
   obtain rfl:a=some (aV bq oq):=he
   have ac:Hid ((b&&(x.lets.take (i+1)).all (M8 q))=((b&&(x.lets.take i).all (M8 q))&&M8 q x.lets[i])):=yb (by
    rw[yt a6,zj,zf,zA,yX,<-zc])
   have ar:Hid ((x.lets.take (i+1)).map (Hu g)=(x.lets.take i).map (Hu g)++[Hu g x.lets[i]]):=yb (by rw[yt a6,zb];rfl)
   have cp:Hid (i+1<=1000000):=yb (by have:=a1.o;have:=am.o;omega)
   have al:=yb (bj.o.lets _ (yz a6))
   have d1:Hid (((x.lets.take i).map (Hu g)).length=i):=yb (by simp;omega)
   generalize hD:x.lets[i]=D at aq ac ar al
   clear hD
   generalize c5:(b&&(x.lets.take i).all (M8 q))=bb at ac
   have HJ:Hid (J bb wr):=yb (by rw[<-c5];exact s.o.j)
   clear c5
   have ax:=yb (O0 aq).2
   have H:=yb c7
   obtain ⟨nm,e0⟩:=D
   obtain ⟨az,c0,rfl,x0⟩:=aq
   simp only at a8 H ax ac ar al az x0
   obtain ⟨ct,V⟩:∃ct:LV,ct=(.string nm::c0):=⟨_,rfl⟩
   rw[<-V] at a8 H ax
   have cq:=yb V
   have cv:=yb az
   have bz:Hid (wr.rangeAt bq (oq+i*7) ct):=yb (A2 a8 (s.o.ms.bx.block bq ad.2 (fun k=>ad.1 (X.o _ k))))
   have d7:Hid (bq < wr.heap.size):=yb (yr ad.2 s.o.ms.bx.size)
   have ch:Hid (Az (fun c e=>AS (GF G w) w e c) [c0] [e0]):=yb ⟨x0,trivial⟩
   have bu:Hid (∀k∈((bl++ob (.slice va S vc))++[wr.heap.size]),w.heap.size<=k∧k<=wr.heap.size):=yb (by
    have h1:=s.o.ms.lt
    intro k hk
    rcases yi.1 hk with hk|hk
    ·rcases yi.1 hk with hk|hk
     ·have:=Y.o k hk;have:=s.o.bs;omega
     ·have:=s.o.grow.lt k hk;have:=f.o;omega
    ·simp at hk;omega)
   have A:=yb s.o.ms.lt;have bm:=yb s.o.bs
   have d5:Hid (¬ F wr.heap.size):=yb (fun h=>by have:=z.o _ h;have:=A.o;omega)
   clear V a8 ad c7 az x0
   go_upto_region 7 with (first
    |(with_reducible refine ym rfl 55 _ rfl bq (oq+i*7) (by kernel_rfl) ct _ bz.o qT (by kernel_rfl) (AU (n:=7) (by kernel_rfl) H.o) ?_)
    |(with_reducible refine Ae rfl 55 _ _ rfl wr.heap.size (by kernel_rfl) ct (by kernel_rfl) (World.alloc_heap_new _ _) (by rw[yD,H.o];kernel_rfl) (AU (n:=7) (by kernel_rfl) H.o) ax.o ?_;intro X1 cc;have ag:=yb cc;clear cc))
   have R:Hid (TB F wr 55 (.string nm::c0) X1):=yb (by rw[<-cq.o];exact Fp ag.o)
   have af:Hid (J bb X1):=yb (HC.o.stab _ _ _ HJ.o (fun k hk=>(AA ag.o).block k (by have:=z.o k hk;have:=A.o;omega)) (AA ag.o).size)
   have bw:Hid (VE G ((bl++ob (.slice va S vc))++[wr.heap.size]) X1 [c0] [e0]):=yb (Az.mono (fun _ _ h=>h.flux ((s.o.ms.bx.trans (R.o.bx.mono s.o.ms.bx.size)).flux (yf _) X.o) (fun k hk=>hk.imp (fun h=>h) (fun h=>(bu.o k h).1))) ch.o)
   clear ag bz ch
   have be:=yb (R.o.part (p:=(.string nm::([]:LV))) (m:=c0) (q:=([]:LV)) (off:=1) (by simp) (by simp))
   have av:=bw.o.1
   have b3:=yb av.len
   have ah:=yb (Bn HC.o e0 (FL G ((bl++ob (.slice va S vc))++[wr.heap.size])) (bb) X1 c0 al af.o av (fun k hk=>.inl (X.o k hk)) (fun k hk=>by
    have h1:=R.o.lt;have h2:=A.o
    rcases hk with hk|hk
    ·have:=HG.o k hk;omega
    ·have:=(bu.o k hk).2;omega))
   clear av
   go_upto_region 8 with (first
    |(with_reducible refine ym rfl 26 _ rfl wr.heap.size 1 (by kernel_rfl) c0 _ be.o qD (by kernel_rfl) (Ci b3.o) ?_)
    |(go_at_call 65;refine ah.o.mono ?_;rintro e X2 ⟨res,rfl,bv,c6,ay⟩;have T:=yb bv;have bt:=yb c6;have Q:=yb ay;have aw:=yb (R.o.call (fun k hk=>by have:=z.o k hk;have:=A.o;omega) ay);clear bv c6 ay)
    |(with_reducible refine CW rfl 26 _ _ rfl wr.heap.size 1 (by kernel_rfl) res (by kernel_rfl) (p:=(.string nm::([]:LV))) (m:=c0) (q:=([]:LV)) (t:=55) (by have h:=aw.o.row;simpa[yp] using h) (by simp) (by rw[b3.o,T.o.len]) (Ci T.o.len) (Ao T.o) ?_;intro X3 b8;have a2:Hid (Au X2 X3 wr.heap.size (.string nm::res) 55):=yb (by simpa[yp] using b8);clear b8))
   have hT:=aw.o.wrote a2.o
   have HR:Hid (AS (GF (FL G ((bl++ob (.slice va S vc))++[wr.heap.size])) X3) X3 (AQ g e0) res):=yb (T.o.fl (a2.o.flux (.inr (by simp[Q.o]))) (fun _ h=>.inl h))
   have hj:=HC.o.stab _ _ _ bt.o (fun k hk=>a2.o.block k (by have:=z.o k hk;have:=A.o;omega)) (by rw[a2.o.size];exact yf _)
   clear R aw af bt bw T Q a2 be b3 ah
   have R:=yb hT;have af:=yb hj
   clear hT hj
   obtain ⟨O,ap⟩:∃r:LV,r=(.string nm::res):=⟨_,rfl⟩
   rw[<-ap] at R
   have aj:Hid (GB (GF (FL G (bl++ob (.slice va S vc))) X3) X3 O (Hu g ⟨nm,e0⟩)):=yb (by
    rw[ap]
    have x0:AS (GF (FL G (bl++ob (.slice va S vc))) X3) X3 (AQ g e0) res:=HR.o.fl (BM.refl _ _) (fun k hk=>.inl (yi.2 (.inl hk)))
    exact ⟨cv.o,_,rfl,x0⟩)
   clear ap HR
   have ae:=yb (O0 aj.o).1;have d2:=yb (O0 aj.o).2
   have c8:Hid (MS F w cs (P++(.slice va S vc:: j6)) X3):=yb (s.o.ms.up z.o A.o R.o.bx)
   have d8:X3.cell? (aV (w.heap.size+2) 19)=some (.slice va S vc):=c8.o.cellx rfl cd.o
   have ba:Hid (BM (FL G (bl++ob (.slice va S vc))) wr X3):=yb (R.o.bx.flux (yf _) (fun k hk=>.inl (X.o k hk)))
   have b9:=s.o.grow.up (l':=bl) Dw ba.o (fun k hk=>R.o.bx.block k (s.o.grow.lt k hk).2 (fun h=>by have:=z.o k h;have:=(s.o.grow.lt k hk).1;have:=f.o;omega)) (fun _ h=>.inl h)
   obtain ⟨rows,a7,bn,U⟩:=b9.own
   have cz:=yb a7;have cw:=yb bn;have bh:=yb U
   have a0:Hid (Bs<=X3.heap.size):=yb (yl bm.o R.o.bx.size)
   have bg:Hid ((X3.alloc (.cells O.toArray 55)).ownsRow Bs 55 7 (.slice va S vc) rows.length rows.flatten):=yb (BH a7 fun k hk=>((yg _ _).alloc (yf _) _).block k (FB a7 k hk).2)
   have b5:Hid (rows.length+1<=1000000):=yb (by rw[Az.length U,d1.o];exact cp.o)
   have cj:Hid (Bs<=(X3.alloc (.cells O.toArray 55)).heap.size):=yb (by have:=a0.o;simp;omega)
   clear a7 bn U b9
   go_upto_region 9 with (first
    |(with_reducible refine ym rfl 55 _ rfl wr.heap.size 0 (by kernel_rfl) O _ (Aw R.o.row) qT (by kernel_rfl) (AU (n:=7) (by kernel_rfl) ae.o) ?_)
    |(with_reducible refine Cc rfl 27 55 _ rfl O (by kernel_rfl) 7 qE (by kernel_rfl) ae.o (by omega) (by omega) ?_)
    |(at_builtin;refine BA qE rfl _ _ rfl 7 (by kernel_rfl) (by omega) Bs (.slice va S vc) rows.length rows.flatten (by kernel_rfl) bg.o X3.heap.size 1 O (by kernel_rfl) (World.alloc_heap_new _ _) ae.o d2.o b5.o cj.o ?_;intro vx x8 Z b4 cg;obtain ⟨xa,xn,xc,rfl⟩:=CY Z;have B:=yb (D5 Dw bh.o cw.o cz.o aj.o ae.o Z b4 cg a0.o);have ai:=yb (c8.o.up z.o f.o (.of B.o.below));clear Z b4 cg)
    |(with_reducible refine Al rfl 27 _ _ rfl (w.heap.size+2) 19 (by kernel_rfl) (.slice xa xn xc) (by kernel_rfl) (by kernel_rfl) (p:=P) (m:=.slice va S vc) (q:= j6) (t:=35) ai.o.x cd.o (by kernel_rfl) (by kernel_rfl) ?_;intro x9 bd;have E:=yb bd;clear bd))
   go_wp2
   have d0:Hid (I (i+1) x9):=yb (by
    rw[HI.o]
    refine ⟨.slice xa xn xc,ai.o.wrote E.o,?_,?_,?_,?_⟩
    ·rw[show (b&&(x.lets.take (i+1)).all (M8 q))=(bb&&Bh q e0) by rw[ac.o];simp[M8,zc]]
     exact HC.o.stab _ _ _ af.o (fun k hk=>(E.o.block k (by have:=z.o k hk;omega)).trans (B.o.below.block k (by have:=z.o k hk;have:=f.o;omega))) (by rw[E.o.size];exact B.o.flux.1)
    ·exact ((s.o.got.flux ba.o (fun _ h=>.inl h) (fun x C hm=>R.o.bx.block x (by have:=(Y.o x hm).2;have:=bm.o;omega) (fun h=>by have:=z.o x h;omega))).flux B.o.flux (JC B.o.obs) (fun x _ hm=>B.o.below.block x (Y.o x hm).2)).flux (E.o.flux (.inr (by simp[Q.o]))) (fun _ h=>.inl h) (fun x C _=>E.o.block x (by omega))
    ·have h:=B.o.grow.up (l':=bl) Dw (E.o.flux (.inr (by simp[Q.o]))) (fun k hk=>E.o.block k (by have:=(B.o.grow.lt k hk).1;have:=f.o;omega)) (fun _ h=>.inl h)
     rw[<-ar.o] at h
     exact h
    ·exact yl a0.o (by rw[E.o.size];exact B.o.flux.1))
   exact ⟨⟨i+1,by push_cast;rfl,by omega,d0⟩,by simp[intOf];omega⟩
  ·obtain rfl:i=n:=by omega
   have cr:decide ((i:Int) < (i:Int))=false:=by simp
   have HQ:Hid (J (b&&x.lets.all (M8 q)) wr):=yb (by have h:=s.o.j;simp only[a1.o,yx] at h;exact h)
   have c3:DV GB 55 7 Bs G bl wr (.slice va S vc) (x.lets.map (Hu g)):=by have h:=s.o.grow;simp only[a1.o,yx] at h;exact h
   obtain ⟨hd,c9,ce,aa⟩:=c3.XQ (by have:=am.o;simp;omega)
   rw[c9] at s
   have ci:=yb s.o.bs
   have cm:Hid (Bp 1 (w.heap.size+3) (bl++ob hd.v) (GF (FL G (bl++ob hd.v)) wr) wr c0 c1 c2 hd ⟨none,0,0⟩ ⟨none,0,0⟩ ⟨none,0,0⟩ ⟨none,0,0⟩ ⟨none,0,0⟩ ⟨none,0,0⟩ (⟨y.name,y.season,y.cap,y.start,(x.lets.map (Hu g)),y.crops,y.reaches,y.farms,y.rots,y.rights,y.duties⟩:Am)):=yb (by
    have h:=s.o.got
    have hz:=h.set (j:=0) (d:=ob hd.v) (fun x C=>(Y.o x C).2) f.o (fun x C=>(aa x C).1) (fun x C=>(aa x C).2) (by
     intro i hi d6
     obtain rfl|rfl|rfl|rfl|rfl|rfl:i=1∨i=2∨i=3∨i=4∨i=5∨i=6:=by omega
     all_goals rfl)
    exact ⟨h.name,h.e0,h.e1,h.e2,fun _=>ce,fun hk=>absurd hk (by omega),fun hk=>absurd hk (by omega),fun hk=>absurd hk (by omega),fun hk=>absurd hk (by omega),fun hk=>absurd hk (by omega),fun hk=>absurd hk (by omega),hz.1,fun d hd x C=>(hz.2 d hd x C).1,fun d hd x C=>(hz.2 d hd x C).2⟩)
   have cu:=yb s.o.ms
   have co:Hid (Jj (bl++ob hd.v) wr.heap.size w wr):=yb ⟨yl f.o ci.o,yf _,fun x C=>by
    rcases yi.1 C with C|C
    ·have:=Y.o x C;have:=ci.o;omega
    ·have h1:=(aa x C).1;have h2:=(s.o.grow.lt x C).2;have:=f.o;omega,yi.2 (.inl cl.o),yi.2 (.inl cx.o),yi.2 (.inl Q.o)⟩
   clear c3 c9 ce s aa
   go_wp2
   refine hK.o _ _ ?_
   refine Gu (P:=fun l=>Code.wp Try.prog _ _ ⟨l,[]⟩ wr) rfl ?_
   refine Wq (bl:=bl++ob hd.v) (Bs:=wr.heap.size) (y:=(⟨y.name,y.season,y.cap,y.start,(x.lets.map (Hu g)),y.crops,y.reaches,y.farms,y.rots,y.rights,y.duties⟩:Am)) co.o HC.o HV.o bj.o X.o HG.o ?_ (by have h:=cu.o;rw[ck.o] at h;simpa[yp] using h) cm.o HQ.o
   exact ⟨rfl,rfl,rfl,rfl⟩
set_option linter.unusedSimpArgs false
theorem Pu{id:Nat}{caps:Array Value}{F G:NP}{J:Bool->World->Prop}{g:Int->Rf->Rf}{q:Int->Rf->Bool}{b:Bool}{w:World}{cs:LV}{x:Am}{L:Bw}(hc:KK id caps F g q J)(hv:Bb (GF G w) w L cs x)(aq:Rz x)(ao:∀k,F k->G k)(hG:∀k,G k->k < w.heap.size)(hJ:J b w):
  Calls Try.prog 17 #[.agg cs.toArray,.func (.func id) #[] caps] w (US F G J (XE q b x) (Df g x) w):=by
 have av:∀k,F k->k < w.heap.size:=fun k hk=>hG k (ao k hk)
 obtain ⟨c0,c1,c2,ag,x0,x1,x2⟩:=hv.cells
 have HV:=yb hv;have HC:=yb hc;have ac:=yb aq;have R:=yb ao;have HG:=yb hG;have S:=yb av;have HJ:=yb hJ
 have ah:=yb ag
 have b5:Hid (Az (fun c e=>AS (GF G w) w e c) [c0,c1,c2] [x.season,x.cap,x.start]):=yb ⟨x0,x1,x2,trivial⟩
 have r:=yb x0.len;have f:=yb x1.len;have j:=yb x2.len
 have Z:Hid (cs.length=26):=yb (by rw[ag];simp[x0.len,x1.len,x2.len])
 have au:Hid (∀v∈cs,v.oneCell'=true):=yb (by rw[ag];exact AL rfl (Ax (Ao x0) (Ax (Ao x1) (Ax (Ao x2) (by simp[Ai.v,Value.oneCell'])))))
 clear hc hv aq ao hG av hJ ag x0 x1 x2
 go_enter Try.func17,Try.ntmps17
 refine Af fun K B=>?_
 go_wp2_with (first|(with_reducible refine EY rfl 35 _ rfl cs.toArray (by kernel_rfl) ?_))
 refine B.o _ _ ?_
 clear B K
 obtain ⟨w1,N⟩:∃z:World,z=(w.alloc (.cells cs.toArray 35)).alloc (.cells #[.string {data:=#[]},iV 0,iV 0,iV 0,.string {data:=#[]},iV 0,.slice none 0 0,iV 0,iV 0,iV 0,.string {data:=#[]},iV 0,.slice none 0 0,iV 0,iV 0,iV 0,.string {data:=#[]},iV 0,.slice none 0 0,.slice none 0 0,.slice none 0 0,.slice none 0 0,.slice none 0 0,.slice none 0 0,.slice none 0 0,.slice none 0 0] 35):=⟨_,rfl⟩
 rw[<-N]
 have a1:w1=(w.alloc (.cells cs.toArray 35)).alloc (.cells A5.toArray 35):=N
 clear N
 have N:=a1
 have an:Hid (Below w.heap.size w w1):=yb (by rw[N];exact ((yg _ _).alloc (yf _) _).alloc (by simp) _)
 have a8:Hid (w1.heap.size=w.heap.size+2):=yb (by rw[N];simp)
 have al:Hid (w1.heap[w.heap.size]?=some (.cells cs.toArray 35 (0,0))):=yb (by rw[N,yF _ _ _ (by simp)];exact World.alloc_heap_new _ _)
 have ar:Hid (w1.heap[w.heap.size+1]?=some (.cells A5.toArray 35 (0,0))):=yb (by
  have h:=World.alloc_heap_new (w.alloc (.cells cs.toArray 35)) (.cells A5.toArray 35)
  rw[N];simpa using h)
 clear N a1
 refine Af fun K B=>?_
 go_wp2_with (first
  |(with_reducible refine ym rfl 35 _ rfl w.heap.size 0 (by kernel_rfl) cs _ (Aw al.o) qM (by kernel_rfl) (AU (n:=26) (by kernel_rfl) Z.o) ?_)
  |(with_reducible refine Ae rfl 35 _ _ rfl w1.heap.size (by kernel_rfl) cs (by kernel_rfl) (World.alloc_heap_new _ _) (by rw[yD,Z.o];kernel_rfl) (AU (n:=26) (by kernel_rfl) Z.o) au.o ?_;intro w2 a1;have am:=yb a1;clear a1))
 rw[a8.o]
 refine B.o _ _ ?_
 clear B K
 rw[a8.o] at am
 have af:Hid (Au (w1.alloc (.cells A5.toArray 35)) w2 (w.heap.size+2) (.string x.name::(c0++(c1++(c2++[L.lets.v,L.crops.v,L.reaches.v,L.farms.v,L.rots.v,L.rights.v,L.duties.v])))) 35):=yb (by rw[<-ah.o];exact am.o)
 refine Af fun K B=>?_
 go_wp2_with (first
  |(with_reducible refine Al rfl 27 _ _ rfl (w.heap.size+2) 19 (by kernel_rfl) (.slice none 0 0) (by kernel_rfl) (by kernel_rfl) (p:=.string x.name::(c0++(c1++(c2++[])))) (m:=L.lets.v) (q:=[L.crops.v,L.reaches.v,L.farms.v,L.rots.v,L.rights.v,L.duties.v]) (t:=35) (by have h:=af.o.row;simpa using h) (by simp[r.o,f.o,j.o]) (by kernel_rfl) (by kernel_rfl) ?_;intro v1 ay;have a7:Hid (Au w2 v1 (w.heap.size+2) (.string x.name::(c0++(c1++(c2++[.slice none 0 0,L.crops.v,L.reaches.v,L.farms.v,L.rots.v,L.rights.v,L.duties.v])))) 35):=yb (by simpa using ay);clear ay)
  |(with_reducible refine Al rfl 28 _ _ rfl (w.heap.size+2) 20 (by kernel_rfl) (.slice none 0 0) (by kernel_rfl) (by kernel_rfl) (p:=.string x.name::(c0++(c1++(c2++[.slice none 0 0])))) (m:=L.crops.v) (q:=[L.reaches.v,L.farms.v,L.rots.v,L.rights.v,L.duties.v]) (t:=35) (by have h:=a7.o.row;simpa using h) (by simp[r.o,f.o,j.o]) (by kernel_rfl) (by kernel_rfl) ?_;intro v2 D;have a6:Hid (Au v1 v2 (w.heap.size+2) (.string x.name::(c0++(c1++(c2++[.slice none 0 0,.slice none 0 0,L.reaches.v,L.farms.v,L.rots.v,L.rights.v,L.duties.v])))) 35):=yb (by simpa using D);clear D)
  |(with_reducible refine Al rfl 29 _ _ rfl (w.heap.size+2) 21 (by kernel_rfl) (.slice none 0 0) (by kernel_rfl) (by kernel_rfl) (p:=.string x.name::(c0++(c1++(c2++ jc)))) (m:=L.reaches.v) (q:=[L.farms.v,L.rots.v,L.rights.v,L.duties.v]) (t:=35) (by have h:=a6.o.row;simpa using h) (by simp[r.o,f.o,j.o]) (by kernel_rfl) (by kernel_rfl) ?_;intro v3 ap;have ae:Hid (Au v2 v3 (w.heap.size+2) (.string x.name::(c0++(c1++(c2++[.slice none 0 0,.slice none 0 0,.slice none 0 0,L.farms.v,L.rots.v,L.rights.v,L.duties.v])))) 35):=yb (by simpa using ap);clear ap)
  |(with_reducible refine Al rfl 30 _ _ rfl (w.heap.size+2) 22 (by kernel_rfl) (.slice none 0 0) (by kernel_rfl) (by kernel_rfl) (p:=.string x.name::(c0++(c1++(c2++ ja)))) (m:=L.farms.v) (q:=[L.rots.v,L.rights.v,L.duties.v]) (t:=35) (by have h:=ae.o.row;simpa using h) (by simp[r.o,f.o,j.o]) (by kernel_rfl) (by kernel_rfl) ?_;intro v4 az;have ad:Hid (Au v3 v4 (w.heap.size+2) (.string x.name::(c0++(c1++(c2++[.slice none 0 0,.slice none 0 0,.slice none 0 0,.slice none 0 0,L.rots.v,L.rights.v,L.duties.v])))) 35):=yb (by simpa using az);clear az)
  |(with_reducible refine Al rfl 31 _ _ rfl (w.heap.size+2) 23 (by kernel_rfl) (.slice none 0 0) (by kernel_rfl) (by kernel_rfl) (p:=.string x.name::(c0++(c1++(c2++ j8)))) (m:=L.rots.v) (q:=[L.rights.v,L.duties.v]) (t:=35) (by have h:=ad.o.row;simpa using h) (by simp[r.o,f.o,j.o]) (by kernel_rfl) (by kernel_rfl) ?_;intro v5 ax;have aa:Hid (Au v4 v5 (w.heap.size+2) (.string x.name::(c0++(c1++(c2++[.slice none 0 0,.slice none 0 0,.slice none 0 0,.slice none 0 0,.slice none 0 0,L.rights.v,L.duties.v])))) 35):=yb (by simpa using ax);clear ax)
  |(with_reducible refine Al rfl 32 _ _ rfl (w.heap.size+2) 24 (by kernel_rfl) (.slice none 0 0) (by kernel_rfl) (by kernel_rfl) (p:=.string x.name::(c0++(c1++(c2++ j7)))) (m:=L.rights.v) (q:=[L.duties.v]) (t:=35) (by have h:=aa.o.row;simpa using h) (by simp[r.o,f.o,j.o]) (by kernel_rfl) (by kernel_rfl) ?_;intro v6 aw;have ai:Hid (Au v5 v6 (w.heap.size+2) (.string x.name::(c0++(c1++(c2++[.slice none 0 0,.slice none 0 0,.slice none 0 0,.slice none 0 0,.slice none 0 0,.slice none 0 0,L.duties.v])))) 35):=yb (by simpa using aw);clear aw)
  |(with_reducible refine Al rfl 33 _ _ rfl (w.heap.size+2) 25 (by kernel_rfl) (.slice none 0 0) (by kernel_rfl) (by kernel_rfl) (p:=.string x.name::(c0++(c1++(c2++ j6)))) (m:=L.duties.v) (q:=[]) (t:=35) (by have h:=ai.o.row;simpa using h) (by simp[r.o,f.o,j.o]) (by kernel_rfl) (by kernel_rfl) ?_;intro v7 b3;have a2:Hid (Au v6 v7 (w.heap.size+2) (.string x.name::(c0++(c1++(c2++ j5)))) 35):=yb (by simpa using b3);clear b3))
 refine B.o _ _ ?_
 clear B K
 have ak:Hid (Below w.heap.size w v7):=yb (by
  have h0:Below w.heap.size w w2:=af.o.below (an.o.alloc an.o.size _) (by omega)
  exact a2.o.below (ai.o.below (aa.o.below (ad.o.below (ae.o.below (a6.o.below (a7.o.below h0 (by omega)) (by omega)) (by omega)) (by omega)) (by omega)) (by omega)) (by omega))
 have Y:∀k,k < w.heap.size+2->v7.heap[k]?=w1.heap[k]?:=fun k hk=>(a2.o.block k (by omega)).trans ((ai.o.block k (by omega)).trans ((aa.o.block k (by omega)).trans ((ad.o.block k (by omega)).trans ((ae.o.block k (by omega)).trans ((a6.o.block k (by omega)).trans ((a7.o.block k (by omega)).trans ((af.o.block k (by omega)).trans (((yg w1.heap.size w1).alloc (yf _) _).block k (by rw[a8.o];exact hk)))))))))
 have a:Hid (MS F w cs (.string x.name::(c0++(c1++(c2++ j5)))) v7):=yb ⟨.of ak.o,(Y _ (by omega)).trans al.o,⟨A5,rfl,(Y _ (by omega)).trans ar.o⟩,a2.o.row⟩
 clear Y af a7 a6 ae ad aa ai a2 al ar an a8 am
 refine Af fun K3 b4=>?_
 have d:Hid (VE G [w.heap.size,w.heap.size+1,w.heap.size+2] v7.drew [c0,c1,c2] [x.season,x.cap,x.start]):=yb (Az.mono (fun _ _ h=>h.flux (a.o.bx.drew.flux (yf _) R.o) (fun k hk=>hk.imp (fun h=>h) (fun h=>by simp at h;omega))) b5.o)
 have u:Hid (J b v7.drew):=yb (HC.o.stab _ _ _ HJ.o (fun k hk=>ak.o.block k (S.o k hk)) ak.o.size)
 have hm:=a.o.up S.o (yf _) (BX.refl F (w.heap.size+3) v7).drew
 clear a
 have a:=yb hm
 clear hm
 refine wp_region_noPanic ?_
 refine BZ (by kernel_rfl) (fun W=>W.heap[w.heap.size]?=some (.cells cs.toArray 35 (0,0))) 17 ?_
 refine A1 (i:=0) (v:=pV w.heap.size 1) rfl (by kernel_rfl) (by kernel_rfl) (by kernel_rfl) (fun _ _ _ h=>h) (by kernel_rfl) (Or.inl ⟨by rfl,?_⟩) (fun _=>a.o.s) ?_
 ·intro w _;go_simp
 refine Aj (i:=1) (v:=.agg (c0).toArray) rfl (by kernel_rfl) (by kernel_rfl) (by kernel_rfl) (fun _ _ _ h=>h) (by kernel_rfl) (yS (by rfl) 26 _ rfl (w.heap.size) 1 (by kernel_rfl) (c0) _ (fun W hW=>BT hW (p:=(.string x.name::([]:LV))) (q:=(c1++(c2++[L.lets.v,L.crops.v,L.reaches.v,L.farms.v,L.rots.v,L.rights.v,L.duties.v]))) (by rw[ah.o];simp) (by simp[r.o,f.o,j.o])) qD rfl (Ci r.o)) a.o.s ?_
 refine A1 (i:=2) (v:=.func (.func id) #[] caps) rfl (by kernel_rfl) (by kernel_rfl) (by kernel_rfl) (fun _ _ _ h=>h) (by kernel_rfl) (Or.inl ⟨by rfl,?_⟩) (fun _=>a.o.s) ?_
 ·intro w _;go_simp
 refine A1 (i:=4) (v:=pV w.heap.size 7) rfl (by kernel_rfl) (by kernel_rfl) (by kernel_rfl) (fun _ _ _ h=>h) (by kernel_rfl) (Or.inl ⟨by rfl,?_⟩) (fun _=>a.o.s) ?_
 ·intro w _;go_simp
 refine Aj (i:=5) (v:=.agg (c1).toArray) rfl (by kernel_rfl) (by kernel_rfl) (by kernel_rfl) (fun _ _ _ h=>h) (by kernel_rfl) (yS (by rfl) 26 _ rfl (w.heap.size) 7 (by kernel_rfl) (c1) _ (fun W hW=>BT hW (p:=(.string x.name::(c0++([]:LV)))) (q:=(c2++[L.lets.v,L.crops.v,L.reaches.v,L.farms.v,L.rots.v,L.rights.v,L.duties.v])) (by rw[ah.o];simp) (by simp[r.o,f.o,j.o])) qD rfl (Ci f.o)) a.o.s ?_
 refine A1 (i:=6) (v:=.func (.func id) #[] caps) rfl (by kernel_rfl) (by kernel_rfl) (by kernel_rfl) (fun _ _ _ h=>h) (by kernel_rfl) (Or.inl ⟨by rfl,?_⟩) (fun _=>a.o.s) ?_
 ·intro w _;go_simp
 refine A1 (i:=8) (v:=pV w.heap.size 13) rfl (by kernel_rfl) (by kernel_rfl) (by kernel_rfl) (fun _ _ _ h=>h) (by kernel_rfl) (Or.inl ⟨by rfl,?_⟩) (fun _=>a.o.s) ?_
 ·intro w _;go_simp
 refine Aj (i:=9) (v:=.agg (c2).toArray) rfl (by kernel_rfl) (by kernel_rfl) (by kernel_rfl) (fun _ _ _ h=>h) (by kernel_rfl) (yS (by rfl) 26 _ rfl (w.heap.size) 13 (by kernel_rfl) (c2) _ (fun W hW=>BT hW (p:=(.string x.name::(c0++(c1++([]:LV))))) (q:=[L.lets.v,L.crops.v,L.reaches.v,L.farms.v,L.rots.v,L.rights.v,L.duties.v]) (by rw[ah.o];simp) (by simp[r.o,f.o,j.o])) qD rfl (Ci j.o)) a.o.s ?_
 refine A1 (i:=10) (v:=.func (.func id) #[] caps) rfl (by kernel_rfl) (by kernel_rfl) (by kernel_rfl) (fun _ _ _ h=>h) (by kernel_rfl) (Or.inl ⟨by rfl,?_⟩) (fun _=>a.o.s) ?_
 ·intro w _;go_simp
 refine A0 (i:=3) (by kernel_rfl) rfl (fun K B=>?_)
 go_simp
 have E:=yb (Bn HC.o x.season (FL G [w.heap.size,w.heap.size+1,w.heap.size+2]) (b) v7.drew c0 ac.o.season u.o (by obtain ⟨X,w1,w2,_⟩:=d.o;exact X) (fun k hk=>.inl (R.o k hk)) (fun k hk=>by
  have h1:=a.o.lt
  rcases hk with hk|hk
  ·have:=HG.o k hk;omega
  ·simp at hk;omega))
 refine E.o.mono ?_
 rintro e Z0 ⟨C,rfl,D,V,H⟩
 have I:=a.o.up S.o a.o.lt H
 have T:VE G [w.heap.size,w.heap.size+1,w.heap.size+2] Z0 [C,c1,c2] [AQ g x.season,x.cap,x.start]:=by
  obtain ⟨X,w1,w2,_⟩:=d.o.bcall H R.o
  exact ⟨D,w1,w2,trivial⟩
 have Q:=yb D.len
 refine B.o _ _ (fun _=>I.s) ?_
 clear B K a d u E D H
 have a:=yb I;have d:=yb T;have u:=yb V
 clear I T V
 refine A1 (i:=12) (v:=pV (w.heap.size+2) 1) rfl (by kernel_rfl) (by kernel_rfl) (by kernel_rfl) (fun _ _ _ h=>h) (by kernel_rfl) (Or.inl ⟨by rfl,?_⟩) (fun _=>a.o.s) ?_
 ·intro w _;go_simp
 refine A0 (i:=7) (by kernel_rfl) rfl (fun K B=>?_)
 go_simp
 have E:=yb (Bn HC.o x.cap (FL G [w.heap.size,w.heap.size+1,w.heap.size+2]) ((b&&Bh q x.season)) Z0 c1 ac.o.cap u.o (by obtain ⟨X,w1,w2,_⟩:=d.o;exact w1) (fun k hk=>.inl (R.o k hk)) (fun k hk=>by
  have h1:=a.o.lt
  rcases hk with hk|hk
  ·have:=HG.o k hk;omega
  ·simp at hk;omega))
 refine E.o.mono ?_
 rintro e Z1 ⟨M,rfl,D,V,H⟩
 have I:=a.o.up S.o a.o.lt H
 have T:VE G [w.heap.size,w.heap.size+1,w.heap.size+2] Z1 [C,M,c2] [AQ g x.season,AQ g x.cap,x.start]:=by
  obtain ⟨X,w1,w2,_⟩:=d.o.bcall H R.o
  exact ⟨X,D,w2,trivial⟩
 have U:=yb D.len
 refine B.o _ _ (fun _=>I.s) ?_
 clear B K a d u E D H
 have a:=yb I;have d:=yb T;have u:=yb V
 clear I T V
 refine A0 (i:=11) (by kernel_rfl) rfl (fun K B=>?_)
 go_simp
 have E:=yb (Bn HC.o x.start (FL G [w.heap.size,w.heap.size+1,w.heap.size+2]) (((b&&Bh q x.season)&&Bh q x.cap)) Z1 c2 ac.o.start u.o (by obtain ⟨X,w1,w2,_⟩:=d.o;exact w2) (fun k hk=>.inl (R.o k hk)) (fun k hk=>by
  have h1:=a.o.lt
  rcases hk with hk|hk
  ·have:=HG.o k hk;omega
  ·simp at hk;omega))
 refine E.o.mono ?_
 rintro e Z2 ⟨a0,rfl,D,V,H⟩
 have I:=a.o.up S.o a.o.lt H
 have T:VE G [w.heap.size,w.heap.size+1,w.heap.size+2] Z2 [C,M,a0] [AQ g x.season,AQ g x.cap,AQ g x.start]:=by
  obtain ⟨X,w1,w2,_⟩:=d.o.bcall H R.o
  exact ⟨X,w1,D,trivial⟩
 have aj:=yb D.len
 refine B.o _ _ (fun _=>I.s) ?_
 clear B K a d u E D H
 have a:=yb I;have d:=yb T;have u:=yb V
 clear I T V
 refine A0 (i:=13) (by kernel_rfl) rfl (fun K B=>?_)
 rw[yw (by rfl)]
 refine A9 26 _ _ rfl (w.heap.size+2) 1 (by kernel_rfl) C (by kernel_rfl) (p:=(.string x.name::([]:LV))) (m:=c0) (q:=(c1++(c2++ j5))) (t:=35) (by have h:=a.o.x;simpa using h) (by simp[r.o,f.o,j.o,Q.o,U.o]) (by rw[r.o,Q.o]) (Ci Q.o) (Ao (by obtain ⟨X,w1,w2,_⟩:=d.o;exact X)) ?_
 intro S0 O
 have A:Au Z2 S0 (w.heap.size+2) (.string x.name::(C++(c1++(c2++ j5)))) 35:=by simpa using O
 have I:=a.o.wrote A
 refine B.o _ _ (fun _=>I.s) ?_
 have T:=d.o.up (A.flux (.inr (by simp))) (fun _ h=>.inl h)
 have hj:=HC.o.stab _ _ _ u.o (fun k hk=>A.block k (by have:=S.o k hk;omega)) (by rw[A.size];exact yf _)
 clear B K a d u O A
 have a:=yb I;have d:=yb T;have u:=yb hj
 clear I T hj
 refine A0 (i:=14) (by kernel_rfl) rfl (fun K B=>?_)
 go_simp
 refine B.o _ _ (fun _=>a.o.s) ?_
 clear B K
 refine A0 (i:=15) (by kernel_rfl) rfl (fun K B=>?_)
 rw[yw (by rfl)]
 refine A9 26 _ _ rfl (w.heap.size+2) 7 (by kernel_rfl) M (by kernel_rfl) (p:=(.string x.name::(C++([]:LV)))) (m:=c1) (q:=(c2++ j5)) (t:=35) (by have h:=a.o.x;simpa using h) (by simp[r.o,f.o,j.o,Q.o,U.o]) (by rw[f.o,U.o]) (Ci U.o) (Ao (by obtain ⟨X,w1,w2,_⟩:=d.o;exact w1)) ?_
 intro S1 O
 have A:Au S0 S1 (w.heap.size+2) (.string x.name::(C++(M++(c2++ j5)))) 35:=by simpa using O
 have I:=a.o.wrote A
 refine B.o _ _ (fun _=>I.s) ?_
 have T:=d.o.up (A.flux (.inr (by simp))) (fun _ h=>.inl h)
 have hj:=HC.o.stab _ _ _ u.o (fun k hk=>A.block k (by have:=S.o k hk;omega)) (by rw[A.size];exact yf _)
 clear B K a d u O A
 have a:=yb I;have d:=yb T;have u:=yb hj
 clear I T hj
 refine A0 (i:=16) (by kernel_rfl) rfl (fun K B=>?_)
 go_simp
 refine B.o _ _ (fun _=>a.o.s) ?_
 clear B K
 refine A0 (i:=17) (by kernel_rfl) rfl (fun K B=>?_)
 rw[yw (by rfl)]
 refine A9 26 _ _ rfl (w.heap.size+2) 13 (by kernel_rfl) a0 (by kernel_rfl) (p:=(.string x.name::(C++(M++([]:LV))))) (m:=c2) (q:= j5) (t:=35) (by have h:=a.o.x;simpa using h) (by simp[r.o,f.o,j.o,Q.o,U.o]) (by rw[j.o,aj.o]) (Ci aj.o) (Ao (by obtain ⟨X,w1,w2,_⟩:=d.o;exact w2)) ?_
 intro S2 O
 have A:Au S1 S2 (w.heap.size+2) (.string x.name::(C++(M++(a0++ j5)))) 35:=by simpa using O
 have I:=a.o.wrote A
 refine B.o _ _ (by intro h;cases h) ?_
 have T:=d.o.up (A.flux (.inr (by simp))) (fun _ h=>.inl h)
 have hj:=HC.o.stab _ _ _ u.o (fun k hk=>A.block k (by have:=S.o k hk;omega)) (by rw[A.size];exact yf _)
 clear B K a d u O A
 have a:=yb I;have d:=yb T;have u:=yb hj
 clear I T hj
 refine AF (by kernel_rfl) ?_
 refine NoPanic.normal ?_
 refine b4.o _ _ ?_
 refine Gu (P:=fun l=>Code.wp Try.prog _ _ ⟨l,[]⟩ S2) rfl ?_
 obtain ⟨y0,y1,y2,_⟩:=d.o
 refine Xl (bl:=[w.heap.size,w.heap.size+1,w.heap.size+2]) (Bs:=w.heap.size+3) (y:=⟨x.name,AQ g x.season,AQ g x.cap,AQ g x.start,[],[],[],[],[],[],[]⟩) ⟨yf _,a.o.lt,fun k hk=>by simp at hk;omega,by simp,by simp,by simp⟩ HC.o HV.o ac.o R.o HG.o ?_ a.o ⟨HV.o.name,y0,y1,y2,fun h=>absurd h (by omega),fun h=>absurd h (by omega),fun h=>absurd h (by omega),fun h=>absurd h (by omega),fun h=>absurd h (by omega),fun h=>absurd h (by omega),fun h=>absurd h (by omega),by simp[O1,Dj],by simp[O1],by simp[O1]⟩ u.o
 exact ⟨rfl,rfl,rfl,rfl⟩
end Go.Proofs.Ytghepahgkcigpaa
