/- Parts of the proof, in short words: Ak Al Am -/
import Derived.Test.YtghepahgkcigpaaRg0
import Derived.Test.YtghepahgkcigpaaRg25
import Derived.Deep.CutBlock
set_option maxRecDepth 100000
set_option maxHeartbeats 64000000
set_option linter.unusedSimpArgs false
namespace Go.Proofs.Ytghepahgkcigpaa
open Go.RowKit
set_option linter.unusedSimpArgs false
theorem Uc{id:Nat}{caps:Array Value}{F G:NP}{J:Bool->World->Prop}{g:Int->Rf->Rf}{q:Int->Rf->Bool}{b:Bool}{w W:World}{cs:LV}{u:Nat->Value}{x y:An}{L:Bh}{c0 c1 c2:LV}{h0:Av}(hc:Jo id caps F g q J)(hv:B8 (GF G w) w L cs x)(ad:Sh x)(ae:∀k,F k->G k)(hG:∀k,G k->k < w.heap.size)(hu:UF id caps w u)
 (hS:MS F w cs (.string y.name::(c0++(c1++(c2++[h0.v,.slice none 0 0,.slice none 0 0,.slice none 0 0,.slice none 0 0,.slice none 0 0,.slice none 0 0])))) W)(hY:Dl 1 (GF (FL G [w.heap.size,w.heap.size+1,w.heap.size+2]) W) W c0 c1 c2 h0 ⟨none,0,0⟩ ⟨none,0,0⟩ ⟨none,0,0⟩ ⟨none,0,0⟩ ⟨none,0,0⟩ ⟨none,0,0⟩ y)(hJ:J b W):
  Code.wp Try.prog (CP 5 (Try.f17.body.getD .skip)) (bodyPost Try.prog Try.f17 (MP F G J ((((((b&&x.crops.all (Gy q))&&x.reaches.zipIdx.all (fun p=>Eg q p.2 p.1))&&x.farms.all (FD q))&&x.rots.all (I8 q))&&x.rights.all (Dn q))&&x.duties.all (ED q)) (⟨y.name,y.season,y.cap,y.start,y.lets,(x.crops.map (EN g)),(x.reaches.zipIdx.map (fun p=>CM g p.2 p.1)),(x.farms.map (DH g)),(x.rots.map (Ge g)),(x.rights.map (Cx g)),(x.duties.map (Du g))⟩:An) w)) {tmps:=J0 u,defers:=[]} W:=by
 have bu:∀k,F k->k < w.heap.size:=fun k d=>hG k (ae k d)
 obtain ⟨⟨a,n,c⟩,hL⟩:∃h:Av,L.crops=h:=⟨_,rfl⟩
 obtain ⟨s0,s1,s2,b9,g0,g1,g2⟩:=hv.cells
 have am:W.cell? (aV w.heap.size 20)=some (.slice a n c):=by
  refine hS.cell (p:=.string x.name::(s0++(s1++(s2++[L.lets.v])))) (q:=[L.reaches.v,L.farms.v,L.rots.v,L.rights.v,L.duties.v]) ?_ (by simp[g0.len,g1.len,g2.len])
  rw[b9,hL]
  simp[yl,Av.v]
 have ak:Az (GF G w) w 7 (Dq (GF G w) w) ⟨a,n,c⟩ x.crops:=hL▸hv.crops
 have cj:=yb ak.2.2
 have S:Hid (n=x.crops.length):=yb ak.1
 have an:Hid (x.crops.length<=100000):=yb ad.slim.crops
 have HN:Hid (n<=140737488355328):=yb (by have:=S.o;have:=an.o;omega)
 obtain ⟨P,hP⟩:∃P:LV,P=.string y.name::(c0++(c1++(c2++[h0.v]))):=⟨_,rfl⟩
 have bn:Hid (P.length=20):=yb (by rw[hP];simp[hY.e0.len,hY.e1.len,hY.e2.len])
 have bt:MS F w cs (P++(.slice none 0 0:: qU)) W:=by rw[hP];simpa[yl] using hS
 obtain ⟨I,hI⟩:∃I:Nat->World->Prop,I=fun i W=>∃v,MI Dq 57 7 F G J b w cs P qU (fun N W=>Dl 1 N W c0 c1 c2 h0 ⟨none,0,0⟩ ⟨none,0,0⟩ ⟨none,0,0⟩ ⟨none,0,0⟩ ⟨none,0,0⟩ ⟨none,0,0⟩ y) (fun i=>(x.crops.take i).all (Gy q)) (fun i=>(x.crops.take i).map (EN g)) i v W:=⟨_,rfl⟩
 have bo:Hid (I 0 W):=yb (by
  rw[hI]
  exact ⟨_,bt,by simpa using hJ,by simpa[ob,Value.ownBlock] using hY,by simpa using DQ⟩)
 have HI:=yb hI;have HV:=yb hv;have HC:=yb hc;have b5:=yb ad;have O:=yb ae;have HG:=yb hG;have s:=yb bu;have ca:=yb hP;have HU:=yb hu;have cq:=yb hY.name
 rw[FB,hu.u1,hu.u2,hu.u4,hu.u5]
 clear hv ad hc ae hG bu hS hY hJ hP hL b9 g0 g1 g2 ak bt hI hu
 refine Ag fun K hK=>?_
 go_wp2
 go_loopw [69] (fun iv wr=>∃i:Nat,iv=iV i∧i<=n∧Hid (I i wr)) (fun iv _=>n - (intOf iv).toNat)
 case atStart=>exact ⟨0,rfl,yz _,bo⟩
 case round=>
  clear bo am
  obtain ⟨i,rfl,hi,bd⟩:=hrel
  obtain ⟨v,hM⟩:∃v,MI Dq 57 7 F G J b w cs P qU (fun N W=>Dl 1 N W c0 c1 c2 h0 ⟨none,0,0⟩ ⟨none,0,0⟩ ⟨none,0,0⟩ ⟨none,0,0⟩ ⟨none,0,0⟩ ⟨none,0,0⟩ y) (fun i=>(x.crops.take i).all (Gy q)) (fun i=>(x.crops.take i).map (EN g)) i v wr:=by have h:=bd.o;rw[HI.o] at h;exact h
  obtain ⟨va,E,C,rfl⟩:=hM.grow.slice
  have z:=yb hM
  clear bd hM
  have cm:n<=140737488355328:=HN.o
  by_cases ce:i < n
  ·have Z:i < x.crops.length:=by rw[<-S.o];exact ce
   have cb:(i:Int) < (n:Int):=by omega
   obtain ⟨bq,oq,ct,he,a2,bz,a0,af⟩:=cj.o i Z
   obtain rfl:a=some (aV bq oq):=he
   have a8:Hid ((b&&(x.crops.take (i+1)).all (Gy q))=((b&&(x.crops.take i).all (Gy q))&&Gy q x.crops[i])):=yb (by
    rw[yq Z,zh,ze,zu,yT,<-zc])
   have ah:Hid ((x.crops.take (i+1)).map (EN g)=(x.crops.take i).map (EN g)++[EN g x.crops[i]]):=yb (by rw[yq Z,zb];rfl)
   have cl:Hid (i+1<=1000000):=yb (by have:=S.o;have:=an.o;omega)
   have aq:=yb (b5.o.crops _ (yy Z))
   have c9:Hid (((x.crops.take i).map (EN g)).length=i):=yb (by simp;omega)
   generalize hD:x.crops[i]=D at af a8 ah aq
   clear hD
   generalize bp:(b&&(x.crops.take i).all (Gy q))=bb at a8
   have HJ:Hid (J bb wr):=yb (by rw[<-bp];exact z.o.j)
   clear bp
   have ar:=yb (KB af).2
   have A:=yb bz
   obtain ⟨nm,e0⟩:=D
   obtain ⟨al,c0,rfl,x0⟩:=af
   simp only at a0 A ar a8 ah aq al x0
   obtain ⟨ct,T⟩:∃ct:LV,ct=(.string nm::c0):=⟨_,rfl⟩
   rw[<-T] at a0 A ar
   have c7:=yb T
   have cc:=yb al
   have ay:Hid (wr.rangeAt bq (oq+i*7) ct):=yb (A2 a0 (z.o.ms.bx.block bq a2.2 (fun k=>a2.1 (O.o _ k))))
   have cp:Hid (bq < wr.heap.size):=yb (yp a2.2 z.o.ms.bx.size)
   have b4:Hid (At (fun c e=>AP (GF G w) w e c) [c0] [e0]):=yb ⟨x0,trivial⟩
   have ba:Hid (∀k∈(([w.heap.size,w.heap.size+1,w.heap.size+2]++ob (.slice va E C))++[wr.heap.size]),w.heap.size<=k∧k<=wr.heap.size):=yb (by
    have h1:=z.o.ms.lt
    intro k d
    rcases yo.1 d with d|d
    ·rcases yo.1 d with d|d
     ·simp at d;omega
     ·have:=z.o.grow.lt k d;omega
    ·simp at d;omega)
   have f:=yb z.o.ms.lt
   have co:Hid (¬ F wr.heap.size):=yb (fun h=>by have:=s.o _ h;have:=f.o;omega)
   clear T a0 a2 bz al x0
   go_upto_region 13 with (first
    |(with_reducible refine yj rfl 57 _ rfl bq (oq+i*7) (by kernel_rfl) ct _ ay.o qI (by kernel_rfl) (BW (n:=7) (by kernel_rfl) A.o) ?_)
    |(with_reducible refine Aj rfl 57 _ _ rfl wr.heap.size (by kernel_rfl) ct (by kernel_rfl) (World.alloc_heap_new _ _) (by rw[yB,A.o];kernel_rfl) (BW (n:=7) (by kernel_rfl) A.o) ar.o ?_;intro X1 bg;have a1:=yb bg;clear bg))
   have Q:Hid (TB F wr 57 (.string nm::c0) X1):=yb (by rw[<-c7.o];exact EE a1.o)
   have Y:Hid (J bb X1):=yb (HC.o.stab _ _ _ HJ.o (fun k d=>(AB a1.o).block k (by have:=s.o k d;have:=f.o;omega)) (AB a1.o).size)
   have bk:Hid (VE G (([w.heap.size,w.heap.size+1,w.heap.size+2]++ob (.slice va E C))++[wr.heap.size]) X1 [c0] [e0]):=yb (At.mono (fun _ _ h=>h.flux ((z.o.ms.bx.trans (Q.o.bx.mono z.o.ms.bx.size)).flux (ye _) O.o) (fun k d=>d.imp (fun h=>h) (fun h=>(ba.o k h).1))) b4.o)
   clear a1 ay b4
   have be:=yb (Q.o.part (p:=(.string nm::([]:LV))) (m:=c0) (q:=([]:LV)) (off:=1) (by simp) (by simp))
   have aj:=bk.o.1
   have ao:=yb aj.len
   have ac:=yb (B6 HC.o e0 (FL G (([w.heap.size,w.heap.size+1,w.heap.size+2]++ob (.slice va E C))++[wr.heap.size])) (bb) X1 c0 aq Y.o aj (fun k d=>.inl (O.o k d)) (fun k d=>by
    have h1:=Q.o.lt;have h2:=f.o
    rcases d with d|d
    ·have:=HG.o k d;omega
    ·have:=(ba.o k d).2;omega))
   clear aj
   go_upto_region 14 with (first
    |(with_reducible refine yj rfl 26 _ rfl wr.heap.size 1 (by kernel_rfl) c0 _ be.o qq (by kernel_rfl) (BV ao.o) ?_)
    |(go_at_call 65;refine ac.o.mono ?_;rintro e X2 ⟨res,rfl,ax,c3,ap⟩;have R:=yb ax;have c4:=yb c3;have ci:=yb ap;have av:=yb (Q.o.call (fun k d=>by have:=s.o k d;have:=f.o;omega) ap);clear ax c3 ap)
    |(with_reducible refine Cy rfl 26 _ _ rfl wr.heap.size 1 (by kernel_rfl) res (by kernel_rfl) (p:=(.string nm::([]:LV))) (m:=c0) (q:=([]:LV)) (t:=57) (by have h:=av.o.row;simpa[yl] using h) (by simp) (by rw[ao.o,R.o.len]) (BV R.o.len) (Ai R.o) ?_;intro X3 az;have U:Hid (AF X2 X3 wr.heap.size (.string nm::res) 57):=yb (by simpa[yl] using az);clear az))
   have hT:=av.o.wrote U.o
   have HR:Hid (AP (GF (FL G (([w.heap.size,w.heap.size+1,w.heap.size+2]++ob (.slice va E C))++[wr.heap.size])) X3) X3 (AM g e0) res):=yb (R.o.fl (U.o.flux (.inr (by simp))) (fun _ h=>.inl h))
   have hj:=HC.o.stab _ _ _ c4.o (fun k d=>U.o.block k (by have:=s.o k d;have:=f.o;omega)) (by rw[U.o.size];exact ye _)
   clear Q av Y c4 bk R ci U be ao ac
   have Q:=yb hT;have Y:=yb hj
   clear hT hj
   obtain ⟨H,ai⟩:∃r:LV,r=(.string nm::res):=⟨_,rfl⟩
   rw[<-ai] at Q
   have ag:Hid (Dq (GF (FL G ([w.heap.size,w.heap.size+1,w.heap.size+2]++ob (.slice va E C))) X3) X3 H (EN g ⟨nm,e0⟩)):=yb (by
    rw[ai]
    have x0:AP (GF (FL G ([w.heap.size,w.heap.size+1,w.heap.size+2]++ob (.slice va E C))) X3) X3 (AM g e0) res:=HR.o.fl (Bj.refl _ _) (fun k d=>.inl (yo.2 (.inl d)))
    exact ⟨cc.o,_,rfl,x0⟩)
   clear ai HR
   have a7:=yb (KB ag.o).1;have ch:=yb (KB ag.o).2
   have au:Hid (MS F w cs (P++(.slice va E C:: qU)) X3):=yb (z.o.ms.up s.o f.o Q.o.bx)
   have cn:X3.cell? (aV (w.heap.size+2) 20)=some (.slice va E C):=au.o.cellx rfl bn.o
   have bw:Hid (Bj (FL G ([w.heap.size,w.heap.size+1,w.heap.size+2]++ob (.slice va E C))) wr X3):=yb (Q.o.bx.flux (ye _) (fun k d=>.inl (O.o k d)))
   have bm:=z.o.grow.up (l':=[w.heap.size,w.heap.size+1,w.heap.size+2]) EW bw.o (fun k d=>Q.o.bx.block k (z.o.grow.lt k d).2 (fun h=>by have:=s.o k h;have:=(z.o.grow.lt k d).1;omega)) (fun _ h=>.inl h)
   obtain ⟨rows,a6,bj,X⟩:=bm.own
   have c6:=yb a6;have cf:=yb bj;have bs:=yb X
   have aa:Hid (w.heap.size+3<=X3.heap.size):=yb au.o.lt
   have aw:Hid ((X3.alloc (.cells H.toArray 57)).ownsRow (w.heap.size+3) 57 7 (.slice va E C) rows.length rows.flatten):=yb (BA a6 fun k d=>((yg _ _).alloc (ye _) _).block k (F9 a6 k d).2)
   have b3:Hid (rows.length+1<=1000000):=yb (by rw[At.length X,c9.o];exact cl.o)
   have cg:Hid (w.heap.size+3<=(X3.alloc (.cells H.toArray 57)).heap.size):=yb (by have:=aa.o;simp;omega)
   clear a6 bj X bm
   go_upto_region 15 with (first
    |(with_reducible refine yj rfl 57 _ rfl wr.heap.size 0 (by kernel_rfl) H _ (Ay Q.o.row) qI (by kernel_rfl) (BW (n:=7) (by kernel_rfl) a7.o) ?_)
    |(with_reducible refine BN rfl 28 57 _ rfl H (by kernel_rfl) 7 qu (by kernel_rfl) a7.o (by omega) (by omega) ?_)
    |(at_builtin;refine Bd qu rfl _ _ rfl 7 (by kernel_rfl) (by omega) (w.heap.size+3) (.slice va E C) rows.length rows.flatten (by kernel_rfl) aw.o X3.heap.size 1 H (by kernel_rfl) (World.alloc_heap_new _ _) a7.o ch.o b3.o cg.o ?_;intro vx x8 V bh b8;obtain ⟨xa,xn,xc,rfl⟩:=Cz V;have B:=yb (CD EW bs.o cf.o c6.o ag.o a7.o V bh b8 aa.o);have ab:=yb (au.o.up s.o (ye _) (.of B.o.below));clear V bh b8)
    |(with_reducible refine Ao rfl 28 _ _ rfl (w.heap.size+2) 20 (by kernel_rfl) (.slice xa xn xc) (by kernel_rfl) (by kernel_rfl) (p:=P) (m:=.slice va E C) (q:= qU) (t:=35) ab.o.x bn.o (by kernel_rfl) (by kernel_rfl) ?_;intro x9 bv;have M:=yb bv;clear bv))
   go_wp2
   have c8:Hid (I (i+1) x9):=yb (by
    rw[HI.o]
    refine ⟨.slice xa xn xc,ab.o.wrote M.o,?_,?_,?_⟩
    ·rw[show (b&&(x.crops.take (i+1)).all (Gy q))=(bb&&AV q e0) by rw[a8.o];simp[Gy,zc]]
     exact HC.o.stab _ _ _ Y.o (fun k d=>(M.o.block k (by have:=s.o k d;omega)).trans (B.o.below.block k (by have:=s.o k d;omega))) (by rw[M.o.size];exact B.o.flux.1)
    ·exact ((z.o.got.flux bw.o (fun _ h=>.inl h)).flux B.o.flux (Im B.o.obs)).flux (M.o.flux (.inr (by simp))) (fun _ h=>.inl h)
    ·have h:=B.o.grow.up (l':=[w.heap.size,w.heap.size+1,w.heap.size+2]) EW (M.o.flux (.inr (by simp))) (fun k d=>M.o.block k (by have:=(B.o.grow.lt k d).1;omega)) (fun _ h=>.inl h)
     rw[<-ah.o] at h
     exact h)
   exact ⟨⟨i+1,by push_cast;rfl,by omega,c8⟩,by simp[intOf];omega⟩
  ·obtain rfl:i=n:=by omega
   have cb:decide ((i:Int) < (i:Int))=false:=by simp
   have HQ:Hid (J (b&&x.crops.all (Gy q)) wr):=yb (by have h:=z.o.j;simp only[S.o,yw] at h;exact h)
   have b7:DA Dq 57 7 (w.heap.size+3) G [w.heap.size,w.heap.size+1,w.heap.size+2] wr (.slice va E C) (x.crops.map (EN g)):=by have h:=z.o.grow;simp only[S.o,yw] at h;exact h
   obtain ⟨hd,c5,bi⟩:=b7.done EW (fun k d=>by have:=HG.o k d;omega) (fun k d=>by simp at d;omega) (by have:=an.o;simp;omega)
   have ck:Hid (Dl 2 (GF (FL G [w.heap.size,w.heap.size+1,w.heap.size+2]) wr) wr c0 c1 c2 h0 hd ⟨none,0,0⟩ ⟨none,0,0⟩ ⟨none,0,0⟩ ⟨none,0,0⟩ ⟨none,0,0⟩ (⟨y.name,y.season,y.cap,y.start,y.lets,(x.crops.map (EN g)),y.reaches,y.farms,y.rots,y.rights,y.duties⟩:An)):=yb (by
    have h:=z.o.got.flux (F':=FL G [w.heap.size,w.heap.size+1,w.heap.size+2]) (Bj.refl _ _) (fun k d=>.inl (d.imp (fun h=>h) (fun h=>yo.2 (.inl h))))
    exact ⟨h.name,h.e0,h.e1,h.e2,fun d=>h.lets (by omega),fun _=>bi,fun d=>absurd d (by omega),fun d=>absurd d (by omega),fun d=>absurd d (by omega),fun d=>absurd d (by omega),fun d=>absurd d (by omega)⟩)
   rw[c5] at z
   have cd:=yb z.o.ms
   clear b7 c5 bi z
   go_wp2
   refine hK.o _ _ ?_
   refine FC (P:=fun l=>Code.wp Try.prog _ _ ⟨l,[]⟩ wr) rfl ?_
   refine TF (y:=(⟨y.name,y.season,y.cap,y.start,y.lets,(x.crops.map (EN g)),y.reaches,y.farms,y.rots,y.rights,y.duties⟩:An)) HC.o HV.o b5.o O.o HG.o ?_ (by have h:=cd.o;rw[ca.o] at h;simpa[yl] using h) ck.o HQ.o
   exact ⟨rfl,rfl,rfl,rfl⟩
set_option linter.unusedSimpArgs false
theorem Ux{id:Nat}{caps:Array Value}{F G:NP}{J:Bool->World->Prop}{g:Int->Rf->Rf}{q:Int->Rf->Bool}{b:Bool}{w W:World}{cs:LV}{u:Nat->Value}{x y:An}{L:Bh}{c0 c1 c2:LV}(hc:Jo id caps F g q J)(hv:B8 (GF G w) w L cs x)(ad:Sh x)(ae:∀k,F k->G k)(hG:∀k,G k->k < w.heap.size)(hu:UF id caps w u)
 (hS:MS F w cs (.string y.name::(c0++(c1++(c2++[.slice none 0 0,.slice none 0 0,.slice none 0 0,.slice none 0 0,.slice none 0 0,.slice none 0 0,.slice none 0 0])))) W)(hY:Dl 0 (GF (FL G [w.heap.size,w.heap.size+1,w.heap.size+2]) W) W c0 c1 c2 ⟨none,0,0⟩ ⟨none,0,0⟩ ⟨none,0,0⟩ ⟨none,0,0⟩ ⟨none,0,0⟩ ⟨none,0,0⟩ ⟨none,0,0⟩ y)(hJ:J b W):
  Code.wp Try.prog (CP 4 (Try.f17.body.getD .skip)) (bodyPost Try.prog Try.f17 (MP F G J (((((((b&&x.lets.all (KD q))&&x.crops.all (Gy q))&&x.reaches.zipIdx.all (fun p=>Eg q p.2 p.1))&&x.farms.all (FD q))&&x.rots.all (I8 q))&&x.rights.all (Dn q))&&x.duties.all (ED q)) (⟨y.name,y.season,y.cap,y.start,(x.lets.map (I7 g)),(x.crops.map (EN g)),(x.reaches.zipIdx.map (fun p=>CM g p.2 p.1)),(x.farms.map (DH g)),(x.rots.map (Ge g)),(x.rights.map (Cx g)),(x.duties.map (Du g))⟩:An) w)) {tmps:=J0 u,defers:=[]} W:=by
 have bu:∀k,F k->k < w.heap.size:=fun k d=>hG k (ae k d)
 obtain ⟨⟨a,n,c⟩,hL⟩:∃h:Av,L.lets=h:=⟨_,rfl⟩
 obtain ⟨s0,s1,s2,b9,g0,g1,g2⟩:=hv.cells
 have am:W.cell? (aV w.heap.size 19)=some (.slice a n c):=by
  refine hS.cell (p:=.string x.name::(s0++(s1++(s2++[])))) (q:=[L.crops.v,L.reaches.v,L.farms.v,L.rots.v,L.rights.v,L.duties.v]) ?_ (by simp[g0.len,g1.len,g2.len])
  rw[b9,hL]
  simp[yl,Av.v]
 have ak:Az (GF G w) w 7 (FP (GF G w) w) ⟨a,n,c⟩ x.lets:=hL▸hv.lets
 have cj:=yb ak.2.2
 have S:Hid (n=x.lets.length):=yb ak.1
 have an:Hid (x.lets.length<=100000):=yb ad.slim.lets
 have HN:Hid (n<=140737488355328):=yb (by have:=S.o;have:=an.o;omega)
 obtain ⟨P,hP⟩:∃P:LV,P=.string y.name::(c0++(c1++(c2++[]))):=⟨_,rfl⟩
 have bn:Hid (P.length=19):=yb (by rw[hP];simp[hY.e0.len,hY.e1.len,hY.e2.len])
 have bt:MS F w cs (P++(.slice none 0 0:: qT)) W:=by rw[hP];simpa[yl] using hS
 obtain ⟨I,hI⟩:∃I:Nat->World->Prop,I=fun i W=>∃v,MI FP 55 7 F G J b w cs P qT (fun N W=>Dl 0 N W c0 c1 c2 ⟨none,0,0⟩ ⟨none,0,0⟩ ⟨none,0,0⟩ ⟨none,0,0⟩ ⟨none,0,0⟩ ⟨none,0,0⟩ ⟨none,0,0⟩ y) (fun i=>(x.lets.take i).all (KD q)) (fun i=>(x.lets.take i).map (I7 g)) i v W:=⟨_,rfl⟩
 have bo:Hid (I 0 W):=yb (by
  rw[hI]
  exact ⟨_,bt,by simpa using hJ,by simpa[ob,Value.ownBlock] using hY,by simpa using DQ⟩)
 have HI:=yb hI;have HV:=yb hv;have HC:=yb hc;have b5:=yb ad;have O:=yb ae;have HG:=yb hG;have s:=yb bu;have ca:=yb hP;have HU:=yb hu;have cq:=yb hY.name
 rw[FB,hu.u1,hu.u2,hu.u4,hu.u5]
 clear hv ad hc ae hG bu hS hY hJ hP hL b9 g0 g1 g2 ak bt hI hu
 refine Ag fun K hK=>?_
 go_wp2
 go_loopw [50] (fun iv wr=>∃i:Nat,iv=iV i∧i<=n∧Hid (I i wr)) (fun iv _=>n - (intOf iv).toNat)
 case atStart=>exact ⟨0,rfl,yz _,bo⟩
 case round=>
  clear bo am
  obtain ⟨i,rfl,hi,bd⟩:=hrel
  obtain ⟨v,hM⟩:∃v,MI FP 55 7 F G J b w cs P qT (fun N W=>Dl 0 N W c0 c1 c2 ⟨none,0,0⟩ ⟨none,0,0⟩ ⟨none,0,0⟩ ⟨none,0,0⟩ ⟨none,0,0⟩ ⟨none,0,0⟩ ⟨none,0,0⟩ y) (fun i=>(x.lets.take i).all (KD q)) (fun i=>(x.lets.take i).map (I7 g)) i v wr:=by have h:=bd.o;rw[HI.o] at h;exact h
  obtain ⟨va,E,C,rfl⟩:=hM.grow.slice
  have z:=yb hM
  clear bd hM
  have cm:n<=140737488355328:=HN.o
  by_cases ce:i < n
  ·have Z:i < x.lets.length:=by rw[<-S.o];exact ce
   have cb:(i:Int) < (n:Int):=by omega
   obtain ⟨bq,oq,ct,he,a2,bz,a0,af⟩:=cj.o i Z
   obtain rfl:a=some (aV bq oq):=he
   have a8:Hid ((b&&(x.lets.take (i+1)).all (KD q))=((b&&(x.lets.take i).all (KD q))&&KD q x.lets[i])):=yb (by
    rw[yq Z,zh,ze,zu,yT,<-zc])
   have ah:Hid ((x.lets.take (i+1)).map (I7 g)=(x.lets.take i).map (I7 g)++[I7 g x.lets[i]]):=yb (by rw[yq Z,zb];rfl)
   have cl:Hid (i+1<=1000000):=yb (by have:=S.o;have:=an.o;omega)
   have aq:=yb (b5.o.lets _ (yy Z))
   have c9:Hid (((x.lets.take i).map (I7 g)).length=i):=yb (by simp;omega)
   generalize hD:x.lets[i]=D at af a8 ah aq
   clear hD
   generalize bp:(b&&(x.lets.take i).all (KD q))=bb at a8
   have HJ:Hid (J bb wr):=yb (by rw[<-bp];exact z.o.j)
   clear bp
   have ar:=yb (MD af).2
   have A:=yb bz
   obtain ⟨nm,e0⟩:=D
   obtain ⟨al,c0,rfl,x0⟩:=af
   simp only at a0 A ar a8 ah aq al x0
   obtain ⟨ct,T⟩:∃ct:LV,ct=(.string nm::c0):=⟨_,rfl⟩
   rw[<-T] at a0 A ar
   have c7:=yb T
   have cc:=yb al
   have ay:Hid (wr.rangeAt bq (oq+i*7) ct):=yb (A2 a0 (z.o.ms.bx.block bq a2.2 (fun k=>a2.1 (O.o _ k))))
   have cp:Hid (bq < wr.heap.size):=yb (yp a2.2 z.o.ms.bx.size)
   have b4:Hid (At (fun c e=>AP (GF G w) w e c) [c0] [e0]):=yb ⟨x0,trivial⟩
   have ba:Hid (∀k∈(([w.heap.size,w.heap.size+1,w.heap.size+2]++ob (.slice va E C))++[wr.heap.size]),w.heap.size<=k∧k<=wr.heap.size):=yb (by
    have h1:=z.o.ms.lt
    intro k d
    rcases yo.1 d with d|d
    ·rcases yo.1 d with d|d
     ·simp at d;omega
     ·have:=z.o.grow.lt k d;omega
    ·simp at d;omega)
   have f:=yb z.o.ms.lt
   have co:Hid (¬ F wr.heap.size):=yb (fun h=>by have:=s.o _ h;have:=f.o;omega)
   clear T a0 a2 bz al x0
   go_upto_region 7 with (first
    |(with_reducible refine yj rfl 55 _ rfl bq (oq+i*7) (by kernel_rfl) ct _ ay.o qH (by kernel_rfl) (BW (n:=7) (by kernel_rfl) A.o) ?_)
    |(with_reducible refine Aj rfl 55 _ _ rfl wr.heap.size (by kernel_rfl) ct (by kernel_rfl) (World.alloc_heap_new _ _) (by rw[yB,A.o];kernel_rfl) (BW (n:=7) (by kernel_rfl) A.o) ar.o ?_;intro X1 bg;have a1:=yb bg;clear bg))
   have Q:Hid (TB F wr 55 (.string nm::c0) X1):=yb (by rw[<-c7.o];exact EE a1.o)
   have Y:Hid (J bb X1):=yb (HC.o.stab _ _ _ HJ.o (fun k d=>(AB a1.o).block k (by have:=s.o k d;have:=f.o;omega)) (AB a1.o).size)
   have bk:Hid (VE G (([w.heap.size,w.heap.size+1,w.heap.size+2]++ob (.slice va E C))++[wr.heap.size]) X1 [c0] [e0]):=yb (At.mono (fun _ _ h=>h.flux ((z.o.ms.bx.trans (Q.o.bx.mono z.o.ms.bx.size)).flux (ye _) O.o) (fun k d=>d.imp (fun h=>h) (fun h=>(ba.o k h).1))) b4.o)
   clear a1 ay b4
   have be:=yb (Q.o.part (p:=(.string nm::([]:LV))) (m:=c0) (q:=([]:LV)) (off:=1) (by simp) (by simp))
   have aj:=bk.o.1
   have ao:=yb aj.len
   have ac:=yb (B6 HC.o e0 (FL G (([w.heap.size,w.heap.size+1,w.heap.size+2]++ob (.slice va E C))++[wr.heap.size])) (bb) X1 c0 aq Y.o aj (fun k d=>.inl (O.o k d)) (fun k d=>by
    have h1:=Q.o.lt;have h2:=f.o
    rcases d with d|d
    ·have:=HG.o k d;omega
    ·have:=(ba.o k d).2;omega))
   clear aj
   go_upto_region 8 with (first
    |(with_reducible refine yj rfl 26 _ rfl wr.heap.size 1 (by kernel_rfl) c0 _ be.o qq (by kernel_rfl) (BV ao.o) ?_)
    |(go_at_call 65;refine ac.o.mono ?_;rintro e X2 ⟨res,rfl,ax,c3,ap⟩;have R:=yb ax;have c4:=yb c3;have ci:=yb ap;have av:=yb (Q.o.call (fun k d=>by have:=s.o k d;have:=f.o;omega) ap);clear ax c3 ap)
    |(with_reducible refine Cy rfl 26 _ _ rfl wr.heap.size 1 (by kernel_rfl) res (by kernel_rfl) (p:=(.string nm::([]:LV))) (m:=c0) (q:=([]:LV)) (t:=55) (by have h:=av.o.row;simpa[yl] using h) (by simp) (by rw[ao.o,R.o.len]) (BV R.o.len) (Ai R.o) ?_;intro X3 az;have U:Hid (AF X2 X3 wr.heap.size (.string nm::res) 55):=yb (by simpa[yl] using az);clear az))
   have hT:=av.o.wrote U.o
   have HR:Hid (AP (GF (FL G (([w.heap.size,w.heap.size+1,w.heap.size+2]++ob (.slice va E C))++[wr.heap.size])) X3) X3 (AM g e0) res):=yb (R.o.fl (U.o.flux (.inr (by simp))) (fun _ h=>.inl h))
   have hj:=HC.o.stab _ _ _ c4.o (fun k d=>U.o.block k (by have:=s.o k d;have:=f.o;omega)) (by rw[U.o.size];exact ye _)
   clear Q av Y c4 bk R ci U be ao ac
   have Q:=yb hT;have Y:=yb hj
   clear hT hj
   obtain ⟨H,ai⟩:∃r:LV,r=(.string nm::res):=⟨_,rfl⟩
   rw[<-ai] at Q
   have ag:Hid (FP (GF (FL G ([w.heap.size,w.heap.size+1,w.heap.size+2]++ob (.slice va E C))) X3) X3 H (I7 g ⟨nm,e0⟩)):=yb (by
    rw[ai]
    have x0:AP (GF (FL G ([w.heap.size,w.heap.size+1,w.heap.size+2]++ob (.slice va E C))) X3) X3 (AM g e0) res:=HR.o.fl (Bj.refl _ _) (fun k d=>.inl (yo.2 (.inl d)))
    exact ⟨cc.o,_,rfl,x0⟩)
   clear ai HR
   have a7:=yb (MD ag.o).1;have ch:=yb (MD ag.o).2
   have au:Hid (MS F w cs (P++(.slice va E C:: qT)) X3):=yb (z.o.ms.up s.o f.o Q.o.bx)
   have cn:X3.cell? (aV (w.heap.size+2) 19)=some (.slice va E C):=au.o.cellx rfl bn.o
   have bw:Hid (Bj (FL G ([w.heap.size,w.heap.size+1,w.heap.size+2]++ob (.slice va E C))) wr X3):=yb (Q.o.bx.flux (ye _) (fun k d=>.inl (O.o k d)))
   have bm:=z.o.grow.up (l':=[w.heap.size,w.heap.size+1,w.heap.size+2]) G5 bw.o (fun k d=>Q.o.bx.block k (z.o.grow.lt k d).2 (fun h=>by have:=s.o k h;have:=(z.o.grow.lt k d).1;omega)) (fun _ h=>.inl h)
   obtain ⟨rows,a6,bj,X⟩:=bm.own
   have c6:=yb a6;have cf:=yb bj;have bs:=yb X
   have aa:Hid (w.heap.size+3<=X3.heap.size):=yb au.o.lt
   have aw:Hid ((X3.alloc (.cells H.toArray 55)).ownsRow (w.heap.size+3) 55 7 (.slice va E C) rows.length rows.flatten):=yb (BA a6 fun k d=>((yg _ _).alloc (ye _) _).block k (F9 a6 k d).2)
   have b3:Hid (rows.length+1<=1000000):=yb (by rw[At.length X,c9.o];exact cl.o)
   have cg:Hid (w.heap.size+3<=(X3.alloc (.cells H.toArray 55)).heap.size):=yb (by have:=aa.o;simp;omega)
   clear a6 bj X bm
   go_upto_region 9 with (first
    |(with_reducible refine yj rfl 55 _ rfl wr.heap.size 0 (by kernel_rfl) H _ (Ay Q.o.row) qH (by kernel_rfl) (BW (n:=7) (by kernel_rfl) a7.o) ?_)
    |(with_reducible refine BN rfl 27 55 _ rfl H (by kernel_rfl) 7 qt (by kernel_rfl) a7.o (by omega) (by omega) ?_)
    |(at_builtin;refine Bd qt rfl _ _ rfl 7 (by kernel_rfl) (by omega) (w.heap.size+3) (.slice va E C) rows.length rows.flatten (by kernel_rfl) aw.o X3.heap.size 1 H (by kernel_rfl) (World.alloc_heap_new _ _) a7.o ch.o b3.o cg.o ?_;intro vx x8 V bh b8;obtain ⟨xa,xn,xc,rfl⟩:=Cz V;have B:=yb (CD G5 bs.o cf.o c6.o ag.o a7.o V bh b8 aa.o);have ab:=yb (au.o.up s.o (ye _) (.of B.o.below));clear V bh b8)
    |(with_reducible refine Ao rfl 27 _ _ rfl (w.heap.size+2) 19 (by kernel_rfl) (.slice xa xn xc) (by kernel_rfl) (by kernel_rfl) (p:=P) (m:=.slice va E C) (q:= qT) (t:=35) ab.o.x bn.o (by kernel_rfl) (by kernel_rfl) ?_;intro x9 bv;have M:=yb bv;clear bv))
   go_wp2
   have c8:Hid (I (i+1) x9):=yb (by
    rw[HI.o]
    refine ⟨.slice xa xn xc,ab.o.wrote M.o,?_,?_,?_⟩
    ·rw[show (b&&(x.lets.take (i+1)).all (KD q))=(bb&&AV q e0) by rw[a8.o];simp[KD,zc]]
     exact HC.o.stab _ _ _ Y.o (fun k d=>(M.o.block k (by have:=s.o k d;omega)).trans (B.o.below.block k (by have:=s.o k d;omega))) (by rw[M.o.size];exact B.o.flux.1)
    ·exact ((z.o.got.flux bw.o (fun _ h=>.inl h)).flux B.o.flux (Im B.o.obs)).flux (M.o.flux (.inr (by simp))) (fun _ h=>.inl h)
    ·have h:=B.o.grow.up (l':=[w.heap.size,w.heap.size+1,w.heap.size+2]) G5 (M.o.flux (.inr (by simp))) (fun k d=>M.o.block k (by have:=(B.o.grow.lt k d).1;omega)) (fun _ h=>.inl h)
     rw[<-ah.o] at h
     exact h)
   exact ⟨⟨i+1,by push_cast;rfl,by omega,c8⟩,by simp[intOf];omega⟩
  ·obtain rfl:i=n:=by omega
   have cb:decide ((i:Int) < (i:Int))=false:=by simp
   have HQ:Hid (J (b&&x.lets.all (KD q)) wr):=yb (by have h:=z.o.j;simp only[S.o,yw] at h;exact h)
   have b7:DA FP 55 7 (w.heap.size+3) G [w.heap.size,w.heap.size+1,w.heap.size+2] wr (.slice va E C) (x.lets.map (I7 g)):=by have h:=z.o.grow;simp only[S.o,yw] at h;exact h
   obtain ⟨hd,c5,bi⟩:=b7.done G5 (fun k d=>by have:=HG.o k d;omega) (fun k d=>by simp at d;omega) (by have:=an.o;simp;omega)
   have ck:Hid (Dl 1 (GF (FL G [w.heap.size,w.heap.size+1,w.heap.size+2]) wr) wr c0 c1 c2 hd ⟨none,0,0⟩ ⟨none,0,0⟩ ⟨none,0,0⟩ ⟨none,0,0⟩ ⟨none,0,0⟩ ⟨none,0,0⟩ (⟨y.name,y.season,y.cap,y.start,(x.lets.map (I7 g)),y.crops,y.reaches,y.farms,y.rots,y.rights,y.duties⟩:An)):=yb (by
    have h:=z.o.got.flux (F':=FL G [w.heap.size,w.heap.size+1,w.heap.size+2]) (Bj.refl _ _) (fun k d=>.inl (d.imp (fun h=>h) (fun h=>yo.2 (.inl h))))
    exact ⟨h.name,h.e0,h.e1,h.e2,fun _=>bi,fun d=>absurd d (by omega),fun d=>absurd d (by omega),fun d=>absurd d (by omega),fun d=>absurd d (by omega),fun d=>absurd d (by omega),fun d=>absurd d (by omega)⟩)
   rw[c5] at z
   have cd:=yb z.o.ms
   clear b7 c5 bi z
   go_wp2
   refine hK.o _ _ ?_
   refine FC (P:=fun l=>Code.wp Try.prog _ _ ⟨l,[]⟩ wr) rfl ?_
   refine Uc (y:=(⟨y.name,y.season,y.cap,y.start,(x.lets.map (I7 g)),y.crops,y.reaches,y.farms,y.rots,y.rights,y.duties⟩:An)) HC.o HV.o b5.o O.o HG.o ?_ (by have h:=cd.o;rw[ca.o] at h;simpa[yl] using h) ck.o HQ.o
   exact ⟨rfl,rfl,rfl,rfl⟩
set_option linter.unusedSimpArgs false
def Jq(g:Int->Rf->Rf)(x:An):An:=⟨x.name,AM g x.season,AM g x.cap,AM g x.start,x.lets.map (I7 g),x.crops.map (EN g),x.reaches.zipIdx.map (fun p=>CM g p.2 p.1),x.farms.map (DH g),x.rots.map (Ge g),x.rights.map (Cx g),x.duties.map (Du g)⟩
def Uy(q:Int->Rf->Bool)(b:Bool)(x:An):Bool:=(((((((((b&&AV q x.season)&&AV q x.cap)&&AV q x.start)&&x.lets.all (KD q))&&x.crops.all (Gy q))&&x.reaches.zipIdx.all (fun p=>Eg q p.2 p.1))&&x.farms.all (FD q))&&x.rots.all (I8 q))&&x.rights.all (Dn q))&&x.duties.all (ED q)
theorem P1{id:Nat}{caps:Array Value}{F G:NP}{J:Bool->World->Prop}{g:Int->Rf->Rf}{q:Int->Rf->Bool}{b:Bool}{w:World}{cs:LV}{x:An}{L:Bh}(hc:Jo id caps F g q J)(hv:B8 (GF G w) w L cs x)(ap:Sh x)(al:∀k,F k->G k)(hG:∀k,G k->k < w.heap.size)(hJ:J b w):
  Calls Try.prog 17 #[.agg cs.toArray,.func (.func id) #[] caps] w (MP F G J (Uy q b x) (Jq g x) w):=by
 have az:∀k,F k->k < w.heap.size:=fun k A=>hG k (al k A)
 obtain ⟨c0,c1,c2,ac,x0,x1,x2⟩:=hv.cells
 have HV:=yb hv;have HC:=yb hc;have aa:=yb ap;have Q:=yb al;have HG:=yb hG;have R:=yb az;have HJ:=yb hJ
 have ai:=yb ac
 have b5:Hid (At (fun c e=>AP (GF G w) w e c) [c0,c1,c2] [x.season,x.cap,x.start]):=yb ⟨x0,x1,x2,trivial⟩
 have r:=yb x0.len;have j:=yb x1.len;have f:=yb x2.len
 have Z:Hid (cs.length=26):=yb (by rw[ac];simp[x0.len,x1.len,x2.len])
 have aw:Hid (∀v∈cs,v.oneCell'=true):=yb (by rw[ac];exact AI rfl (Ap (Ai x0) (Ap (Ai x1) (Ap (Ai x2) (by simp[Av.v,Value.oneCell'])))))
 clear hc hv ap al hG az hJ ac x0 x1 x2
 go_enter Try.func17,Try.ntmps17
 refine Ag fun K C=>?_
 go_wp2_with (first|(with_reducible refine F8 rfl 35 _ rfl cs.toArray (by kernel_rfl) ?_))
 refine C.o _ _ ?_
 clear C K
 obtain ⟨w1,O⟩:∃z:World,z=(w.alloc (.cells cs.toArray 35)).alloc (.cells #[.string {data:=#[]},iV 0,iV 0,iV 0,.string {data:=#[]},iV 0,.slice none 0 0,iV 0,iV 0,iV 0,.string {data:=#[]},iV 0,.slice none 0 0,iV 0,iV 0,iV 0,.string {data:=#[]},iV 0,.slice none 0 0,.slice none 0 0,.slice none 0 0,.slice none 0 0,.slice none 0 0,.slice none 0 0,.slice none 0 0,.slice none 0 0] 35):=⟨_,rfl⟩
 rw[<-O]
 have a2:w1=(w.alloc (.cells cs.toArray 35)).alloc (.cells Bo.toArray 35):=O
 clear O
 have O:=a2
 have am:Hid (Below w.heap.size w w1):=yb (by rw[O];exact ((yg _ _).alloc (ye _) _).alloc (by simp) _)
 have ah:Hid (w1.heap.size=w.heap.size+2):=yb (by rw[O];simp)
 have an:Hid (w1.heap[w.heap.size]?=some (.cells cs.toArray 35 (0,0))):=yb (by rw[O,yQ _ _ _ (by simp)];exact World.alloc_heap_new _ _)
 have ar:Hid (w1.heap[w.heap.size+1]?=some (.cells Bo.toArray 35 (0,0))):=yb (by
  have h:=World.alloc_heap_new (w.alloc (.cells cs.toArray 35)) (.cells Bo.toArray 35)
  rw[O];simpa using h)
 clear O a2
 refine Ag fun K C=>?_
 go_wp2_with (first
  |(with_reducible refine yj rfl 35 _ rfl w.heap.size 0 (by kernel_rfl) cs _ (Ay an.o) qB (by kernel_rfl) (BW (n:=26) (by kernel_rfl) Z.o) ?_)
  |(with_reducible refine Aj rfl 35 _ _ rfl w1.heap.size (by kernel_rfl) cs (by kernel_rfl) (World.alloc_heap_new _ _) (by rw[yB,Z.o];kernel_rfl) (BW (n:=26) (by kernel_rfl) Z.o) aw.o ?_;intro w2 a2;have ao:=yb a2;clear a2))
 rw[ah.o]
 refine C.o _ _ ?_
 clear C K
 rw[ah.o] at ao
 have a8:Hid (AF (w1.alloc (.cells Bo.toArray 35)) w2 (w.heap.size+2) (.string x.name::(c0++(c1++(c2++[L.lets.v,L.crops.v,L.reaches.v,L.farms.v,L.rots.v,L.rights.v,L.duties.v])))) 35):=yb (by rw[<-ai.o];exact ao.o)
 refine Ag fun K C=>?_
 go_wp2_with (first
  |(with_reducible refine Ao rfl 27 _ _ rfl (w.heap.size+2) 19 (by kernel_rfl) (.slice none 0 0) (by kernel_rfl) (by kernel_rfl) (p:=.string x.name::(c0++(c1++(c2++[])))) (m:=L.lets.v) (q:=[L.crops.v,L.reaches.v,L.farms.v,L.rots.v,L.rights.v,L.duties.v]) (t:=35) (by have h:=a8.o.row;simpa using h) (by simp[r.o,j.o,f.o]) (by kernel_rfl) (by kernel_rfl) ?_;intro v1 av;have ag:Hid (AF w2 v1 (w.heap.size+2) (.string x.name::(c0++(c1++(c2++[.slice none 0 0,L.crops.v,L.reaches.v,L.farms.v,L.rots.v,L.rights.v,L.duties.v])))) 35):=yb (by simpa using av);clear av)
  |(with_reducible refine Ao rfl 28 _ _ rfl (w.heap.size+2) 20 (by kernel_rfl) (.slice none 0 0) (by kernel_rfl) (by kernel_rfl) (p:=.string x.name::(c0++(c1++(c2++[.slice none 0 0])))) (m:=L.crops.v) (q:=[L.reaches.v,L.farms.v,L.rots.v,L.rights.v,L.duties.v]) (t:=35) (by have h:=ag.o.row;simpa using h) (by simp[r.o,j.o,f.o]) (by kernel_rfl) (by kernel_rfl) ?_;intro v2 D;have a7:Hid (AF v1 v2 (w.heap.size+2) (.string x.name::(c0++(c1++(c2++[.slice none 0 0,.slice none 0 0,L.reaches.v,L.farms.v,L.rots.v,L.rights.v,L.duties.v])))) 35):=yb (by simpa using D);clear D)
  |(with_reducible refine Ao rfl 29 _ _ rfl (w.heap.size+2) 21 (by kernel_rfl) (.slice none 0 0) (by kernel_rfl) (by kernel_rfl) (p:=.string x.name::(c0++(c1++(c2++ qY)))) (m:=L.reaches.v) (q:=[L.farms.v,L.rots.v,L.rights.v,L.duties.v]) (t:=35) (by have h:=a7.o.row;simpa using h) (by simp[r.o,j.o,f.o]) (by kernel_rfl) (by kernel_rfl) ?_;intro v3 b3;have af:Hid (AF v2 v3 (w.heap.size+2) (.string x.name::(c0++(c1++(c2++[.slice none 0 0,.slice none 0 0,.slice none 0 0,L.farms.v,L.rots.v,L.rights.v,L.duties.v])))) 35):=yb (by simpa using b3);clear b3)
  |(with_reducible refine Ao rfl 30 _ _ rfl (w.heap.size+2) 22 (by kernel_rfl) (.slice none 0 0) (by kernel_rfl) (by kernel_rfl) (p:=.string x.name::(c0++(c1++(c2++ qW)))) (m:=L.farms.v) (q:=[L.rots.v,L.rights.v,L.duties.v]) (t:=35) (by have h:=af.o.row;simpa using h) (by simp[r.o,j.o,f.o]) (by kernel_rfl) (by kernel_rfl) ?_;intro v4 au;have ae:Hid (AF v3 v4 (w.heap.size+2) (.string x.name::(c0++(c1++(c2++[.slice none 0 0,.slice none 0 0,.slice none 0 0,.slice none 0 0,L.rots.v,L.rights.v,L.duties.v])))) 35):=yb (by simpa using au);clear au)
  |(with_reducible refine Ao rfl 31 _ _ rfl (w.heap.size+2) 23 (by kernel_rfl) (.slice none 0 0) (by kernel_rfl) (by kernel_rfl) (p:=.string x.name::(c0++(c1++(c2++ qV)))) (m:=L.rots.v) (q:=[L.rights.v,L.duties.v]) (t:=35) (by have h:=ae.o.row;simpa using h) (by simp[r.o,j.o,f.o]) (by kernel_rfl) (by kernel_rfl) ?_;intro v5 aq;have ab:Hid (AF v4 v5 (w.heap.size+2) (.string x.name::(c0++(c1++(c2++[.slice none 0 0,.slice none 0 0,.slice none 0 0,.slice none 0 0,.slice none 0 0,L.rights.v,L.duties.v])))) 35):=yb (by simpa using aq);clear aq)
  |(with_reducible refine Ao rfl 32 _ _ rfl (w.heap.size+2) 24 (by kernel_rfl) (.slice none 0 0) (by kernel_rfl) (by kernel_rfl) (p:=.string x.name::(c0++(c1++(c2++ qU)))) (m:=L.rights.v) (q:=[L.duties.v]) (t:=35) (by have h:=ab.o.row;simpa using h) (by simp[r.o,j.o,f.o]) (by kernel_rfl) (by kernel_rfl) ?_;intro v6 ay;have ad:Hid (AF v5 v6 (w.heap.size+2) (.string x.name::(c0++(c1++(c2++[.slice none 0 0,.slice none 0 0,.slice none 0 0,.slice none 0 0,.slice none 0 0,.slice none 0 0,L.duties.v])))) 35):=yb (by simpa using ay);clear ay)
  |(with_reducible refine Ao rfl 33 _ _ rfl (w.heap.size+2) 25 (by kernel_rfl) (.slice none 0 0) (by kernel_rfl) (by kernel_rfl) (p:=.string x.name::(c0++(c1++(c2++ qT)))) (m:=L.duties.v) (q:=[]) (t:=35) (by have h:=ad.o.row;simpa using h) (by simp[r.o,j.o,f.o]) (by kernel_rfl) (by kernel_rfl) ?_;intro v7 ax;have a6:Hid (AF v6 v7 (w.heap.size+2) (.string x.name::(c0++(c1++(c2++ qS)))) 35):=yb (by simpa using ax);clear ax))
 refine C.o _ _ ?_
 clear C K
 have ak:Hid (Below w.heap.size w v7):=yb (by
  have h0:Below w.heap.size w w2:=a8.o.below (am.o.alloc am.o.size _) (by omega)
  exact a6.o.below (ad.o.below (ab.o.below (ae.o.below (af.o.below (a7.o.below (ag.o.below h0 (by omega)) (by omega)) (by omega)) (by omega)) (by omega)) (by omega)) (by omega))
 have a1:∀k,k < w.heap.size+2->v7.heap[k]?=w1.heap[k]?:=fun k A=>(a6.o.block k (by omega)).trans ((ad.o.block k (by omega)).trans ((ab.o.block k (by omega)).trans ((ae.o.block k (by omega)).trans ((af.o.block k (by omega)).trans ((a7.o.block k (by omega)).trans ((ag.o.block k (by omega)).trans ((a8.o.block k (by omega)).trans (((yg w1.heap.size w1).alloc (ye _) _).block k (by rw[ah.o];exact A)))))))))
 have a:Hid (MS F w cs (.string x.name::(c0++(c1++(c2++ qS)))) v7):=yb ⟨.of ak.o,(a1 _ (by omega)).trans an.o,⟨Bo,rfl,(a1 _ (by omega)).trans ar.o⟩,a6.o.row⟩
 clear a1 a8 ag a7 af ae ab ad a6 an ar am ah ao
 refine Ag fun K3 b4=>?_
 have d:Hid (VE G [w.heap.size,w.heap.size+1,w.heap.size+2] v7.drew [c0,c1,c2] [x.season,x.cap,x.start]):=yb (At.mono (fun _ _ h=>h.flux (a.o.bx.drew.flux (ye _) Q.o) (fun k A=>A.imp (fun h=>h) (fun h=>by simp at h;omega))) b5.o)
 have u:Hid (J b v7.drew):=yb (HC.o.stab _ _ _ HJ.o (fun k A=>ak.o.block k (R.o k A)) ak.o.size)
 have hm:=a.o.up R.o (ye _) (BX.refl F (w.heap.size+3) v7).drew
 clear a
 have a:=yb hm
 clear hm
 refine wp_region_noPanic ?_
 refine BT (by kernel_rfl) (fun W=>W.heap[w.heap.size]?=some (.cells cs.toArray 35 (0,0))) 17 ?_
 refine A0 (i:=0) (v:=pV w.heap.size 1) rfl (by kernel_rfl) (by kernel_rfl) (by kernel_rfl) (fun _ _ _ h=>h) (by kernel_rfl) (Or.inl ⟨by rfl,?_⟩) (fun _=>a.o.s) ?_
 ·intro w _;go_simp
 refine Ae (i:=1) (v:=.agg (c0).toArray) rfl (by kernel_rfl) (by kernel_rfl) (by kernel_rfl) (fun _ _ _ h=>h) (by kernel_rfl) (yK (by rfl) 26 _ rfl (w.heap.size) 1 (by kernel_rfl) (c0) _ (fun W hW=>BE hW (p:=(.string x.name::([]:LV))) (q:=(c1++(c2++[L.lets.v,L.crops.v,L.reaches.v,L.farms.v,L.rots.v,L.rights.v,L.duties.v]))) (by rw[ai.o];simp) (by simp[r.o,j.o,f.o])) qq rfl (BV r.o)) a.o.s ?_
 refine A0 (i:=2) (v:=.func (.func id) #[] caps) rfl (by kernel_rfl) (by kernel_rfl) (by kernel_rfl) (fun _ _ _ h=>h) (by kernel_rfl) (Or.inl ⟨by rfl,?_⟩) (fun _=>a.o.s) ?_
 ·intro w _;go_simp
 refine A0 (i:=4) (v:=pV w.heap.size 7) rfl (by kernel_rfl) (by kernel_rfl) (by kernel_rfl) (fun _ _ _ h=>h) (by kernel_rfl) (Or.inl ⟨by rfl,?_⟩) (fun _=>a.o.s) ?_
 ·intro w _;go_simp
 refine Ae (i:=5) (v:=.agg (c1).toArray) rfl (by kernel_rfl) (by kernel_rfl) (by kernel_rfl) (fun _ _ _ h=>h) (by kernel_rfl) (yK (by rfl) 26 _ rfl (w.heap.size) 7 (by kernel_rfl) (c1) _ (fun W hW=>BE hW (p:=(.string x.name::(c0++([]:LV)))) (q:=(c2++[L.lets.v,L.crops.v,L.reaches.v,L.farms.v,L.rots.v,L.rights.v,L.duties.v])) (by rw[ai.o];simp) (by simp[r.o,j.o,f.o])) qq rfl (BV j.o)) a.o.s ?_
 refine A0 (i:=6) (v:=.func (.func id) #[] caps) rfl (by kernel_rfl) (by kernel_rfl) (by kernel_rfl) (fun _ _ _ h=>h) (by kernel_rfl) (Or.inl ⟨by rfl,?_⟩) (fun _=>a.o.s) ?_
 ·intro w _;go_simp
 refine A0 (i:=8) (v:=pV w.heap.size 13) rfl (by kernel_rfl) (by kernel_rfl) (by kernel_rfl) (fun _ _ _ h=>h) (by kernel_rfl) (Or.inl ⟨by rfl,?_⟩) (fun _=>a.o.s) ?_
 ·intro w _;go_simp
 refine Ae (i:=9) (v:=.agg (c2).toArray) rfl (by kernel_rfl) (by kernel_rfl) (by kernel_rfl) (fun _ _ _ h=>h) (by kernel_rfl) (yK (by rfl) 26 _ rfl (w.heap.size) 13 (by kernel_rfl) (c2) _ (fun W hW=>BE hW (p:=(.string x.name::(c0++(c1++([]:LV))))) (q:=[L.lets.v,L.crops.v,L.reaches.v,L.farms.v,L.rots.v,L.rights.v,L.duties.v]) (by rw[ai.o];simp) (by simp[r.o,j.o,f.o])) qq rfl (BV f.o)) a.o.s ?_
 refine A0 (i:=10) (v:=.func (.func id) #[] caps) rfl (by kernel_rfl) (by kernel_rfl) (by kernel_rfl) (fun _ _ _ h=>h) (by kernel_rfl) (Or.inl ⟨by rfl,?_⟩) (fun _=>a.o.s) ?_
 ·intro w _;go_simp
 refine A3 (i:=3) (by kernel_rfl) rfl (fun K C=>?_)
 go_simp
 have H:=yb (B6 HC.o x.season (FL G [w.heap.size,w.heap.size+1,w.heap.size+2]) (b) v7.drew c0 aa.o.season u.o (by obtain ⟨Y,w1,w2,_⟩:=d.o;exact Y) (fun k A=>.inl (Q.o k A)) (fun k A=>by
  have h1:=a.o.lt
  rcases A with A|A
  ·have:=HG.o k A;omega
  ·simp at A;omega))
 refine H.o.mono ?_
 rintro e Z0 ⟨E,rfl,D,X,I⟩
 have M:=a.o.up R.o a.o.lt I
 have U:VE G [w.heap.size,w.heap.size+1,w.heap.size+2] Z0 [E,c1,c2] [AM g x.season,x.cap,x.start]:=by
  obtain ⟨Y,w1,w2,_⟩:=d.o.bcall I Q.o
  exact ⟨D,w1,w2,trivial⟩
 have S:=yb D.len
 refine C.o _ _ (fun _=>M.s) ?_
 clear C K a d u H D I
 have a:=yb M;have d:=yb U;have u:=yb X
 clear M U X
 refine A0 (i:=12) (v:=pV (w.heap.size+2) 1) rfl (by kernel_rfl) (by kernel_rfl) (by kernel_rfl) (fun _ _ _ h=>h) (by kernel_rfl) (Or.inl ⟨by rfl,?_⟩) (fun _=>a.o.s) ?_
 ·intro w _;go_simp
 refine A3 (i:=7) (by kernel_rfl) rfl (fun K C=>?_)
 go_simp
 have H:=yb (B6 HC.o x.cap (FL G [w.heap.size,w.heap.size+1,w.heap.size+2]) ((b&&AV q x.season)) Z0 c1 aa.o.cap u.o (by obtain ⟨Y,w1,w2,_⟩:=d.o;exact w1) (fun k A=>.inl (Q.o k A)) (fun k A=>by
  have h1:=a.o.lt
  rcases A with A|A
  ·have:=HG.o k A;omega
  ·simp at A;omega))
 refine H.o.mono ?_
 rintro e Z1 ⟨N,rfl,D,X,I⟩
 have M:=a.o.up R.o a.o.lt I
 have U:VE G [w.heap.size,w.heap.size+1,w.heap.size+2] Z1 [E,N,c2] [AM g x.season,AM g x.cap,x.start]:=by
  obtain ⟨Y,w1,w2,_⟩:=d.o.bcall I Q.o
  exact ⟨Y,D,w2,trivial⟩
 have V:=yb D.len
 refine C.o _ _ (fun _=>M.s) ?_
 clear C K a d u H D I
 have a:=yb M;have d:=yb U;have u:=yb X
 clear M U X
 refine A3 (i:=11) (by kernel_rfl) rfl (fun K C=>?_)
 go_simp
 have H:=yb (B6 HC.o x.start (FL G [w.heap.size,w.heap.size+1,w.heap.size+2]) (((b&&AV q x.season)&&AV q x.cap)) Z1 c2 aa.o.start u.o (by obtain ⟨Y,w1,w2,_⟩:=d.o;exact w2) (fun k A=>.inl (Q.o k A)) (fun k A=>by
  have h1:=a.o.lt
  rcases A with A|A
  ·have:=HG.o k A;omega
  ·simp at A;omega))
 refine H.o.mono ?_
 rintro e Z2 ⟨a0,rfl,D,X,I⟩
 have M:=a.o.up R.o a.o.lt I
 have U:VE G [w.heap.size,w.heap.size+1,w.heap.size+2] Z2 [E,N,a0] [AM g x.season,AM g x.cap,AM g x.start]:=by
  obtain ⟨Y,w1,w2,_⟩:=d.o.bcall I Q.o
  exact ⟨Y,w1,D,trivial⟩
 have aj:=yb D.len
 refine C.o _ _ (fun _=>M.s) ?_
 clear C K a d u H D I
 have a:=yb M;have d:=yb U;have u:=yb X
 clear M U X
 refine A3 (i:=13) (by kernel_rfl) rfl (fun K C=>?_)
 rw[yx (by rfl)]
 refine AE 26 _ _ rfl (w.heap.size+2) 1 (by kernel_rfl) E (by kernel_rfl) (p:=(.string x.name::([]:LV))) (m:=c0) (q:=(c1++(c2++ qS))) (t:=35) (by have h:=a.o.x;simpa using h) (by simp[r.o,j.o,f.o,S.o,V.o]) (by rw[r.o,S.o]) (BV S.o) (Ai (by obtain ⟨Y,w1,w2,_⟩:=d.o;exact Y)) ?_
 intro S0 T
 have B:AF Z2 S0 (w.heap.size+2) (.string x.name::(E++(c1++(c2++ qS)))) 35:=by simpa using T
 have M:=a.o.wrote B
 refine C.o _ _ (fun _=>M.s) ?_
 have U:=d.o.up (B.flux (.inr (by simp))) (fun _ h=>.inl h)
 have hj:=HC.o.stab _ _ _ u.o (fun k A=>B.block k (by have:=R.o k A;omega)) (by rw[B.size];exact ye _)
 clear C K a d u T B
 have a:=yb M;have d:=yb U;have u:=yb hj
 clear M U hj
 refine A3 (i:=14) (by kernel_rfl) rfl (fun K C=>?_)
 go_simp
 refine C.o _ _ (fun _=>a.o.s) ?_
 clear C K
 refine A3 (i:=15) (by kernel_rfl) rfl (fun K C=>?_)
 rw[yx (by rfl)]
 refine AE 26 _ _ rfl (w.heap.size+2) 7 (by kernel_rfl) N (by kernel_rfl) (p:=(.string x.name::(E++([]:LV)))) (m:=c1) (q:=(c2++ qS)) (t:=35) (by have h:=a.o.x;simpa using h) (by simp[r.o,j.o,f.o,S.o,V.o]) (by rw[j.o,V.o]) (BV V.o) (Ai (by obtain ⟨Y,w1,w2,_⟩:=d.o;exact w1)) ?_
 intro S1 T
 have B:AF S0 S1 (w.heap.size+2) (.string x.name::(E++(N++(c2++ qS)))) 35:=by simpa using T
 have M:=a.o.wrote B
 refine C.o _ _ (fun _=>M.s) ?_
 have U:=d.o.up (B.flux (.inr (by simp))) (fun _ h=>.inl h)
 have hj:=HC.o.stab _ _ _ u.o (fun k A=>B.block k (by have:=R.o k A;omega)) (by rw[B.size];exact ye _)
 clear C K a d u T B
 have a:=yb M;have d:=yb U;have u:=yb hj
 clear M U hj
 refine A3 (i:=16) (by kernel_rfl) rfl (fun K C=>?_)
 go_simp
 refine C.o _ _ (fun _=>a.o.s) ?_
 clear C K
 refine A3 (i:=17) (by kernel_rfl) rfl (fun K C=>?_)
 rw[yx (by rfl)]
 refine AE 26 _ _ rfl (w.heap.size+2) 13 (by kernel_rfl) a0 (by kernel_rfl) (p:=(.string x.name::(E++(N++([]:LV))))) (m:=c2) (q:= qS) (t:=35) (by have h:=a.o.x;simpa using h) (by simp[r.o,j.o,f.o,S.o,V.o]) (by rw[f.o,aj.o]) (BV aj.o) (Ai (by obtain ⟨Y,w1,w2,_⟩:=d.o;exact w2)) ?_
 intro S2 T
 have B:AF S1 S2 (w.heap.size+2) (.string x.name::(E++(N++(a0++ qS)))) 35:=by simpa using T
 have M:=a.o.wrote B
 refine C.o _ _ (by intro h;cases h) ?_
 have U:=d.o.up (B.flux (.inr (by simp))) (fun _ h=>.inl h)
 have hj:=HC.o.stab _ _ _ u.o (fun k A=>B.block k (by have:=R.o k A;omega)) (by rw[B.size];exact ye _)
 clear C K a d u T B
 have a:=yb M;have d:=yb U;have u:=yb hj
 clear M U hj
 refine BS (by kernel_rfl) ?_
 refine NoPanic.normal ?_
 refine b4.o _ _ ?_
 refine FC (P:=fun l=>Code.wp Try.prog _ _ ⟨l,[]⟩ S2) rfl ?_
 obtain ⟨y0,y1,y2,_⟩:=d.o
 refine Ux (y:=⟨x.name,AM g x.season,AM g x.cap,AM g x.start,[],[],[],[],[],[],[]⟩) HC.o HV.o aa.o Q.o HG.o ?_ a.o ⟨HV.o.name,y0,y1,y2,fun h=>absurd h (by omega),fun h=>absurd h (by omega),fun h=>absurd h (by omega),fun h=>absurd h (by omega),fun h=>absurd h (by omega),fun h=>absurd h (by omega),fun h=>absurd h (by omega)⟩ u.o
 exact ⟨rfl,rfl,rfl,rfl⟩
end Go.Proofs.Ytghepahgkcigpaa
