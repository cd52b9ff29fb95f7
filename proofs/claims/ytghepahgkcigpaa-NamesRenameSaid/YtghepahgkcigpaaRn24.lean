/- Parts of the proof, in short words: Zt Zu -/
import Derived.Test.YtghepahgkcigpaaRn0
import Derived.Test.YtghepahgkcigpaaRn23
import Derived.StillTailTactics
import Derived.Deep.CutBlock
import Derived.Test.YtghepahgkcigpaaRn4
import Derived.Test.YtghepahgkcigpaaRn7
set_option maxRecDepth 100000
set_option maxHeartbeats 32000000
set_option linter.unusedSimpArgs false
namespace Go.Proofs.Ytghepahgkcigpaa
open Go.RowKit
theorem Wy{N:NP}{w W:World}{cs:LV}{x:Am}{L:Bw}{v u0 u2 u4 u5 u6 u7 u8 u9 u10 u11 g6 f0 u14 u15 u16 ei fv fm dq f3 g5 ga ee ed dw f4 ez eh fu dg dx de fx db ff f8 f1 e6 f9 d7 ef e8 ep dt d8 fe el e7 g7 fi g8 fs e3 eu f5 e4 ew f7 dr fy fh fk ea fo du fz di fd fa d6 g3 f2 em g9 d9 ek f6 dy fl fp eq dz da dj fb eo eb ec ey dh fj et dm ev dc er df g4 b8 b9 cz bh aa cf cv cx c8 G bz b5 a1 ak cd c3 Z cj ar bo F ca E b3 cc d0 cm co az bt A cy H d1 ax ao c6 cw d3 be cp C aj al bg cr U cq P X am ck ai a6 d4 S Q ay O bd cn V a8 cl bn bi R d5 c7 cg ad bu ac bj ci a0 ag M d2 T a2 Y an ap bv bm bw au a7 af:Value}(hv:Bb N w L cs x)(hN:∀b,N b->b < w.heap.size)(g:Fw x)(hP:Ps w cs W v (T8 x)):
  Code.wp Try.prog (CJ 3 (Try.f62.body.getD .skip)) (bodyPost Try.prog Try.f62 (Hx w (CC x))) {tmps:=#[u0,.pointer (some ⟨w.heap.size,0,none⟩),u2,v,u4,u5,u6,u7,u8,u9,u10,u11,g6,f0,u14,u15,u16,ei,fv,fm,dq,f3,g5,ga,ee,ed,dw,f4,ez,eh,fu,dg,dx,de,fx,db,ff,f8,f1,e6,f9,d7,ef,e8,ep,dt,d8,fe,el,e7,g7,fi,g8,fs,e3,eu,f5,e4,ew,f7,dr,fy,fh,fk,ea,fo,du,fz,di,fd,fa,d6,g3,f2,em,g9,d9,ek,f6,dy,fl,fp,eq,dz,da,dj,fb,eo,eb,ec,ey,dh,fj,et,dm,ev,dc,er,df,g4,b8,b9,cz,bh,aa,cf,cv,cx,c8,G,bz,b5,a1,ak,cd,c3,Z,cj,ar,bo,F,ca,E,b3,cc,d0,cm,co,az,bt,A,cy,H,d1,ax,ao,c6,cw,d3,be,cp,C,aj,al,bg,cr,U,cq,P,X,am,ck,ai,a6,d4,S,Q,ay,O,bd,cn,V,a8,cl,bn,bi,R,d5,c7,cg,ad,bu,ac,bj,ci,a0,ag,M,d2,T,a2,Y,an,ap,bv,bm,bw,au,a7,af],defers:=[]} W:=by
 obtain ⟨⟨a,n,c⟩,hL⟩:∃h:Ai,L.crops=h:=⟨_,rfl⟩
 obtain ⟨s0,s1,s2,ba,g0,g1,g2⟩:=hv.cells
 have y:Hid (∀(W:World) (v:Value) (l:List Pl),Ps w cs W v l->W.cell? ⟨w.heap.size,20,none⟩=some (.slice a n c)):=yb (by
  intro W v l h
  refine h.cell (p:=.string x.name::(s0++(s1++(s2++[L.lets.v])))) (q:=[L.reaches.v,L.farms.v,L.rots.v,L.rights.v,L.duties.v]) ?_ (by simp[g0.len,g1.len,g2.len])
  rw[ba,hL]
  simp[yp,Ai.v])
 have s:Av N w 7 (DZ N w) ⟨a,n,c⟩ x.crops:=hL▸hv.crops
 have fc:=yb s.2.2
 have u:Hid (n=x.crops.length):=yb s.1
 clear s
 have eg:Hid (x.crops.length<=1000):=yb (by have:=g.crops;omega)
 have c9:Hid (n<=140737488355328):=yb (by have:=u.o;have:=eg.o;omega)
 have HV:=yb hv
 have HN:=yb hN
 have aw:=yb g
 have e5:=yb (Hw g)
 obtain ⟨I,hI⟩:∃I:Nat->Value->World->Prop,I=fun i v wr=>Ps w cs wr v (T8 x++(x.crops.take i).flatMap Gx):=⟨_,rfl⟩
 have HI:=yb hI
 have ch:Hid (I 0 v W):=yb (by rw[hI];simpa using hP)
 clear hv hN g hP hL ba g0 g1 g2 hI
 refine Af fun K hK=>?_
 go_wp2
 go_loopw [3,5] (fun v3 iv wr=>∃i:Nat,iv=.int .i64 i∧i<=n∧Hid (I i v3 wr)) (fun _ iv _=>n - (intOf iv).toNat)
 case atStart=>exact ⟨0,rfl,yC _,ch⟩
 case round=>
  clear ch
  obtain ⟨i,rfl,hi,cu⟩:=hrel
  have d:Hid (Ps w cs wr u3 (T8 x++(x.crops.take i).flatMap Gx)):=yb (by have h:=cu.o;rw[HI.o] at h;exact h)
  clear cu
  have hf:=y.o _ _ _ d.o
  have gb:n<=140737488355328:=c9.o
  by_cases dl:i < n
  ·have r:i < x.crops.length:=by rw[<-u.o];exact dl
   have en:(i:Int) < (n:Int):=by omega
   obtain ⟨bq,oq,ct,he,av,fg,ah,bp⟩:=fc.o i r
   obtain rfl:a=some ⟨bq,oq,none⟩:=he
   have J:(T8 x++(x.crops.take i).flatMap Gx).length<=10000:=by
    have h1:=Cw (l:=x.crops) (f:=Gx) (c:=1) (i:=i) (fun _ _=>by simp[Gx])
    have h2:=e5.o.p2;have h3:=aw.o.crops
    rw[yq]
    omega
   have m:Hid (T8 x++(x.crops.take (i+1)).flatMap Gx=(T8 x++(x.crops.take i).flatMap Gx)++Gx x.crops[i]):=yb (by rw[BU r,yp])
   generalize hD:x.crops[i]=D at bp m
   clear hD
   generalize bb:T8 x++(x.crops.take i).flatMap Gx=ce at m d J
   clear bb
   have b4:=A2 ah (d.o.below.block bq (HN.o bq av))
   obtain ⟨j,dv⟩:=D
   obtain ⟨gd,c,rfl,_⟩:=bp
   have gc:wr.cell? ⟨bq,oq+i*7,none⟩=some (.string j):=by simpa using O8 (p:=[]) b4
   clear ah fg av r b4
   have dk:Hid (Below wr.heap.size wr (wr.alloc (.cells #[.int .i64 3,.string j,.string {data:=#[]},.int .i64 0,.string {data:=#[]},.int .i64 0,.int .i64 0,.bool false] 125))):=yb ((yg _ _).alloc (yf _) _)
   have t:Hid (Below wr.heap.size wr (wr.alloc (.cells #[.int .i64 3,.string j,.string {data:=#[]},.int .i64 0,.string {data:=#[]},.int .i64 0,.int .i64 0,.bool false] 125))):=yb ((yg wr.heap.size wr).trans (dk.o.mono (yg wr.heap.size wr).size))
   have B:=yb (d.o.own.up t.o)
   have aq:Hid ((wr.alloc (.cells #[.int .i64 3,.string j,.string {data:=#[]},.int .i64 0,.string {data:=#[]},.int .i64 0,.int .i64 0,.bool false] 125)).heap[wr.heap.size]?=some (.cells (([(⟨3,j,Ia,Ia,0,false⟩:Pl)]:List Pl).flatMap KM).toArray 125 (0,0))):=yb (World.alloc_heap_new wr (.cells #[.int .i64 3,.string j,.string {data:=#[]},.int .i64 0,.string {data:=#[]},.int .i64 0,.int .i64 0,.bool false] 125))
   have e:Hid ((w.heap.size+1)<=(wr.alloc (.cells #[.int .i64 3,.string j,.string {data:=#[]},.int .i64 0,.string {data:=#[]},.int .i64 0,.int .i64 0,.bool false] 125)).heap.size):=yb (yl d.o.size t.o.size)
   have ae:Hid (ce.length+1<=1000000):=yb (by omega)
   clear J
   go_wp2_with (first|(at_builtin;refine Ca (w.heap.size+1) rfl _ _ rfl u3 ce rfl B.o (wr.heap.size) 1 1 [(⟨3,j,Ia,Ia,0,false⟩:Pl)] rfl rfl aq.o ae.o e.o ?_;intro e9 n5 c5 w5 k z;have ft:=yb k;have ej:Hid (Below (w.heap.size+1) wr w5):=yb (Fs (t.o.mono d.o.size) e.o B.o z);clear k z))
   have fq:Hid (I (i+1) (.slice e9 n5 c5) w5):=yb (by rw[HI.o];show Ps w cs w5 _ (T8 x++(x.crops.take (i+1)).flatMap Gx);rw[m.o];exact d.o.next ej.o ft.o)
   exact ⟨⟨i+1,by push_cast;rfl,by omega,fq⟩,by simp[intOf];omega⟩
  ·obtain rfl:i=n:=by omega
   have en:decide ((i:Int) < (i:Int))=false:=by simp
   have dd:Hid (Ps w cs wr u3 (T8 x++x.crops.flatMap Gx)):=yb (by
    have h:=d.o
    rw[u.o,yx] at h
    exact h)
   clear d
   go_wp2
   exact hK.o _ _ (Wx HV.o HN.o aw.o dd.o)
theorem Wz{N:NP}{w W:World}{cs:LV}{x:Am}{L:Bw}{v u0 u2 u4 u5 u6 u7 u8 u9 u10 u11 g6 f0 u14 u15 u16 ei fv fm dq f3 g5 ga ee ed dw f4 ez eh fu dg dx de fx db ff f8 f1 e6 f9 d7 ef e8 ep dt d8 fe el e7 g7 fi g8 fs e3 eu f5 e4 ew f7 dr fy fh fk ea fo du fz di fd fa d6 g3 f2 em g9 d9 ek f6 dy fl fp eq dz da dj fb eo eb ec ey dh fj et dm ev dc er df g4 b8 b9 cz bh aa cf cv cx c8 G bz b5 a1 ak cd c3 Z cj ar bo F ca E b3 cc d0 cm co az bt A cy H d1 ax ao c6 cw d3 be cp C aj al bg cr U cq P X am ck ai a6 d4 S Q ay O bd cn V a8 cl bn bi R d5 c7 cg ad bu ac bj ci a0 ag M d2 T a2 Y an ap bv bm bw au a7 af:Value}(hv:Bb N w L cs x)(hN:∀b,N b->b < w.heap.size)(g:Fw x)(hP:Ps w cs W v (SS x)):
  Code.wp Try.prog (CJ 2 (Try.f62.body.getD .skip)) (bodyPost Try.prog Try.f62 (Hx w (CC x))) {tmps:=#[u0,.pointer (some ⟨w.heap.size,0,none⟩),u2,v,u4,u5,u6,u7,u8,u9,u10,u11,g6,f0,u14,u15,u16,ei,fv,fm,dq,f3,g5,ga,ee,ed,dw,f4,ez,eh,fu,dg,dx,de,fx,db,ff,f8,f1,e6,f9,d7,ef,e8,ep,dt,d8,fe,el,e7,g7,fi,g8,fs,e3,eu,f5,e4,ew,f7,dr,fy,fh,fk,ea,fo,du,fz,di,fd,fa,d6,g3,f2,em,g9,d9,ek,f6,dy,fl,fp,eq,dz,da,dj,fb,eo,eb,ec,ey,dh,fj,et,dm,ev,dc,er,df,g4,b8,b9,cz,bh,aa,cf,cv,cx,c8,G,bz,b5,a1,ak,cd,c3,Z,cj,ar,bo,F,ca,E,b3,cc,d0,cm,co,az,bt,A,cy,H,d1,ax,ao,c6,cw,d3,be,cp,C,aj,al,bg,cr,U,cq,P,X,am,ck,ai,a6,d4,S,Q,ay,O,bd,cn,V,a8,cl,bn,bi,R,d5,c7,cg,ad,bu,ac,bj,ci,a0,ag,M,d2,T,a2,Y,an,ap,bv,bm,bw,au,a7,af],defers:=[]} W:=by
 obtain ⟨⟨a,n,c⟩,hL⟩:∃h:Ai,L.lets=h:=⟨_,rfl⟩
 obtain ⟨s0,s1,s2,ba,g0,g1,g2⟩:=hv.cells
 have y:Hid (∀(W:World) (v:Value) (l:List Pl),Ps w cs W v l->W.cell? ⟨w.heap.size,19,none⟩=some (.slice a n c)):=yb (by
  intro W v l h
  refine h.cell (p:=.string x.name::(s0++(s1++(s2++[])))) (q:=[L.crops.v,L.reaches.v,L.farms.v,L.rots.v,L.rights.v,L.duties.v]) ?_ (by simp[g0.len,g1.len,g2.len])
  rw[ba,hL]
  simp[yp,Ai.v])
 have s:Av N w 7 (GB N w) ⟨a,n,c⟩ x.lets:=hL▸hv.lets
 have fc:=yb s.2.2
 have u:Hid (n=x.lets.length):=yb s.1
 clear s
 have eg:Hid (x.lets.length<=1000):=yb (by have:=g.lets;omega)
 have c9:Hid (n<=140737488355328):=yb (by have:=u.o;have:=eg.o;omega)
 have HV:=yb hv
 have HN:=yb hN
 have aw:=yb g
 have e5:=yb (Hw g)
 obtain ⟨I,hI⟩:∃I:Nat->Value->World->Prop,I=fun i v wr=>Ps w cs wr v (SS x++(x.lets.take i).flatMap JP):=⟨_,rfl⟩
 have HI:=yb hI
 have ch:Hid (I 0 v W):=yb (by rw[hI];simpa using hP)
 clear hv hN g hP hL ba g0 g1 g2 hI
 refine Af fun K hK=>?_
 go_wp2
 go_loopw [3,4] (fun v3 iv wr=>∃i:Nat,iv=.int .i64 i∧i<=n∧Hid (I i v3 wr)) (fun _ iv _=>n - (intOf iv).toNat)
 case atStart=>exact ⟨0,rfl,yC _,ch⟩
 case round=>
  clear ch
  obtain ⟨i,rfl,hi,cu⟩:=hrel
  have d:Hid (Ps w cs wr u3 (SS x++(x.lets.take i).flatMap JP)):=yb (by have h:=cu.o;rw[HI.o] at h;exact h)
  clear cu
  have hf:=y.o _ _ _ d.o
  have gb:n<=140737488355328:=c9.o
  by_cases dl:i < n
  ·have r:i < x.lets.length:=by rw[<-u.o];exact dl
   have en:(i:Int) < (n:Int):=by omega
   obtain ⟨bq,oq,ct,he,av,fg,ah,bp⟩:=fc.o i r
   obtain rfl:a=some ⟨bq,oq,none⟩:=he
   have J:(SS x++(x.lets.take i).flatMap JP).length<=10000:=by
    have h1:=Cw (l:=x.lets) (f:=JP) (c:=1) (i:=i) (fun _ _=>by simp[JP])
    have h2:=e5.o.p1;have h3:=aw.o.lets
    rw[yq]
    omega
   have m:Hid (SS x++(x.lets.take (i+1)).flatMap JP=(SS x++(x.lets.take i).flatMap JP)++JP x.lets[i]):=yb (by rw[BU r,yp])
   generalize hD:x.lets[i]=D at bp m
   clear hD
   generalize bb:SS x++(x.lets.take i).flatMap JP=ce at m d J
   clear bb
   have b4:=A2 ah (d.o.below.block bq (HN.o bq av))
   obtain ⟨j,dv⟩:=D
   obtain ⟨gd,c,rfl,_⟩:=bp
   have gc:wr.cell? ⟨bq,oq+i*7,none⟩=some (.string j):=by simpa using O8 (p:=[]) b4
   clear ah fg av r b4
   have dk:Hid (Below wr.heap.size wr (wr.alloc (.cells #[.int .i64 2,.string j,.string {data:=#[]},.int .i64 0,.string {data:=#[]},.int .i64 0,.int .i64 0,.bool false] 125))):=yb ((yg _ _).alloc (yf _) _)
   have t:Hid (Below wr.heap.size wr (wr.alloc (.cells #[.int .i64 2,.string j,.string {data:=#[]},.int .i64 0,.string {data:=#[]},.int .i64 0,.int .i64 0,.bool false] 125))):=yb ((yg wr.heap.size wr).trans (dk.o.mono (yg wr.heap.size wr).size))
   have B:=yb (d.o.own.up t.o)
   have aq:Hid ((wr.alloc (.cells #[.int .i64 2,.string j,.string {data:=#[]},.int .i64 0,.string {data:=#[]},.int .i64 0,.int .i64 0,.bool false] 125)).heap[wr.heap.size]?=some (.cells (([(⟨2,j,Ia,Ia,0,false⟩:Pl)]:List Pl).flatMap KM).toArray 125 (0,0))):=yb (World.alloc_heap_new wr (.cells #[.int .i64 2,.string j,.string {data:=#[]},.int .i64 0,.string {data:=#[]},.int .i64 0,.int .i64 0,.bool false] 125))
   have e:Hid ((w.heap.size+1)<=(wr.alloc (.cells #[.int .i64 2,.string j,.string {data:=#[]},.int .i64 0,.string {data:=#[]},.int .i64 0,.int .i64 0,.bool false] 125)).heap.size):=yb (yl d.o.size t.o.size)
   have ae:Hid (ce.length+1<=1000000):=yb (by omega)
   clear J
   go_wp2_with (first|(at_builtin;refine Ca (w.heap.size+1) rfl _ _ rfl u3 ce rfl B.o (wr.heap.size) 1 1 [(⟨2,j,Ia,Ia,0,false⟩:Pl)] rfl rfl aq.o ae.o e.o ?_;intro e9 n5 c5 w5 k z;have ft:=yb k;have ej:Hid (Below (w.heap.size+1) wr w5):=yb (Fs (t.o.mono d.o.size) e.o B.o z);clear k z))
   have fq:Hid (I (i+1) (.slice e9 n5 c5) w5):=yb (by rw[HI.o];show Ps w cs w5 _ (SS x++(x.lets.take (i+1)).flatMap JP);rw[m.o];exact d.o.next ej.o ft.o)
   exact ⟨⟨i+1,by push_cast;rfl,by omega,fq⟩,by simp[intOf];omega⟩
  ·obtain rfl:i=n:=by omega
   have en:decide ((i:Int) < (i:Int))=false:=by simp
   have dd:Hid (Ps w cs wr u3 (SS x++x.lets.flatMap JP)):=yb (by
    have h:=d.o
    rw[u.o,yx] at h
    exact h)
   clear d
   go_wp2
   exact hK.o _ _ (Wy HV.o HN.o aw.o dd.o)
theorem Np{N:NP}{w:World}{cs:LV}{x:Am}{L:Bw}(i:Bb N w L cs x)(hN:∀b,N b->b < w.heap.size)(d:Fw x):
  Calls Try.prog 62 #[.agg cs.toArray] w (Hx w (CC x)):=by
 have r:=yb i;have s:=yb hN;have l:=yb d
 have m:=yb (Dy.len ⟨L,i⟩)
 obtain ⟨s0,s1,s2,e,_⟩:=i.cells
 have k:=yb e
 clear i hN d e
 go_enter Try.func62,Try.ntmps62
 refine Af fun K j=>?_
 go_wp2_with (first|(refine EY rfl 35 _ rfl cs.toArray rfl ?_))
 refine j.o _ _ ?_
 clear j K
 obtain ⟨w1,a⟩:∃z:World,z=w.alloc (.cells cs.toArray 35):=⟨_,rfl⟩
 rw[<-a]
 have f:Hid (Below w.heap.size w w1):=yb (by rw[a];exact (yg _ _).alloc (yf _) _)
 have g:Hid (w1.heap[w.heap.size]?=some (.cells cs.toArray 35 (0,0))):=yb (by rw[a];exact World.alloc_heap_new _ _)
 have c:Hid (w1.heap.size=w.heap.size+1):=yb (by rw[a];simp)
 have q:w1.cell? ⟨w.heap.size,0,none⟩=some (.string x.name):=by
  have h:=g.o
  rw[k.o] at h
  exact Ee h (p:=[]) rfl rfl
 clear a
 refine Af fun K j=>?_
 go_wp2
 refine j.o _ _ (Wz r.o s.o l.o ?_)
 have n:=World.alloc_heap_new w1 (.cells #[.int .i64 1,.string x.name,.string {data:=#[]},.int .i64 0,.string {data:=#[]},.int .i64 0,.int .i64 0,.bool false] 125)
 have hb:Below w1.heap.size w1 (w1.alloc (.cells #[.int .i64 1,.string x.name,.string {data:=#[]},.int .i64 0,.string {data:=#[]},.int .i64 0,.int .i64 0,.bool false] 125)):=(yg _ _).alloc (yf _) _
 refine ⟨f.o.trans (hb.mono f.o.size),(hb.block _ (by rw[c.o];omega)).trans g.o,⟨rfl,.inr ⟨w1.heap.size,1,_,rfl,by rw[c.o];omega,n,by simp[SS],by simp[maxLen],rfl,rfl⟩⟩,by have:=hb.size;have:=c.o;omega⟩
def WA(p q:Pl):Bool:=decide (p.kind=q.kind)&&(decide (p.name.toList=q.name.toList)&&(decide (p.a.name.toList=q.a.name.toList)&&(decide (p.a.n=q.a.n)&&(decide (p.b.name.toList=q.b.name.toList)&&(decide (p.b.n=q.b.n)&&(decide (p.n=q.n)&&decide (p.is=q.is)))))))
theorem VD{p q:Pl}:WA p q=true↔p=q:=by
 obtain ⟨k,n,⟨v,t⟩,⟨o,j⟩,m,s⟩:=p
 obtain ⟨k',l,⟨c,g⟩,⟨d,b⟩,u,r⟩:=q
 simp only[WA,yv,yW]
 constructor
 ·rintro ⟨rfl,h1,h2,rfl,h3,rfl,rfl,rfl⟩
  rw[Ha h1,Ha h2,Ha h3]
 ·intro h
  injection h with h1 h2 h3 h4 h5 h6
  injection h3 with e f
  injection h4 with i a
  subst h1 h2 e f i a h5 h6
  exact ⟨rfl,rfl,rfl,rfl,rfl,rfl,rfl,rfl⟩
theorem PI{o:Oper}{a:Act}{w:World}{K:Act->World->Prop}{Q:QT}(x y:Operand)(B:o.op=.binOp .neq 125 x y 125)(p q:Pl)(t:a.eval x=.agg (KM p).toArray)(r:a.eval y=.agg (KM q).toArray)
 (h:K (a.put o.dst (.bool (!WA p q))) w):Oper.wp Try.prog o a w K Q:=by
 obtain ⟨k,n,⟨A,u⟩,⟨j,g⟩,m,s⟩:=p
 obtain ⟨k',i,⟨c,f⟩,⟨d,b⟩,v,l⟩:=q
 simp only[KM,WA] at h t r
 unfold Oper.wp execOp
 simp only[B,t,r]
 go_simp
 have e:∀z:Bool,z=(decide (k=k')&&(decide (n.toList=i.toList)&&(decide (A.toList=c.toList)&&(decide (u=f)&&(decide (j.toList=d.toList)&&(decide (g=b)&&(decide (m=v)&&decide (s=l))))))))->
   (if k=k' then if n.toList=i.toList then if A.toList=c.toList then if u=f then if j.toList=d.toList then if g=b then if m=v then if s=l then Result.ok (Next.value (Value.bool false)) w else Result.ok (Next.value (Value.bool true)) w else Result.ok (Next.value (Value.bool true)) w else Result.ok (Next.value (Value.bool true)) w else Result.ok (Next.value (Value.bool true)) w else Result.ok (Next.value (Value.bool true)) w else Result.ok (Next.value (Value.bool true)) w else Result.ok (Next.value (Value.bool true)) w else Result.ok (Next.value (Value.bool true)) w)=Result.ok (Next.value (Value.bool (!z))) w:=by
  rintro z rfl
  repeat' split
  all_goals simp[*]
 rw[e _ rfl]
 exact h
def Iv:List Pl->List Pl->Bool
 |[],_=>true
 |_::_,[]=>true
 |p::r,q::s=>WA p q&&Iv r s
def PJ(x y:Am):Bool:=(decide ((CC x).length=(CC y).length)&&Iv (CC x) (CC y))&&(decide ((CP x).length=(CP y).length)&&Mj (CP x) (CP y))
theorem Mb:∀a b:List Pl,a.length=b.length->(Iv a b=true↔a=b)
 |[],b,h=>by
  obtain rfl:b=[]:=ze.1 h.symm
  simp[Iv]
 |e::r,[],h=>by simp at h
 |e::r,e'::r',h=>by
  rw[Iv,yv,VD,Mb r r' (by simpa using h)]
  simp
theorem SU(x y:Am):PJ x y=true↔CC x=CC y∧CP x=CP y:=by
 unfold PJ
 simp only[yv,yW]
 constructor
 ·rintro ⟨⟨h1,h2⟩,h3,h4⟩
  exact ⟨(Mb _ _ h1).1 h2,(JS _ _ h3).1 h4⟩
 ·rintro ⟨h1,h2⟩
  rw[h1,h2]
  exact ⟨⟨rfl,(Mb _ _ rfl).2 rfl⟩,rfl,(JS _ _ rfl).2 rfl⟩
theorem Uv{B:Nat}{W:World}{ty sz:Nat}{v:Value}{rows:List LV}(h:W.ownsRow B ty sz v rows.length rows.flatten)(d:∀r∈rows,r.length=sz):∃a c,v=.slice a rows.length c∧∀i (hi:i < rows.length),∃g,a=some ⟨g,0,none⟩∧g < W.heap.size∧W.rangeAt g (i*sz) rows[i]:=by
 rcases h.2 with ⟨rfl,k⟩|⟨g,cap,l,rfl,h4,h5,h6,n,o,m⟩
 ·exact ⟨none,0,by rw[k],fun i hi=>by omega⟩
 ·refine ⟨some (aV g 0),cap,rfl,fun i hi=>⟨g,rfl,(ye.1 h5).1,?_⟩⟩
  intro j u f
  have e:j < sz:=by rw[<-d _ (yz hi)];exact (yA.1 f).1
  have b:=(FY rows sz d).2 i hi j e
  rw[f,<-m] at b
  rw[zJ] at b
  split at b
  ·simp only[World.cell?,h5]
   simpa using b
  ·cases b
theorem Uw{B:Nat}{W:World}{v:Value}{l:List Pl}(h:Fq B W v l):∃a c,v=.slice a l.length c∧∀i (hi:i < l.length),∃g,a=some ⟨g,0,none⟩∧g < W.heap.size∧W.rangeAt g (i*8) (KM l[i]):=by
 have e:W.ownsRow B 125 8 v (l.map KM).length (l.map KM).flatten:=by
  rw[yN,<-List.flatMap_def];exact h
 obtain ⟨a,c,d,b⟩:=Uv e (fun r b=>by obtain ⟨p,_,rfl⟩:=zy.1 b;rfl)
 refine ⟨a,c,by rw[d,yN],fun i hi=>?_⟩
 obtain ⟨g,h1,h2,h3⟩:=b i (by simpa using hi)
 exact ⟨g,h1,h2,by simpa using h3⟩
theorem Ux{B:Nat}{N:NP}{e W:World}{v:Value}{es:List Ex}(h:KA B N e es W v):∃a c,v=.slice a es.length c∧∀i (hi:i < es.length),∃g cs,a=some ⟨g,0,none⟩∧g < W.heap.size∧W.rangeAt g (i*6) cs∧AS N e es[i] cs:=by
 obtain ⟨rows,f,b⟩:=h.own
 have hl:rows.length=es.length:=b.length
 obtain ⟨a,c,j,d⟩:=Uv f (fun r d=>by
  obtain ⟨i,hi,rfl⟩:=xM d
  exact (b.get i hi (by omega)).len)
 refine ⟨a,c,by rw[j,hl],fun i hi=>?_⟩
 obtain ⟨g,h1,h2,h3⟩:=d i (by omega)
 exact ⟨g,_,h1,h2,h3,b.get i (by omega) hi⟩
theorem PK{x:Am}(h:Fw x):(CP x).length<=140737488355328:=by
 have h1:=h.top.t7;have h2:=h.duties
 have h3:(x.duties.flatMap fun d=> [d.due]).length<=x.duties.length*1:=AK fun _ _=>by simp
 unfold CP
 rw[yq]
 omega
theorem Uy{N:NP}{w:World}{cs ds:LV}{x y:Am}{L M:Bw}(hv:Bb N w L cs x)(hu:Bb N w M ds y)(hN:∀b,N b->b < w.heap.size)(a7:Fw x)(a8:Fw y):
  Calls Try.prog 13 #[.agg cs.toArray,.agg ds.toArray] w fun e w'=>e=.returned (.bool (PJ x y))∧Below w.heap.size w w':=by
 have HV:=yb hv;have HU:=yb hu;have HN:=yb hN;have b8:=yb a7;have c8:=yb a8
 have bo:=yb (Dy.len ⟨L,hv⟩);have bi:=yb (Dy.len ⟨M,hu⟩)
 have aw:=yb (Hw a7).p8;have ao:=yb (Hw a8).p8
 have bv:=yb (PK a7);have cf:=yb (PK a8)
 clear hv hu hN a7 a8
 go_enter Try.func13,Try.ntmps13
 refine Af fun K f=>?_
 go_wp2_with (first|(refine EY rfl 35 _ rfl cs.toArray rfl ?_)|(refine EY rfl 35 _ rfl ds.toArray rfl ?_))
 refine f.o _ _ ?_
 clear f K
 obtain ⟨w1,C⟩:∃z:World,z=(w.alloc (.cells cs.toArray 35)).alloc (.cells ds.toArray 35):=⟨_,rfl⟩
 rw[<-C]
 have D:Hid (Below w.heap.size w w1):=yb (by rw[C];exact ((yg _ _).alloc (yf _) _).alloc (by simp) _)
 have b3:Hid (w1.heap[w.heap.size]?=some (.cells cs.toArray 35 (0,0))∧w1.heap[w.heap.size+1]?=some (.cells ds.toArray 35 (0,0))∧w1.heap.size=w.heap.size+2):=yb (by
  refine ⟨?_,?_,by rw[C];simp⟩
  ·rw[C,yF _ _ _ (by simp)];exact World.alloc_heap_new _ _
  ·have:=World.alloc_heap_new (w.alloc (.cells cs.toArray 35)) (.cells ds.toArray 35)
   rw[C];simpa using this)
 clear C
 have HR:Hid (∀W,Below w1.heap.size w1 W->W.rangeAt w.heap.size 0 cs∧W.rangeAt (w.heap.size+1) 0 ds∧Bb N W L cs x∧Bb N W M ds y∧∀b,N b->b < W.heap.size):=yb (fun W hb=>by
  have hz:=b3.o.2.2
  have hw:=D.o.trans (hb.mono D.o.size)
  exact ⟨Aw ((hb.block _ (by omega)).trans b3.o.1),Aw ((hb.block _ (by omega)).trans b3.o.2.1),HV.o.same (fun _ h=>h) (fun b hb=>hw.block b (HN.o b hb)),HU.o.same (fun _ h=>h) (fun b hb=>hw.block b (HN.o b hb)),fun b h=>yr (HN.o b h) hw.size⟩)
 have aj:=yb (HR.o w1 (yg _ _))
 refine Af fun K f=>?_
 go_wp2_with (first
  |(refine ym rfl 35 _ rfl w.heap.size 0 rfl cs _ aj.o.1 qM rfl (AU (n:=26) (by kernel_rfl) bo.o) ?_)
  |(go_at_call 62;refine (Np aj.o.2.2.1 aj.o.2.2.2.2 b8.o).mono ?_;rintro e w2 ⟨p,rfl,hp,c7⟩;have HP:=yb hp;have ag:=yb c7;clear hp c7))
 refine f.o _ _ ?_
 clear f K
 have ah:=yb (HR.o w2 ag.o)
 refine Af fun K f=>?_
 go_wp2_with (first
  |(refine ym rfl 35 _ rfl (w.heap.size+1) 0 rfl ds _ ah.o.2.1 qM rfl (AU (n:=26) (by kernel_rfl) bi.o) ?_)
  |(go_at_call 62;refine (Np ah.o.2.2.2.1 ah.o.2.2.2.2 c8.o).mono ?_;rintro e w3 ⟨q,rfl,hq,ba⟩;have HQ:=yb hq;have bh:=yb ba;clear hq ba))
 refine f.o _ _ ?_
 clear f K
 have T:Hid (Below w1.heap.size w1 w3):=yb (ag.o.trans (bh.o.mono ag.o.size))
 have E:Hid (Below w.heap.size w w3):=yb (D.o.trans (T.o.mono D.o.size))
 have bm:=yb (HP.o.up bh.o)
 obtain ⟨pa,pc,rfl,bp⟩:=Uw bm.o
 obtain ⟨qa,qc,rfl,b9⟩:=Uw HQ.o
 have az:=yb bp;have av:=yb b9
 have l:Hid (PJ x y=((decide ((CC x).length=(CC y).length)&&Iv (CC x) (CC y))&&(decide ((CP x).length=(CP y).length)&&Mj (CP x) (CP y)))):=yb rfl
 generalize PJ x y=S at l ⊢
 generalize an:CC x=A at az l aw
 generalize aq:CC y=B at av l ao
 have bj:=yb aw.o;have ci:=yb ao.o
 generalize hm:A.length=m at l bj ⊢
 generalize hn:B.length=n at l ci ⊢
 have HM:=yb hm;have cj:=yb hn
 clear bp b9 an aq hm hn HP bm HQ aw ao
 refine Af fun K f=>?_
 obtain h1|rfl:((m:Int) !=(n:Int))=true∨m=n:=by
  by_cases h:m=n
  ·exact .inr h
  ·exact .inl (by simp only[qo,ne_eq];omega)
 ·have hS:S=false:=by
   rw[l.o]
   have:decide (m=n)=false:=by simp only[qo,ne_eq] at h1;simp only[xz];omega
   rw[this];simp
  subst hS
  clear f
  go_wp2
  go_ret
  exact ⟨rfl,E.o⟩
 have am:((m:Int) !=(m:Int))=false:=by simp
 go_wp2
 refine f.o _ _ ?_
 clear f K am
 have b5:m<=140737488355328:=by have:=bj.o;omega
 have a0:Hid (Iv (A.drop 0) (B.drop 0)=Iv A B):=yb rfl
 have ae:=yb (yg w3.heap.size w3)
 refine Af fun K f=>?_
 go_wp2
 go_loopw [7] (fun iv wr=>∃i:Nat,iv=iV i∧i<=m∧Hid (Iv (A.drop i) (B.drop i)=Iv A B)∧Hid (Below w3.heap.size w3 wr)) (fun iv _=>m - (intOf iv).toNat)
 case atStart=>exact ⟨0,rfl,yC _,a0,ae⟩
 case round=>
  clear a0 ae
  obtain ⟨i,rfl,hi,HE,d⟩:=hrel
  by_cases bd:i < m
  ·have ai:i < A.length:=by rw[HM.o];exact bd
   have Q:i < B.length:=by rw[cj.o];exact bd
   have aa:(i:Int) < (m:Int):=by omega
   obtain ⟨g,rfl,hg,hr⟩:=az.o i ai
   obtain ⟨F,rfl,U,Z⟩:=av.o i Q
   have cg:=yb (A2 hr (d.o.block g hg))
   have cd:=yb (A2 Z (d.o.block F U))
   have v:Hid ((WA A[i] B[i]&&Iv (A.drop (i+1)) (B.drop (i+1)))=Iv A B):=yb (by
    have h:=HE.o
    rw[DC ai,DC Q,Iv] at h
    exact h)
   generalize A[i]=P at*
   generalize B[i]=R at*
   have pr:=cg.o
   have qr:=cd.o
   have p0:wr.cell? (aV g (i*8))=some (iV P.kind):=by have h:=pr 0 _ rfl;simpa using h
   have p1:wr.cell? (aV g (i*8+1))=some (.string P.name):=by have h:=pr 1 _ rfl;simpa using h
   have p2:wr.cell? (aV g (i*8+2))=some (.string P.a.name):=by have h:=pr 2 _ rfl;simpa using h
   have p3:wr.cell? (aV g (i*8+3))=some (iV P.a.n):=by have h:=pr 3 _ rfl;simpa using h
   have p4:wr.cell? (aV g (i*8+4))=some (.string P.b.name):=by have h:=pr 4 _ rfl;simpa using h
   have p5:wr.cell? (aV g (i*8+5))=some (iV P.b.n):=by have h:=pr 5 _ rfl;simpa using h
   have p6:wr.cell? (aV g (i*8+6))=some (iV P.n):=by have h:=pr 6 _ rfl;simpa using h
   have p7:wr.cell? (aV g (i*8+7))=some (.bool P.is):=by have h:=pr 7 _ rfl;simpa using h
   have q0:wr.cell? (aV F (i*8))=some (iV R.kind):=by have h:=qr 0 _ rfl;simpa using h
   have q1:wr.cell? (aV F (i*8+1))=some (.string R.name):=by have h:=qr 1 _ rfl;simpa using h
   have q2:wr.cell? (aV F (i*8+2))=some (.string R.a.name):=by have h:=qr 2 _ rfl;simpa using h
   have q3:wr.cell? (aV F (i*8+3))=some (iV R.a.n):=by have h:=qr 3 _ rfl;simpa using h
   have q4:wr.cell? (aV F (i*8+4))=some (.string R.b.name):=by have h:=qr 4 _ rfl;simpa using h
   have q5:wr.cell? (aV F (i*8+5))=some (iV R.b.n):=by have h:=qr 5 _ rfl;simpa using h
   have q6:wr.cell? (aV F (i*8+6))=some (iV R.n):=by have h:=qr 6 _ rfl;simpa using h
   have q7:wr.cell? (aV F (i*8+7))=some (.bool R.is):=by have h:=qr 7 _ rfl;simpa using h
   clear pr qr hr Z hg U ai Q
   go_upto_region 8 with fail
   go_still_tail 8,(by kernel_rfl)
   change wpList _ _ _ _ _ wr.drew
   clear p0 p1 p2 p3 p4 p5 p6 p7 q0 q1 q2 q3 q4 q5 q6 q7
   cases hs:WA P R
   ·have HF:Hid (false=S):=yb (by
     rw[l.o,<-v.o,hs];simp)
    clear f
    go_wp2_with (first|(refine yG rfl fun _ al=>PI _ _ rfl P R rfl rfl (al _ _ ?_);rw[hs]))
    go_ret
    exact ⟨yJ (fun b=>Ending.returned (Value.bool b)) HF.o,E.o.trans (d.o.drew.mono E.o.size)⟩
   ·have I:Hid (Iv (A.drop (i+1)) (B.drop (i+1))=Iv A B):=yb (by
     rw[<-v.o,hs,xP])
    go_wp2_with (first|(refine yG rfl fun _ al=>PI _ _ rfl P R rfl rfl (al _ _ ?_);rw[hs]))
    exact ⟨⟨i+1,by push_cast;rfl,by omega,I,yb d.o.drew⟩,by simp[intOf];omega⟩
  ·obtain rfl:i=m:=by omega
   have aa:decide ((i:Int) < (i:Int))=false:=by simp
   have bb:Hid (Iv A B=true):=yb (by
    have h:=HE.o
    rw[<-HM.o,zo,Iv] at h
    exact h.symm)
   go_wp2
   refine f.o _ _ ?_
   clear f aa HE
   have a2:Hid (Below w1.heap.size w1 wr):=yb (T.o.trans (d.o.mono T.o.size))
   have H:=yb (HR.o wr a2.o)
   refine Af fun K f=>?_
   go_wp2_with (first
    |(refine ym rfl 35 _ rfl w.heap.size 0 rfl cs _ H.o.1 qM rfl (AU (n:=26) (by kernel_rfl) bo.o) ?_)
    |(go_at_call 22;refine (NZ H.o.2.2.1 H.o.2.2.2.2 b8.o).mono ?_;rintro e w4 ⟨s,rfl,cc⟩;have HS:=yb cc;clear cc))
   refine f.o _ _ ?_
   clear f K
   have a1:Hid (Below w1.heap.size w1 w4):=yb (a2.o.trans (HS.o.below.mono a2.o.size))
   have J:=yb (HR.o w4 a1.o)
   refine Af fun K f=>?_
   go_wp2_with (first
    |(refine ym rfl 35 _ rfl (w.heap.size+1) 0 rfl ds _ J.o.2.1 qM rfl (AU (n:=26) (by kernel_rfl) bi.o) ?_)
    |(go_at_call 22;refine (NZ J.o.2.2.2.1 J.o.2.2.2.2 c8.o).mono ?_;rintro e u ⟨r,rfl,bn⟩;have I:=yb bn;clear bn))
   refine f.o _ _ ?_
   clear f K
   have ad:Hid (Below w1.heap.size w1 u):=yb (a1.o.trans (I.o.below.mono a1.o.size))
   have t:Hid (Below w.heap.size w u):=yb (D.o.trans (ad.o.mono D.o.size))
   obtain ⟨sa,sc,rfl,be⟩:=Ux HS.o
   obtain ⟨ra,rc,rfl,bw⟩:=Ux I.o
   have c6:Hid (∀i (hi:i < (CP x).length),∃g cs,sa=some (aV g 0)∧g < u.heap.size∧u.rangeAt g (i*6) cs∧AS N u (CP x)[i] cs):=yb (fun i hi=>by
    obtain ⟨g,c,h1,h2,h3,h4⟩:=be i hi
    refine ⟨g,c,h1,yr h2 I.o.below.size,A2 h3 (I.o.below.block g h2),h4.same (fun _ h=>h) (fun b hb=>?_)⟩
    have bt:=H.o.2.2.2.2 b hb
    exact (I.o.below.block b (yr bt HS.o.below.size)).trans (HS.o.below.block b bt))
   have bu:Hid (∀i (hi:i < (CP y).length),∃g cs,ra=some (aV g 0)∧g < u.heap.size∧u.rangeAt g (i*6) cs∧AS N u (CP y)[i] cs):=yb (fun i hi=>by
    obtain ⟨g,c,h1,h2,h3,h4⟩:=bw i hi
    exact ⟨g,c,h1,h2,h3,h4.same (fun _ h=>h) (fun b hb=>I.o.below.block b (J.o.2.2.2.2 b hb))⟩)
   have k:Hid (S=(decide ((CP x).length=(CP y).length)&&Mj (CP x) (CP y))):=yb (by rw[l.o,bb.o];simp)
   have au:Hid (∀b,N b->b < u.heap.size):=yb (HR.o u ad.o).2.2.2.2
   have V:=yb bv.o
   generalize an:CP x=lx at c6 k V
   generalize aq:CP y=ly at bu k
   generalize b4:lx.length=mx at k V ⊢
   generalize c9:ly.length=my at k ⊢
   have bg:=yb b4;have ce:=yb c9
   clear be bw an aq b4 c9 HS I H J bv cf l az av bb
   refine Af fun K f=>?_
   obtain h1|rfl:((mx:Int) !=(my:Int))=true∨mx=my:=by
    by_cases h:mx=my
    ·exact .inr h
    ·exact .inl (by simp only[qo,ne_eq];omega)
   ·have hS:S=false:=by
     rw[k.o]
     have:decide (mx=my)=false:=by simp only[qo,ne_eq] at h1;simp only[xz];omega
     rw[this];simp
    subst hS
    clear f
    go_wp2
    go_ret
    exact ⟨rfl,t.o⟩
   have am:((mx:Int) !=(mx:Int))=false:=by simp
   go_wp2
   refine f.o _ _ ?_
   clear f K am
   have b5:mx<=140737488355328:=V.o
   have ch:Hid (S=Mj lx ly):=yb (by rw[k.o];simp)
   have a0:Hid (Mj (lx.drop 0) (ly.drop 0)=S):=yb ch.o.symm
   have ac:=yb (yg u.heap.size u)
   clear k
   refine Af fun K f=>?_
   go_wp2
   go_loopw [10] (fun jv wr=>∃j:Nat,jv=iV j∧j<=mx∧Hid (Mj (lx.drop j) (ly.drop j)=S)∧Hid (Below u.heap.size u wr)) (fun jv _=>mx - (intOf jv).toNat)
   case atStart=>exact ⟨0,rfl,yC _,a0,ac⟩
   case round=>
    clear a0 ac
    obtain ⟨j,rfl,hj,HE,d⟩:=hrel
    by_cases bz:j < mx
    ·have ap:j < lx.length:=by rw[bg.o];exact bz
     have a6:j < ly.length:=by rw[ce.o];exact bz
     have aa:(j:Int) < (mx:Int):=by omega
     obtain ⟨g,ca,rfl,hg,hr,ar⟩:=c6.o j ap
     obtain ⟨F,cb,rfl,U,Z,O⟩:=bu.o j a6
     have bq:=A2 hr (d.o.block g hg)
     have af:=A2 Z (d.o.block F U)
     have HC:=yb (Oa lx[j] (e':=ly[j]) (w:=wr.drew) (AS.same (fun b h=>h) (fun b hb=>d.o.drew.block b (au.o b hb)) ar) (AS.same (fun b h=>h) (fun b hb=>d.o.drew.block b (au.o b hb)) O) (fun b h=>yr (au.o b h) d.o.drew.size))
     have v:Hid ((VB lx[j] ly[j]&&Mj (lx.drop (j+1)) (ly.drop (j+1)))=S):=yb (by
      have h:=HE.o
      rw[DC ap,DC a6,Mj] at h
      exact h)
     generalize lx[j]=X at*
     generalize ly[j]=Y at*
     obtain ⟨ax,cx,rfl,_⟩:=ar.cells
     obtain ⟨ay,cy,rfl,_⟩:=O.cells
     obtain ⟨c0,c1,c2,c3,c4,c5⟩:=BJ bq
     obtain ⟨d0,d1,d2,d3,d4,d5⟩:=BJ af
     generalize VB X Y=z at HC v
     clear ar O hr Z bq af hg U ap a6
     go_upto_region 17 with fail
     go_still_tail 8,(by kernel_rfl)
     change wpList _ _ _ _ _ wr.drew
     clear c0 c1 c2 c3 c4 c5 d0 d1 d2 d3 d4 d5
     cases z
     ·have HF:Hid (false=S):=yb v.o
      clear f
      go_wp2_with (first|(go_at_call 63;refine HC.o.mono ?_;rintro e w6 ⟨rfl,G⟩;have ak:=yb (d.o.drew.trans (G.mono d.o.drew.size));clear G))
      go_ret
      exact ⟨yJ (fun b=>Ending.returned (Value.bool b)) HF.o,t.o.trans (ak.o.mono t.o.size)⟩
     ·have I:Hid (Mj (lx.drop (j+1)) (ly.drop (j+1))=S):=yb v.o
      go_wp2_with (first|(go_at_call 63;refine HC.o.mono ?_;rintro e w6 ⟨rfl,G⟩;have ak:=yb (d.o.drew.trans (G.mono d.o.drew.size));clear G))
      exact ⟨⟨j+1,by push_cast;rfl,by omega,I,ak⟩,by simp[intOf];omega⟩
    ·obtain rfl:j=mx:=by omega
     have aa:decide ((j:Int) < (j:Int))=false:=by simp
     have HF:Hid (true=S):=yb (by
      have h:=HE.o
      rw[<-bg.o,zo,Mj] at h
      exact h)
     go_wp2
     refine f.o _ _ ?_
     go_wp2
     go_ret
     exact ⟨yJ (fun b=>Ending.returned (Value.bool b)) HF.o,t.o.trans (d.o.mono t.o.size)⟩
end Go.Proofs.Ytghepahgkcigpaa
