/- Parts of the proof, in short words: Zt Zu -/
import Derived.Test.YtghepahgkcigpaaQ0
import Derived.Test.YtghepahgkcigpaaQ27
import Derived.StillTailTactics
import Derived.Deep.CutBlock
import Derived.Test.YtghepahgkcigpaaQ4
import Derived.Test.YtghepahgkcigpaaQ8
set_option maxRecDepth 100000
set_option maxHeartbeats 32000000
set_option linter.unusedSimpArgs false
namespace Go.Proofs.Ytghepahgkcigpaa
open Go.RowKit
theorem Wn{N:NP}{w W:World}{cs:LV}{x:AA}{L:BL}{v u0 u2 u4 u5 u6 u7 u8 u9 e5 df f2 fu f4 f3 d8 ev fm ej e6 dh fg g5 fh g9 e7 ei da fv fd fx fa dg fl d2 d3 e3 eh fz db di d6 fj dj dm d0 g3 d1 ew en dy f5 dl dd du fk er ec ea fb ey fo e9 fe eo e4 el eb ep d7 e8 dq ff et fp fs g7 f1 f6 ek dt eq ft dx eu dp g4 d5 dc g6 f7 fi f9 ef f0 fc de em d4 a6 bg b4 ca cp ar c9 c4 aa cc cv M A b3 bm cq an z a7 H cb cf O cw cy c3 cx bh cd bn ah bw ag a0 b8 ap cr bj ai ce ax aj a1 F bo af b9 aq a8 bz ba bd au az V ci R a2 bk cl bv P B G ad cm bp co bs ae Q ay bb ab b5 al cg aw cz bi cn b7 am X ao bu E ac U c7:Value}(hv:Ba N w L cs x)(hN:∀b,N b->b < w.heap.size)(g:Fw x)(hP:Ps w cs W v (Ry x)):
  Code.wp Try.prog (DM 3 (Try.f62.body.getD .skip)) (bodyPost Try.prog Try.f62 (Ir w (Co x))) {tmps:=#[u0,.pointer (some ⟨w.heap.size,0,none⟩),u2,v,u4,u5,u6,u7,u8,u9,e5,df,f2,fu,f4,f3,d8,ev,fm,ej,e6,dh,fg,g5,fh,g9,e7,ei,da,fv,fd,fx,fa,dg,fl,d2,d3,e3,eh,fz,db,di,d6,fj,dj,dm,d0,g3,d1,ew,en,dy,f5,dl,dd,du,fk,er,ec,ea,fb,ey,fo,e9,fe,eo,e4,el,eb,ep,d7,e8,dq,ff,et,fp,fs,g7,f1,f6,ek,dt,eq,ft,dx,eu,dp,g4,d5,dc,g6,f7,fi,f9,ef,f0,fc,de,em,d4,a6,bg,b4,ca,cp,ar,c9,c4,aa,cc,cv,M,A,b3,bm,cq,an,z,a7,H,cb,cf,O,cw,cy,c3,cx,bh,cd,bn,ah,bw,ag,a0,b8,ap,cr,bj,ai,ce,ax,aj,a1,F,bo,af,b9,aq,a8,bz,ba,bd,au,az,V,ci,R,a2,bk,cl,bv,P,B,G,ad,cm,bp,co,bs,ae,Q,ay,bb,ab,b5,al,cg,aw,cz,bi,cn,b7,am,X,ao,bu,E,ac,U,c7],defers:=[]} W:=by
 obtain ⟨⟨a,n,c⟩,hL⟩:∃h:AF,L.crops=h:=⟨_,rfl⟩
 obtain ⟨s0,s1,s2,ch,g0,g1,g2⟩:=hv.cells
 have s:Hid (∀(W:World) (v:Value) (l:List Pl),Ps w cs W v l->W.cell? ⟨w.heap.size,20,none⟩=some (.slice a n c)):=ya (by
  intro W v l h
  refine h.cell (p:=.string x.name::(s0++(s1++(s2++[L.lets.v])))) (q:=[L.reaches.v,L.farms.v,L.rots.v,L.rights.v,L.duties.v]) ?_ (by simp[g0.len,g1.len,g2.len])
  rw[ch,hL]
  simp[yg,AF.v])
 have t:B7 N w 7 (F6 N w) ⟨a,n,c⟩ x.crops:=hL▸hv.crops
 have g8:=ya t.2.2
 have u:Hid (n=x.crops.length):=ya t.1
 clear t
 have fw:Hid (x.crops.length<=1000):=ya (by have:=g.crops;omega)
 have bt:Hid (n<=140737488355328):=ya (by have:=u.o;have:=fw.o;omega)
 have HV:=ya hv
 have HN:=ya hN
 have ck:=ya g
 have ed:=ya (Iq g)
 obtain ⟨I,hI⟩:∃I:Nat->Value->World->Prop,I=fun i v wr=>Ps w cs wr v (Ry x++(x.crops.take i).flatMap FU):=⟨_,rfl⟩
 have HI:=ya hI
 have C:Hid (I 0 v W):=ya (by rw[hI];simpa using hP)
 clear hv hN g hP hL ch g0 g1 g2 hI
 refine AH fun K hK=>?_
 go_wp2
 go_loopw [3,5] (fun v3 iv wr=>∃i:Nat,iv=.int .i64 i∧i<=n∧Hid (I i v3 wr)) (fun _ iv _=>n - (intOf iv).toNat)
 case atStart=>exact ⟨0,rfl,yv _,C⟩
 case round=>
  clear C
  obtain ⟨i,rfl,hi,S⟩:=hrel
  have d:Hid (Ps w cs wr u3 (Ry x++(x.crops.take i).flatMap FU)):=ya (by have h:=S.o;rw[HI.o] at h;exact h)
  clear S
  have hf:=s.o _ _ _ d.o
  have ga:n<=140737488355328:=bt.o
  by_cases ez:i < n
  ·have r:i < x.crops.length:=by rw[<-u.o];exact ez
   have dw:(i:Int) < (n:Int):=by omega
   obtain ⟨bq,oq,ct,he,cj,ee,Y,T⟩:=g8.o i r
   obtain rfl:a=some ⟨bq,oq,none⟩:=he
   have ak:(Ry x++(x.crops.take i).flatMap FU).length<=10000:=by
    have h1:=CO (l:=x.crops) (f:=FU) (c:=1) (i:=i) (fun _ _=>by simp[FU])
    have h2:=ed.o.p2;have h3:=ck.o.crops
    rw[yi]
    omega
   have m:Hid (Ry x++(x.crops.take (i+1)).flatMap FU=(Ry x++(x.crops.take i).flatMap FU)++FU x.crops[i]):=ya (by rw[Ck r,yg])
   generalize hD:x.crops[i]=D at T m
   clear hD
   generalize J:Ry x++(x.crops.take i).flatMap FU=c8 at m d ak
   clear J
   have Z:=A1 Y (d.o.below.block bq (HN.o bq cj))
   obtain ⟨k,dv⟩:=D
   obtain ⟨gc,c,rfl,_⟩:=T
   have gb:wr.cell? ⟨bq,oq+i*7,none⟩=some (.string k):=by simpa using OQ (p:=[]) Z
   clear Y ee cj r Z
   have eg:Hid (Below wr.heap.size wr (wr.alloc (.cells #[.int .i64 3,.string k,.string {data:=#[]},.int .i64 0,.string {data:=#[]},.int .i64 0,.int .i64 0,.bool false] 125))):=ya ((yc _ _).alloc (ye _) _)
   have y:Hid (Below wr.heap.size wr (wr.alloc (.cells #[.int .i64 3,.string k,.string {data:=#[]},.int .i64 0,.string {data:=#[]},.int .i64 0,.int .i64 0,.bool false] 125))):=ya ((yc wr.heap.size wr).trans (eg.o.mono (yc wr.heap.size wr).size))
   have av:=ya (d.o.own.up y.o)
   have c6:Hid ((wr.alloc (.cells #[.int .i64 3,.string k,.string {data:=#[]},.int .i64 0,.string {data:=#[]},.int .i64 0,.int .i64 0,.bool false] 125)).heap[wr.heap.size]?=some (.cells (([(⟨3,k,He,He,0,false⟩:Pl)]:List Pl).flatMap Li).toArray 125 (0,0))):=ya (World.alloc_heap_new wr (.cells #[.int .i64 3,.string k,.string {data:=#[]},.int .i64 0,.string {data:=#[]},.int .i64 0,.int .i64 0,.bool false] 125))
   have e:Hid ((w.heap.size+1)<=(wr.alloc (.cells #[.int .i64 3,.string k,.string {data:=#[]},.int .i64 0,.string {data:=#[]},.int .i64 0,.int .i64 0,.bool false] 125)).heap.size):=ya (yo d.o.size y.o.size)
   have cu:Hid (c8.length+1<=1000000):=ya (by omega)
   clear ak
   go_wp2_with (first|(at_builtin;refine Cr (w.heap.size+1) rfl _ _ rfl u3 c8 rfl av.o (wr.heap.size) 1 1 [(⟨3,k,He,He,0,false⟩:Pl)] rfl rfl c6.o cu.o e.o ?_;intro fy n5 c5 w5 j be;have fq:=ya j;have f8:Hid (Below (w.heap.size+1) wr w5):=ya (FY (y.o.mono d.o.size) e.o av.o be);clear j be))
   have dk:Hid (I (i+1) (.slice fy n5 c5) w5):=ya (by rw[HI.o];show Ps w cs w5 _ (Ry x++(x.crops.take (i+1)).flatMap FU);rw[m.o];exact d.o.next f8.o fq.o)
   exact ⟨⟨i+1,by push_cast;rfl,by omega,dk⟩,by simp[intOf];omega⟩
  ·obtain rfl:i=n:=by omega
   have dw:decide ((i:Int) < (i:Int))=false:=by simp
   have d9:Hid (Ps w cs wr u3 (Ry x++x.crops.flatMap FU)):=ya (by
    have h:=d.o
    rw[u.o,yx] at h
    exact h)
   clear d
   go_wp2
   exact hK.o _ _ (Wm HV.o HN.o ck.o d9.o)
theorem Wo{N:NP}{w W:World}{cs:LV}{x:AA}{L:BL}{v u0 u2 u4 u5 u6 u7 u8 u9 e5 df f2 fu f4 f3 d8 ev fm ej e6 dh fg g5 fh g9 e7 ei da fv fd fx fa dg fl d2 d3 e3 eh fz db di d6 fj dj dm d0 g3 d1 ew en dy f5 dl dd du fk er ec ea fb ey fo e9 fe eo e4 el eb ep d7 e8 dq ff et fp fs g7 f1 f6 ek dt eq ft dx eu dp g4 d5 dc g6 f7 fi f9 ef f0 fc de em d4 a6 bg b4 ca cp ar c9 c4 aa cc cv M A b3 bm cq an z a7 H cb cf O cw cy c3 cx bh cd bn ah bw ag a0 b8 ap cr bj ai ce ax aj a1 F bo af b9 aq a8 bz ba bd au az V ci R a2 bk cl bv P B G ad cm bp co bs ae Q ay bb ab b5 al cg aw cz bi cn b7 am X ao bu E ac U c7:Value}(hv:Ba N w L cs x)(hN:∀b,N b->b < w.heap.size)(g:Fw x)(hP:Ps w cs W v (Rx x)):
  Code.wp Try.prog (DM 2 (Try.f62.body.getD .skip)) (bodyPost Try.prog Try.f62 (Ir w (Co x))) {tmps:=#[u0,.pointer (some ⟨w.heap.size,0,none⟩),u2,v,u4,u5,u6,u7,u8,u9,e5,df,f2,fu,f4,f3,d8,ev,fm,ej,e6,dh,fg,g5,fh,g9,e7,ei,da,fv,fd,fx,fa,dg,fl,d2,d3,e3,eh,fz,db,di,d6,fj,dj,dm,d0,g3,d1,ew,en,dy,f5,dl,dd,du,fk,er,ec,ea,fb,ey,fo,e9,fe,eo,e4,el,eb,ep,d7,e8,dq,ff,et,fp,fs,g7,f1,f6,ek,dt,eq,ft,dx,eu,dp,g4,d5,dc,g6,f7,fi,f9,ef,f0,fc,de,em,d4,a6,bg,b4,ca,cp,ar,c9,c4,aa,cc,cv,M,A,b3,bm,cq,an,z,a7,H,cb,cf,O,cw,cy,c3,cx,bh,cd,bn,ah,bw,ag,a0,b8,ap,cr,bj,ai,ce,ax,aj,a1,F,bo,af,b9,aq,a8,bz,ba,bd,au,az,V,ci,R,a2,bk,cl,bv,P,B,G,ad,cm,bp,co,bs,ae,Q,ay,bb,ab,b5,al,cg,aw,cz,bi,cn,b7,am,X,ao,bu,E,ac,U,c7],defers:=[]} W:=by
 obtain ⟨⟨a,n,c⟩,hL⟩:∃h:AF,L.lets=h:=⟨_,rfl⟩
 obtain ⟨s0,s1,s2,ch,g0,g1,g2⟩:=hv.cells
 have s:Hid (∀(W:World) (v:Value) (l:List Pl),Ps w cs W v l->W.cell? ⟨w.heap.size,19,none⟩=some (.slice a n c)):=ya (by
  intro W v l h
  refine h.cell (p:=.string x.name::(s0++(s1++(s2++[])))) (q:=[L.crops.v,L.reaches.v,L.farms.v,L.rots.v,L.rights.v,L.duties.v]) ?_ (by simp[g0.len,g1.len,g2.len])
  rw[ch,hL]
  simp[yg,AF.v])
 have t:B7 N w 7 (Hf N w) ⟨a,n,c⟩ x.lets:=hL▸hv.lets
 have g8:=ya t.2.2
 have u:Hid (n=x.lets.length):=ya t.1
 clear t
 have fw:Hid (x.lets.length<=1000):=ya (by have:=g.lets;omega)
 have bt:Hid (n<=140737488355328):=ya (by have:=u.o;have:=fw.o;omega)
 have HV:=ya hv
 have HN:=ya hN
 have ck:=ya g
 have ed:=ya (Iq g)
 obtain ⟨I,hI⟩:∃I:Nat->Value->World->Prop,I=fun i v wr=>Ps w cs wr v (Rx x++(x.lets.take i).flatMap J4):=⟨_,rfl⟩
 have HI:=ya hI
 have C:Hid (I 0 v W):=ya (by rw[hI];simpa using hP)
 clear hv hN g hP hL ch g0 g1 g2 hI
 refine AH fun K hK=>?_
 go_wp2
 go_loopw [3,4] (fun v3 iv wr=>∃i:Nat,iv=.int .i64 i∧i<=n∧Hid (I i v3 wr)) (fun _ iv _=>n - (intOf iv).toNat)
 case atStart=>exact ⟨0,rfl,yv _,C⟩
 case round=>
  clear C
  obtain ⟨i,rfl,hi,S⟩:=hrel
  have d:Hid (Ps w cs wr u3 (Rx x++(x.lets.take i).flatMap J4)):=ya (by have h:=S.o;rw[HI.o] at h;exact h)
  clear S
  have hf:=s.o _ _ _ d.o
  have ga:n<=140737488355328:=bt.o
  by_cases ez:i < n
  ·have r:i < x.lets.length:=by rw[<-u.o];exact ez
   have dw:(i:Int) < (n:Int):=by omega
   obtain ⟨bq,oq,ct,he,cj,ee,Y,T⟩:=g8.o i r
   obtain rfl:a=some ⟨bq,oq,none⟩:=he
   have ak:(Rx x++(x.lets.take i).flatMap J4).length<=10000:=by
    have h1:=CO (l:=x.lets) (f:=J4) (c:=1) (i:=i) (fun _ _=>by simp[J4])
    have h2:=ed.o.p1;have h3:=ck.o.lets
    rw[yi]
    omega
   have m:Hid (Rx x++(x.lets.take (i+1)).flatMap J4=(Rx x++(x.lets.take i).flatMap J4)++J4 x.lets[i]):=ya (by rw[Ck r,yg])
   generalize hD:x.lets[i]=D at T m
   clear hD
   generalize J:Rx x++(x.lets.take i).flatMap J4=c8 at m d ak
   clear J
   have Z:=A1 Y (d.o.below.block bq (HN.o bq cj))
   obtain ⟨k,dv⟩:=D
   obtain ⟨gc,c,rfl,_⟩:=T
   have gb:wr.cell? ⟨bq,oq+i*7,none⟩=some (.string k):=by simpa using OQ (p:=[]) Z
   clear Y ee cj r Z
   have eg:Hid (Below wr.heap.size wr (wr.alloc (.cells #[.int .i64 2,.string k,.string {data:=#[]},.int .i64 0,.string {data:=#[]},.int .i64 0,.int .i64 0,.bool false] 125))):=ya ((yc _ _).alloc (ye _) _)
   have y:Hid (Below wr.heap.size wr (wr.alloc (.cells #[.int .i64 2,.string k,.string {data:=#[]},.int .i64 0,.string {data:=#[]},.int .i64 0,.int .i64 0,.bool false] 125))):=ya ((yc wr.heap.size wr).trans (eg.o.mono (yc wr.heap.size wr).size))
   have av:=ya (d.o.own.up y.o)
   have c6:Hid ((wr.alloc (.cells #[.int .i64 2,.string k,.string {data:=#[]},.int .i64 0,.string {data:=#[]},.int .i64 0,.int .i64 0,.bool false] 125)).heap[wr.heap.size]?=some (.cells (([(⟨2,k,He,He,0,false⟩:Pl)]:List Pl).flatMap Li).toArray 125 (0,0))):=ya (World.alloc_heap_new wr (.cells #[.int .i64 2,.string k,.string {data:=#[]},.int .i64 0,.string {data:=#[]},.int .i64 0,.int .i64 0,.bool false] 125))
   have e:Hid ((w.heap.size+1)<=(wr.alloc (.cells #[.int .i64 2,.string k,.string {data:=#[]},.int .i64 0,.string {data:=#[]},.int .i64 0,.int .i64 0,.bool false] 125)).heap.size):=ya (yo d.o.size y.o.size)
   have cu:Hid (c8.length+1<=1000000):=ya (by omega)
   clear ak
   go_wp2_with (first|(at_builtin;refine Cr (w.heap.size+1) rfl _ _ rfl u3 c8 rfl av.o (wr.heap.size) 1 1 [(⟨2,k,He,He,0,false⟩:Pl)] rfl rfl c6.o cu.o e.o ?_;intro fy n5 c5 w5 j be;have fq:=ya j;have f8:Hid (Below (w.heap.size+1) wr w5):=ya (FY (y.o.mono d.o.size) e.o av.o be);clear j be))
   have dk:Hid (I (i+1) (.slice fy n5 c5) w5):=ya (by rw[HI.o];show Ps w cs w5 _ (Rx x++(x.lets.take (i+1)).flatMap J4);rw[m.o];exact d.o.next f8.o fq.o)
   exact ⟨⟨i+1,by push_cast;rfl,by omega,dk⟩,by simp[intOf];omega⟩
  ·obtain rfl:i=n:=by omega
   have dw:decide ((i:Int) < (i:Int))=false:=by simp
   have d9:Hid (Ps w cs wr u3 (Rx x++x.lets.flatMap J4)):=ya (by
    have h:=d.o
    rw[u.o,yx] at h
    exact h)
   clear d
   go_wp2
   exact hK.o _ _ (Wn HV.o HN.o ck.o d9.o)
theorem NY{N:NP}{w:World}{cs:LV}{x:AA}{L:BL}(i:Ba N w L cs x)(hN:∀b,N b->b < w.heap.size)(g:Fw x):
  Calls Try.prog 62 #[.agg cs.toArray] w (Ir w (Co x)):=by
 have r:=ya i;have q:=ya hN;have l:=ya g
 have m:=ya (Fl.len ⟨L,i⟩)
 obtain ⟨t,v,u,f,_⟩:=i.cells
 have k:=ya f
 clear i hN g f
 go_enter Try.func62,Try.ntmps62
 refine AH fun K j=>?_
 go_wp2_with (first|(refine AR rfl 35 _ rfl cs.toArray rfl ?_))
 refine j.o _ _ ?_
 clear j K
 obtain ⟨w1,a⟩:∃z:World,z=w.alloc (.cells cs.toArray 35):=⟨_,rfl⟩
 rw[<-a]
 have d:Hid (Below w.heap.size w w1):=ya (by rw[a];exact (yc _ _).alloc (ye _) _)
 have e:Hid (w1.heap[w.heap.size]?=some (.cells cs.toArray 35 (0,0))):=ya (by rw[a];exact World.alloc_heap_new _ _)
 have c:Hid (w1.heap.size=w.heap.size+1):=ya (by rw[a];simp)
 have s:w1.cell? ⟨w.heap.size,0,none⟩=some (.string x.name):=by
  have h:=e.o
  rw[k.o] at h
  exact Ew h (p:=[]) rfl rfl
 clear a
 refine AH fun K j=>?_
 go_wp2
 refine j.o _ _ (Wo r.o q.o l.o ?_)
 have n:=World.alloc_heap_new w1 (.cells #[.int .i64 1,.string x.name,.string {data:=#[]},.int .i64 0,.string {data:=#[]},.int .i64 0,.int .i64 0,.bool false] 125)
 have hb:Below w1.heap.size w1 (w1.alloc (.cells #[.int .i64 1,.string x.name,.string {data:=#[]},.int .i64 0,.string {data:=#[]},.int .i64 0,.int .i64 0,.bool false] 125)):=(yc _ _).alloc (ye _) _
 refine ⟨d.o.trans (hb.mono d.o.size),(hb.block _ (by rw[c.o];omega)).trans e.o,⟨rfl,.inr ⟨w1.heap.size,1,_,rfl,by rw[c.o];omega,n,by simp[Rx],by simp[maxLen],rfl,rfl⟩⟩,by have:=hb.size;have:=c.o;omega⟩
def Wp(p q:Pl):Bool:=decide (p.kind=q.kind)&&(decide (p.name.toList=q.name.toList)&&(decide (p.a.name.toList=q.a.name.toList)&&(decide (p.a.n=q.a.n)&&(decide (p.b.name.toList=q.b.name.toList)&&(decide (p.b.n=q.b.n)&&(decide (p.n=q.n)&&decide (p.is=q.is)))))))
theorem VA{p q:Pl}:Wp p q=true↔p=q:=by
 obtain ⟨k,n,⟨t,v⟩,⟨l,j⟩,m,s⟩:=p
 obtain ⟨k',o,⟨c,d⟩,⟨b,e⟩,r,u⟩:=q
 simp only[Wp,ym,yR]
 constructor
 ·rintro ⟨rfl,h1,h2,rfl,h3,rfl,rfl,rfl⟩
  rw[I1 h1,I1 h2,I1 h3]
 ·intro h
  injection h with h1 h2 h3 h4 h5 h6
  injection h3 with f g
  injection h4 with i a
  subst h1 h2 f g i a h5 h6
  exact ⟨rfl,rfl,rfl,rfl,rfl,rfl,rfl,rfl⟩
theorem Qk{o:Oper}{a:Act}{w:World}{K:Act->World->Prop}{Q:QT}(x y:Operand)(B:o.op=.binOp .neq 125 x y 125)(p q:Pl)(t:a.eval x=.agg (Li p).toArray)(j:a.eval y=.agg (Li q).toArray)
 (h:K (a.put o.dst (.bool (!Wp p q))) w):Oper.wp Try.prog o a w K Q:=by
 obtain ⟨k,n,⟨u,A⟩,⟨i,g⟩,m,s⟩:=p
 obtain ⟨k',l,⟨c,d⟩,⟨b,f⟩,r,v⟩:=q
 simp only[Li,Wp] at h t j
 unfold Oper.wp execOp
 simp only[B,t,j]
 go_simp
 have e:∀z:Bool,z=(decide (k=k')&&(decide (n.toList=l.toList)&&(decide (u.toList=c.toList)&&(decide (A=d)&&(decide (i.toList=b.toList)&&(decide (g=f)&&(decide (m=r)&&decide (s=v))))))))->
   (if k=k' then if n.toList=l.toList then if u.toList=c.toList then if A=d then if i.toList=b.toList then if g=f then if m=r then if s=v then Result.ok (Next.value (Value.bool false)) w else Result.ok (Next.value (Value.bool true)) w else Result.ok (Next.value (Value.bool true)) w else Result.ok (Next.value (Value.bool true)) w else Result.ok (Next.value (Value.bool true)) w else Result.ok (Next.value (Value.bool true)) w else Result.ok (Next.value (Value.bool true)) w else Result.ok (Next.value (Value.bool true)) w else Result.ok (Next.value (Value.bool true)) w)=Result.ok (Next.value (Value.bool (!z))) w:=by
  rintro z rfl
  repeat' split
  all_goals simp[*]
 rw[e _ rfl]
 exact h
def J5:List Pl->List Pl->Bool
 |[],_=>true
 |_::_,[]=>true
 |p::r,q::s=>Wp p q&&J5 r s
def IA(x y:AA):Bool:=(decide ((Co x).length=(Co y).length)&&J5 (Co x) (Co y))&&(decide ((BJ x).length=(BJ y).length)&&MO (BJ x) (BJ y))
theorem MB:∀a b:List Pl,a.length=b.length->(J5 a b=true↔a=b)
 |[],b,h=>by
  obtain rfl:b=[]:=yX.1 h.symm
  simp[J5]
 |e::r,[],h=>by simp at h
 |e::r,e'::r',h=>by
  rw[J5,ym,VA,MB r r' (by simpa using h)]
  simp
theorem NZ(x y:AA):IA x y=true↔Co x=Co y∧BJ x=BJ y:=by
 unfold IA
 simp only[ym,yR]
 constructor
 ·rintro ⟨⟨h1,h2⟩,h3,h4⟩
  exact ⟨(MB _ _ h1).1 h2,(Kj _ _ h3).1 h4⟩
 ·rintro ⟨h1,h2⟩
  rw[h1,h2]
  exact ⟨⟨rfl,(MB _ _ rfl).2 rfl⟩,rfl,(Kj _ _ rfl).2 rfl⟩
theorem UJ{B:Nat}{W:World}{ty sz:Nat}{v:Value}{rows:List LV}(h:W.ownsRow B ty sz v rows.length rows.flatten)(d:∀r∈rows,r.length=sz):∃a c,v=.slice a rows.length c∧∀i (hi:i < rows.length),∃g,a=some ⟨g,0,none⟩∧g < W.heap.size∧W.rangeAt g (i*sz) rows[i]:=by
 rcases h.2 with ⟨rfl,k⟩|⟨g,cap,l,rfl,h4,h5,h6,n,o,m⟩
 ·exact ⟨none,0,by rw[k],fun i hi=>by omega⟩
 ·refine ⟨some (aV g 0),cap,rfl,fun i hi=>⟨g,rfl,(yd.1 h5).1,?_⟩⟩
  intro j u f
  have e:j < sz:=by rw[<-d _ (yw hi)];exact (yA.1 f).1
  have b:=(Hh rows sz d).2 i hi j e
  rw[f,<-m] at b
  rw[zJ] at b
  split at b
  ·simp only[World.cell?,h5]
   simpa using b
  ·cases b
theorem UK{B:Nat}{W:World}{v:Value}{l:List Pl}(h:FX B W v l):∃a c,v=.slice a l.length c∧∀i (hi:i < l.length),∃g,a=some ⟨g,0,none⟩∧g < W.heap.size∧W.rangeAt g (i*8) (Li l[i]):=by
 have d:W.ownsRow B 125 8 v (l.map Li).length (l.map Li).flatten:=by
  rw[yI,<-List.flatMap_def];exact h
 obtain ⟨a,c,e,b⟩:=UJ d (fun r b=>by obtain ⟨p,_,rfl⟩:=xH.1 b;rfl)
 refine ⟨a,c,by rw[e,yI],fun i hi=>?_⟩
 obtain ⟨g,h1,h2,h3⟩:=b i (by simpa using hi)
 exact ⟨g,h1,h2,by simpa using h3⟩
theorem UL{B:Nat}{N:NP}{e W:World}{v:Value}{es:List Ex}(h:L3 B N e es W v):∃a c,v=.slice a es.length c∧∀i (hi:i < es.length),∃g cs,a=some ⟨g,0,none⟩∧g < W.heap.size∧W.rangeAt g (i*6) cs∧Bh N e es[i] cs:=by
 obtain ⟨rows,f,b⟩:=h.own
 have hl:rows.length=es.length:=b.length
 obtain ⟨a,c,j,d⟩:=UJ f (fun r d=>by
  obtain ⟨i,hi,rfl⟩:=List.getElem_of_mem d
  exact (b.get i hi (by omega)).len)
 refine ⟨a,c,by rw[j,hl],fun i hi=>?_⟩
 obtain ⟨g,h1,h2,h3⟩:=d i (by omega)
 exact ⟨g,_,h1,h2,h3,b.get i (by omega) hi⟩
theorem Ql{x:AA}(h:Fw x):(BJ x).length<=140737488355328:=by
 have h1:=h.top.t7;have h2:=h.duties
 have h3:(x.duties.flatMap fun d=> [d.due]).length<=x.duties.length*1:=B6 fun _ _=>by simp
 unfold BJ
 rw[yi]
 omega
theorem Qm{N:NP}{w:World}{cs ds:LV}{x y:AA}{L M:BL}(hv:Ba N w L cs x)(hu:Ba N w M ds y)(hN:∀b,N b->b < w.heap.size)(aa:Fw x)(a7:Fw y):
  Calls Try.prog 13 #[.agg cs.toArray,.agg ds.toArray] w fun e w'=>e=.returned (.bool (IA x y))∧Below w.heap.size w w':=by
 have HV:=ya hv;have HU:=ya hu;have HN:=ya hN;have bp:=ya aa;have be:=ya a7
 have b7:=ya (Fl.len ⟨L,hv⟩);have b8:=ya (Fl.len ⟨M,hu⟩)
 have aq:=ya (Iq aa).p8;have az:=ya (Iq a7).p8
 have bu:=ya (Ql aa);have c7:=ya (Ql a7)
 clear hv hu hN aa a7
 go_enter Try.func13,Try.ntmps13
 refine AH fun K f=>?_
 go_wp2_with (first|(refine AR rfl 35 _ rfl cs.toArray rfl ?_)|(refine AR rfl 35 _ rfl ds.toArray rfl ?_))
 refine f.o _ _ ?_
 clear f K
 obtain ⟨w1,D⟩:∃z:World,z=(w.alloc (.cells cs.toArray 35)).alloc (.cells ds.toArray 35):=⟨_,rfl⟩
 rw[<-D]
 have B:Hid (Below w.heap.size w w1):=ya (by rw[D];exact ((yc _ _).alloc (ye _) _).alloc (by simp) _)
 have af:Hid (w1.heap[w.heap.size]?=some (.cells cs.toArray 35 (0,0))∧w1.heap[w.heap.size+1]?=some (.cells ds.toArray 35 (0,0))∧w1.heap.size=w.heap.size+2):=ya (by
  refine ⟨?_,?_,by rw[D];simp⟩
  ·rw[D,yT _ _ _ (by simp)];exact World.alloc_heap_new _ _
  ·have:=World.alloc_heap_new (w.alloc (.cells cs.toArray 35)) (.cells ds.toArray 35)
   rw[D];simpa using this)
 clear D
 have HR:Hid (∀W,Below w1.heap.size w1 W->W.rangeAt w.heap.size 0 cs∧W.rangeAt (w.heap.size+1) 0 ds∧Ba N W L cs x∧Ba N W M ds y∧∀b,N b->b < W.heap.size):=ya (fun W hb=>by
  have hz:=af.o.2.2
  have hw:=B.o.trans (hb.mono B.o.size)
  exact ⟨A6 ((hb.block _ (by omega)).trans af.o.1),A6 ((hb.block _ (by omega)).trans af.o.2.1),HV.o.same (fun _ h=>h) (fun b hb=>hw.block b (HN.o b hb)),HU.o.same (fun _ h=>h) (fun b hb=>hw.block b (HN.o b hb)),fun b h=>yk (HN.o b h) hw.size⟩)
 have am:=ya (HR.o w1 (yc _ _))
 refine AH fun K f=>?_
 go_wp2_with (first
  |(refine yf rfl 35 _ rfl w.heap.size 0 rfl cs _ am.o.1 qO rfl (AX (n:=26) (by kernel_rfl) b7.o) ?_)
  |(go_at_call 62;refine (NY am.o.2.2.1 am.o.2.2.2.2 bp.o).mono ?_;rintro e w2 ⟨p,rfl,hp,b9⟩;have HP:=ya hp;have ai:=ya b9;clear hp b9))
 refine f.o _ _ ?_
 clear f K
 have ar:=ya (HR.o w2 ai.o)
 refine AH fun K f=>?_
 go_wp2_with (first
  |(refine yf rfl 35 _ rfl (w.heap.size+1) 0 rfl ds _ ar.o.2.1 qO rfl (AX (n:=26) (by kernel_rfl) b8.o) ?_)
  |(go_at_call 62;refine (NY ar.o.2.2.2.1 ar.o.2.2.2.2 be.o).mono ?_;rintro e w3 ⟨q,rfl,hq,bn⟩;have HQ:=ya hq;have bq:=ya bn;clear hq bn))
 refine f.o _ _ ?_
 clear f K
 have F:Hid (Below w1.heap.size w1 w3):=ya (ai.o.trans (bq.o.mono ai.o.size))
 have a2:Hid (Below w.heap.size w w3):=ya (B.o.trans (F.o.mono B.o.size))
 have bk:=ya (HP.o.up bq.o)
 obtain ⟨pa,pc,rfl,b3⟩:=UK bk.o
 obtain ⟨qa,qc,rfl,bj⟩:=UK HQ.o
 have aj:=ya b3;have ah:=ya bj
 have l:Hid (IA x y=((decide ((Co x).length=(Co y).length)&&J5 (Co x) (Co y))&&(decide ((BJ x).length=(BJ y).length)&&MO (BJ x) (BJ y)))):=ya rfl
 generalize IA x y=S at l ⊢
 generalize av:Co x=v at aj l aq
 generalize ak:Co y=A at ah l az
 have bg:=ya aq.o;have c9:=ya az.o
 generalize hm:v.length=m at l bg ⊢
 generalize hn:A.length=n at l c9 ⊢
 have HM:=ya hm;have cd:=ya hn
 clear b3 bj av ak hm hn HP bk HQ aq az
 refine AH fun K f=>?_
 obtain h1|rfl:((m:Int) !=(n:Int))=true∨m=n:=by
  by_cases h:m=n
  ·exact .inr h
  ·exact .inl (by simp only[qq,ne_eq];omega)
 ·have hS:S=false:=by
   rw[l.o]
   have:decide (m=n)=false:=by simp only[qq,ne_eq] at h1;simp only[xz];omega
   rw[this];simp
  subst hS
  clear f
  go_wp2
  go_ret
  exact ⟨rfl,a2.o⟩
 have al:((m:Int) !=(m:Int))=false:=by simp
 go_wp2
 refine f.o _ _ ?_
 clear f K al
 have bo:m<=140737488355328:=by have:=bg.o;omega
 have a1:Hid (J5 (v.drop 0) (A.drop 0)=J5 v A):=ya rfl
 have ae:=ya (yc w3.heap.size w3)
 refine AH fun K f=>?_
 go_wp2
 go_loopw [7] (fun iv wr=>∃i:Nat,iv=iV i∧i<=m∧Hid (J5 (v.drop i) (A.drop i)=J5 v A)∧Hid (Below w3.heap.size w3 wr)) (fun iv _=>m - (intOf iv).toNat)
 case atStart=>exact ⟨0,rfl,yv _,a1,ae⟩
 case round=>
  clear a1 ae
  obtain ⟨i,rfl,hi,HE,d⟩:=hrel
  by_cases bi:i < m
  ·have ap:i < v.length:=by rw[HM.o];exact bi
   have I:i < A.length:=by rw[cd.o];exact bi
   have a8:(i:Int) < (m:Int):=by omega
   obtain ⟨g,rfl,hg,hr⟩:=aj.o i ap
   obtain ⟨H,rfl,T,Z⟩:=ah.o i I
   have ce:=ya (A1 hr (d.o.block g hg))
   have cc:=ya (A1 Z (d.o.block H T))
   have C:Hid ((Wp v[i] A[i]&&J5 (v.drop (i+1)) (A.drop (i+1)))=J5 v A):=ya (by
    have h:=HE.o
    rw[DW ap,DW I,J5] at h
    exact h)
   generalize v[i]=P at*
   generalize A[i]=R at*
   have pr:=ce.o
   have qr:=cc.o
   have p0:wr.cell? (aV g (i*8))=some (iV P.kind):=by have h:=pr 0 _ rfl;simpa using h
   have p1:wr.cell? (aV g (i*8+1))=some (.string P.name):=by have h:=pr 1 _ rfl;simpa using h
   have p2:wr.cell? (aV g (i*8+2))=some (.string P.a.name):=by have h:=pr 2 _ rfl;simpa using h
   have p3:wr.cell? (aV g (i*8+3))=some (iV P.a.n):=by have h:=pr 3 _ rfl;simpa using h
   have p4:wr.cell? (aV g (i*8+4))=some (.string P.b.name):=by have h:=pr 4 _ rfl;simpa using h
   have p5:wr.cell? (aV g (i*8+5))=some (iV P.b.n):=by have h:=pr 5 _ rfl;simpa using h
   have p6:wr.cell? (aV g (i*8+6))=some (iV P.n):=by have h:=pr 6 _ rfl;simpa using h
   have p7:wr.cell? (aV g (i*8+7))=some (.bool P.is):=by have h:=pr 7 _ rfl;simpa using h
   have q0:wr.cell? (aV H (i*8))=some (iV R.kind):=by have h:=qr 0 _ rfl;simpa using h
   have q1:wr.cell? (aV H (i*8+1))=some (.string R.name):=by have h:=qr 1 _ rfl;simpa using h
   have q2:wr.cell? (aV H (i*8+2))=some (.string R.a.name):=by have h:=qr 2 _ rfl;simpa using h
   have q3:wr.cell? (aV H (i*8+3))=some (iV R.a.n):=by have h:=qr 3 _ rfl;simpa using h
   have q4:wr.cell? (aV H (i*8+4))=some (.string R.b.name):=by have h:=qr 4 _ rfl;simpa using h
   have q5:wr.cell? (aV H (i*8+5))=some (iV R.b.n):=by have h:=qr 5 _ rfl;simpa using h
   have q6:wr.cell? (aV H (i*8+6))=some (iV R.n):=by have h:=qr 6 _ rfl;simpa using h
   have q7:wr.cell? (aV H (i*8+7))=some (.bool R.is):=by have h:=qr 7 _ rfl;simpa using h
   clear pr qr hr Z hg T ap I
   go_upto_region 8 with fail
   go_still_tail 8,(by kernel_rfl)
   change wpList _ _ _ _ _ wr.drew
   clear p0 p1 p2 p3 p4 p5 p6 p7 q0 q1 q2 q3 q4 q5 q6 q7
   cases hs:Wp P R
   ·have HF:Hid (false=S):=ya (by
     rw[l.o,<-C.o,hs];simp)
    clear f
    go_wp2_with (first|(refine yF rfl fun _ ag=>Qk _ _ rfl P R rfl rfl (ag _ _ ?_);rw[hs]))
    go_ret
    exact ⟨yz (fun b=>Ending.returned (Value.bool b)) HF.o,a2.o.trans (d.o.drew.mono a2.o.size)⟩
   ·have J:Hid (J5 (v.drop (i+1)) (A.drop (i+1))=J5 v A):=ya (by
     rw[<-C.o,hs,Bool.true_and])
    go_wp2_with (first|(refine yF rfl fun _ ag=>Qk _ _ rfl P R rfl rfl (ag _ _ ?_);rw[hs]))
    exact ⟨⟨i+1,by push_cast;rfl,by omega,J,ya d.o.drew⟩,by simp[intOf];omega⟩
  ·obtain rfl:i=m:=by omega
   have a8:decide ((i:Int) < (i:Int))=false:=by simp
   have c6:Hid (J5 v A=true):=ya (by
    have h:=HE.o
    rw[<-HM.o,zl,J5] at h
    exact h.symm)
   go_wp2
   refine f.o _ _ ?_
   clear f a8 HE
   have V:Hid (Below w1.heap.size w1 wr):=ya (F.o.trans (d.o.mono F.o.size))
   have Q:=ya (HR.o wr V.o)
   refine AH fun K f=>?_
   go_wp2_with (first
    |(refine yf rfl 35 _ rfl w.heap.size 0 rfl cs _ Q.o.1 qO rfl (AX (n:=26) (by kernel_rfl) b7.o) ?_)
    |(go_at_call 22;refine (Lx Q.o.2.2.1 Q.o.2.2.2.2 bp.o).mono ?_;rintro e w4 ⟨s,rfl,bw⟩;have HS:=ya bw;clear bw))
   refine f.o _ _ ?_
   clear f K
   have G:Hid (Below w1.heap.size w1 w4):=ya (V.o.trans (HS.o.below.mono V.o.size))
   have U:=ya (HR.o w4 G.o)
   refine AH fun K f=>?_
   go_wp2_with (first
    |(refine yf rfl 35 _ rfl (w.heap.size+1) 0 rfl ds _ U.o.2.1 qO rfl (AX (n:=26) (by kernel_rfl) b8.o) ?_)
    |(go_at_call 22;refine (Lx U.o.2.2.2.1 U.o.2.2.2.2 be.o).mono ?_;rintro e u ⟨r,rfl,bz⟩;have J:=ya bz;clear bz))
   refine f.o _ _ ?_
   clear f K
   have ad:Hid (Below w1.heap.size w1 u):=ya (G.o.trans (J.o.below.mono G.o.size))
   have t:Hid (Below w.heap.size w u):=ya (B.o.trans (ad.o.mono B.o.size))
   obtain ⟨sa,sc,rfl,b4⟩:=UL HS.o
   obtain ⟨ra,rc,rfl,bb⟩:=UL J.o
   have bh:Hid (∀i (hi:i < (BJ x).length),∃g cs,sa=some (aV g 0)∧g < u.heap.size∧u.rangeAt g (i*6) cs∧Bh N u (BJ x)[i] cs):=ya (fun i hi=>by
    obtain ⟨g,c,h1,h2,h3,h4⟩:=b4 i hi
    refine ⟨g,c,h1,yk h2 J.o.below.size,A1 h3 (J.o.below.block g h2),h4.same (fun _ h=>h) (fun b hb=>?_)⟩
    have bt:=Q.o.2.2.2.2 b hb
    exact (J.o.below.block b (yk bt HS.o.below.size)).trans (HS.o.below.block b bt))
   have bv:Hid (∀i (hi:i < (BJ y).length),∃g cs,ra=some (aV g 0)∧g < u.heap.size∧u.rangeAt g (i*6) cs∧Bh N u (BJ y)[i] cs):=ya (fun i hi=>by
    obtain ⟨g,c,h1,h2,h3,h4⟩:=bb i hi
    exact ⟨g,c,h1,h2,h3,h4.same (fun _ h=>h) (fun b hb=>J.o.below.block b (U.o.2.2.2.2 b hb))⟩)
   have k:Hid (S=(decide ((BJ x).length=(BJ y).length)&&MO (BJ x) (BJ y))):=ya (by rw[l.o,c6.o];simp)
   have ao:Hid (∀b,N b->b < u.heap.size):=ya (HR.o u ad.o).2.2.2.2
   have a0:=ya bu.o
   generalize av:BJ x=lx at bh k a0
   generalize ak:BJ y=ly at bv k
   generalize bd:lx.length=mx at k a0 ⊢
   generalize b5:ly.length=my at k ⊢
   have bs:=ya bd;have cf:=ya b5
   clear b4 bb av ak bd b5 HS J Q U bu c7 l aj ah c6
   refine AH fun K f=>?_
   obtain h1|rfl:((mx:Int) !=(my:Int))=true∨mx=my:=by
    by_cases h:mx=my
    ·exact .inr h
    ·exact .inl (by simp only[qq,ne_eq];omega)
   ·have hS:S=false:=by
     rw[k.o]
     have:decide (mx=my)=false:=by simp only[qq,ne_eq] at h1;simp only[xz];omega
     rw[this];simp
    subst hS
    clear f
    go_wp2
    go_ret
    exact ⟨rfl,t.o⟩
   have al:((mx:Int) !=(mx:Int))=false:=by simp
   go_wp2
   refine f.o _ _ ?_
   clear f K al
   have bo:mx<=140737488355328:=a0.o
   have c8:Hid (S=MO lx ly):=ya (by rw[k.o];simp)
   have a1:Hid (MO (lx.drop 0) (ly.drop 0)=S):=ya c8.o.symm
   have ac:=ya (yc u.heap.size u)
   clear k
   refine AH fun K f=>?_
   go_wp2
   go_loopw [10] (fun jv wr=>∃j:Nat,jv=iV j∧j<=mx∧Hid (MO (lx.drop j) (ly.drop j)=S)∧Hid (Below u.heap.size u wr)) (fun jv _=>mx - (intOf jv).toNat)
   case atStart=>exact ⟨0,rfl,yv _,a1,ac⟩
   case round=>
    clear a1 ac
    obtain ⟨j,rfl,hj,HE,d⟩:=hrel
    by_cases ba:j < mx
    ·have an:j < lx.length:=by rw[bs.o];exact ba
     have E:j < ly.length:=by rw[cf.o];exact ba
     have a8:(j:Int) < (mx:Int):=by omega
     obtain ⟨g,ca,rfl,hg,hr,au⟩:=bh.o j an
     obtain ⟨H,cb,rfl,T,Z,a6⟩:=bv.o j E
     have bm:=A1 hr (d.o.block g hg)
     have ab:=A1 Z (d.o.block H T)
     have HC:=ya (OS lx[j] (e':=ly[j]) (w:=wr.drew) (Bh.same (fun b h=>h) (fun b hb=>d.o.drew.block b (ao.o b hb)) au) (Bh.same (fun b h=>h) (fun b hb=>d.o.drew.block b (ao.o b hb)) a6) (fun b h=>yk (ao.o b h) d.o.drew.size))
     have C:Hid ((Vy lx[j] ly[j]&&MO (lx.drop (j+1)) (ly.drop (j+1)))=S):=ya (by
      have h:=HE.o
      rw[DW an,DW E,MO] at h
      exact h)
     generalize lx[j]=X at*
     generalize ly[j]=Y at*
     obtain ⟨ax,cx,rfl,_⟩:=au.cells
     obtain ⟨ay,cy,rfl,_⟩:=a6.cells
     obtain ⟨c0,c1,c2,c3,c4,c5⟩:=BZ bm
     obtain ⟨d0,d1,d2,d3,d4,d5⟩:=BZ ab
     generalize Vy X Y=z at HC C
     clear au a6 hr Z bm ab hg T an E
     go_upto_region 17 with fail
     go_still_tail 8,(by kernel_rfl)
     change wpList _ _ _ _ _ wr.drew
     clear c0 c1 c2 c3 c4 c5 d0 d1 d2 d3 d4 d5
     cases z
     ·have HF:Hid (false=S):=ya C.o
      clear f
      go_wp2_with (first|(go_at_call 63;refine HC.o.mono ?_;rintro e w6 ⟨rfl,O⟩;have aw:=ya (d.o.drew.trans (O.mono d.o.drew.size));clear O))
      go_ret
      exact ⟨yz (fun b=>Ending.returned (Value.bool b)) HF.o,t.o.trans (aw.o.mono t.o.size)⟩
     ·have J:Hid (MO (lx.drop (j+1)) (ly.drop (j+1))=S):=ya C.o
      go_wp2_with (first|(go_at_call 63;refine HC.o.mono ?_;rintro e w6 ⟨rfl,O⟩;have aw:=ya (d.o.drew.trans (O.mono d.o.drew.size));clear O))
      exact ⟨⟨j+1,by push_cast;rfl,by omega,J,aw⟩,by simp[intOf];omega⟩
    ·obtain rfl:j=mx:=by omega
     have a8:decide ((j:Int) < (j:Int))=false:=by simp
     have HF:Hid (true=S):=ya (by
      have h:=HE.o
      rw[<-bs.o,zl,MO] at h
      exact h)
     go_wp2
     refine f.o _ _ ?_
     go_wp2
     go_ret
     exact ⟨yz (fun b=>Ending.returned (Value.bool b)) HF.o,t.o.trans (d.o.mono t.o.size)⟩
end Go.Proofs.Ytghepahgkcigpaa
