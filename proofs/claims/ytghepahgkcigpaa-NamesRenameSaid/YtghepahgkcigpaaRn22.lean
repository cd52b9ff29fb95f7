/- The reference's plain: duties, rights (printed by gen_zq.py). -/
import Derived.Test.YtghepahgkcigpaaRn0
import Derived.Test.YtghepahgkcigpaaRn13
import Derived.StillTailTactics
import Derived.Deep.CutBlock
set_option maxRecDepth 100000
set_option maxHeartbeats 32000000
set_option linter.unusedSimpArgs false
namespace Go.Proofs.Ytghepahgkcigpaa
open Go.RowKit
theorem VA{B b:Nat}{w:World}{v:Value}{l:List Pl}(h:Fq B w v l)(c:b<=B):Fq b w v l:=by
 obtain ⟨h1,h2⟩:=h
 refine ⟨h1,h2.imp id ?_⟩
 rintro ⟨g,cap,a,h3,h4,h5⟩
 exact ⟨g,cap,a,h3,by omega,h5⟩
theorem Ee{W:World}{b o:Nat}{row p q:LV}{u:Value}{t:TypeId}(h:W.heap[b]?=some (.cells row.toArray t (0,0)))(d:row=p++(u::q))(a:p.length=o):W.cell? ⟨b,o,none⟩=some u:=by
 have h1:=Aw h
 rw[d] at h1
 have h2:=AO (p:=p) (c:=[u]) (q:=q) h1
 rw[a,yB] at h2
 exact CL h2
theorem Gb{W:World}{b o:Nat}{row p q c:LV}{t:TypeId}(h:W.heap[b]?=some (.cells row.toArray t (0,0)))(d:row=p++(c++q))(a:p.length=o):W.rangeAt b o c:=by
 have h1:=Aw h
 rw[d] at h1
 have h2:=AO (p:=p) (c:=c) (q:=q) h1
 rwa [a,yB] at h2
theorem Wr{w W:World}{cs:LV}{x:Am}{v u0 u2 u4 u5 u6 u7 u8 u9 u10 u11 eb d9 u14 u15 u16 cv e4 dw c9 dc ea ee cr cq cf dd d8 cu e3 c3 ce bw e5 bu dn dh da ck di bo ct cm d0 cc bp dm cx cl ef dr ec dz ci d4 de cj d6 dg ca e6 dq du co dx cd e7 c6 dl dj bn e8 db cy ed bq cw df cg dv dy d1 ch bt c7 dk cz cn cp d7 c5 dt d3 c8 d5 bv d2 bz e9 X Y bd a2 C ap b8 ba al e ah V u J ao ai s au P ac d am c U an be ax az T ad a bb f bg R N aj b9 bi a0 b3 b I K a1 b5 n b4 i q L av H z bj l j S h Z ay p B aw aa a6 k bm ak aq E ae D a7 ar t G g bh m y r M O ag a8 af Q A F:Value}(hP:Ps w cs W v (CC x)):
  Code.wp Try.prog (CJ 9 (Try.f62.body.getD .skip)) (bodyPost Try.prog Try.f62 (Hx w (CC x))) {tmps:=#[u0,.pointer (some ⟨w.heap.size,0,none⟩),u2,v,u4,u5,u6,u7,u8,u9,u10,u11,eb,d9,u14,u15,u16,cv,e4,dw,c9,dc,ea,ee,cr,cq,cf,dd,d8,cu,e3,c3,ce,bw,e5,bu,dn,dh,da,ck,di,bo,ct,cm,d0,cc,bp,dm,cx,cl,ef,dr,ec,dz,ci,d4,de,cj,d6,dg,ca,e6,dq,du,co,dx,cd,e7,c6,dl,dj,bn,e8,db,cy,ed,bq,cw,df,cg,dv,dy,d1,ch,bt,c7,dk,cz,cn,cp,d7,c5,dt,d3,c8,d5,bv,d2,bz,e9,X,Y,bd,a2,C,ap,b8,ba,al,e,ah,V,u,J,ao,ai,s,au,P,ac,d,am,c,U,an,be,ax,az,T,ad,a,bb,f,bg,R,N,aj,b9,bi,a0,b3,b,I,K,a1,b5,n,b4,i,q,L,av,H,z,bj,l,j,S,h,Z,ay,p,B,aw,aa,a6,k,bm,ak,aq,E,ae,D,a7,ar,t,G,g,bh,m,y,r,M,O,ag,a8,af,Q,A,F],defers:=[]} W:=by
 have HP:=yb hP
 clear hP
 refine wp_seq ?_
 go_wp2
 go_ret
 exact ⟨v,rfl,VA HP.o.own (Nat.le_succ _),HP.o.below⟩
theorem Ws{N:NP}{w W:World}{cs:LV}{x:Am}{L:Bw}{v u0 u2 u4 u5 u6 u7 u8 u9 u10 u11 gr fi u14 u15 u16 f1 gk gd ec fm gq gx ew ev eg fo fh f0 gj e5 eh e3 gl dx g6 fu fk en fv dt ey ep f8 ee du g5 f5 eo gs g9 gt gh ek fc fp el fe ft ed gm g8 gb er ge ef gn e7 g4 fx dr go fl f6 gu dv f4 fq ei gc gf f9 ej dw e8 fy f7 et eu fg e6 ga fb eb fd dy fa e4 gp bv bw dh c9 ap cw dc df co X ck bu aj b3 cr cl ag d1 bd cf V cq U bo cu di d4 d7 bm cg R dg Y dj bh b9 cm dd dl c7 d8 T az b4 c8 da ac d9 a2 ae b5 d2 ay al dm a8 a6 bj a1 c6 d6 ad ao d3 ce ca a7 dq cn cx ar ch aq cc cz ah aw a0 dk aa ak af b8 ba ci cd cj be am av:Value}(hv:Bb N w L cs x)(hN:∀b,N b->b < w.heap.size)(u:Fw x)(hP:Ps w cs W v (Te x)):
  Code.wp Try.prog (CJ 8 (Try.f62.body.getD .skip)) (bodyPost Try.prog Try.f62 (Hx w (CC x))) {tmps:=#[u0,.pointer (some ⟨w.heap.size,0,none⟩),u2,v,u4,u5,u6,u7,u8,u9,u10,u11,gr,fi,u14,u15,u16,f1,gk,gd,ec,fm,gq,gx,ew,ev,eg,fo,fh,f0,gj,e5,eh,e3,gl,dx,g6,fu,fk,en,fv,dt,ey,ep,f8,ee,du,g5,f5,eo,gs,g9,gt,gh,ek,fc,fp,el,fe,ft,ed,gm,g8,gb,er,ge,ef,gn,e7,g4,fx,dr,go,fl,f6,gu,dv,f4,fq,ei,gc,gf,f9,ej,dw,e8,fy,f7,et,eu,fg,e6,ga,fb,eb,fd,dy,fa,e4,gp,bv,bw,dh,c9,ap,cw,dc,df,co,X,ck,bu,aj,b3,cr,cl,ag,d1,bd,cf,V,cq,U,bo,cu,di,d4,d7,bm,cg,R,dg,Y,dj,bh,b9,cm,dd,dl,c7,d8,T,az,b4,c8,da,ac,d9,a2,ae,b5,d2,ay,al,dm,a8,a6,bj,a1,c6,d6,ad,ao,d3,ce,ca,a7,dq,cn,cx,ar,ch,aq,cc,cz,ah,aw,a0,dk,aa,ak,af,b8,ba,ci,cd,cj,be,am,av],defers:=[]} W:=by
 obtain ⟨⟨a,n,c⟩,hL⟩:∃h:Ai,L.duties=h:=⟨_,rfl⟩
 obtain ⟨s0,s1,s2,bz,g0,g1,g2⟩:=hv.cells
 have O:Hid (∀(W:World) (v:Value) (l:List Pl),Ps w cs W v l->W.cell? (aV w.heap.size 25)=some (.slice a n c)):=yb (by
  intro W v l h
  refine h.cell (p:=.string x.name::(s0++(s1++(s2++[L.lets.v,L.crops.v,L.reaches.v,L.farms.v,L.rots.v,L.rights.v])))) (q:=[]) ?_ (by simp[g0.len,g1.len,g2.len])
  rw[bz,hL]
  simp[yp,Ai.v])
 have G:Av N w 11 (E8 N w) ⟨a,n,c⟩ x.duties:=hL▸hv.duties
 have fz:=yb G.2.2
 have M:Hid (n=x.duties.length):=yb G.1
 clear G
 have ez:Hid (x.duties.length<=1000):=yb (by have:=u.duties;omega)
 have cp:Hid (n<=140737488355328):=yb (by have:=M.o;have:=ez.o;omega)
 have HV:=yb hv
 have HN:=yb hN
 have f2:=yb u
 have em:=yb (Hw u)
 obtain ⟨I,hI⟩:∃I:Nat->Value->World->Prop,I=fun i v wr=>Ps w cs wr v (Te x++(x.duties.take i).flatMap Gz):=⟨_,rfl⟩
 have HI:=yb hI
 have cy:Hid (I 0 v W):=yb (by rw[hI];simpa using hP)
 clear hv hN u hP hL bz g0 g1 g2 hI
 refine Af fun K hK=>?_
 go_wp2
 go_loopw [3,14] (fun v3 iv wr=>∃i:Nat,iv=iV i∧i<=n∧Hid (I i v3 wr)) (fun _ iv _=>n - (intOf iv).toNat)
 case atStart=>exact ⟨0,rfl,yC _,cy⟩
 case round=>
  clear cy
  obtain ⟨i,rfl,hi,db⟩:=hrel
  have d:Hid (Ps w cs wr u3 (Te x++(x.duties.take i).flatMap Gz)):=yb (by have h:=db.o;rw[HI.o] at h;exact h)
  clear db
  have hf:=O.o _ _ _ d.o
  have gy:n<=140737488355328:=cp.o
  by_cases ea:i < n
  ·have C:i < x.duties.length:=by rw[<-M.o];exact ea
   have bp:(i:Int) < (n:Int):=by omega
   obtain ⟨bq,oq,z,he,bg,g7,ax,H⟩:=fz.o i C
   obtain rfl:a=some (aV bq oq):=he
   have Z:(Te x++(x.duties.take i).flatMap Gz).length<=10000:=by
    have h1:=Cw (l:=x.duties) (f:=Gz) (c:=1) (i:=i) (fun _ _=>by simp[Gz])
    have h2:=em.o.p7;have h3:=f2.o.duties
    rw[yq]
    omega
   have B:Hid (Te x++(x.duties.take (i+1)).flatMap Gz=(Te x++(x.duties.take i).flatMap Gz)++Gz x.duties[i]):=yb (by rw[BU C,yp])
   generalize hD:x.duties[i]=D at H B
   clear hD
   generalize c3:Te x++(x.duties.take i).flatMap Gz=cv at B d Z
   clear c3
   have bt:=A2 ax (d.o.below.block bq (HN.o bq bg))
   have P:=JJ H
   obtain ⟨r,⟨m,k⟩,⟨j,g⟩,de⟩:=D
   obtain ⟨h1,h2,h3,c,rfl,_⟩:=H
   obtain ⟨z,e⟩:∃z:LV,z=.string r::(.string m::iV k::(.string j::iV g::(c))):=⟨_,rfl⟩
   have fs:Hid (wr.rangeAt bq (oq+i*11) z):=yb (by rw[e];simpa[An] using bt)
   have E:Hid (z.length=11):=yb (by rw[e];simpa[An] using P.1)
   have g3:Hid (∀v∈z,v.oneCell'=true):=yb (by rw[e];simpa[An] using P.2)
   skip
   have F:=yb e
   clear ax g7 bg C bt P e
   go_upto_region 37 with (first
    |(refine ym rfl 70 _ rfl bq (oq+i*11) rfl z _ fs.o j0 rfl (AU (n:=11) (by kernel_rfl) E.o) ?_)
    |(refine Ae rfl 70 _ _ rfl wr.heap.size rfl z rfl (World.alloc_heap_new _ _) (by rw[E.o];rfl) (AU (n:=11) (by kernel_rfl) E.o) g3.o ?_;intro t d5;have y:=yb d5;clear d5))
   clear hf bp
   have d0:=yb (AA y.o)
   have gz:t.cell? (aV wr.heap.size 0)=some (.string r):=Ee (row:=.string r::(.string m::iV k::(.string j::iV g::(c)))) (by have h:=y.o.row;rw[F.o] at h;exact h) (p:=[]) (q:=.string m::iV k::(.string j::iV g::(c))) (by first|rfl|simp) (by simp)
   have ff:=yb (Gb (c:=[Value.string m,iV k]) (o:=1) (row:=.string r::(.string m::iV k::(.string j::iV g::(c)))) (by have h:=y.o.row;rw[F.o] at h;exact h) (p:=[.string r]) (q:=.string j::iV g::(c)) (by first|rfl|simp) (by simp))
   have fj:=yb (Gb (c:=[Value.string j,iV g]) (o:=3) (row:=.string r::(.string m::iV k::(.string j::iV g::(c)))) (by have h:=y.o.row;rw[F.o] at h;exact h) (p:=.string r::([.string m,iV k])) (q:=c) (by first|rfl|simp) (by simp))
   have e9:Hid (Below t.heap.size t (t.alloc (.cells #[iV 10,.string r,.string m,iV k,.string j,iV g,iV 0,.bool false] 125))):=yb ((yg _ _).alloc (yf _) _)
   have J:Hid (Below wr.heap.size wr (t.alloc (.cells #[iV 10,.string r,.string m,iV k,.string j,iV g,iV 0,.bool false] 125))):=yb ((d0.o).trans (e9.o.mono (d0.o).size))
   have S:=yb (d.o.own.up J.o)
   have bb:Hid ((t.alloc (.cells #[iV 10,.string r,.string m,iV k,.string j,iV g,iV 0,.bool false] 125)).heap[t.heap.size]?=some (.cells (([(⟨10,r,⟨m,k⟩,⟨j,g⟩,0,false⟩:Pl)]:List Pl).flatMap KM).toArray 125 (0,0))):=yb (World.alloc_heap_new t (.cells #[iV 10,.string r,.string m,iV k,.string j,iV g,iV 0,.bool false] 125))
   have s:Hid ((w.heap.size+1)<=(t.alloc (.cells #[iV 10,.string r,.string m,iV k,.string j,iV g,iV 0,.bool false] 125)).heap.size):=yb (yl d.o.size J.o.size)
   have au:Hid (cv.length+1<=1000000):=yb (by omega)
   clear Z
   go_wp2_with (first|(refine ym rfl 23 _ rfl wr.heap.size 1 rfl [.string m,iV k] _ ff.o qB rfl (by kernel_rfl) ?_)|(refine ym rfl 23 _ rfl wr.heap.size 3 rfl [.string j,iV g] _ fj.o qB rfl (by kernel_rfl) ?_)|(at_builtin;refine Ca (w.heap.size+1) rfl _ _ rfl u3 cv rfl S.o (t.heap.size) 1 1 [(⟨10,r,⟨m,k⟩,⟨j,g⟩,0,false⟩:Pl)] rfl rfl bb.o au.o s.o ?_;intro eq n5 c5 w5 A Q;have gi:=yb A;have f3:Hid (Below (w.heap.size+1) wr w5):=yb (Fs (J.o.mono d.o.size) s.o S.o Q);clear A Q))
   have gg:Hid (I (i+1) (.slice eq n5 c5) w5):=yb (by rw[HI.o];show Ps w cs w5 _ (Te x++(x.duties.take (i+1)).flatMap Gz);rw[B.o];exact d.o.next f3.o gi.o)
   exact ⟨⟨i+1,by push_cast;rfl,by omega,gg⟩,by simp[intOf];omega⟩
  ·obtain rfl:i=n:=by omega
   have bp:decide ((i:Int) < (i:Int))=false:=by simp
   have dz:Hid (Ps w cs wr u3 (Te x++x.duties.flatMap Gz)):=yb (by
    have h:=d.o
    rw[M.o,yx] at h
    exact h)
   clear d
   go_wp2
   exact hK.o _ _ (Wr dz.o)
theorem Wu{N:NP}{w W:World}{cs:LV}{x:Am}{L:Bw}{v u0 u2 u4 u5 u6 u7 u8 u9 u10 u11 gk gu u14 u15 u16 f8 gh fg f2 em fl ha ef fx e8 fb g7 f7 fi dy e7 gp gi ey gb g9 g8 f5 eo fo eg gq fa e6 gn eq ei ed gm gc fm eu eb ej fc ec g6 gx e5 gj ff gd fv gf f3 fj ez gz ep dx ev el fy h9 fp eh en e9 ge fh g3 ea ew fu gy fz ee gr ek ft et g5 f1 gt go g4 fs fk dg bb c8 be d9 al bz d3 bj av bh cq b5 a7 bo dl cd bt ac cw ca dm T co bm du bu d2 cn dj c9 c7 d8 d4 cm aa cz aq dw ae ap ar a6 ch cr bw az dt X b4 dd dr ba b9 d5 cc ax de aw bd ao b3 ce d1 ag cu Y d6 cy dq db bg da af d0 a0 dc V dv ay b8 Z a8 ci ah cv cx cj a1 a2:Value}(hv:Bb N w L cs x)(hN:∀b,N b->b < w.heap.size)(C:Fw x)(hP:Ps w cs W v (Td x)):
  Code.wp Try.prog (CJ 7 (Try.f62.body.getD .skip)) (bodyPost Try.prog Try.f62 (Hx w (CC x))) {tmps:=#[u0,.pointer (some ⟨w.heap.size,0,none⟩),u2,v,u4,u5,u6,u7,u8,u9,u10,u11,gk,gu,u14,u15,u16,f8,gh,fg,f2,em,fl,ha,ef,fx,e8,fb,g7,f7,fi,dy,e7,gp,gi,ey,gb,g9,g8,f5,eo,fo,eg,gq,fa,e6,gn,eq,ei,ed,gm,gc,fm,eu,eb,ej,fc,ec,g6,gx,e5,gj,ff,gd,fv,gf,f3,fj,ez,gz,ep,dx,ev,el,fy,h9,fp,eh,en,e9,ge,fh,g3,ea,ew,fu,gy,fz,ee,gr,ek,ft,et,g5,f1,gt,go,g4,fs,fk,dg,bb,c8,be,d9,al,bz,d3,bj,av,bh,cq,b5,a7,bo,dl,cd,bt,ac,cw,ca,dm,T,co,bm,du,bu,d2,cn,dj,c9,c7,d8,d4,cm,aa,cz,aq,dw,ae,ap,ar,a6,ch,cr,bw,az,dt,X,b4,dd,dr,ba,b9,d5,cc,ax,de,aw,bd,ao,b3,ce,d1,ag,cu,Y,d6,cy,dq,db,bg,da,af,d0,a0,dc,V,dv,ay,b8,Z,a8,ci,ah,cv,cx,cj,a1,a2],defers:=[]} W:=by
 obtain ⟨⟨a,n,c⟩,hL⟩:∃h:Ai,L.rights=h:=⟨_,rfl⟩
 obtain ⟨s0,s1,s2,dh,g0,g1,g2⟩:=hv.cells
 have J:Hid (∀(W:World) (v:Value) (l:List Pl),Ps w cs W v l->W.cell? (aV w.heap.size 24)=some (.slice a n c)):=yb (by
  intro W v l h
  refine h.cell (p:=.string x.name::(s0++(s1++(s2++[L.lets.v,L.crops.v,L.reaches.v,L.farms.v,L.rots.v])))) (q:=[L.duties.v]) ?_ (by simp[g0.len,g1.len,g2.len])
  rw[dh,hL]
  simp[yp,Ai.v])
 have O:Av N w 37 (CU N w) ⟨a,n,c⟩ x.rights:=hL▸hv.rights
 have fe:=yb O.2.2
 have P:Hid (n=x.rights.length):=yb O.1
 clear O
 have gs:Hid (x.rights.length<=1000):=yb (by have:=C.rights;omega)
 have aj:Hid (n<=140737488355328):=yb (by have:=P.o;have:=gs.o;omega)
 have HV:=yb hv
 have HN:=yb hN
 have cl:=yb C
 have f4:=yb (Hw C)
 obtain ⟨I,hI⟩:∃I:Nat->Value->World->Prop,I=fun i v wr=>Ps w cs wr v (Td x++(x.rights.take i).flatMap EE):=⟨_,rfl⟩
 have HI:=yb hI
 have am:Hid (I 0 v W):=yb (by rw[hI];simpa using hP)
 clear hv hN C hP hL dh g0 g1 g2 hI
 refine Af fun K hK=>?_
 go_wp2
 go_loopw [3,12] (fun v3 iv wr=>∃i:Nat,iv=iV i∧i<=n∧Hid (I i v3 wr)) (fun _ iv _=>n - (intOf iv).toNat)
 case atStart=>exact ⟨0,rfl,yC _,am⟩
 case round=>
  clear am
  obtain ⟨i,rfl,hi,c6⟩:=hrel
  have k:Hid (Ps w cs wr u3 (Td x++(x.rights.take i).flatMap EE)):=yb (by have h:=c6.o;rw[HI.o] at h;exact h)
  clear c6
  have hf:=J.o _ _ _ k.o
  have hg:n<=140737488355328:=aj.o
  by_cases dz:i < n
  ·have R:i < x.rights.length:=by rw[<-P.o];exact dz
   have cp:(i:Int) < (n:Int):=by omega
   obtain ⟨bq,oq,F,he,ck,er,cg,S⟩:=fe.o i R
   obtain rfl:a=some (aV bq oq):=he
   have U:(Td x++(x.rights.take i).flatMap EE).length<=10000:=by
    have h1:=Cw (l:=x.rights) (f:=EE) (c:=2) (i:=i) (fun _ _=>by simp[EE])
    have h2:=f4.o.p6;have h3:=cl.o.rights
    rw[yq]
    omega
   have G:Hid (Td x++(x.rights.take (i+1)).flatMap EE=(Td x++(x.rights.take i).flatMap EE)++EE x.rights[i]):=yb (by rw[BU R,yp])
   generalize hD:x.rights[i]=D at S G
   clear hD
   generalize di:Td x++(x.rights.take i).flatMap EE=ak at G k U
   clear di
   have df:=A2 cg (k.o.below.block bq (HN.o bq ck))
   have Q:=IT S
   obtain ⟨s,r,⟨e,d⟩,⟨j,g⟩,m,e0,e1,e2,e3,e4⟩:=D
   obtain ⟨h1,h2,h3,c0,c1,c2,A,c4,rfl,_⟩:=S
   obtain ⟨F,t⟩:∃F:LV,F=iV s::(.string r::(.string e::iV d::(.string j::iV g::(iV m::(c0++(c1++(c2++(A++(c4))))))))):=⟨_,rfl⟩
   have fd:Hid (wr.rangeAt bq (oq+i*37) F):=yb (by rw[t];simpa[An] using df)
   have M:Hid (F.length=37):=yb (by rw[t];simpa[An] using Q.1)
   have ga:Hid (∀v∈F,v.oneCell'=true):=yb (by rw[t];simpa[An] using Q.2)
   skip
   have B:=yb t
   clear cg er ck R df Q t
   go_upto_region 32 with (first
    |(refine ym rfl 68 _ rfl bq (oq+i*37) rfl F _ fd.o qZ rfl (AU (n:=37) (by kernel_rfl) M.o) ?_)
    |(refine Ae rfl 68 _ _ rfl wr.heap.size rfl F rfl (World.alloc_heap_new _ _) (by rw[M.o];rfl) (AU (n:=37) (by kernel_rfl) M.o) ga.o ?_;intro y bv;have u:=yb bv;clear bv))
   clear hf cp
   have bp:=yb (AA u.o)
   have hj:y.cell? (aV wr.heap.size 0)=some (iV s):=Ee (row:=iV s::(.string r::(.string e::iV d::(.string j::iV g::(iV m::(c0++(c1++(c2++(A++(c4)))))))))) (by have h:=u.o.row;rw[B.o] at h;exact h) (p:=[]) (q:=.string r::(.string e::iV d::(.string j::iV g::(iV m::(c0++(c1++(c2++(A++(c4))))))))) (by first|rfl|simp) (by simp)
   have hh:y.cell? (aV wr.heap.size 1)=some (.string r):=Ee (row:=iV s::(.string r::(.string e::iV d::(.string j::iV g::(iV m::(c0++(c1++(c2++(A++(c4)))))))))) (by have h:=u.o.row;rw[B.o] at h;exact h) (p:=[iV s]) (q:=.string e::iV d::(.string j::iV g::(iV m::(c0++(c1++(c2++(A++(c4)))))))) (by first|rfl|simp) (by simp)
   have gl:=yb (Gb (c:=[Value.string e,iV d]) (o:=2) (row:=iV s::(.string r::(.string e::iV d::(.string j::iV g::(iV m::(c0++(c1++(c2++(A++(c4)))))))))) (by have h:=u.o.row;rw[B.o] at h;exact h) (p:=iV s::([.string r])) (q:=.string j::iV g::(iV m::(c0++(c1++(c2++(A++(c4))))))) (by first|rfl|simp) (by simp))
   have h8:=yb (Gb (c:=[Value.string j,iV g]) (o:=4) (row:=iV s::(.string r::(.string e::iV d::(.string j::iV g::(iV m::(c0++(c1++(c2++(A++(c4)))))))))) (by have h:=u.o.row;rw[B.o] at h;exact h) (p:=iV s::(.string r::([.string e,iV d]))) (q:=iV m::(c0++(c1++(c2++(A++(c4)))))) (by first|rfl|simp) (by simp))
   have hm:y.cell? (aV wr.heap.size 6)=some (iV m):=Ee (row:=iV s::(.string r::(.string e::iV d::(.string j::iV g::(iV m::(c0++(c1++(c2++(A++(c4)))))))))) (by have h:=u.o.row;rw[B.o] at h;exact h) (p:=iV s::(.string r::(.string e::iV d::([.string j,iV g])))) (q:=c0++(c1++(c2++(A++(c4))))) (by first|rfl|simp) (by simp)
   have f0:Hid (Below y.heap.size y (y.alloc (.cells #[iV 8,.string r,.string e,iV d,.string j,iV g,iV m,.bool false,iV 9,.string {data:=#[]},.string {data:=#[]},iV 0,.string {data:=#[]},iV 0,iV s,.bool false] 125))):=yb ((yg _ _).alloc (yf _) _)
   have H:Hid (Below wr.heap.size wr (y.alloc (.cells #[iV 8,.string r,.string e,iV d,.string j,iV g,iV m,.bool false,iV 9,.string {data:=#[]},.string {data:=#[]},iV 0,.string {data:=#[]},iV 0,iV s,.bool false] 125))):=yb ((bp.o).trans (f0.o.mono (bp.o).size))
   have au:=yb (k.o.own.up H.o)
   have ad:Hid ((y.alloc (.cells #[iV 8,.string r,.string e,iV d,.string j,iV g,iV m,.bool false,iV 9,.string {data:=#[]},.string {data:=#[]},iV 0,.string {data:=#[]},iV 0,iV s,.bool false] 125)).heap[y.heap.size]?=some (.cells (([(⟨8,r,⟨e,d⟩,⟨j,g⟩,m,false⟩:Pl),(⟨9,{data:=#[]},Ia,Ia,s,false⟩:Pl)]:List Pl).flatMap KM).toArray 125 (0,0))):=yb (World.alloc_heap_new y (.cells #[iV 8,.string r,.string e,iV d,.string j,iV g,iV m,.bool false,iV 9,.string {data:=#[]},.string {data:=#[]},iV 0,.string {data:=#[]},iV 0,iV s,.bool false] 125))
   have z:Hid ((w.heap.size+1)<=(y.alloc (.cells #[iV 8,.string r,.string e,iV d,.string j,iV g,iV m,.bool false,iV 9,.string {data:=#[]},.string {data:=#[]},iV 0,.string {data:=#[]},iV 0,iV s,.bool false] 125)).heap.size):=yb (yl k.o.size H.o.size)
   have cf:Hid (ak.length+2<=1000000):=yb (by omega)
   clear U
   go_wp2_with (first|(refine ym rfl 23 _ rfl wr.heap.size 2 rfl [.string e,iV d] _ gl.o qB rfl (by kernel_rfl) ?_)|(refine ym rfl 23 _ rfl wr.heap.size 4 rfl [.string j,iV g] _ h8.o qB rfl (by kernel_rfl) ?_)|(at_builtin;refine Ca (w.heap.size+1) rfl _ _ rfl u3 ak rfl au.o (y.heap.size) 2 2 [(⟨8,r,⟨e,d⟩,⟨j,g⟩,m,false⟩:Pl),(⟨9,{data:=#[]},Ia,Ia,s,false⟩:Pl)] rfl rfl ad.o cf.o z.o ?_;intro f6 n5 c5 w5 E d7;have h7:=yb E;have f9:Hid (Below (w.heap.size+1) wr w5):=yb (Fs (H.o.mono k.o.size) z.o au.o d7);clear E d7))
   have gg:Hid (I (i+1) (.slice f6 n5 c5) w5):=yb (by rw[HI.o];show Ps w cs w5 _ (Td x++(x.rights.take (i+1)).flatMap EE);rw[G.o];exact k.o.next f9.o h7.o)
   exact ⟨⟨i+1,by push_cast;rfl,by omega,gg⟩,by simp[intOf];omega⟩
  ·obtain rfl:i=n:=by omega
   have cp:decide ((i:Int) < (i:Int))=false:=by simp
   have fq:Hid (Ps w cs wr u3 (Td x++x.rights.flatMap EE)):=yb (by
    have h:=k.o
    rw[P.o,yx] at h
    exact h)
   clear k
   go_wp2
   exact hK.o _ _ (Ws HV.o HN.o cl.o fq.o)
end Go.Proofs.Ytghepahgkcigpaa
