/- The reference's plain: duties, rights (printed by gen_zq.py). -/
import Derived.Test.YtghepahgkcigpaaRg0
import Derived.Test.YtghepahgkcigpaaRg13
import Derived.StillTailTactics
import Derived.Deep.CutBlock
set_option maxRecDepth 100000
set_option maxHeartbeats 32000000
set_option linter.unusedSimpArgs false
namespace Go.Proofs.Ytghepahgkcigpaa
open Go.RowKit
theorem SG{B b:Nat}{w:World}{v:Value}{l:List Pl}(h:EA B w v l)(c:b<=B):EA b w v l:=by
 obtain ⟨h1,h2⟩:=h
 refine ⟨h1,h2.imp id ?_⟩
 rintro ⟨g,cap,a,h3,h4,h5⟩
 exact ⟨g,cap,a,h3,by omega,h5⟩
theorem Dt{W:World}{b o:Nat}{row p q:LV}{u:Value}{t:TypeId}(h:W.heap[b]?=some (.cells row.toArray t (0,0)))(d:row=p++(u::q))(a:p.length=o):W.cell? ⟨b,o,none⟩=some u:=by
 have h1:=Ay h
 rw[d] at h1
 have h2:=AK (p:=p) (c:=[u]) (q:=q) h1
 rw[a,yA] at h2
 exact Cp h2
theorem Ff{W:World}{b o:Nat}{row p q c:LV}{t:TypeId}(h:W.heap[b]?=some (.cells row.toArray t (0,0)))(d:row=p++(c++q))(a:p.length=o):W.rangeAt b o c:=by
 have h1:=Ay h
 rw[d] at h1
 have h2:=AK (p:=p) (c:=c) (q:=q) h1
 rwa [a,yA] at h2
theorem Tm{w W:World}{cs:LV}{x:An}{v u0 u2 u4 u5 u6 u7 u8 u9 e3 cr ed ca e4 bv bk d8 d2 dv cx cm d0 da bw dt c8 c4 du bn cv e5 dc dn ea cq ci c6 d4 dq c7 bz d7 ch cb ct cd dr cc c9 bp db cu d5 co eb dm dz cg e9 ce bs bq bo dj de dy d3 dg bt df dp dx cf c3 ck d6 dk cy cj d9 dw cn ec cz di e7 d1 e8 c5 bu cp cl dl dd e6 dh bm bj cw b4 z aa L av ac au P al aj N c ah e U k T J a7 C j B b q A ag h n b7 a2 bi b3 V b5 G r D s b8 b9 f E ba bb p bg am a0 I ap O Z ad af be i ak ax ar Q l bh aq bd ay S a az F a6 g H K X R m an y aw ai a1 t d ao Y ab u M a8 ae:Value}(hP:Ps w cs W v (Ck x)):
  Code.wp Try.prog (CP 9 (Try.f62.body.getD .skip)) (bodyPost Try.prog Try.f62 (Gt w (Ck x))) {tmps:=#[u0,.pointer (some ⟨w.heap.size,0,none⟩),u2,v,u4,u5,u6,u7,u8,u9,e3,cr,ed,ca,e4,bv,bk,d8,d2,dv,cx,cm,d0,da,bw,dt,c8,c4,du,bn,cv,e5,dc,dn,ea,cq,ci,c6,d4,dq,c7,bz,d7,ch,cb,ct,cd,dr,cc,c9,bp,db,cu,d5,co,eb,dm,dz,cg,e9,ce,bs,bq,bo,dj,de,dy,d3,dg,bt,df,dp,dx,cf,c3,ck,d6,dk,cy,cj,d9,dw,cn,ec,cz,di,e7,d1,e8,c5,bu,cp,cl,dl,dd,e6,dh,bm,bj,cw,b4,z,aa,L,av,ac,au,P,al,aj,N,c,ah,e,U,k,T,J,a7,C,j,B,b,q,A,ag,h,n,b7,a2,bi,b3,V,b5,G,r,D,s,b8,b9,f,E,ba,bb,p,bg,am,a0,I,ap,O,Z,ad,af,be,i,ak,ax,ar,Q,l,bh,aq,bd,ay,S,a,az,F,a6,g,H,K,X,R,m,an,y,aw,ai,a1,t,d,ao,Y,ab,u,M,a8,ae],defers:=[]} W:=by
 have HP:=yb hP
 clear hP
 refine wp_seq ?_
 go_wp2
 go_ret
 exact ⟨v,rfl,SG HP.o.own (Nat.le_succ _),HP.o.below⟩
theorem Tn{N:NP}{w W:World}{cs:LV}{x:An}{L:Bh}{v u0 u2 u4 u5 u6 u7 u8 u9 gh ey gt ec gi dx dk fh f9 gb f3 eq f7 fk dy g9 ea e6 ga dm f1 gj fm fz gq ew em e8 fc g5 e9 e3 ff el ed ez eg g6 ee eb dr fl f0 fd et gr fx gg ek gp ei du dt dp fv fp gf fa fs dv fq g3 ge ej e4 eo fe fw f4 en fi gd er gs f5 fu gk f8 gn e7 dw ev ep fy fo gl ft dl dj f2 d6 ak cb b5 cz cd d0 bb cn ck b8 T ci V bk a7 bj az c9 ap a6 ao S ad al ch a1 ab d8 c6 di d5 bt d7 av ae aq af d9 da X ar db dc ac dg co bz ax cr b9 bw ce cg df a2 cl d2 cv be a8 dh cw dd d3 bh Q d4 au c8 Z aw b3 bu bg aa cq aj d1 cj c3 ag U cu bv cc ah b7 ca cf:Value}(hv:B8 N w L cs x)(hN:∀b,N b->b < w.heap.size)(u:Fw x)(hP:Ps w cs W v (QJ x)):
  Code.wp Try.prog (CP 8 (Try.f62.body.getD .skip)) (bodyPost Try.prog Try.f62 (Gt w (Ck x))) {tmps:=#[u0,.pointer (some ⟨w.heap.size,0,none⟩),u2,v,u4,u5,u6,u7,u8,u9,gh,ey,gt,ec,gi,dx,dk,fh,f9,gb,f3,eq,f7,fk,dy,g9,ea,e6,ga,dm,f1,gj,fm,fz,gq,ew,em,e8,fc,g5,e9,e3,ff,el,ed,ez,eg,g6,ee,eb,dr,fl,f0,fd,et,gr,fx,gg,ek,gp,ei,du,dt,dp,fv,fp,gf,fa,fs,dv,fq,g3,ge,ej,e4,eo,fe,fw,f4,en,fi,gd,er,gs,f5,fu,gk,f8,gn,e7,dw,ev,ep,fy,fo,gl,ft,dl,dj,f2,d6,ak,cb,b5,cz,cd,d0,bb,cn,ck,b8,T,ci,V,bk,a7,bj,az,c9,ap,a6,ao,S,ad,al,ch,a1,ab,d8,c6,di,d5,bt,d7,av,ae,aq,af,d9,da,X,ar,db,dc,ac,dg,co,bz,ax,cr,b9,bw,ce,cg,df,a2,cl,d2,cv,be,a8,dh,cw,dd,d3,bh,Q,d4,au,c8,Z,aw,b3,bu,bg,aa,cq,aj,d1,cj,c3,ag,U,cu,bv,cc,ah,b7,ca,cf],defers:=[]} W:=by
 obtain ⟨⟨a,n,c⟩,hL⟩:∃h:Av,L.duties=h:=⟨_,rfl⟩
 obtain ⟨s0,s1,s2,ba,g0,g1,g2⟩:=hv.cells
 have G:Hid (∀(W:World) (v:Value) (l:List Pl),Ps w cs W v l->W.cell? (aV w.heap.size 25)=some (.slice a n c)):=yb (by
  intro W v l h
  refine h.cell (p:=.string x.name::(s0++(s1++(s2++[L.lets.v,L.crops.v,L.reaches.v,L.farms.v,L.rots.v,L.rights.v])))) (q:=[]) ?_ (by simp[g0.len,g1.len,g2.len])
  rw[ba,hL]
  simp[yl,Av.v])
 have H:Az N w 11 (DF N w) ⟨a,n,c⟩ x.duties:=hL▸hv.duties
 have gc:=yb H.2.2
 have F:Hid (n=x.duties.length):=yb H.1
 clear H
 have fj:Hid (x.duties.length<=1000):=yb (by have:=u.duties;omega)
 have ay:Hid (n<=140737488355328):=yb (by have:=F.o;have:=fj.o;omega)
 have HV:=yb hv
 have HN:=yb hN
 have dz:=yb u
 have fb:=yb (Gs u)
 obtain ⟨I,hI⟩:∃I:Nat->Value->World->Prop,I=fun i v wr=>Ps w cs wr v (QJ x++(x.duties.take i).flatMap FA):=⟨_,rfl⟩
 have HI:=yb hI
 have cy:Hid (I 0 v W):=yb (by rw[hI];simpa using hP)
 clear hv hN u hP hL ba g0 g1 g2 hI
 refine Ag fun K hK=>?_
 go_wp2
 go_loopw [3,14] (fun v3 iv wr=>∃i:Nat,iv=iV i∧i<=n∧Hid (I i v3 wr)) (fun _ iv _=>n - (intOf iv).toNat)
 case atStart=>exact ⟨0,rfl,yz _,cy⟩
 case round=>
  clear cy
  obtain ⟨i,rfl,hi,bm⟩:=hrel
  have d:Hid (Ps w cs wr u3 (QJ x++(x.duties.take i).flatMap FA)):=yb (by have h:=bm.o;rw[HI.o] at h;exact h)
  clear bm
  have hf:=G.o _ _ _ d.o
  have gu:n<=140737488355328:=ay.o
  by_cases eu:i < n
  ·have E:i < x.duties.length:=by rw[<-F.o];exact eu
   have am:(i:Int) < (n:Int):=by omega
   obtain ⟨R,oq,z,he,bp,gm,b4,C⟩:=gc.o i E
   obtain rfl:a=some (aV R oq):=he
   have cp:(QJ x++(x.duties.take i).flatMap FA).length<=10000:=by
    have h1:=Cf (l:=x.duties) (f:=FA) (c:=1) (i:=i) (fun _ _=>by simp[FA])
    have h2:=fb.o.p7;have h3:=dz.o.duties
    rw[ym]
    omega
   have J:Hid (QJ x++(x.duties.take (i+1)).flatMap FA=(QJ x++(x.duties.take i).flatMap FA)++FA x.duties[i]):=yb (by rw[BF E,yl])
   generalize hD:x.duties[i]=D at C J
   clear hD
   generalize bo:QJ x++(x.duties.take i).flatMap FA=cm at J d cp
   clear bo
   have bs:=A2 b4 (d.o.below.block R (HN.o R bp))
   have P:=Is C
   obtain ⟨r,⟨g,m⟩,⟨j,k⟩,de⟩:=D
   obtain ⟨h1,h2,h3,c,rfl,_⟩:=C
   obtain ⟨z,e⟩:∃z:LV,z=.string r::(.string g::iV m::(.string j::iV k::(c))):=⟨_,rfl⟩
   have ef:Hid (wr.rangeAt R (oq+i*11) z):=yb (by rw[e];simpa[Ah] using bs)
   have O:Hid (z.length=11):=yb (by rw[e];simpa[Ah] using P.1)
   have fg:Hid (∀v∈z,v.oneCell'=true):=yb (by rw[e];simpa[Ah] using P.2)
   skip
   have B:=yb e
   clear b4 gm bp E bs P e
   go_upto_region 37 with (first
    |(refine yj rfl 70 _ rfl R (oq+i*11) rfl z _ ef.o qO rfl (BW (n:=11) (by kernel_rfl) O.o) ?_)
    |(refine Aj rfl 70 _ _ rfl wr.heap.size rfl z rfl (World.alloc_heap_new _ _) (by rw[O.o];rfl) (BW (n:=11) (by kernel_rfl) O.o) fg.o ?_;intro t c4;have y:=yb c4;clear c4))
   clear hf am
   have bd:=yb (AB y.o)
   have gv:t.cell? (aV wr.heap.size 0)=some (.string r):=Dt (row:=.string r::(.string g::iV m::(.string j::iV k::(c)))) (by have h:=y.o.row;rw[B.o] at h;exact h) (p:=[]) (q:=.string g::iV m::(.string j::iV k::(c))) (by first|rfl|simp) (by simp)
   have g7:=yb (Ff (c:=[Value.string g,iV m]) (o:=1) (row:=.string r::(.string g::iV m::(.string j::iV k::(c)))) (by have h:=y.o.row;rw[B.o] at h;exact h) (p:=[.string r]) (q:=.string j::iV k::(c)) (by first|rfl|simp) (by simp))
   have go:=yb (Ff (c:=[Value.string j,iV k]) (o:=3) (row:=.string r::(.string g::iV m::(.string j::iV k::(c)))) (by have h:=y.o.row;rw[B.o] at h;exact h) (p:=.string r::([.string g,iV m])) (q:=c) (by first|rfl|simp) (by simp))
   have dq:Hid (Below t.heap.size t (t.alloc (.cells #[iV 10,.string r,.string g,iV m,.string j,iV k,iV 0,.bool false] 125))):=yb ((yg _ _).alloc (ye _) _)
   have M:Hid (Below wr.heap.size wr (t.alloc (.cells #[iV 10,.string r,.string g,iV m,.string j,iV k,iV 0,.bool false] 125))):=yb ((bd.o).trans (dq.o.mono (bd.o).size))
   have cx:=yb (d.o.own.up M.o)
   have a0:Hid ((t.alloc (.cells #[iV 10,.string r,.string g,iV m,.string j,iV k,iV 0,.bool false] 125)).heap[t.heap.size]?=some (.cells (([(⟨10,r,⟨g,m⟩,⟨j,k⟩,0,false⟩:Pl)]:List Pl).flatMap Jn).toArray 125 (0,0))):=yb (World.alloc_heap_new t (.cells #[iV 10,.string r,.string g,iV m,.string j,iV k,iV 0,.bool false] 125))
   have s:Hid ((w.heap.size+1)<=(t.alloc (.cells #[iV 10,.string r,.string g,iV m,.string j,iV k,iV 0,.bool false] 125)).heap.size):=yb (yr d.o.size M.o.size)
   have Y:Hid (cm.length+1<=1000000):=yb (by omega)
   clear cp
   go_wp2_with (first|(refine yj rfl 23 _ rfl wr.heap.size 1 rfl [.string g,iV m] _ g7.o qo rfl (by kernel_rfl) ?_)|(refine yj rfl 23 _ rfl wr.heap.size 3 rfl [.string j,iV k] _ go.o qo rfl (by kernel_rfl) ?_)|(at_builtin;refine BK (w.heap.size+1) rfl _ _ rfl u3 cm rfl cx.o (t.heap.size) 1 1 [(⟨10,r,⟨g,m⟩,⟨j,k⟩,0,false⟩:Pl)] rfl rfl a0.o Y.o s.o ?_;intro g8 n5 c5 w5 A c7;have g4:=yb A;have f6:Hid (Below (w.heap.size+1) wr w5):=yb (EC (M.o.mono d.o.size) s.o cx.o c7);clear A c7))
   have e5:Hid (I (i+1) (.slice g8 n5 c5) w5):=yb (by rw[HI.o];show Ps w cs w5 _ (QJ x++(x.duties.take (i+1)).flatMap FA);rw[J.o];exact d.o.next f6.o g4.o)
   exact ⟨⟨i+1,by push_cast;rfl,by omega,e5⟩,by simp[intOf];omega⟩
  ·obtain rfl:i=n:=by omega
   have am:decide ((i:Int) < (i:Int))=false:=by simp
   have eh:Hid (Ps w cs wr u3 (QJ x++x.duties.flatMap FA)):=yb (by
    have h:=d.o
    rw[F.o,yw] at h
    exact h)
   clear d
   go_wp2
   exact hK.o _ _ (Tm eh.o)
theorem To{N:NP}{w W:World}{cs:LV}{x:An}{L:Bh}{v u0 u2 u4 u5 u6 u7 u8 u9 el e7 ep gq em go gm gu fb ej gs f3 f9 gv eu gf dy ev fi fq g5 gi fe fg fm f5 fx dx fd eh gp fu g9 f0 fv f6 ey ei e5 dz ft gw f7 g8 g3 gk gd ek fw fl gr et dr er ef ed gh fc ff dt ee eg gz e6 du f2 ea gx g7 f1 ga gg fz gl f8 fo gj fa eo dw gn g4 fy gy ec en gc fp eq g6 bw ay bh cj cv de cu d7 al aj d6 d0 df c8 cn X d9 b4 dc a2 d3 d5 cz a0 cf bm d2 Y aq af dq bv ac dl b3 aw cg cd bz dm ca a6 c6 c7 Z ar dh ae aa bp ck bb bj bk cx cc dg bu ao b9 av cy am dp dj cm U cw a7 be cb a8 b5 ad d8 d4 di ce bt ah cp a1 au cr ba dd ax b7 bg cq:Value}(hv:B8 N w L cs x)(hN:∀b,N b->b < w.heap.size)(E:Fw x)(hP:Ps w cs W v (QI x)):
  Code.wp Try.prog (CP 7 (Try.f62.body.getD .skip)) (bodyPost Try.prog Try.f62 (Gt w (Ck x))) {tmps:=#[u0,.pointer (some ⟨w.heap.size,0,none⟩),u2,v,u4,u5,u6,u7,u8,u9,el,e7,ep,gq,em,go,gm,gu,fb,ej,gs,f3,f9,gv,eu,gf,dy,ev,fi,fq,g5,gi,fe,fg,fm,f5,fx,dx,fd,eh,gp,fu,g9,f0,fv,f6,ey,ei,e5,dz,ft,gw,f7,g8,g3,gk,gd,ek,fw,fl,gr,et,dr,er,ef,ed,gh,fc,ff,dt,ee,eg,gz,e6,du,f2,ea,gx,g7,f1,ga,gg,fz,gl,f8,fo,gj,fa,eo,dw,gn,g4,fy,gy,ec,en,gc,fp,eq,g6,bw,ay,bh,cj,cv,de,cu,d7,al,aj,d6,d0,df,c8,cn,X,d9,b4,dc,a2,d3,d5,cz,a0,cf,bm,d2,Y,aq,af,dq,bv,ac,dl,b3,aw,cg,cd,bz,dm,ca,a6,c6,c7,Z,ar,dh,ae,aa,bp,ck,bb,bj,bk,cx,cc,dg,bu,ao,b9,av,cy,am,dp,dj,cm,U,cw,a7,be,cb,a8,b5,ad,d8,d4,di,ce,bt,ah,cp,a1,au,cr,ba,dd,ax,b7,bg,cq],defers:=[]} W:=by
 obtain ⟨⟨a,n,c⟩,hL⟩:∃h:Av,L.rights=h:=⟨_,rfl⟩
 obtain ⟨s0,s1,s2,cl,g0,g1,g2⟩:=hv.cells
 have S:Hid (∀(W:World) (v:Value) (l:List Pl),Ps w cs W v l->W.cell? (aV w.heap.size 24)=some (.slice a n c)):=yb (by
  intro W v l h
  refine h.cell (p:=.string x.name::(s0++(s1++(s2++[L.lets.v,L.crops.v,L.reaches.v,L.farms.v,L.rots.v])))) (q:=[L.duties.v]) ?_ (by simp[g0.len,g1.len,g2.len])
  rw[cl,hL]
  simp[yl,Av.v])
 have H:Az N w 37 (CH N w) ⟨a,n,c⟩ x.rights:=hL▸hv.rights
 have fj:=yb H.2.2
 have R:Hid (n=x.rights.length):=yb H.1
 clear H
 have gb:Hid (x.rights.length<=1000):=yb (by have:=E.rights;omega)
 have ch:Hid (n<=140737488355328):=yb (by have:=R.o;have:=gb.o;omega)
 have HV:=yb hv
 have HN:=yb hN
 have c9:=yb E
 have e9:=yb (Gs E)
 obtain ⟨I,hI⟩:∃I:Nat->Value->World->Prop,I=fun i v wr=>Ps w cs wr v (QI x++(x.rights.take i).flatMap DV):=⟨_,rfl⟩
 have HI:=yb hI
 have ap:Hid (I 0 v W):=yb (by rw[hI];simpa using hP)
 clear hv hN E hP hL cl g0 g1 g2 hI
 refine Ag fun K hK=>?_
 go_wp2
 go_loopw [3,12] (fun v3 iv wr=>∃i:Nat,iv=iV i∧i<=n∧Hid (I i v3 wr)) (fun _ iv _=>n - (intOf iv).toNat)
 case atStart=>exact ⟨0,rfl,yz _,ap⟩
 case round=>
  clear ap
  obtain ⟨i,rfl,hi,ab⟩:=hrel
  have g:Hid (Ps w cs wr u3 (QI x++(x.rights.take i).flatMap DV)):=yb (by have h:=ab.o;rw[HI.o] at h;exact h)
  clear ab
  have hf:=S.o _ _ _ g.o
  have h8:n<=140737488355328:=ch.o
  by_cases f4:i < n
  ·have P:i < x.rights.length:=by rw[<-R.o];exact f4
   have az:(i:Int) < (n:Int):=by omega
   obtain ⟨bq,oq,F,he,co,h7,ci,Q⟩:=fj.o i P
   obtain rfl:a=some (aV bq oq):=he
   have bo:(QI x++(x.rights.take i).flatMap DV).length<=10000:=by
    have h1:=Cf (l:=x.rights) (f:=DV) (c:=2) (i:=i) (fun _ _=>by simp[DV])
    have h2:=e9.o.p6;have h3:=c9.o.rights
    rw[ym]
    omega
   have J:Hid (QI x++(x.rights.take (i+1)).flatMap DV=(QI x++(x.rights.take i).flatMap DV)++DV x.rights[i]):=yb (by rw[BF P,yl])
   generalize hD:x.rights[i]=D at Q J
   clear hD
   generalize da:QI x++(x.rights.take i).flatMap DV=ak at J g bo
   clear da
   have db:=A2 ci (g.o.below.block bq (HN.o bq co))
   have M:=Hl Q
   obtain ⟨r,m,⟨d,k⟩,⟨e,j⟩,s,e0,e1,e2,e3,e4⟩:=D
   obtain ⟨h1,h2,h3,c0,c1,c2,z,A,rfl,_⟩:=Q
   obtain ⟨F,t⟩:∃F:LV,F=iV r::(.string m::(.string d::iV k::(.string e::iV j::(iV s::(c0++(c1++(c2++(z++(A))))))))):=⟨_,rfl⟩
   have ew:Hid (wr.rangeAt bq (oq+i*37) F):=yb (by rw[t];simpa[Ah] using db)
   have T:Hid (F.length=37):=yb (by rw[t];simpa[Ah] using M.1)
   have eb:Hid (∀v∈F,v.oneCell'=true):=yb (by rw[t];simpa[Ah] using M.2)
   skip
   have B:=yb t
   clear ci h7 co P db M t
   go_upto_region 32 with (first
    |(refine yj rfl 68 _ rfl bq (oq+i*37) rfl F _ ew.o qN rfl (BW (n:=37) (by kernel_rfl) T.o) ?_)
    |(refine Aj rfl 68 _ _ rfl wr.heap.size rfl F rfl (World.alloc_heap_new _ _) (by rw[T.o];rfl) (BW (n:=37) (by kernel_rfl) T.o) eb.o ?_;intro y bd;have u:=yb bd;clear bd))
   clear hf az
   have b8:=yb (AB u.o)
   have hg:y.cell? (aV wr.heap.size 0)=some (iV r):=Dt (row:=iV r::(.string m::(.string d::iV k::(.string e::iV j::(iV s::(c0++(c1++(c2++(z++(A)))))))))) (by have h:=u.o.row;rw[B.o] at h;exact h) (p:=[]) (q:=.string m::(.string d::iV k::(.string e::iV j::(iV s::(c0++(c1++(c2++(z++(A))))))))) (by first|rfl|simp) (by simp)
   have ha:y.cell? (aV wr.heap.size 1)=some (.string m):=Dt (row:=iV r::(.string m::(.string d::iV k::(.string e::iV j::(iV s::(c0++(c1++(c2++(z++(A)))))))))) (by have h:=u.o.row;rw[B.o] at h;exact h) (p:=[iV r]) (q:=.string d::iV k::(.string e::iV j::(iV s::(c0++(c1++(c2++(z++(A)))))))) (by first|rfl|simp) (by simp)
   have e8:=yb (Ff (c:=[Value.string d,iV k]) (o:=2) (row:=iV r::(.string m::(.string d::iV k::(.string e::iV j::(iV s::(c0++(c1++(c2++(z++(A)))))))))) (by have h:=u.o.row;rw[B.o] at h;exact h) (p:=iV r::([.string m])) (q:=.string e::iV j::(iV s::(c0++(c1++(c2++(z++(A))))))) (by first|rfl|simp) (by simp))
   have fk:=yb (Ff (c:=[Value.string e,iV j]) (o:=4) (row:=iV r::(.string m::(.string d::iV k::(.string e::iV j::(iV s::(c0++(c1++(c2++(z++(A)))))))))) (by have h:=u.o.row;rw[B.o] at h;exact h) (p:=iV r::(.string m::([.string d,iV k]))) (q:=iV s::(c0++(c1++(c2++(z++(A)))))) (by first|rfl|simp) (by simp))
   have h9:y.cell? (aV wr.heap.size 6)=some (iV s):=Dt (row:=iV r::(.string m::(.string d::iV k::(.string e::iV j::(iV s::(c0++(c1++(c2++(z++(A)))))))))) (by have h:=u.o.row;rw[B.o] at h;exact h) (p:=iV r::(.string m::(.string d::iV k::([.string e,iV j])))) (q:=c0++(c1++(c2++(z++(A))))) (by first|rfl|simp) (by simp)
   have fs:Hid (Below y.heap.size y (y.alloc (.cells #[iV 8,.string m,.string d,iV k,.string e,iV j,iV s,.bool false,iV 9,.string {data:=#[]},.string {data:=#[]},iV 0,.string {data:=#[]},iV 0,iV r,.bool false] 125))):=yb ((yg _ _).alloc (ye _) _)
   have O:Hid (Below wr.heap.size wr (y.alloc (.cells #[iV 8,.string m,.string d,iV k,.string e,iV j,iV s,.bool false,iV 9,.string {data:=#[]},.string {data:=#[]},iV 0,.string {data:=#[]},iV 0,iV r,.bool false] 125))):=yb ((b8.o).trans (fs.o.mono (b8.o).size))
   have bs:=yb (g.o.own.up O.o)
   have V:Hid ((y.alloc (.cells #[iV 8,.string m,.string d,iV k,.string e,iV j,iV s,.bool false,iV 9,.string {data:=#[]},.string {data:=#[]},iV 0,.string {data:=#[]},iV 0,iV r,.bool false] 125)).heap[y.heap.size]?=some (.cells (([(⟨8,m,⟨d,k⟩,⟨e,j⟩,s,false⟩:Pl),(⟨9,{data:=#[]},GJ,GJ,r,false⟩:Pl)]:List Pl).flatMap Jn).toArray 125 (0,0))):=yb (World.alloc_heap_new y (.cells #[iV 8,.string m,.string d,iV k,.string e,iV j,iV s,.bool false,iV 9,.string {data:=#[]},.string {data:=#[]},iV 0,.string {data:=#[]},iV 0,iV r,.bool false] 125))
   have C:Hid ((w.heap.size+1)<=(y.alloc (.cells #[iV 8,.string m,.string d,iV k,.string e,iV j,iV s,.bool false,iV 9,.string {data:=#[]},.string {data:=#[]},iV 0,.string {data:=#[]},iV 0,iV r,.bool false] 125)).heap.size):=yb (yr g.o.size O.o.size)
   have d1:Hid (ak.length+2<=1000000):=yb (by omega)
   clear bo
   go_wp2_with (first|(refine yj rfl 23 _ rfl wr.heap.size 2 rfl [.string d,iV k] _ e8.o qo rfl (by kernel_rfl) ?_)|(refine yj rfl 23 _ rfl wr.heap.size 4 rfl [.string e,iV j] _ fk.o qo rfl (by kernel_rfl) ?_)|(at_builtin;refine BK (w.heap.size+1) rfl _ _ rfl u3 ak rfl bs.o (y.heap.size) 2 2 [(⟨8,m,⟨d,k⟩,⟨e,j⟩,s,false⟩:Pl),(⟨9,{data:=#[]},GJ,GJ,r,false⟩:Pl)] rfl rfl V.o d1.o C.o ?_;intro fh n5 c5 w5 G ag;have ge:=yb G;have gt:Hid (Below (w.heap.size+1) wr w5):=yb (EC (O.o.mono g.o.size) C.o bs.o ag);clear G ag))
   have dv:Hid (I (i+1) (.slice fh n5 c5) w5):=yb (by rw[HI.o];show Ps w cs w5 _ (QI x++(x.rights.take (i+1)).flatMap DV);rw[J.o];exact g.o.next gt.o ge.o)
   exact ⟨⟨i+1,by push_cast;rfl,by omega,dv⟩,by simp[intOf];omega⟩
  ·obtain rfl:i=n:=by omega
   have az:decide ((i:Int) < (i:Int))=false:=by simp
   have ez:Hid (Ps w cs wr u3 (QI x++x.rights.flatMap DV)):=yb (by
    have h:=g.o
    rw[R.o,yw] at h
    exact h)
   clear g
   go_wp2
   exact hK.o _ _ (Tn HV.o HN.o c9.o ez.o)
end Go.Proofs.Ytghepahgkcigpaa
