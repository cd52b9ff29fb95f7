/- The reference's plain: duties, rights (printed by gen_zq.py). -/
import Derived.Test.YtghepahgkcigpaaQ0
import Derived.Test.YtghepahgkcigpaaQ20
import Derived.StillTailTactics
import Derived.Deep.CutBlock
set_option maxRecDepth 100000
set_option maxHeartbeats 32000000
set_option linter.unusedSimpArgs false
namespace Go.Proofs.Ytghepahgkcigpaa
open Go.RowKit
theorem Vx{B b:Nat}{w:World}{v:Value}{l:List Pl}(h:FX B w v l)(c:b<=B):FX b w v l:=by
 obtain ⟨h1,h2⟩:=h
 refine ⟨h1,h2.imp id ?_⟩
 rintro ⟨g,cap,a,h3,h4,h5⟩
 exact ⟨g,cap,a,h3,by omega,h5⟩
theorem Ew{W:World}{b o:Nat}{row p q:LV}{u:Value}{t:TypeId}(h:W.heap[b]?=some (.cells row.toArray t (0,0)))(d:row=p++(u::q))(a:p.length=o):W.cell? ⟨b,o,none⟩=some u:=by
 have h1:=A6 h
 rw[d] at h1
 have h2:=Bn (p:=p) (c:=[u]) (q:=q) h1
 rw[a,yD] at h2
 exact CL h2
theorem Gz{W:World}{b o:Nat}{row p q c:LV}{t:TypeId}(h:W.heap[b]?=some (.cells row.toArray t (0,0)))(d:row=p++(c++q))(a:p.length=o):W.rangeAt b o c:=by
 have h1:=A6 h
 rw[d] at h1
 have h2:=Bn (p:=p) (c:=c) (q:=q) h1
 rwa [a,yD] at h2
theorem Wh{w W:World}{cs:LV}{x:AA}{v u0 u2 u4 u5 u6 u7 u8 u9 cj c4 db e6 dd dc bt d7 dx cv ck c6 dp ec dq ef cl cu bu e7 dl e8 di c5 dw bm bn ch ct e9 bw c7 bq du c9 cb bj eb bk d6 cz cg de ca bz ce dv d3 cq co dj d8 dy cn dm d0 ci cx cp d1 bs cm cc dn d4 e3 e4 ee da df cw cd d2 e5 cf d5 c8 ea bp bv ed dg dt dh cr d9 dk c3 cy bo t a8 X ar b9 P aq ao z av bd h b V ae bb L a u g au ay j bg bh an be aa aw af G al F q a0 N ba ac H ax S I r e ag E a1 O y am a2 a7 Q U n b3 l s ad b5 ak k c f C b4 ah b8 ai D i T a6 A Y K az R bi ab b7 Z J p M aj d B m ap:Value}(hP:Ps w cs W v (Co x)):
  Code.wp Try.prog (DM 9 (Try.f62.body.getD .skip)) (bodyPost Try.prog Try.f62 (Ir w (Co x))) {tmps:=#[u0,.pointer (some ⟨w.heap.size,0,none⟩),u2,v,u4,u5,u6,u7,u8,u9,cj,c4,db,e6,dd,dc,bt,d7,dx,cv,ck,c6,dp,ec,dq,ef,cl,cu,bu,e7,dl,e8,di,c5,dw,bm,bn,ch,ct,e9,bw,c7,bq,du,c9,cb,bj,eb,bk,d6,cz,cg,de,ca,bz,ce,dv,d3,cq,co,dj,d8,dy,cn,dm,d0,ci,cx,cp,d1,bs,cm,cc,dn,d4,e3,e4,ee,da,df,cw,cd,d2,e5,cf,d5,c8,ea,bp,bv,ed,dg,dt,dh,cr,d9,dk,c3,cy,bo,t,a8,X,ar,b9,P,aq,ao,z,av,bd,h,b,V,ae,bb,L,a,u,g,au,ay,j,bg,bh,an,be,aa,aw,af,G,al,F,q,a0,N,ba,ac,H,ax,S,I,r,e,ag,E,a1,O,y,am,a2,a7,Q,U,n,b3,l,s,ad,b5,ak,k,c,f,C,b4,ah,b8,ai,D,i,T,a6,A,Y,K,az,R,bi,ab,b7,Z,J,p,M,aj,d,B,m,ap],defers:=[]} W:=by
 have HP:=ya hP
 clear hP
 refine wp_seq ?_
 go_wp2
 go_ret
 exact ⟨v,rfl,Vx HP.o.own (zE _),HP.o.below⟩
theorem Wi{N:NP}{w W:World}{cs:LV}{x:AA}{L:BL}{v u0 u2 u4 u5 u6 u7 u8 u9 ek e4 fh ge fj fi dt fb g7 f0 el e6 fy go fz gs em ez dv gf fv gh fq e5 g6 dj dk ei ey gk dw e7 dp g4 e8 eb dh gm di fc f4 eh fk ea dy ef g5 f8 er ep fs fd g8 eo fw f5 ej f2 eq f6 dq en ed fx f9 g9 gb gq fg fl f1 ee f7 gc eg fa ec gn dm dx gp fm g3 fp ev ff ft e3 f3 dl al c6 bp cr d7 bd cq cm ap cv db a1 Q bo cb d9 b8 P am Y cu cy a2 dc df cl dd c7 cw cc ay cj ax ah bu ba d8 c9 az cx bj b3 aj U cd aw bv bb ao ck bw c3 be bm ac d1 a8 ak ca d3 ci a6 R V au d4 ce d6 cf av a7 bk bz aq bs b5 d0 bh dg c8 d5 bt b7 ad b9 ch T ar ab co:Value}(hv:Ba N w L cs x)(hN:∀b,N b->b < w.heap.size)(u:Fw x)(hP:Ps w cs W v (RF x)):
  Code.wp Try.prog (DM 8 (Try.f62.body.getD .skip)) (bodyPost Try.prog Try.f62 (Ir w (Co x))) {tmps:=#[u0,.pointer (some ⟨w.heap.size,0,none⟩),u2,v,u4,u5,u6,u7,u8,u9,ek,e4,fh,ge,fj,fi,dt,fb,g7,f0,el,e6,fy,go,fz,gs,em,ez,dv,gf,fv,gh,fq,e5,g6,dj,dk,ei,ey,gk,dw,e7,dp,g4,e8,eb,dh,gm,di,fc,f4,eh,fk,ea,dy,ef,g5,f8,er,ep,fs,fd,g8,eo,fw,f5,ej,f2,eq,f6,dq,en,ed,fx,f9,g9,gb,gq,fg,fl,f1,ee,f7,gc,eg,fa,ec,gn,dm,dx,gp,fm,g3,fp,ev,ff,ft,e3,f3,dl,al,c6,bp,cr,d7,bd,cq,cm,ap,cv,db,a1,Q,bo,cb,d9,b8,P,am,Y,cu,cy,a2,dc,df,cl,dd,c7,cw,cc,ay,cj,ax,ah,bu,ba,d8,c9,az,cx,bj,b3,aj,U,cd,aw,bv,bb,ao,ck,bw,c3,be,bm,ac,d1,a8,ak,ca,d3,ci,a6,R,V,au,d4,ce,d6,cf,av,a7,bk,bz,aq,bs,b5,d0,bh,dg,c8,d5,bt,b7,ad,b9,ch,T,ar,ab,co],defers:=[]} W:=by
 obtain ⟨⟨a,n,c⟩,hL⟩:∃h:AF,L.duties=h:=⟨_,rfl⟩
 obtain ⟨s0,s1,s2,cz,g0,g1,g2⟩:=hv.cells
 have F:Hid (∀(W:World) (v:Value) (l:List Pl),Ps w cs W v l->W.cell? (aV w.heap.size 25)=some (.slice a n c)):=ya (by
  intro W v l h
  refine h.cell (p:=.string x.name::(s0++(s1++(s2++[L.lets.v,L.crops.v,L.reaches.v,L.farms.v,L.rots.v,L.rights.v])))) (q:=[]) ?_ (by simp[g0.len,g1.len,g2.len])
  rw[cz,hL]
  simp[yg,AF.v])
 have G:B7 N w 11 (Er N w) ⟨a,n,c⟩ x.duties:=hL▸hv.duties
 have gr:=ya G.2.2
 have J:Hid (n=x.duties.length):=ya G.1
 clear G
 have gg:Hid (x.duties.length<=1000):=ya (by have:=u.duties;omega)
 have cg:Hid (n<=140737488355328):=ya (by have:=J.o;have:=gg.o;omega)
 have HV:=ya hv
 have HN:=ya hN
 have gl:=ya u
 have et:=ya (Iq u)
 obtain ⟨I,hI⟩:∃I:Nat->Value->World->Prop,I=fun i v wr=>Ps w cs wr v (RF x++(x.duties.take i).flatMap FW):=⟨_,rfl⟩
 have HI:=ya hI
 have S:Hid (I 0 v W):=ya (by rw[hI];simpa using hP)
 clear hv hN u hP hL cz g0 g1 g2 hI
 refine AH fun K hK=>?_
 go_wp2
 go_loopw [3,14] (fun v3 iv wr=>∃i:Nat,iv=iV i∧i<=n∧Hid (I i v3 wr)) (fun _ iv _=>n - (intOf iv).toNat)
 case atStart=>exact ⟨0,rfl,yv _,S⟩
 case round=>
  clear S
  obtain ⟨i,rfl,hi,aa⟩:=hrel
  have d:Hid (Ps w cs wr u3 (RF x++(x.duties.take i).flatMap FW)):=ya (by have h:=aa.o;rw[HI.o] at h;exact h)
  clear aa
  have hf:=F.o _ _ _ d.o
  have gu:n<=140737488355328:=cg.o
  by_cases fe:i < n
  ·have E:i < x.duties.length:=by rw[<-J.o];exact fe
   have ae:(i:Int) < (n:Int):=by omega
   obtain ⟨bq,oq,y,he,d2,eu,af,A⟩:=gr.o i E
   obtain rfl:a=some (aV bq oq):=he
   have b4:(RF x++(x.duties.take i).flatMap FW).length<=10000:=by
    have h1:=CO (l:=x.duties) (f:=FW) (c:=1) (i:=i) (fun _ _=>by simp[FW])
    have h2:=et.o.p7;have h3:=gl.o.duties
    rw[yi]
    omega
   have C:Hid (RF x++(x.duties.take (i+1)).flatMap FW=(RF x++(x.duties.take i).flatMap FW)++FW x.duties[i]):=ya (by rw[Ck E,yg])
   generalize hD:x.duties[i]=D at A C
   clear hD
   generalize Z:RF x++(x.duties.take i).flatMap FW=cp at C d b4
   clear Z
   have ag:=A1 af (d.o.below.block bq (HN.o bq d2))
   have H:=Gs A
   obtain ⟨r,⟨j,k⟩,⟨g,m⟩,de⟩:=D
   obtain ⟨h1,h2,h3,c,rfl,_⟩:=A
   obtain ⟨y,e⟩:∃y:LV,y=.string r::(.string j::iV k::(.string g::iV m::(c))):=⟨_,rfl⟩
   have gd:Hid (wr.rangeAt bq (oq+i*11) y):=ya (by rw[e];simpa[Ad] using ag)
   have B:Hid (y.length=11):=ya (by rw[e];simpa[Ad] using H.1)
   have gt:Hid (∀v∈y,v.oneCell'=true):=ya (by rw[e];simpa[Ad] using H.2)
   skip
   have O:=ya e
   clear af eu d2 E ag H e
   go_upto_region 37 with (first
    |(refine yf rfl 70 _ rfl bq (oq+i*11) rfl y _ gd.o j0 rfl (AX (n:=11) (by kernel_rfl) B.o) ?_)
    |(refine A2 rfl 70 _ _ rfl wr.heap.size rfl y rfl (World.alloc_heap_new _ _) (by rw[B.o];rfl) (AX (n:=11) (by kernel_rfl) B.o) gt.o ?_;intro x1 a0;have t:=ya a0;clear a0))
   clear hf ae
   have X:=ya (FN t.o)
   have gv:x1.cell? (aV wr.heap.size 0)=some (.string r):=Ew (row:=.string r::(.string j::iV k::(.string g::iV m::(c)))) (by have h:=t.o.row;rw[O.o] at h;exact h) (p:=[]) (q:=.string j::iV k::(.string g::iV m::(c))) (by first|rfl|simp) (by simp)
   have fu:=ya (Gz (c:=[Value.string j,iV k]) (o:=1) (row:=.string r::(.string j::iV k::(.string g::iV m::(c)))) (by have h:=t.o.row;rw[O.o] at h;exact h) (p:=[.string r]) (q:=.string g::iV m::(c)) (by first|rfl|simp) (by simp))
   have gj:=ya (Gz (c:=[Value.string g,iV m]) (o:=3) (row:=.string r::(.string j::iV k::(.string g::iV m::(c)))) (by have h:=t.o.row;rw[O.o] at h;exact h) (p:=.string r::([.string j,iV k])) (q:=c) (by first|rfl|simp) (by simp))
   have ew:Hid (Below x1.heap.size x1 (x1.alloc (.cells #[iV 10,.string r,.string j,iV k,.string g,iV m,iV 0,.bool false] 125))):=ya ((yc _ _).alloc (ye _) _)
   have M:Hid (Below wr.heap.size wr (x1.alloc (.cells #[iV 10,.string r,.string j,iV k,.string g,iV m,iV 0,.bool false] 125))):=ya ((X.o).trans (ew.o.mono (X.o).size))
   have bg:=ya (d.o.own.up M.o)
   have cn:Hid ((x1.alloc (.cells #[iV 10,.string r,.string j,iV k,.string g,iV m,iV 0,.bool false] 125)).heap[x1.heap.size]?=some (.cells (([(⟨10,r,⟨j,k⟩,⟨g,m⟩,0,false⟩:Pl)]:List Pl).flatMap Li).toArray 125 (0,0))):=ya (World.alloc_heap_new x1 (.cells #[iV 10,.string r,.string j,iV k,.string g,iV m,iV 0,.bool false] 125))
   have s:Hid ((w.heap.size+1)<=(x1.alloc (.cells #[iV 10,.string r,.string j,iV k,.string g,iV m,iV 0,.bool false] 125)).heap.size):=ya (yo d.o.size M.o.size)
   have da:Hid (cp.length+1<=1000000):=ya (by omega)
   clear b4
   go_wp2_with (first|(refine yf rfl 23 _ rfl wr.heap.size 1 rfl [.string j,iV k] _ fu.o qD rfl (by kernel_rfl) ?_)|(refine yf rfl 23 _ rfl wr.heap.size 3 rfl [.string g,iV m] _ gj.o qD rfl (by kernel_rfl) ?_)|(at_builtin;refine Cr (w.heap.size+1) rfl _ _ rfl u3 cp rfl bg.o (x1.heap.size) 1 1 [(⟨10,r,⟨j,k⟩,⟨g,m⟩,0,false⟩:Pl)] rfl rfl cn.o da.o s.o ?_;intro gi n5 c5 w5 z c4;have ga:=ya z;have fo:Hid (Below (w.heap.size+1) wr w5):=ya (FY (M.o.mono d.o.size) s.o bg.o c4);clear z c4))
   have e9:Hid (I (i+1) (.slice gi n5 c5) w5):=ya (by rw[HI.o];show Ps w cs w5 _ (RF x++(x.duties.take (i+1)).flatMap FW);rw[C.o];exact d.o.next fo.o ga.o)
   exact ⟨⟨i+1,by push_cast;rfl,by omega,e9⟩,by simp[intOf];omega⟩
  ·obtain rfl:i=n:=by omega
   have ae:decide ((i:Int) < (i:Int))=false:=by simp
   have du:Hid (Ps w cs wr u3 (RF x++x.duties.flatMap FW)):=ya (by
    have h:=d.o
    rw[J.o,yx] at h
    exact h)
   clear d
   go_wp2
   exact hK.o _ _ (Wh du.o)
theorem Wj{N:NP}{w W:World}{cs:LV}{x:AA}{L:BL}{v u0 u2 u4 u5 u6 u7 u8 u9 ew fg ee eh fu gt ge gr f7 e9 dx fh fz ek g3 gb dy gm en ei gw g8 fx gi f6 fc dq gk ez ej gg ep fe g4 dv er em fa fb gs ec eu fv fj eo fk f5 fs ey e6 gv f0 gx fl f4 gn ev fp gl fq gd e5 et fy gp g5 f8 el ed f2 ea dw go g7 gj gq fi f9 fd ff ga f3 eg fw e7 ft ef du eb dt d4 be bb dg bp b7 ag ck d5 cn am T cu ce ab dp cb bv ax ar cm dj au bs bt bj cr ci dh ac ca ae c9 d2 a8 a6 ak bg a0 di cd a1 aw cw cj Z ch cc ay af bd d9 d7 ba V co cz d3 aa dm de bz cv cx az cp bh cq ad d6 cy a7 d8 c8 cf b5 bm b9 bu db aj cg b4 d0 a2 dd ap Y c7 df:Value}(hv:Ba N w L cs x)(hN:∀b,N b->b < w.heap.size)(C:Fw x)(hP:Ps w cs W v (RE x)):
  Code.wp Try.prog (DM 7 (Try.f62.body.getD .skip)) (bodyPost Try.prog Try.f62 (Ir w (Co x))) {tmps:=#[u0,.pointer (some ⟨w.heap.size,0,none⟩),u2,v,u4,u5,u6,u7,u8,u9,ew,fg,ee,eh,fu,gt,ge,gr,f7,e9,dx,fh,fz,ek,g3,gb,dy,gm,en,ei,gw,g8,fx,gi,f6,fc,dq,gk,ez,ej,gg,ep,fe,g4,dv,er,em,fa,fb,gs,ec,eu,fv,fj,eo,fk,f5,fs,ey,e6,gv,f0,gx,fl,f4,gn,ev,fp,gl,fq,gd,e5,et,fy,gp,g5,f8,el,ed,f2,ea,dw,go,g7,gj,gq,fi,f9,fd,ff,ga,f3,eg,fw,e7,ft,ef,du,eb,dt,d4,be,bb,dg,bp,b7,ag,ck,d5,cn,am,T,cu,ce,ab,dp,cb,bv,ax,ar,cm,dj,au,bs,bt,bj,cr,ci,dh,ac,ca,ae,c9,d2,a8,a6,ak,bg,a0,di,cd,a1,aw,cw,cj,Z,ch,cc,ay,af,bd,d9,d7,ba,V,co,cz,d3,aa,dm,de,bz,cv,cx,az,cp,bh,cq,ad,d6,cy,a7,d8,c8,cf,b5,bm,b9,bu,db,aj,cg,b4,d0,a2,dd,ap,Y,c7,df],defers:=[]} W:=by
 obtain ⟨⟨a,n,c⟩,hL⟩:∃h:AF,L.rights=h:=⟨_,rfl⟩
 obtain ⟨s0,s1,s2,dl,g0,g1,g2⟩:=hv.cells
 have P:Hid (∀(W:World) (v:Value) (l:List Pl),Ps w cs W v l->W.cell? (aV w.heap.size 24)=some (.slice a n c)):=ya (by
  intro W v l h
  refine h.cell (p:=.string x.name::(s0++(s1++(s2++[L.lets.v,L.crops.v,L.reaches.v,L.farms.v,L.rots.v])))) (q:=[L.duties.v]) ?_ (by simp[g0.len,g1.len,g2.len])
  rw[dl,hL]
  simp[yg,AF.v])
 have H:B7 N w 37 (CQ N w) ⟨a,n,c⟩ x.rights:=hL▸hv.rights
 have h8:=ya H.2.2
 have S:Hid (n=x.rights.length):=ya H.1
 clear H
 have gz:Hid (x.rights.length<=1000):=ya (by have:=C.rights;omega)
 have dc:Hid (n<=140737488355328):=ya (by have:=S.o;have:=gz.o;omega)
 have HV:=ya hv
 have HN:=ya hN
 have bo:=ya C
 have e8:=ya (Iq C)
 obtain ⟨I,hI⟩:∃I:Nat->Value->World->Prop,I=fun i v wr=>Ps w cs wr v (RE x++(x.rights.take i).flatMap Ef):=⟨_,rfl⟩
 have HI:=ya hI
 have ao:Hid (I 0 v W):=ya (by rw[hI];simpa using hP)
 clear hv hN C hP hL dl g0 g1 g2 hI
 refine AH fun K hK=>?_
 go_wp2
 go_loopw [3,12] (fun v3 iv wr=>∃i:Nat,iv=iV i∧i<=n∧Hid (I i v3 wr)) (fun _ iv _=>n - (intOf iv).toNat)
 case atStart=>exact ⟨0,rfl,yv _,ao⟩
 case round=>
  clear ao
  obtain ⟨i,rfl,hi,c6⟩:=hrel
  have e:Hid (Ps w cs wr u3 (RE x++(x.rights.take i).flatMap Ef)):=ya (by have h:=c6.o;rw[HI.o] at h;exact h)
  clear c6
  have hf:=P.o _ _ _ e.o
  have h9:n<=140737488355328:=dc.o
  by_cases f1:i < n
  ·have G:i < x.rights.length:=by rw[<-S.o];exact f1
   have d1:(i:Int) < (n:Int):=by omega
   obtain ⟨bq,oq,E,he,ah,fm,av,Q⟩:=h8.o i G
   obtain rfl:a=some (aV bq oq):=he
   have b3:(RE x++(x.rights.take i).flatMap Ef).length<=10000:=by
    have h1:=CO (l:=x.rights) (f:=Ef) (c:=2) (i:=i) (fun _ _=>by simp[Ef])
    have h2:=e8.o.p6;have h3:=bo.o.rights
    rw[yi]
    omega
   have O:Hid (RE x++(x.rights.take (i+1)).flatMap Ef=(RE x++(x.rights.take i).flatMap Ef)++Ef x.rights[i]):=ya (by rw[Ck G,yg])
   generalize hD:x.rights[i]=D at Q O
   clear hD
   generalize bw:RE x++(x.rights.take i).flatMap Ef=bk at O e b3
   clear bw
   have X:=A1 av (e.o.below.block bq (HN.o bq ah))
   have R:=Fk Q
   obtain ⟨m,r,⟨k,d⟩,⟨g,j⟩,s,e0,e1,e2,e3,e4⟩:=D
   obtain ⟨h1,h2,h3,c0,c1,c2,A,B,rfl,_⟩:=Q
   obtain ⟨E,t⟩:∃E:LV,E=iV m::(.string r::(.string k::iV d::(.string g::iV j::(iV s::(c0++(c1++(c2++(A++(B))))))))):=⟨_,rfl⟩
   have gy:Hid (wr.rangeAt bq (oq+i*37) E):=ya (by rw[t];simpa[Ad] using X)
   have M:Hid (E.length=37):=ya (by rw[t];simpa[Ad] using R.1)
   have gc:Hid (∀v∈E,v.oneCell'=true):=ya (by rw[t];simpa[Ad] using R.2)
   skip
   have y:=ya t
   clear av fm ah G X R t
   go_upto_region 32 with (first
    |(refine yf rfl 68 _ rfl bq (oq+i*37) rfl E _ gy.o qZ rfl (AX (n:=37) (by kernel_rfl) M.o) ?_)
    |(refine A2 rfl 68 _ _ rfl wr.heap.size rfl E rfl (World.alloc_heap_new _ _) (by rw[M.o];rfl) (AX (n:=37) (by kernel_rfl) M.o) gc.o ?_;intro x1 U;have u:=ya U;clear U))
   clear hf d1
   have aq:=ya (FN u.o)
   have hh:x1.cell? (aV wr.heap.size 0)=some (iV m):=Ew (row:=iV m::(.string r::(.string k::iV d::(.string g::iV j::(iV s::(c0++(c1++(c2++(A++(B)))))))))) (by have h:=u.o.row;rw[y.o] at h;exact h) (p:=[]) (q:=.string r::(.string k::iV d::(.string g::iV j::(iV s::(c0++(c1++(c2++(A++(B))))))))) (by first|rfl|simp) (by simp)
   have ha:x1.cell? (aV wr.heap.size 1)=some (.string r):=Ew (row:=iV m::(.string r::(.string k::iV d::(.string g::iV j::(iV s::(c0++(c1++(c2++(A++(B)))))))))) (by have h:=u.o.row;rw[y.o] at h;exact h) (p:=[iV m]) (q:=.string k::iV d::(.string g::iV j::(iV s::(c0++(c1++(c2++(A++(B)))))))) (by first|rfl|simp) (by simp)
   have h7:=ya (Gz (c:=[Value.string k,iV d]) (o:=2) (row:=iV m::(.string r::(.string k::iV d::(.string g::iV j::(iV s::(c0++(c1++(c2++(A++(B)))))))))) (by have h:=u.o.row;rw[y.o] at h;exact h) (p:=iV m::([.string r])) (q:=.string g::iV j::(iV s::(c0++(c1++(c2++(A++(B))))))) (by first|rfl|simp) (by simp))
   have gh:=ya (Gz (c:=[Value.string g,iV j]) (o:=4) (row:=iV m::(.string r::(.string k::iV d::(.string g::iV j::(iV s::(c0++(c1++(c2++(A++(B)))))))))) (by have h:=u.o.row;rw[y.o] at h;exact h) (p:=iV m::(.string r::([.string k,iV d]))) (q:=iV s::(c0++(c1++(c2++(A++(B)))))) (by first|rfl|simp) (by simp))
   have hg:x1.cell? (aV wr.heap.size 6)=some (iV s):=Ew (row:=iV m::(.string r::(.string k::iV d::(.string g::iV j::(iV s::(c0++(c1++(c2++(A++(B)))))))))) (by have h:=u.o.row;rw[y.o] at h;exact h) (p:=iV m::(.string r::(.string k::iV d::([.string g,iV j])))) (q:=c0++(c1++(c2++(A++(B))))) (by first|rfl|simp) (by simp)
   have fo:Hid (Below x1.heap.size x1 (x1.alloc (.cells #[iV 8,.string r,.string k,iV d,.string g,iV j,iV s,.bool false,iV 9,.string {data:=#[]},.string {data:=#[]},iV 0,.string {data:=#[]},iV 0,iV m,.bool false] 125))):=ya ((yc _ _).alloc (ye _) _)
   have J:Hid (Below wr.heap.size wr (x1.alloc (.cells #[iV 8,.string r,.string k,iV d,.string g,iV j,iV s,.bool false,iV 9,.string {data:=#[]},.string {data:=#[]},iV 0,.string {data:=#[]},iV 0,iV m,.bool false] 125))):=ya ((aq.o).trans (fo.o.mono (aq.o).size))
   have b8:=ya (e.o.own.up J.o)
   have cl:Hid ((x1.alloc (.cells #[iV 8,.string r,.string k,iV d,.string g,iV j,iV s,.bool false,iV 9,.string {data:=#[]},.string {data:=#[]},iV 0,.string {data:=#[]},iV 0,iV m,.bool false] 125)).heap[x1.heap.size]?=some (.cells (([(⟨8,r,⟨k,d⟩,⟨g,j⟩,s,false⟩:Pl),(⟨9,{data:=#[]},He,He,m,false⟩:Pl)]:List Pl).flatMap Li).toArray 125 (0,0))):=ya (World.alloc_heap_new x1 (.cells #[iV 8,.string r,.string k,iV d,.string g,iV j,iV s,.bool false,iV 9,.string {data:=#[]},.string {data:=#[]},iV 0,.string {data:=#[]},iV 0,iV m,.bool false] 125))
   have z:Hid ((w.heap.size+1)<=(x1.alloc (.cells #[iV 8,.string r,.string k,iV d,.string g,iV j,iV s,.bool false,iV 9,.string {data:=#[]},.string {data:=#[]},iV 0,.string {data:=#[]},iV 0,iV m,.bool false] 125)).heap.size):=ya (yo e.o.size J.o.size)
   have al:Hid (bk.length+2<=1000000):=ya (by omega)
   clear b3
   go_wp2_with (first|(refine yf rfl 23 _ rfl wr.heap.size 2 rfl [.string k,iV d] _ h7.o qD rfl (by kernel_rfl) ?_)|(refine yf rfl 23 _ rfl wr.heap.size 4 rfl [.string g,iV j] _ gh.o qD rfl (by kernel_rfl) ?_)|(at_builtin;refine Cr (w.heap.size+1) rfl _ _ rfl u3 bk rfl b8.o (x1.heap.size) 2 2 [(⟨8,r,⟨k,d⟩,⟨g,j⟩,s,false⟩:Pl),(⟨9,{data:=#[]},He,He,m,false⟩:Pl)] rfl rfl cl.o al.o z.o ?_;intro g9 n5 c5 w5 F da;have g6:=ya F;have gu:Hid (Below (w.heap.size+1) wr w5):=ya (FY (J.o.mono e.o.size) z.o b8.o da);clear F da))
   have eq:Hid (I (i+1) (.slice g9 n5 c5) w5):=ya (by rw[HI.o];show Ps w cs w5 _ (RE x++(x.rights.take (i+1)).flatMap Ef);rw[O.o];exact e.o.next gu.o g6.o)
   exact ⟨⟨i+1,by push_cast;rfl,by omega,eq⟩,by simp[intOf];omega⟩
  ·obtain rfl:i=n:=by omega
   have d1:decide ((i:Int) < (i:Int))=false:=by simp
   have gf:Hid (Ps w cs wr u3 (RE x++x.rights.flatMap Ef)):=ya (by
    have h:=e.o
    rw[S.o,yx] at h
    exact h)
   clear e
   go_wp2
   exact hK.o _ _ (Wi HV.o HN.o bo.o gf.o)
end Go.Proofs.Ytghepahgkcigpaa
