/- The reference's Resolve from the loop over reaches on (printed by gen_zj.py). -/
import Derived.Test.YtghepahgkcigpaaQ0
import Derived.Test.YtghepahgkcigpaaQ30
import Derived.Test.YtghepahgkcigpaaQ20
import Derived.Deep.CutBlock
set_option maxRecDepth 100000
set_option maxHeartbeats 64000000
set_option linter.unusedSimpArgs false
namespace Go.Proofs.Ytghepahgkcigpaa
open Go.RowKit
theorem X2{F:NP}{w V0 W:World}{cs ls:LV}{S4 X5:Nat}{x y y0:AA}{L:BL}{c0 c1 c2:LV}{hl hc h2 h3 h4 h5 h6 a0 a1 a2 a3:AF}{t:Tb}{b:Bool}{u0 u7 u8 u9 fq gi f3 fa gt ie hr ic g8 ey eq gj gx fe gy ho et i7 fl fb ih hj gv hu g7 gc eh i2 fu fd ht fm ge gz em fo fh jw jx kg ir ji k6 jz ix k0 js k5 jl iq kh jn ki k1 jr ke jj k3 kd k4 kb ip iz k7 kf k9 g9 fg f2 fx ez eo ia h9 i0 ib gk ga gd gh hn fy f8 gu ev gs f5 ej f0 ei dd bw bu dp c7 bp b5 cu de cw ba ak d2 cm ax dw cj cc bj be cv du bg c8 ca c4 d1 cq dq ay ci b3 ch da av ar b9 bz ao dt cl ap bi d4 cr an cp ck bk b4 bv dj dh bt al cx d7 dc aw dv dm cd d3 d5 bm cy c3 d0 az df d6 au di cg cn bo c6 bs cb dk b8 co bn d9 aq dl bd am ce dn bh c9:Value}(hv:Ba (GF F w) w L cs x)(hF:∀b,F b->b < w.heap.size)(e8:Fw x)(hs:MN V0 ls a0 a1 a2 a3 t)(b7:a2.n<=a2.c)(i6:x.reaches.length=t.reaches.length)
 (hR:Rs w cs ls (.string y.name::(c0++(c1++(c2++[hl.v,hc.v,h2.v,h3.v,h4.v,h5.v,h6.v])))) S4 X5 V0 W)(M:EE 0 (GF (FL F [w.heap.size,w.heap.size+1,S4,X5]) W) W c0 c1 c2 hl hc h2 h3 h4 h5 h6 y)(hm:b=true->y=y0):
  Code.wp Try.prog (DM 6 (Try.f12.body.getD .skip)) (bodyPost Try.prog Try.f12 (JR F w (IZ (((((b&&(x.reaches.zipIdx.all fun p=>BI t p.1 p.2))&&(x.farms.all (Cc t)))&&(x.rots.all (Du t)))&&(x.rights.all (BA t)))&&(x.duties.all (Ci t)))) (⟨y0.name,y0.season,y0.cap,y0.start,y0.lets,y0.crops,(x.reaches.zipIdx.map fun p=>Bt t p.1 p.2),(x.farms.map (BQ t)),(x.rots.map (Cu t)),(x.rights.map (Bg t)),(x.duties.map (BP t))⟩:AA))) {tmps:=#[u0,.pointer (some ⟨w.heap.size,0,none⟩),.pointer (some ⟨w.heap.size+1,0,none⟩),.int .i64 0,.pointer (some ⟨S4,0,none⟩),.pointer (some ⟨X5,0,none⟩),.bool b,u7,u8,u9,fq,gi,f3,fa,gt,ie,hr,ic,g8,ey,eq,gj,gx,fe,gy,ho,et,i7,fl,fb,ih,hj,gv,hu,g7,gc,eh,i2,fu,fd,ht,fm,ge,gz,em,fo,fh,jw,jx,kg,ir,ji,k6,jz,ix,k0,js,k5,jl,iq,kh,jn,ki,k1,jr,ke,jj,k3,kd,k4,kb,ip,iz,k7,kf,k9,g9,fg,f2,fx,ez,eo,ia,h9,i0,ib,gk,ga,gd,gh,hn,fy,f8,gu,ev,gs,f5,ej,f0,ei,dd,bw,bu,dp,c7,bp,b5,cu,de,cw,ba,ak,d2,cm,ax,dw,cj,cc,bj,be,cv,du,bg,c8,ca,c4,d1,cq,dq,ay,ci,b3,ch,da,av,ar,b9,bz,ao,dt,cl,ap,bi,d4,cr,an,cp,ck,bk,b4,bv,dj,dh,bt,al,cx,d7,dc,aw,dv,dm,cd,d3,d5,bm,cy,c3,d0,az,df,d6,au,di,cg,cn,bo,c6,bs,cb,dk,b8,co,bn,d9,aq,dl,bd,am,ce,dn,bh,c9],defers:=[]} W:=by
 obtain ⟨⟨a,n,c⟩,hL⟩:∃h:AF,L.reaches=h:=⟨_,rfl⟩
 obtain ⟨s0,s1,s2,im,g0,g1,g2⟩:=hv.cells
 have ea:Hid (∀(row:LV) (W:World),Rs w cs ls row S4 X5 V0 W->W.cell? (aV w.heap.size 21)=some (.slice a n c)):=ya (by
  intro row W h
  refine h.cell (p:=.string x.name::(s0++(s1++(s2++[L.lets.v,L.crops.v])))) (q:=[L.farms.v,L.rots.v,L.rights.v,L.duties.v]) ?_ (by simp[g0.len,g1.len,g2.len])
  rw[im,hL]
  simp[yg,AF.v])
 have V:B7 (GF F w) w 51 (CY (GF F w) w) ⟨a,n,c⟩ x.reaches:=hL▸hv.reaches
 have kk:=ya V.2.2
 have ag:Hid (n=x.reaches.length):=ya V.1
 have eg:Hid (x.reaches.length<=1000):=ya (by have:=e8.reaches;omega)
 have HN:Hid (n<=140737488355328):=ya (by have:=ag.o;have:=eg.o;omega)
 have HV:=ya hv
 have HF:=ya hF
 have jv:=ya e8
 have HS:=ya hs
 have HM:=ya hm
 have db:=ya b7
 have k2:=ya i6
 have HG:=ya M
 obtain ⟨P,hP⟩:∃P:LV,P=.string y.name::(c0++(c1++(c2++[hl.v,hc.v]))):=⟨_,rfl⟩
 have e6:Hid (P.length=21):=ya (by rw[hP];simp[M.e0.len,M.e1.len,M.e2.len])
 have kc:=ya hP
 have eb:Hid (Rs w cs ls (P++(h2.v::[h3.v,h4.v,h5.v,h6.v])) S4 X5 V0 W):=ya (by rw[hP];simpa[yg] using hR)
 have ft:=ya hR.blocks
 clear hv hF e8 hs hm M hR hP hL im g0 g1 g2 V b7 i6
 refine AH fun K r=>?_
 go_wp2_with (first|(refine AQ rfl 29 _ _ rfl X5 21 rfl (.slice none 0 0) rfl rfl (p:=P) (m:=h2.v) (q:=[h3.v,h4.v,h5.v,h6.v]) (t:=35) eb.o.x e6.o (by kernel_rfl) rfl ?_;intro W1 il;have e3:=ya il;clear il))
 refine r.o _ _ ?_
 clear r K
 have e9:=ya (eb.o.wrote e3.o)
 obtain ⟨B,hB⟩:∃B:Nat,B=W1.heap.size:=⟨_,rfl⟩
 have a8:Hid (X5 < B):=ya (by rw[hB];exact e9.o.lt)
 have ik:Hid (DQ CY 51 51 B F [w.heap.size,w.heap.size+1,S4,X5] (fun l W=>EE 0 (GF (FL F l) W) W c0 c1 c2 hl hc h2 h3 h4 h5 h6 y) (fun i=>b&&(x.reaches.zipIdx.take i).all fun p=>BI t p.1 p.2) (fun i=>(x.reaches.zipIdx.take i).map fun p=>Bt t p.1 p.2) 0 b (.slice none 0 0) W1):=ya (by
  refine ⟨?_,⟨[],FM,rfl,fun _=>rfl⟩,by simp,by rw[hB];exact ye _⟩
  have h:EE 0 (GF (FL F [w.heap.size,w.heap.size+1,S4,X5]) W1) W1 c0 c1 c2 hl hc h2 h3 h4 h5 h6 y:=HG.o.flux (e3.o.flux (.inr (by simp))) (fun _ h=>.inl h)
  simpa[ob,Value.ownBlock] using h)
 have kn:=ya hB
 clear eb e3 HG hB
 refine AH fun K r=>?_
 obtain ⟨I,hI⟩:∃I:Nat->Value->World->Prop,I=fun i v6 wr=>∃(u:Bool) (v:Value),v6=.bool u∧DQ CY 51 51 B F [w.heap.size,w.heap.size+1,S4,X5] (fun l W=>EE 0 (GF (FL F l) W) W c0 c1 c2 hl hc h2 h3 h4 h5 h6 y) (fun i=>b&&(x.reaches.zipIdx.take i).all fun p=>BI t p.1 p.2) (fun i=>(x.reaches.zipIdx.take i).map fun p=>Bt t p.1 p.2) i u v wr∧Rs w cs ls (P++(v::[h3.v,h4.v,h5.v,h6.v])) S4 X5 V0 wr:=⟨_,rfl⟩
 have HI:=ya hI
 have fj:Hid (I 0 (.bool b) W1):=ya (by rw[hI];exact ⟨b,_,rfl,ik.o,e9.o⟩)
 clear hI ik e9
 go_wp2
 go_loopw [6,7] (fun v6 iv wr=>∃i:Nat,iv=iV i∧i<=n∧Hid (I i v6 wr)) (fun _ iv _=>n - (intOf iv).toNat)
 case atStart=>exact ⟨0,rfl,yv _,fj⟩
 case round=>
  clear fj
  obtain ⟨i,rfl,hi,gl⟩:=hrel
  obtain ⟨u,v,rfl,hJ,ii⟩:∃(u:Bool) (v:Value),u6=.bool u∧DQ CY 51 51 B F [w.heap.size,w.heap.size+1,S4,X5] (fun l W=>EE 0 (GF (FL F l) W) W c0 c1 c2 hl hc h2 h3 h4 h5 h6 y) (fun i=>b&&(x.reaches.zipIdx.take i).all fun p=>BI t p.1 p.2) (fun i=>(x.reaches.zipIdx.take i).map fun p=>Bt t p.1 p.2) i u v wr∧Rs w cs ls (P++(v::[h3.v,h4.v,h5.v,h6.v])) S4 X5 V0 wr:=by have h:=gl.o;rw[HI.o] at h;exact h
  obtain ⟨va,vn,vc,g6⟩:∃va vn vc,v=.slice va vn vc:=by obtain ⟨ds,M,_⟩:=hJ.grow;exact M.slice
  have S:=ya hJ;have d:=ya ii
  have ah:=ya g6
  clear gl hJ ii g6
  have hf:=ea.o _ _ d.o
  have km:n<=140737488355328:=HN.o
  by_cases jo:i < n
  ·have U:i < x.reaches.length:=by rw[<-ag.o];exact jo
   have hz:(i:Int) < (n:Int):=by omega
   obtain ⟨bq,oq,ct,he,e5,gp,fp,ed⟩:=kk.o i U
   obtain rfl:a=some (aV bq oq):=he
   have Z:Hid ((fun i=>b&&(x.reaches.zipIdx.take i).all fun p=>BI t p.1 p.2) (i+1)=(u&&BI t x.reaches[i] i)):=ya (by
    have h1:u=(b&&(x.reaches.zipIdx.take i).all fun p=>BI t p.1 p.2):=S.o.b
    show (b&&(x.reaches.zipIdx.take (i+1)).all fun p=>BI t p.1 p.2)=_
    rw[Hz U,z8,zb,zn,zj,<-zM,<-h1])
   have cf:Hid ((fun i=>(x.reaches.zipIdx.take i).map fun p=>Bt t p.1 p.2) (i+1)=(fun i=>(x.reaches.zipIdx.take i).map fun p=>Bt t p.1 p.2) i++[Bt t x.reaches[i] i]):=ya (by
    show (x.reaches.zipIdx.take (i+1)).map (fun p=>Bt t p.1 p.2)=_
    rw[Hz U,ze];rfl)
   have hx:Hid (i < t.reaches.length):=ya (by rw[<-k2.o];exact U)
   have ju:Hid (i+1<=1000000):=ya (by have:=eg.o;omega)
   generalize hD:x.reaches[i]=D at ed Z cf
   clear hD
   have fk:=ya ed
   have jp:=ya gp
   have kj:Hid (wr.rangeAt bq (oq+i*51) ct):=ya (A1 fp (d.o.below.block bq e5.2))
   have ka:Hid (bq < wr.heap.size):=ya (yk e5.2 d.o.below.size)
   have jm:=ya (A6 d.o.l)
   have gn:Hid (S4 < wr.heap.size):=ya (yd.1 d.o.l).1
   have jy:Hid (ls.length=4):=ya (by rw[HS.o.cells];rfl)
   have ai:Hid (∀k∈[w.heap.size,w.heap.size+1,S4,X5]++ob v,w.heap.size<=k∧k < wr.heap.size):=ya (by
    obtain ⟨ds,M,_⟩:=S.o.grow
    have h1:=a8.o;have h5:=S.o.size;have h6:=d.o.b0;have h7:=d.o.b1;have h8:=d.o.b2
    intro k G
    rcases yn.1 G with G|G
    ·have:=ft.o k G;omega
    ·have:=M.lt k G;omega)
   clear fp ed gp e5 U
   generalize hq:BI t D i=q1 at Z
   go_upto_block 1 with fail
   refine wp_block ?_
   refine AH fun K2 dy=>?_
   have HT:Hid (∀(Bq:Nat) (x4:World) (res:LV) (d':AI) (fc gf fz z51 g4 g3 gm fi ij fw gb ha ew gw io f6 er el gq f1 f7 eu hw g5 f9 ep gg i1:Value),Below wr.heap.size wr x4->wr.heap.size<=Bq->x4.heap[Bq]?=some (.cells res.toArray 51 (0,0))->CY (GF (FL F ([w.heap.size,w.heap.size+1,S4,X5]++ob v)) x4) x4 res d'->(q1=true->d'=Bt t D i)->K2 {tmps:=#[u0,pV w.heap.size 0,pV (w.heap.size+1) 0,iV 0,pV S4 0,pV X5 0,.bool u,iV i,pV Bq 0,.bool q1,fq,gi,f3,fa,gt,ie,hr,ic,g8,ey,eq,gj,gx,fe,gy,ho,et,i7,fl,fb,ih,hj,gv,hu,g7,gc,eh,i2,fu,fd,ht,fm,ge,gz,em,fo,fh,pV X5 21,fc,gf,fz,z51,g4,g3,gm,fi,ij,fw,gb,ha,ew,gw,io,f6,er,el,gq,f1,f7,eu,hw,g5,f9,ep,gg,i1,g9,fg,f2,fx,ez,eo,ia,h9,i0,ib,gk,ga,gd,gh,hn,fy,f8,gu,ev,gs,f5,ej,f0,ei,dd,bw,bu,dp,c7,bp,b5,cu,de,cw,ba,ak,d2,cm,ax,dw,cj,cc,bj,be,cv,du,bg,c8,ca,c4,d1,cq,dq,ay,ci,b3,ch,da,av,ar,b9,bz,ao,dt,cl,ap,bi,d4,cr,an,cp,ck,bk,b4,bv,dj,dh,bt,al,cx,d7,dc,aw,dv,dm,cd,d3,d5,bm,cy,c3,d0,az,df,d6,au,di,cg,cn,bo,c6,bs,cb,dk,b8,co,bn,d9,aq,dl,bd,am,ce,dn,bh,c9],defers:=[]} x4):=ya (by
    intro Bq x4 res d' fc gf fz z51 g4 g3 gm fi ij fw gb ha ew gw io f6 er el gq f1 f7 eu hw g5 f9 ep gg i1 ac R en hV hh
    have O:=ya ac;have jt:=ya en;have jh:=ya hV;have jq:=ya hh
    have s:=ya (G8 hV).1;have HOr:=ya (G8 hV).2
    have d8:=ya (d.o.call ac)
    have ko:x4.cell? (aV X5 21)=some (.slice va vn vc):=(d8.o.Xp rfl e6.o).trans (by rw[ah.o])
    obtain ⟨ds,M,X,ad⟩:=S.o.grow
    obtain ⟨rows,aj,go,aa⟩:=(M.rnd DI ((Ht (C:=B) wr).call ac S.o.size)).own
    have jk:=ya aj;have gr:=ya go;have hp:=ya aa;have it:=ya X;have iu:=ya ad
    have dg:Hid (B<=x4.heap.size):=ya (yo S.o.size ac.size)
    have ig:Hid ((x4.alloc (.cells res.toArray 51)).ownsRow B 51 51 (.slice va vn vc) rows.length rows.flatten):=ya (by rw[<-ah.o];exact Cg aj fun k G=>((yc _ _).alloc (ye _) _).block k (Gl aj k G).2)
    have i8:Hid (rows.length+1<=1000000):=ya (by rw[AW.length aa,X];exact ju.o)
    have ee:Hid (B<=(x4.alloc (.cells res.toArray 51)).heap.size):=ya (by have:=dg.o;simp;omega)
    clear aj go aa X ad M ac R en hV hh hf hz
    refine dy.o _ _ ?_
    clear dy K2
    go_wp2_with (first
     |(refine Ae u rfl _ rfl rfl ?_)
     |(refine Ak (g:=u) rfl _ _ _ rfl rfl (.bool (u&&q1)) (by cases u<;>rfl) ?_;generalize a7:(u&&q1)=y2;have dx:=ya a7;clear a7)
     |(refine yf rfl 51 _ rfl Bq 0 rfl res _ (A6 jt.o) qS rfl (AX (n:=51) (by kernel_rfl) s.o) ?_)
     |(refine Ct rfl 29 51 _ rfl res rfl 51 qI (by kernel_rfl) s.o (by omega) (by omega) ?_)
     |(at_builtin;refine BT qI rfl _ _ rfl 51 (by kernel_rfl) (by omega) B (.slice va vn vc) rows.length rows.flatten rfl ig.o x4.heap.size 1 res rfl (World.alloc_heap_new _ _) s.o HOr.o i8.o ee.o ?_;intro vx x8 Y ef e4;obtain ⟨xa,xn,xc,rfl⟩:=EH Y;rw[<-ah.o] at ef e4;have ff:=ya (Dj DI hp.o gr.o jk.o jh.o s.o Y ef e4 dg.o);have cz:=ya (d8.o.up ff.o.below a8.o);clear Y ef e4)
     |(refine AQ rfl 29 _ _ rfl X5 21 rfl (.slice xa xn xc) rfl rfl (p:=P) (m:=v) (q:=[h3.v,h4.v,h5.v,h6.v]) (t:=35) cz.o.x e6.o (by kernel_rfl) rfl ?_;intro x9 ek;have e7:=ya ek;clear ek)
     |(refine Ab (g:=u) z7 rfl ?_;simp only[CW,Aa])
     |(refine Ab (g:=u) (Av u) rfl ?_;simp only[CW,Aa])
     |(rw[AD u q1];generalize a7:(u&&q1)=y2;have dx:=ya a7;clear a7))
    have fs:=S.o.next (b':=y2) Hy (S.o.ex.flux (AP.below O.o) (fun _ h=>.inl h)) O.o.size ff.o it.o (by rw[<-dx.o];exact Z.o.symm) (by
     intro hy
     rw[<-dx.o] at hy
     simp only[ym] at hy
     refine qn ?_ cf.o.symm
     rw[iu.o hy.1,jq.o hy.2])
    have iy:Hid (I (i+1) (.bool y2) x9):=ya (by rw[HI.o];exact ⟨y2,.slice xa xn xc,rfl,fs.put DI (fs.ex.flux (e7.o.flux (.inr (by simp))) (fun _ h=>.inl h)) e7.o (by simp) a8.o,cz.o.wrote e7.o⟩)
    exact ⟨⟨i+1,by push_cast;rfl,by omega,iy⟩,by simp[intOf];omega⟩
    )
   clear dy
   have J:Hid (Below wr.heap.size wr wr.drew):=ya (yc _ _).drew
   refine wp_region_noPanic ?_
   refine Bz (by kernel_rfl) (fun W=>Below wr.heap.size wr W) 12 ?_
   refine A0 (i:=0) (v:=pV w.heap.size 21) rfl (by kernel_rfl) (by kernel_rfl) (by kernel_rfl) (fun _ _ _ h=>h) (by kernel_rfl) (Or.inl ⟨by rfl,?_⟩) (fun _=>J.o) ?_
   ·intro w _;go_simp
   refine Ag (i:=1) (v:=.slice (some (aV bq oq)) n c) rfl (by kernel_rfl) (by kernel_rfl) (by kernel_rfl) (fun _ _ _ h=>h) (by kernel_rfl) (Or.inl ⟨by rfl,?_⟩) J.o ?_
   ·intro W hW
    have hc:W.cell? (aV w.heap.size 21)=some (.slice (some (aV bq oq)) n c):=(hW.cell (p:=(aV w.heap.size 21)) (by have:=gn.o;have:=d.o.b0;simp only;omega)).trans hf
    clear hW
    go_simp
   refine A0 (i:=2) (v:=iV i) rfl (by kernel_rfl) (by kernel_rfl) (by kernel_rfl) (fun _ _ _ h=>h) (by kernel_rfl) (Or.inl ⟨by rfl,?_⟩) (fun _=>J.o) ?_
   ·intro w _;go_simp
   refine A0 (i:=3) (v:=pV bq (oq+i*51)) rfl (by kernel_rfl) (by kernel_rfl) (by kernel_rfl) (fun _ _ _ h=>h) (by kernel_rfl) (Or.inl ⟨by rfl,?_⟩) (fun _=>J.o) ?_
   ·intro w _;go_simp
   refine Ag (i:=4) (v:=.agg (ct).toArray) rfl (by kernel_rfl) (by kernel_rfl) (by kernel_rfl) (fun _ _ _ h=>h) (by kernel_rfl) (yS (by rfl) 51 _ rfl (bq) (oq+i*51) rfl (ct) _ (fun W hW=>A1 kj.o (hW.block _ ka.o)) qS rfl (AX (n:=51) (by kernel_rfl) jp.o)) J.o ?_
   refine Ag (i:=5) (v:=.agg (ls).toArray) rfl (by kernel_rfl) (by kernel_rfl) (by kernel_rfl) (fun _ _ _ h=>h) (by kernel_rfl) (yS (by rfl) 109 _ rfl (S4) (0) rfl (ls) _ (fun W hW=>A1 jm.o (hW.block _ gn.o)) qx rfl (AX (n:=4) (by kernel_rfl) jy.o)) J.o ?_
   refine A0 (i:=6) (v:=iV i) rfl (by kernel_rfl) (by kernel_rfl) (by kernel_rfl) (fun _ _ _ h=>h) (by kernel_rfl) (Or.inl ⟨by rfl,?_⟩) (fun _=>J.o) ?_
   ·intro w _;go_simp
   refine D4 (i:=7) (j:=11) (by kernel_rfl) rfl rfl (fun K r=>?_) (fun K r=>?_)
   ·go_simp
    refine (NO (F:=FL F ([w.heap.size,w.heap.size+1,S4,X5]++ob v)) (DI.flux fk.o (AP.below (d.o.below.trans ((yc _ _).drew.mono d.o.below.size))) fun b hb=>hb.imp id fun G=>(ai.o b G).1) ((d.o.Xu HS.o).up (yc _ _).drew) (FG (fun b hb=>yk (HF.o b hb) d.o.below.size) fun k G=>(ai.o k G).2) hx.o db.o).mono ?_
    rintro e x2 ⟨res,d',rfl,H,T,af⟩
    rw[hq]
    rw[hq] at T
    have s:=ya (G8 H).1;have HOr:=ya (G8 H).2
    have f:Hid (Below wr.heap.size wr x2):=ya ((yc _ _).drew.trans af)
    refine r.o _ _ (fun _=>f.o) ?_
    clear r K
    refine A0 (i:=8) (v:=.tuple #[.agg (res).toArray,.bool q1]) rfl (by kernel_rfl) (by kernel_rfl) (by kernel_rfl) (fun _ _ _ h=>h) (by kernel_rfl) (Or.inl ⟨by rfl,?_⟩) (fun _=>f.o) ?_
    ·intro w _;go_simp
    refine A0 (i:=9) (v:=.agg (res).toArray) rfl (by kernel_rfl) (by kernel_rfl) (by kernel_rfl) (fun _ _ _ h=>h) (by kernel_rfl) (Or.inl ⟨by rfl,?_⟩) (fun _=>f.o) ?_
    ·intro w _;go_simp
    refine A0 (i:=10) (v:=.bool q1) rfl (by kernel_rfl) (by kernel_rfl) (by kernel_rfl) (fun _ _ _ h=>h) (by kernel_rfl) (Or.inl ⟨by rfl,?_⟩) (fun _=>f.o) ?_
    ·intro w _;go_simp
    refine A4 (i:=11) (by kernel_rfl) rfl (fun K r=>?_)
    go_simp
    have A:Hid (Below x2.heap.size x2 (x2.alloc (.cells (j3).toArray 51))):=ya ((yc _ _).alloc (ye _) _)
    have ae:Hid ((x2.alloc (.cells (j3).toArray 51)).heap[x2.heap.size]?=some (.cells ([]++((j3)++[])).toArray 51 (0,0))):=ya (by simpa using World.alloc_heap_new x2 (.cells (j3).toArray 51))
    refine r.o _ _ (fun _=>f.o.trans (A.o.mono f.o.size)) ?_
    clear r K
    refine A4 (i:=12) (by kernel_rfl) rfl (fun K r=>?_)
    rw[yu (by rfl)]
    refine zh 51 _ _ rfl (x2.heap.size) 0 (res).toArray rfl rfl (Be ae.o (by simp[s.o])) (by rw[yp];exact (AX (n:=51) (by kernel_rfl) s.o)) (yy HOr.o) ?_
    have E:=ya (Aw (x2.heap.size) 51 (res) 0 (x2.alloc (.cells (j3).toArray 51)) [] (j3) [] ae.o rfl (by rw[s.o];rfl))
    rw[yE,yG] at E
    refine r.o _ _ (by intro h;cases h) ?_
    clear r K
    obtain ⟨x4,N⟩:∃z:World,z=(x2.alloc (.cells (j3).toArray 51)).setCells (x2.heap.size) 0 (res):=⟨_,rfl⟩
    rw[yN,<-N]
    rw[<-N] at E
    clear N
    have c5:Hid (Below x2.heap.size x2 x4):=ya (E.o.below A.o (ye _))
    have O:Hid (Below wr.heap.size wr x4):=ya (f.o.trans (c5.o.mono f.o.size))
    have ab:=ya E.o.row
    have a6:Hid (wr.heap.size<=x2.heap.size):=ya f.o.size
    have hE:=DI.flux (F':=FL F ([w.heap.size,w.heap.size+1,S4,X5]++ob v)) H (AP.below c5.o) (fun _ h=>.inl h)
    refine A4 (i:=13) (by kernel_rfl) rfl (fun K r=>?_)
    go_simp
    refine r.o _ _ (by intro h;cases h) ?_
    clear r K
    refine AG (by kernel_rfl) ?_
    refine NoPanic.normal ?_
    exact HT.o _ _ _ _ _ _ _ _ _ _ _ _ _ _ _ _ _ _ _ _ _ _ _ _ _ _ _ _ _ _ _ _ O.o a6.o ab.o hE T
   ·go_simp
    have A:Hid (Below wr.heap.size wr (wr.drew.alloc (.cells (j3).toArray 51))):=ya ((yc _ _).drew.alloc (ye _) _)
    refine r.o _ _ (fun _=>A.o) ?_
    clear r K
    refine A4 (i:=7) (by kernel_rfl) rfl (fun K r=>?_)
    go_simp
    have ec:Hid ((wr.drew.alloc (.cells (j3).toArray 51)).heap[wr.heap.size]?=some (.cells (j3).toArray 51 (0,0))):=ya (World.alloc_heap_new wr.drew (.cells (j3).toArray 51))
    refine (NO (F:=FL F (([w.heap.size,w.heap.size+1,S4,X5]++ob v)++[wr.heap.size])) (DI.flux fk.o (AP.below (d.o.below.trans (A.o.mono d.o.below.size))) fun b hb=>hb.imp id fun G=>(yn.1 G).elim (fun h=>(ai.o b h).1) (fun h=>by simp at h;rw[h];exact d.o.below.size)) ((d.o.Xu HS.o).up A.o) (FG (fun b hb=>yk (HF.o b hb) (d.o.below.trans (A.o.mono d.o.below.size)).size) fun k G=>(yn.1 G).elim (fun h=>yk (ai.o k h).2 A.o.size) (fun h=>by simp at h;rw[h];exact (yd.1 ec.o).1)) hx.o db.o).mono ?_
    rintro e x2 ⟨res,d',rfl,H,T,af⟩
    rw[hq]
    rw[hq] at T
    have s:=ya (G8 H).1;have HOr:=ya (G8 H).2
    have kl:=ya af
    have f:Hid (Below wr.heap.size wr x2):=ya (A.o.trans (af.mono A.o.size))
    have ae:Hid (x2.heap[wr.heap.size]?=some (.cells ([]++((j3)++[])).toArray 51 (0,0))):=ya (by
     have h:=(af.block wr.heap.size (yd.1 ec.o).1).trans ec.o
     simpa using h)
    refine r.o _ _ (fun _=>f.o) ?_
    clear r K
    refine A0 (i:=8) (v:=.tuple #[.agg (res).toArray,.bool q1]) rfl (by kernel_rfl) (by kernel_rfl) (by kernel_rfl) (fun _ _ _ h=>h) (by kernel_rfl) (Or.inl ⟨by rfl,?_⟩) (fun _=>f.o) ?_
    ·intro w _;go_simp
    refine A0 (i:=9) (v:=.agg (res).toArray) rfl (by kernel_rfl) (by kernel_rfl) (by kernel_rfl) (fun _ _ _ h=>h) (by kernel_rfl) (Or.inl ⟨by rfl,?_⟩) (fun _=>f.o) ?_
    ·intro w _;go_simp
    refine A0 (i:=10) (v:=.bool q1) rfl (by kernel_rfl) (by kernel_rfl) (by kernel_rfl) (fun _ _ _ h=>h) (by kernel_rfl) (Or.inl ⟨by rfl,?_⟩) (fun _=>f.o) ?_
    ·intro w _;go_simp
    refine A4 (i:=12) (by kernel_rfl) rfl (fun K r=>?_)
    rw[yu (by rfl)]
    refine zh 51 _ _ rfl (wr.heap.size) 0 (res).toArray rfl rfl (Be ae.o (by simp[s.o])) (by rw[yp];exact (AX (n:=51) (by kernel_rfl) s.o)) (yy HOr.o) ?_
    have E:=ya (Aw (wr.heap.size) 51 (res) 0 (x2) [] (j3) [] ae.o rfl (by rw[s.o];rfl))
    rw[yE,yG] at E
    refine r.o _ _ (by intro h;cases h) ?_
    clear r K
    obtain ⟨x4,N⟩:∃z:World,z=(x2).setCells (wr.heap.size) 0 (res):=⟨_,rfl⟩
    rw[yN,<-N]
    rw[<-N] at E
    clear N
    have O:Hid (Below wr.heap.size wr x4):=ya (E.o.below f.o (ye _))
    have ab:=ya E.o.row
    have a6:Hid (wr.heap.size<=wr.heap.size):=ya (ye _)
    have hE:=DI.flux (F':=FL F ([w.heap.size,w.heap.size+1,S4,X5]++ob v)) H (E.o.flux (.inr (by simp))) (fun b hb=>.inl (hb.imp id (fun h=>yn.2 (.inl h))))
    refine A4 (i:=13) (by kernel_rfl) rfl (fun K r=>?_)
    go_simp
    refine r.o _ _ (by intro h;cases h) ?_
    clear r K
    refine AG (by kernel_rfl) ?_
    refine NoPanic.normal ?_
    exact HT.o _ _ _ _ _ _ _ _ _ _ _ _ _ _ _ _ _ _ _ _ _ _ _ _ _ _ _ _ _ _ _ _ O.o a6.o ab.o hE T
  ·obtain rfl:i=n:=by omega
   have hz:decide ((i:Int) < (i:Int))=false:=by simp
   obtain ⟨ds,M,X,ad⟩:=S.o.grow
   obtain ⟨hd,k8,fv⟩:=M.done DI (fun b hb=>by have h1:=HF.o b hb;have h2:=a8.o;have h3:=d.o.b0;have h4:=d.o.b1;have h5:=d.o.b2;omega) (fun k G=>by have h2:=a8.o;have:=ft.o k G;omega) (by have:=eg.o;have:=ag.o;omega)
   have hg:=S.o.ex.flux (F':=FL F [w.heap.size,w.heap.size+1,S4,X5]) (AP.refl _ _) (fun b hb=>.inl (hb.imp id (fun h=>yn.2 (.inl h))))
   have R:u=(b&&(x.reaches.zipIdx.all fun p=>BI t p.1 p.2)):=by
    have h:u=(fun i=>b&&(x.reaches.zipIdx.take i).all fun p=>BI t p.1 p.2) i:=S.o.b
    rw[h,ag.o]
    simp only[OK]
   have f4:u=true->ds=(x.reaches.zipIdx.map fun p=>Bt t p.1 p.2):=fun hb=>by
    have h:=ad hb
    simp only[ag.o,OL] at h
    exact h
   subst k8
   have ee:=ya R
   have iw:=ya f4;have V:=ya fv;have Q:=ya hg
   clear M X ad f4 fv hg S ah R
   go_wp2
   refine r.o _ _ ?_
   have R:=ee.o
   subst R
   refine X1 (b:=(b&&(x.reaches.zipIdx.all fun p=>BI t p.1 p.2))) (y:=(⟨y.name,y.season,y.cap,y.start,y.lets,y.crops,ds,y.farms,y.rots,y.rights,y.duties⟩:AA)) (y0:=(⟨y0.name,y0.season,y0.cap,y0.start,y0.lets,y0.crops,(x.reaches.zipIdx.map fun p=>Bt t p.1 p.2),y0.farms,y0.rots,y0.rights,y0.duties⟩:AA)) HV.o HF.o jv.o HS.o (by have h:=d.o;rw[kc.o] at h;simpa[yg] using h) ⟨Q.o.name,Q.o.e0,Q.o.e1,Q.o.e2,Q.o.lets,Q.o.crops,fun _=>V.o,fun h=>absurd h (by omega),fun h=>absurd h (by omega),fun h=>absurd h (by omega),fun h=>absurd h (by omega)⟩ (fun hb=>by
     have h1:=HM.o (by simp only[ym] at hb;exact hb.1)
     rw[iw.o hb,h1])
end Go.Proofs.Ytghepahgkcigpaa
