/- The reference's Resolve from the loop over rots on (printed by gen_zj.py). -/
import Derived.Test.YtghepahgkcigpaaQ0
import Derived.Test.YtghepahgkcigpaaQ26
import Derived.Test.YtghepahgkcigpaaQ15
import Derived.Deep.CutBlock
set_option maxRecDepth 100000
set_option maxHeartbeats 64000000
set_option linter.unusedSimpArgs false
namespace Go.Proofs.Ytghepahgkcigpaa
open Go.RowKit
theorem X0{F:NP}{w V0 W:World}{cs ls:LV}{S4 X5:Nat}{x y y0:AA}{L:BL}{c0 c1 c2:LV}{hl hc h2 h3 h4 h5 h6 a0 a1 a2 a3:AF}{t:Tb}{b:Bool}{u0 u7 u8 u9 fq gr ey k4 kf kk io jl gd er em gs i2 f8 i6 ij en iy fg f6 jp ig hz iq gc gm ee iu fw f7 ip fj gp i7 ej fk fc gh gl jm ev fo hu gv fh gw gb hp fv ep jo fz jq gy g8 iz fp ha ix ho im eo fl i0 jj i8 ge fb ew g6 et el ji ic it jk gt gf go gq ih g7 f4 hw eq ht f0 eh eu ef d7 bw bu dl gi fx f5 i1 iw ib fa eg il hr f1 jx hj gn fs ff ia jv fi gj gk g9 ii hx js f2 hh f3 cf d4 az ax b9 bz au dm ch av bh cy cn ar cm cg bi b7 bv de db bt al cq d1 d6 b4 dn di cb cx cz bj cr c4 cv b5 d8 d0 ay dd ce cj bp c8 bs ca dg b8 ck bn d3 aw dh be aq cc dk bg c9:Value}(hv:Ba (GF F w) w L cs x)(hF:∀b,F b->b < w.heap.size)(e5:Fw x)(hs:MN V0 ls a0 a1 a2 a3 t)
 (hR:Rs w cs ls (.string y.name::(c0++(c1++(c2++[hl.v,hc.v,h2.v,h3.v,h4.v,h5.v,h6.v])))) S4 X5 V0 W)(M:EE 2 (GF (FL F [w.heap.size,w.heap.size+1,S4,X5]) W) W c0 c1 c2 hl hc h2 h3 h4 h5 h6 y)(hm:b=true->y=y0):
  Code.wp Try.prog (DM 10 (Try.f12.body.getD .skip)) (bodyPost Try.prog Try.f12 (JR F w (IZ (((b&&(x.rots.all (Du t)))&&(x.rights.all (BA t)))&&(x.duties.all (Ci t)))) (⟨y0.name,y0.season,y0.cap,y0.start,y0.lets,y0.crops,y0.reaches,y0.farms,(x.rots.map (Cu t)),(x.rights.map (Bg t)),(x.duties.map (BP t))⟩:AA))) {tmps:=#[u0,.pointer (some ⟨w.heap.size,0,none⟩),.pointer (some ⟨w.heap.size+1,0,none⟩),.int .i64 0,.pointer (some ⟨S4,0,none⟩),.pointer (some ⟨X5,0,none⟩),.bool b,u7,u8,u9,fq,gr,ey,k4,kf,kk,io,jl,gd,er,em,gs,i2,f8,i6,ij,en,iy,fg,f6,jp,ig,hz,iq,gc,gm,ee,iu,fw,f7,ip,fj,gp,i7,ej,fk,fc,gh,gl,jm,ev,fo,hu,gv,fh,gw,gb,hp,fv,ep,jo,fz,jq,gy,g8,iz,fp,ha,ix,ho,im,eo,fl,i0,jj,i8,ge,fb,ew,g6,et,el,ji,ic,it,jk,gt,gf,go,gq,ih,g7,f4,hw,eq,ht,f0,eh,eu,ef,d7,bw,bu,dl,gi,fx,f5,i1,iw,ib,fa,eg,il,hr,f1,jx,hj,gn,fs,ff,ia,jv,fi,gj,gk,g9,ii,hx,js,f2,hh,f3,cf,d4,az,ax,b9,bz,au,dm,ch,av,bh,cy,cn,ar,cm,cg,bi,b7,bv,de,db,bt,al,cq,d1,d6,b4,dn,di,cb,cx,cz,bj,cr,c4,cv,b5,d8,d0,ay,dd,ce,cj,bp,c8,bs,ca,dg,b8,ck,bn,d3,aw,dh,be,aq,cc,dk,bg,c9],defers:=[]} W:=by
 obtain ⟨⟨a,n,c⟩,hL⟩:∃h:AF,L.rots=h:=⟨_,rfl⟩
 obtain ⟨s0,s1,s2,jw,g0,g1,g2⟩:=hv.cells
 have e7:Hid (∀(row:LV) (W:World),Rs w cs ls row S4 X5 V0 W->W.cell? (aV w.heap.size 23)=some (.slice a n c)):=ya (by
  intro row W h
  refine h.cell (p:=.string x.name::(s0++(s1++(s2++[L.lets.v,L.crops.v,L.reaches.v,L.farms.v])))) (q:=[L.rights.v,L.duties.v]) ?_ (by simp[g0.len,g1.len,g2.len])
  rw[jw,hL]
  simp[yg,AF.v])
 have U:B7 (GF F w) w 23 (N4 (GF F w) w) ⟨a,n,c⟩ x.rots:=by
  obtain ⟨k1,k2,k3⟩:=hv.rots
  rw[hL] at k1 k3
  exact ⟨k1,k2,fun i hi=>by obtain ⟨b,o,cs,g1,g2,g3,g4,g5⟩:=k3 i hi;exact ⟨b,o,cs,g1,g2,g3,g4,⟨_,g5⟩⟩⟩
 have km:=ya U.2.2
 have af:Hid (n=x.rots.length):=ya U.1
 have ed:Hid (x.rots.length<=1000):=ya (by have:=e5.rots;omega)
 have HN:Hid (n<=140737488355328):=ya (by have:=af.o;have:=ed.o;omega)
 have HV:=ya hv
 have HF:=ya hF
 have gg:=ya e5
 have HS:=ya hs
 have HM:=ya hm
 have HG:=ya M
 obtain ⟨P,hP⟩:∃P:LV,P=.string y.name::(c0++(c1++(c2++[hl.v,hc.v,h2.v,h3.v]))):=⟨_,rfl⟩
 have dy:Hid (P.length=23):=ya (by rw[hP];simp[M.e0.len,M.e1.len,M.e2.len])
 have ki:=ya hP
 have e8:Hid (Rs w cs ls (P++(h4.v::[h5.v,h6.v])) S4 X5 V0 W):=ya (by rw[hP];simpa[yg] using hR)
 have fu:=ya hR.blocks
 clear hv hF e5 hs hm M hR hP hL jw g0 g1 g2 U
 refine AH fun K r=>?_
 go_wp2_with (first|(refine AQ rfl 31 _ _ rfl X5 23 rfl (.slice none 0 0) rfl rfl (p:=P) (m:=h4.v) (q:=[h5.v,h6.v]) (t:=35) e8.o.x dy.o (by kernel_rfl) rfl ?_;intro W1 ju;have dv:=ya ju;clear ju))
 refine r.o _ _ ?_
 clear r K
 have e6:=ya (e8.o.wrote dv.o)
 obtain ⟨B,hB⟩:∃B:Nat,B=W1.heap.size:=⟨_,rfl⟩
 have a7:Hid (X5 < B):=ya (by rw[hB];exact e6.o.lt)
 have jt:Hid (DQ N4 64 23 B F [w.heap.size,w.heap.size+1,S4,X5] (fun l W=>EE 2 (GF (FL F l) W) W c0 c1 c2 hl hc h2 h3 h4 h5 h6 y) (fun i=>b&&(x.rots.take i).all (Du t)) (fun i=>(x.rots.take i).map (Cu t)) 0 b (.slice none 0 0) W1):=ya (by
  refine ⟨?_,⟨[],FM,rfl,fun _=>rfl⟩,by simp,by rw[hB];exact ye _⟩
  have h:EE 2 (GF (FL F [w.heap.size,w.heap.size+1,S4,X5]) W1) W1 c0 c1 c2 hl hc h2 h3 h4 h5 h6 y:=HG.o.flux (dv.o.flux (.inr (by simp))) (fun _ h=>.inl h)
  simpa[ob,Value.ownBlock] using h)
 have kp:=ya hB
 clear e8 dv HG hB
 refine AH fun K r=>?_
 obtain ⟨I,hI⟩:∃I:Nat->Value->World->Prop,I=fun i v6 wr=>∃(u:Bool) (v:Value),v6=.bool u∧DQ N4 64 23 B F [w.heap.size,w.heap.size+1,S4,X5] (fun l W=>EE 2 (GF (FL F l) W) W c0 c1 c2 hl hc h2 h3 h4 h5 h6 y) (fun i=>b&&(x.rots.take i).all (Du t)) (fun i=>(x.rots.take i).map (Cu t)) i u v wr∧Rs w cs ls (P++(v::[h5.v,h6.v])) S4 X5 V0 wr:=⟨_,rfl⟩
 have HI:=ya hI
 have fd:Hid (I 0 (.bool b) W1):=ya (by rw[hI];exact ⟨b,_,rfl,jt.o,e6.o⟩)
 clear hI jt e6
 go_wp2
 go_loopw [6,13] (fun v6 iv wr=>∃i:Nat,iv=iV i∧i<=n∧Hid (I i v6 wr)) (fun _ iv _=>n - (intOf iv).toNat)
 case atStart=>exact ⟨0,rfl,yv _,fd⟩
 case round=>
  clear fd
  obtain ⟨i,rfl,hi,gu⟩:=hrel
  obtain ⟨u,v,rfl,hJ,jr⟩:∃(u:Bool) (v:Value),u6=.bool u∧DQ N4 64 23 B F [w.heap.size,w.heap.size+1,S4,X5] (fun l W=>EE 2 (GF (FL F l) W) W c0 c1 c2 hl hc h2 h3 h4 h5 h6 y) (fun i=>b&&(x.rots.take i).all (Du t)) (fun i=>(x.rots.take i).map (Cu t)) i u v wr∧Rs w cs ls (P++(v::[h5.v,h6.v])) S4 X5 V0 wr:=by have h:=gu.o;rw[HI.o] at h;exact h
  obtain ⟨va,vn,vc,ga⟩:∃va vn vc,v=.slice va vn vc:=by obtain ⟨ds,M,_⟩:=hJ.grow;exact M.slice
  have R:=ya hJ;have d:=ya jr
  have ag:=ya ga
  clear gu hJ jr ga
  have hf:=e7.o _ _ d.o
  have ko:n<=140737488355328:=HN.o
  by_cases k9:i < n
  ·have T:i < x.rots.length:=by rw[<-af.o];exact k9
   have ir:(i:Int) < (n:Int):=by omega
   obtain ⟨bq,oq,ct,he,dx,h9,fm,ea⟩:=km.o i T
   obtain rfl:a=some (aV bq oq):=he
   have Y:Hid ((fun i=>b&&(x.rots.take i).all (Du t)) (i+1)=(u&&Du t x.rots[i])):=ya (by
    have h1:u=(b&&(x.rots.take i).all (Du t)):=R.o.b
    show (b&&(x.rots.take (i+1)).all (Du t))=_
    rw[yr T,z8,zb,zn,zj,<-zM,<-h1])
   have cd:Hid ((fun i=>(x.rots.take i).map (Cu t)) (i+1)=(fun i=>(x.rots.take i).map (Cu t)) i++[Cu t x.rots[i]]):=ya (by
    show (x.rots.take (i+1)).map (Cu t)=(x.rots.take i).map (Cu t)++[Cu t x.rots[i]]
    rw[yr T,ze];rfl)
   have e3:Hid (x.rots[i].turns.length<=100000):=ya (by have:=gg.o.turns _ (yw T);omega)
   have kd:Hid (i+1<=1000000):=ya (by have:=ed.o;omega)
   generalize hD:x.rots[i]=D at ea Y cd e3
   clear hD
   have fe:=ya ea
   have ka:=ya h9
   have kl:Hid (wr.rangeAt bq (oq+i*23) ct):=ya (A1 fm (d.o.below.block bq dx.2))
   have kh:Hid (bq < wr.heap.size):=ya (yk dx.2 d.o.below.size)
   have k8:=ya (A6 d.o.l)
   have gx:Hid (S4 < wr.heap.size):=ya (yd.1 d.o.l).1
   have ke:Hid (ls.length=4):=ya (by rw[HS.o.cells];rfl)
   have ah:Hid (∀k∈[w.heap.size,w.heap.size+1,S4,X5]++ob v,w.heap.size<=k∧k < wr.heap.size):=ya (by
    obtain ⟨ds,M,_⟩:=R.o.grow
    have h1:=a7.o;have h5:=R.o.size;have h6:=d.o.b0;have h7:=d.o.b1;have h8:=d.o.b2
    intro k G
    rcases yn.1 G with G|G
    ·have:=fu.o k G;omega
    ·have:=M.lt k G;omega)
   clear fm ea h9 dx T
   generalize hq:Du t D=q1 at Y
   go_upto_block 5 with fail
   refine wp_block ?_
   refine AH fun K2 du=>?_
   have HT:Hid (∀(Bq:Nat) (x4:World) (res:LV) (d':AS) (ap cl ba bo ao c5 df d5 ak dq b3 cw an bk bm c3 d9 c6 dp am dj ci aj dc bd co cp:Value),Below wr.heap.size wr x4->wr.heap.size<=Bq->x4.heap[Bq]?=some (.cells res.toArray 64 (0,0))->N4 (GF (FL F ([w.heap.size,w.heap.size+1,S4,X5]++ob v)) x4) x4 res d'->(q1=true->d'=Cu t D)->K2 {tmps:=#[u0,pV w.heap.size 0,pV (w.heap.size+1) 0,iV 0,pV S4 0,pV X5 0,.bool u,u7,u8,u9,fq,gr,ey,iV i,pV Bq 0,.bool q1,io,jl,gd,er,em,gs,i2,f8,i6,ij,en,iy,fg,f6,jp,ig,hz,iq,gc,gm,ee,iu,fw,f7,ip,fj,gp,i7,ej,fk,fc,gh,gl,jm,ev,fo,hu,gv,fh,gw,gb,hp,fv,ep,jo,fz,jq,gy,g8,iz,fp,ha,ix,ho,im,eo,fl,i0,jj,i8,ge,fb,ew,g6,et,el,ji,ic,it,jk,gt,gf,go,gq,ih,g7,f4,hw,eq,ht,f0,eh,eu,ef,d7,bw,bu,dl,pV X5 23,ap,cl,ba,bo,ao,c5,df,d5,ak,dq,b3,cw,an,bk,bm,c3,d9,c6,dp,am,dj,ci,aj,dc,bd,co,cp,cf,d4,az,ax,b9,bz,au,dm,ch,av,bh,cy,cn,ar,cm,cg,bi,b7,bv,de,db,bt,al,cq,d1,d6,b4,dn,di,cb,cx,cz,bj,cr,c4,cv,b5,d8,d0,ay,dd,ce,cj,bp,c8,bs,ca,dg,b8,ck,bn,d3,aw,dh,be,aq,cc,dk,bg,c9],defers:=[]} x4):=ya (by
    intro Bq x4 res d' ap cl ba bo ao c5 df d5 ak dq b3 cw an bk bm c3 d9 c6 dp am dj ci aj dc bd co cp ab ec ek hV ie
    have O:=ya ab;have kc:=ya ek;have k6:=ya hV;have kb:=ya ie
    have s:=ya (Io hV).1;have HOr:=ya (Io hV).2
    have d2:=ya (d.o.call ab)
    have kq:x4.cell? (aV X5 23)=some (.slice va vn vc):=(d2.o.Xp rfl dy.o).trans (by rw[ag.o])
    obtain ⟨ds,M,V,ac⟩:=R.o.grow
    obtain ⟨rows,ai,gz,a8⟩:=(M.rnd EW ((Ht (C:=B) wr).call ab R.o.size)).own
    have k7:=ya ai;have hn:=ya gz;have ik:=ya a8;have jy:=ya V;have jz:=ya ac
    have da:Hid (B<=x4.heap.size):=ya (yo R.o.size ab.size)
    have jn:Hid ((x4.alloc (.cells res.toArray 64)).ownsRow B 64 23 (.slice va vn vc) rows.length rows.flatten):=ya (by rw[<-ag.o];exact Cg ai fun k G=>((yc _ _).alloc (ye _) _).block k (Gl ai k G).2)
    have jh:Hid (rows.length+1<=1000000):=ya (by rw[AW.length a8,V];exact kd.o)
    have kj:Hid (B<=(x4.alloc (.cells res.toArray 64)).heap.size):=ya (by have:=da.o;simp;omega)
    clear ai gz a8 V ac M ab ec ek hV ie hf ir
    refine du.o _ _ ?_
    clear du K2
    go_wp2_with (first
     |(refine Ae u rfl _ rfl rfl ?_)
     |(refine Ak (g:=u) rfl _ _ _ rfl rfl (.bool (u&&q1)) (by cases u<;>rfl) ?_;generalize a6:(u&&q1)=y2;have dt:=ya a6;clear a6)
     |(refine yf rfl 64 _ rfl Bq 0 rfl res _ (A6 kc.o) qX rfl (AX (n:=23) (by kernel_rfl) s.o) ?_)
     |(refine Ct rfl 31 64 _ rfl res rfl 23 qL (by kernel_rfl) s.o (by omega) (by omega) ?_)
     |(at_builtin;refine BT qL rfl _ _ rfl 23 (by kernel_rfl) (by omega) B (.slice va vn vc) rows.length rows.flatten rfl jn.o x4.heap.size 1 res rfl (World.alloc_heap_new _ _) s.o HOr.o jh.o kj.o ?_;intro vx x8 X eb dw;obtain ⟨xa,xn,xc,rfl⟩:=EH X;rw[<-ag.o] at eb dw;have f9:=ya (Dj EW ik.o hn.o k7.o k6.o s.o X eb dw da.o);have cu:=ya (d2.o.up f9.o.below a7.o);clear X eb dw)
     |(refine AQ rfl 31 _ _ rfl X5 23 rfl (.slice xa xn xc) rfl rfl (p:=P) (m:=v) (q:=[h5.v,h6.v]) (t:=35) cu.o.x dy.o (by kernel_rfl) rfl ?_;intro x9 ei;have e4:=ya ei;clear ei)
     |(refine Ab (g:=u) z7 rfl ?_;simp only[CW,Aa])
     |(refine Ab (g:=u) (Av u) rfl ?_;simp only[CW,Aa])
     |(rw[AD u q1];generalize a6:(u&&q1)=y2;have dt:=ya a6;clear a6))
    have ft:=R.o.next (b':=y2) Hy (R.o.ex.flux (AP.below O.o) (fun _ h=>.inl h)) O.o.size f9.o jy.o (by rw[<-dt.o];exact Y.o.symm) (by
     intro hy
     rw[<-dt.o] at hy
     simp only[ym] at hy
     refine qn ?_ cd.o.symm
     rw[jz.o hy.1,kb.o hy.2])
    have k5:Hid (I (i+1) (.bool y2) x9):=ya (by rw[HI.o];exact ⟨y2,.slice xa xn xc,rfl,ft.put EW (ft.ex.flux (e4.o.flux (.inr (by simp))) (fun _ h=>.inl h)) e4.o (by simp) a7.o,cu.o.wrote e4.o⟩)
    exact ⟨⟨i+1,by push_cast;rfl,by omega,k5⟩,by simp[intOf];omega⟩
    )
   clear du
   have Q:Hid (Below wr.heap.size wr wr.drew):=ya (yc _ _).drew
   refine wp_region_noPanic ?_
   refine Bz (by kernel_rfl) (fun W=>Below wr.heap.size wr W) 11 ?_
   refine A0 (i:=0) (v:=pV w.heap.size 23) rfl (by kernel_rfl) (by kernel_rfl) (by kernel_rfl) (fun _ _ _ h=>h) (by kernel_rfl) (Or.inl ⟨by rfl,?_⟩) (fun _=>Q.o) ?_
   ·intro w _;go_simp
   refine Ag (i:=1) (v:=.slice (some (aV bq oq)) n c) rfl (by kernel_rfl) (by kernel_rfl) (by kernel_rfl) (fun _ _ _ h=>h) (by kernel_rfl) (Or.inl ⟨by rfl,?_⟩) Q.o ?_
   ·intro W hW
    have hc:W.cell? (aV w.heap.size 23)=some (.slice (some (aV bq oq)) n c):=(hW.cell (p:=(aV w.heap.size 23)) (by have:=gx.o;have:=d.o.b0;simp only;omega)).trans hf
    clear hW
    go_simp
   refine A0 (i:=2) (v:=iV i) rfl (by kernel_rfl) (by kernel_rfl) (by kernel_rfl) (fun _ _ _ h=>h) (by kernel_rfl) (Or.inl ⟨by rfl,?_⟩) (fun _=>Q.o) ?_
   ·intro w _;go_simp
   refine A0 (i:=3) (v:=pV bq (oq+i*23)) rfl (by kernel_rfl) (by kernel_rfl) (by kernel_rfl) (fun _ _ _ h=>h) (by kernel_rfl) (Or.inl ⟨by rfl,?_⟩) (fun _=>Q.o) ?_
   ·intro w _;go_simp
   refine Ag (i:=4) (v:=.agg (ct).toArray) rfl (by kernel_rfl) (by kernel_rfl) (by kernel_rfl) (fun _ _ _ h=>h) (by kernel_rfl) (yS (by rfl) 64 _ rfl (bq) (oq+i*23) rfl (ct) _ (fun W hW=>A1 kl.o (hW.block _ kh.o)) qX rfl (AX (n:=23) (by kernel_rfl) ka.o)) Q.o ?_
   refine Ag (i:=5) (v:=.agg (ls).toArray) rfl (by kernel_rfl) (by kernel_rfl) (by kernel_rfl) (fun _ _ _ h=>h) (by kernel_rfl) (yS (by rfl) 109 _ rfl (S4) (0) rfl (ls) _ (fun W hW=>A1 k8.o (hW.block _ gx.o)) qx rfl (AX (n:=4) (by kernel_rfl) ke.o)) Q.o ?_
   refine D4 (i:=6) (j:=10) (by kernel_rfl) rfl rfl (fun K r=>?_) (fun K r=>?_)
   ·go_simp
    refine (Kd (F:=FL F ([w.heap.size,w.heap.size+1,S4,X5]++ob v)) (EW.flux fe.o (AP.below (d.o.below.trans ((yc _ _).drew.mono d.o.below.size))) fun b hb=>hb.imp id fun G=>(ah.o b G).1) ((d.o.Xu HS.o).up (yc _ _).drew) (FG (fun b hb=>yk (HF.o b hb) d.o.below.size) fun k G=>(ah.o k G).2) e3.o).mono ?_
    rintro e x2 ⟨res,d',rfl,J,S,ae⟩
    rw[hq]
    rw[hq] at S
    have s:=ya (Io J).1;have HOr:=ya (Io J).2
    have f:Hid (Below wr.heap.size wr x2):=ya ((yc _ _).drew.trans ae)
    refine r.o _ _ (fun _=>f.o) ?_
    clear r K
    refine A0 (i:=7) (v:=.tuple #[.agg (res).toArray,.bool q1]) rfl (by kernel_rfl) (by kernel_rfl) (by kernel_rfl) (fun _ _ _ h=>h) (by kernel_rfl) (Or.inl ⟨by rfl,?_⟩) (fun _=>f.o) ?_
    ·intro w _;go_simp
    refine A0 (i:=8) (v:=.agg (res).toArray) rfl (by kernel_rfl) (by kernel_rfl) (by kernel_rfl) (fun _ _ _ h=>h) (by kernel_rfl) (Or.inl ⟨by rfl,?_⟩) (fun _=>f.o) ?_
    ·intro w _;go_simp
    refine A0 (i:=9) (v:=.bool q1) rfl (by kernel_rfl) (by kernel_rfl) (by kernel_rfl) (fun _ _ _ h=>h) (by kernel_rfl) (Or.inl ⟨by rfl,?_⟩) (fun _=>f.o) ?_
    ·intro w _;go_simp
    refine A4 (i:=10) (by kernel_rfl) rfl (fun K r=>?_)
    go_simp
    have A:Hid (Below x2.heap.size x2 (x2.alloc (.cells (j5).toArray 64))):=ya ((yc _ _).alloc (ye _) _)
    have ad:Hid ((x2.alloc (.cells (j5).toArray 64)).heap[x2.heap.size]?=some (.cells ([]++((j5)++[])).toArray 64 (0,0))):=ya (by simpa using World.alloc_heap_new x2 (.cells (j5).toArray 64))
    refine r.o _ _ (fun _=>f.o.trans (A.o.mono f.o.size)) ?_
    clear r K
    refine A4 (i:=11) (by kernel_rfl) rfl (fun K r=>?_)
    rw[yu (by rfl)]
    refine zh 64 _ _ rfl (x2.heap.size) 0 (res).toArray rfl rfl (Be ad.o (by simp[s.o])) (by rw[yp];exact (AX (n:=23) (by kernel_rfl) s.o)) (yy HOr.o) ?_
    have E:=ya (Aw (x2.heap.size) 64 (res) 0 (x2.alloc (.cells (j5).toArray 64)) [] (j5) [] ad.o rfl (by rw[s.o];rfl))
    rw[yE,yG] at E
    refine r.o _ _ (by intro h;cases h) ?_
    clear r K
    obtain ⟨x4,N⟩:∃z:World,z=(x2.alloc (.cells (j5).toArray 64)).setCells (x2.heap.size) 0 (res):=⟨_,rfl⟩
    rw[yN,<-N]
    rw[<-N] at E
    clear N
    have c7:Hid (Below x2.heap.size x2 x4):=ya (E.o.below A.o (ye _))
    have O:Hid (Below wr.heap.size wr x4):=ya (f.o.trans (c7.o.mono f.o.size))
    have aa:=ya E.o.row
    have Z:Hid (wr.heap.size<=x2.heap.size):=ya f.o.size
    have hE:=EW.flux (F':=FL F ([w.heap.size,w.heap.size+1,S4,X5]++ob v)) J (AP.below c7.o) (fun _ h=>.inl h)
    refine A4 (i:=12) (by kernel_rfl) rfl (fun K r=>?_)
    go_simp
    refine r.o _ _ (by intro h;cases h) ?_
    clear r K
    refine AG (by kernel_rfl) ?_
    refine NoPanic.normal ?_
    exact HT.o _ _ _ _ _ _ _ _ _ _ _ _ _ _ _ _ _ _ _ _ _ _ _ _ _ _ _ _ _ _ _ O.o Z.o aa.o hE S
   ·go_simp
    have A:Hid (Below wr.heap.size wr (wr.drew.alloc (.cells (j5).toArray 64))):=ya ((yc _ _).drew.alloc (ye _) _)
    refine r.o _ _ (fun _=>A.o) ?_
    clear r K
    refine A4 (i:=6) (by kernel_rfl) rfl (fun K r=>?_)
    go_simp
    have e9:Hid ((wr.drew.alloc (.cells (j5).toArray 64)).heap[wr.heap.size]?=some (.cells (j5).toArray 64 (0,0))):=ya (World.alloc_heap_new wr.drew (.cells (j5).toArray 64))
    refine (Kd (F:=FL F (([w.heap.size,w.heap.size+1,S4,X5]++ob v)++[wr.heap.size])) (EW.flux fe.o (AP.below (d.o.below.trans (A.o.mono d.o.below.size))) fun b hb=>hb.imp id fun G=>(yn.1 G).elim (fun h=>(ah.o b h).1) (fun h=>by simp at h;rw[h];exact d.o.below.size)) ((d.o.Xu HS.o).up A.o) (FG (fun b hb=>yk (HF.o b hb) (d.o.below.trans (A.o.mono d.o.below.size)).size) fun k G=>(yn.1 G).elim (fun h=>yk (ah.o k h).2 A.o.size) (fun h=>by simp at h;rw[h];exact (yd.1 e9.o).1)) e3.o).mono ?_
    rintro e x2 ⟨res,d',rfl,J,S,ae⟩
    rw[hq]
    rw[hq] at S
    have s:=ya (Io J).1;have HOr:=ya (Io J).2
    have kn:=ya ae
    have f:Hid (Below wr.heap.size wr x2):=ya (A.o.trans (ae.mono A.o.size))
    have ad:Hid (x2.heap[wr.heap.size]?=some (.cells ([]++((j5)++[])).toArray 64 (0,0))):=ya (by
     have h:=(ae.block wr.heap.size (yd.1 e9.o).1).trans e9.o
     simpa using h)
    refine r.o _ _ (fun _=>f.o) ?_
    clear r K
    refine A0 (i:=7) (v:=.tuple #[.agg (res).toArray,.bool q1]) rfl (by kernel_rfl) (by kernel_rfl) (by kernel_rfl) (fun _ _ _ h=>h) (by kernel_rfl) (Or.inl ⟨by rfl,?_⟩) (fun _=>f.o) ?_
    ·intro w _;go_simp
    refine A0 (i:=8) (v:=.agg (res).toArray) rfl (by kernel_rfl) (by kernel_rfl) (by kernel_rfl) (fun _ _ _ h=>h) (by kernel_rfl) (Or.inl ⟨by rfl,?_⟩) (fun _=>f.o) ?_
    ·intro w _;go_simp
    refine A0 (i:=9) (v:=.bool q1) rfl (by kernel_rfl) (by kernel_rfl) (by kernel_rfl) (fun _ _ _ h=>h) (by kernel_rfl) (Or.inl ⟨by rfl,?_⟩) (fun _=>f.o) ?_
    ·intro w _;go_simp
    refine A4 (i:=11) (by kernel_rfl) rfl (fun K r=>?_)
    rw[yu (by rfl)]
    refine zh 64 _ _ rfl (wr.heap.size) 0 (res).toArray rfl rfl (Be ad.o (by simp[s.o])) (by rw[yp];exact (AX (n:=23) (by kernel_rfl) s.o)) (yy HOr.o) ?_
    have E:=ya (Aw (wr.heap.size) 64 (res) 0 (x2) [] (j5) [] ad.o rfl (by rw[s.o];rfl))
    rw[yE,yG] at E
    refine r.o _ _ (by intro h;cases h) ?_
    clear r K
    obtain ⟨x4,N⟩:∃z:World,z=(x2).setCells (wr.heap.size) 0 (res):=⟨_,rfl⟩
    rw[yN,<-N]
    rw[<-N] at E
    clear N
    have O:Hid (Below wr.heap.size wr x4):=ya (E.o.below f.o (ye _))
    have aa:=ya E.o.row
    have Z:Hid (wr.heap.size<=wr.heap.size):=ya (ye _)
    have hE:=EW.flux (F':=FL F ([w.heap.size,w.heap.size+1,S4,X5]++ob v)) J (E.o.flux (.inr (by simp))) (fun b hb=>.inl (hb.imp id (fun h=>yn.2 (.inl h))))
    refine A4 (i:=12) (by kernel_rfl) rfl (fun K r=>?_)
    go_simp
    refine r.o _ _ (by intro h;cases h) ?_
    clear r K
    refine AG (by kernel_rfl) ?_
    refine NoPanic.normal ?_
    exact HT.o _ _ _ _ _ _ _ _ _ _ _ _ _ _ _ _ _ _ _ _ _ _ _ _ _ _ _ _ _ _ _ O.o Z.o aa.o hE S
  ·obtain rfl:i=n:=by omega
   have ir:decide ((i:Int) < (i:Int))=false:=by simp
   obtain ⟨ds,M,V,ac⟩:=R.o.grow
   obtain ⟨hd,kg,fy⟩:=M.done EW (fun b hb=>by have h1:=HF.o b hb;have h2:=a7.o;have h3:=d.o.b0;have h4:=d.o.b1;have h5:=d.o.b2;omega) (fun k G=>by have h2:=a7.o;have:=fu.o k G;omega) (by have:=ed.o;have:=af.o;omega)
   have hg:=R.o.ex.flux (F':=FL F [w.heap.size,w.heap.size+1,S4,X5]) (AP.refl _ _) (fun b hb=>.inl (hb.imp id (fun h=>yn.2 (.inl h))))
   have ec:u=(b&&(x.rots.all (Du t))):=by
    have h:u=(fun i=>b&&(x.rots.take i).all (Du t)) i:=R.o.b
    rw[h,af.o]
    simp only[yx]
   have ez:u=true->ds=(x.rots.map (Cu t)):=fun hb=>by
    have h:=ac hb
    simp only[af.o,yx] at h
    exact h
   subst ec
   subst kg
   have k0:=ya ez;have U:=ya fy;have H:=ya hg
   clear M V ac ez fy hg R ag
   go_wp2
   refine r.o _ _ ?_
   refine WZ (y:=(⟨y.name,y.season,y.cap,y.start,y.lets,y.crops,y.reaches,y.farms,ds,y.rights,y.duties⟩:AA)) (y0:=(⟨y0.name,y0.season,y0.cap,y0.start,y0.lets,y0.crops,y0.reaches,y0.farms,(x.rots.map (Cu t)),y0.rights,y0.duties⟩:AA)) HV.o HF.o gg.o HS.o (by have h:=d.o;rw[ki.o] at h;simpa[yg] using h) ⟨H.o.name,H.o.e0,H.o.e1,H.o.e2,H.o.lets,H.o.crops,fun _=>H.o.reaches (by omega),fun _=>H.o.farms (by omega),fun _=>U.o,fun h=>absurd h (by omega),fun h=>absurd h (by omega)⟩ (fun hb=>by
     have h1:=HM.o (by simp only[ym] at hb;exact hb.1)
     rw[k0.o hb,h1])
end Go.Proofs.Ytghepahgkcigpaa
