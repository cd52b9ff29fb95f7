/- The reference's Resolve from the loop over farms on (printed by gen_zj.py). -/
import Derived.Test.YtghepahgkcigpaaQ0
import Derived.Test.YtghepahgkcigpaaQ29
import Derived.Test.YtghepahgkcigpaaQ16
import Derived.Deep.CutBlock
set_option maxRecDepth 100000
set_option maxHeartbeats 64000000
set_option linter.unusedSimpArgs false
namespace Go.Proofs.Ytghepahgkcigpaa
open Go.RowKit
theorem X1{F:NP}{w V0 W:World}{cs ls:LV}{S4 X5:Nat}{x y y0:AA}{L:BL}{c0 c1 c2:LV}{hl hc h2 h3 h4 h5 h6 a0 a1 a2 a3:AF}{t:Tb}{b:Bool}{u0 u7 u8 u9 jl k0 iw er gf i0 gu hw fq en ej fx gj ew gk gr ek ho f3 et i7 gp gh gy fp fv ee hh fe ev gx f5 fw gl eh f6 ez ft fu hx eo f9 gg fz f4 g3 fo gd fd em i6 fg i8 g5 fl hr fa ga hn gc gt el f7 gi hu gm ju ji iu jq iq io kc k6 ka kd k2 jw jy jz k7 jr iy k4 ip k3 ix im ir il ha fi fh ib c4 bo b4 cr dc cv b8 aj d2 ck aw dt ch c9 bh ba cu dp bd c5 c7 bw d1 co dm ax cg az cf da au aq b7 bu an dn cj ao bg d4 cp am cn ci bj b3 bt dh df bs ak cw d7 db av dq dk cb d3 d5 bk cx bv d0 ay dd d6 ar dg ce cl bn c3 bp c8 di b5 cm bm d9 ap dj b9 al cc dl be c6:Value}(hv:Ba (GF F w) w L cs x)(hF:∀b,F b->b < w.heap.size)(e5:Fw x)(hs:MN V0 ls a0 a1 a2 a3 t)
 (hR:Rs w cs ls (.string y.name::(c0++(c1++(c2++[hl.v,hc.v,h2.v,h3.v,h4.v,h5.v,h6.v])))) S4 X5 V0 W)(M:EE 1 (GF (FL F [w.heap.size,w.heap.size+1,S4,X5]) W) W c0 c1 c2 hl hc h2 h3 h4 h5 h6 y)(hm:b=true->y=y0):
  Code.wp Try.prog (DM 8 (Try.f12.body.getD .skip)) (bodyPost Try.prog Try.f12 (JR F w (IZ ((((b&&(x.farms.all (Cc t)))&&(x.rots.all (Du t)))&&(x.rights.all (BA t)))&&(x.duties.all (Ci t)))) (⟨y0.name,y0.season,y0.cap,y0.start,y0.lets,y0.crops,y0.reaches,(x.farms.map (BQ t)),(x.rots.map (Cu t)),(x.rights.map (Bg t)),(x.duties.map (BP t))⟩:AA))) {tmps:=#[u0,.pointer (some ⟨w.heap.size,0,none⟩),.pointer (some ⟨w.heap.size+1,0,none⟩),.int .i64 0,.pointer (some ⟨S4,0,none⟩),.pointer (some ⟨X5,0,none⟩),.bool b,u7,u8,u9,jl,k0,iw,er,gf,i0,gu,hw,fq,en,ej,fx,gj,ew,gk,gr,ek,ho,f3,et,i7,gp,gh,gy,fp,fv,ee,hh,fe,ev,gx,f5,fw,gl,eh,f6,ez,ft,fu,hx,eo,f9,gg,fz,f4,g3,fo,gd,fd,em,i6,fg,i8,g5,fl,hr,fa,ga,hn,gc,gt,el,f7,gi,hu,gm,ju,ji,iu,jq,iq,io,kc,k6,ka,kd,k2,jw,jy,jz,k7,jr,iy,k4,ip,k3,ix,im,ir,il,ha,fi,fh,ib,c4,bo,b4,cr,dc,cv,b8,aj,d2,ck,aw,dt,ch,c9,bh,ba,cu,dp,bd,c5,c7,bw,d1,co,dm,ax,cg,az,cf,da,au,aq,b7,bu,an,dn,cj,ao,bg,d4,cp,am,cn,ci,bj,b3,bt,dh,df,bs,ak,cw,d7,db,av,dq,dk,cb,d3,d5,bk,cx,bv,d0,ay,dd,d6,ar,dg,ce,cl,bn,c3,bp,c8,di,b5,cm,bm,d9,ap,dj,b9,al,cc,dl,be,c6],defers:=[]} W:=by
 obtain ⟨⟨a,n,c⟩,hL⟩:∃h:AF,L.farms=h:=⟨_,rfl⟩
 obtain ⟨s0,s1,s2,ii,g0,g1,g2⟩:=hv.cells
 have e7:Hid (∀(row:LV) (W:World),Rs w cs ls row S4 X5 V0 W->W.cell? (aV w.heap.size 22)=some (.slice a n c)):=ya (by
  intro row W h
  refine h.cell (p:=.string x.name::(s0++(s1++(s2++[L.lets.v,L.crops.v,L.reaches.v])))) (q:=[L.rots.v,L.rights.v,L.duties.v]) ?_ (by simp[g0.len,g1.len,g2.len])
  rw[ii,hL]
  simp[yg,AF.v])
 have T:B7 (GF F w) w 12 (E9 (GF F w) w) ⟨a,n,c⟩ x.farms:=hL▸hv.farms
 have kf:=ya T.2.2
 have ae:Hid (n=x.farms.length):=ya T.1
 have ed:Hid (x.farms.length<=1000):=ya (by have:=e5.farms;omega)
 have HN:Hid (n<=140737488355328):=ya (by have:=ae.o;have:=ed.o;omega)
 have HV:=ya hv
 have HF:=ya hF
 have jx:=ya e5
 have HS:=ya hs
 have HM:=ya hm
 have HG:=ya M
 obtain ⟨P,hP⟩:∃P:LV,P=.string y.name::(c0++(c1++(c2++[hl.v,hc.v,h2.v]))):=⟨_,rfl⟩
 have e3:Hid (P.length=22):=ya (by rw[hP];simp[M.e0.len,M.e1.len,M.e2.len])
 have k9:=ya hP
 have e8:Hid (Rs w cs ls (P++(h3.v::[h4.v,h5.v,h6.v])) S4 X5 V0 W):=ya (by rw[hP];simpa[yg] using hR)
 have fc:=ya hR.blocks
 clear hv hF e5 hs hm M hR hP hL ii g0 g1 g2 T
 refine AH fun K r=>?_
 go_wp2_with (first|(refine AQ rfl 30 _ _ rfl X5 22 rfl (.slice none 0 0) rfl rfl (p:=P) (m:=h3.v) (q:=[h4.v,h5.v,h6.v]) (t:=35) e8.o.x e3.o (by kernel_rfl) rfl ?_;intro W1 ih;have dw:=ya ih;clear ih))
 refine r.o _ _ ?_
 clear r K
 have e6:=ya (e8.o.wrote dw.o)
 obtain ⟨B,hB⟩:∃B:Nat,B=W1.heap.size:=⟨_,rfl⟩
 have a6:Hid (X5 < B):=ya (by rw[hB];exact e6.o.lt)
 have ig:Hid (DQ E9 59 12 B F [w.heap.size,w.heap.size+1,S4,X5] (fun l W=>EE 1 (GF (FL F l) W) W c0 c1 c2 hl hc h2 h3 h4 h5 h6 y) (fun i=>b&&(x.farms.take i).all (Cc t)) (fun i=>(x.farms.take i).map (BQ t)) 0 b (.slice none 0 0) W1):=ya (by
  refine ⟨?_,⟨[],FM,rfl,fun _=>rfl⟩,by simp,by rw[hB];exact ye _⟩
  have h:EE 1 (GF (FL F [w.heap.size,w.heap.size+1,S4,X5]) W1) W1 c0 c1 c2 hl hc h2 h3 h4 h5 h6 y:=HG.o.flux (dw.o.flux (.inr (by simp))) (fun _ h=>.inl h)
  simpa[ob,Value.ownBlock] using h)
 have ki:=ya hB
 clear e8 dw HG hB
 refine AH fun K r=>?_
 obtain ⟨I,hI⟩:∃I:Nat->Value->World->Prop,I=fun i v6 wr=>∃(u:Bool) (v:Value),v6=.bool u∧DQ E9 59 12 B F [w.heap.size,w.heap.size+1,S4,X5] (fun l W=>EE 1 (GF (FL F l) W) W c0 c1 c2 hl hc h2 h3 h4 h5 h6 y) (fun i=>b&&(x.farms.take i).all (Cc t)) (fun i=>(x.farms.take i).map (BQ t)) i u v wr∧Rs w cs ls (P++(v::[h4.v,h5.v,h6.v])) S4 X5 V0 wr:=⟨_,rfl⟩
 have HI:=ya hI
 have f1:Hid (I 0 (.bool b) W1):=ya (by rw[hI];exact ⟨b,_,rfl,ig.o,e6.o⟩)
 clear hI ig e6
 go_wp2
 go_loopw [6,10] (fun v6 iv wr=>∃i:Nat,iv=iV i∧i<=n∧Hid (I i v6 wr)) (fun _ iv _=>n - (intOf iv).toNat)
 case atStart=>exact ⟨0,rfl,yv _,f1⟩
 case round=>
  clear f1
  obtain ⟨i,rfl,hi,fy⟩:=hrel
  obtain ⟨u,v,rfl,hJ,ic⟩:∃(u:Bool) (v:Value),u6=.bool u∧DQ E9 59 12 B F [w.heap.size,w.heap.size+1,S4,X5] (fun l W=>EE 1 (GF (FL F l) W) W c0 c1 c2 hl hc h2 h3 h4 h5 h6 y) (fun i=>b&&(x.farms.take i).all (Cc t)) (fun i=>(x.farms.take i).map (BQ t)) i u v wr∧Rs w cs ls (P++(v::[h4.v,h5.v,h6.v])) S4 X5 V0 wr:=by have h:=fy.o;rw[HI.o] at h;exact h
  obtain ⟨va,vn,vc,fm⟩:∃va vn vc,v=.slice va vn vc:=by obtain ⟨ds,M,_⟩:=hJ.grow;exact M.slice
  have R:=ya hJ;have d:=ya ic
  have af:=ya fm
  clear fy hJ ic fm
  have hf:=e7.o _ _ d.o
  have kh:n<=140737488355328:=HN.o
  by_cases jo:i < n
  ·have ag:i < x.farms.length:=by rw[<-ae.o];exact jo
   have gz:(i:Int) < (n:Int):=by omega
   obtain ⟨bq,oq,ct,he,dy,g8,f8,ea⟩:=kf.o i ag
   obtain rfl:a=some (aV bq oq):=he
   have X:Hid ((fun i=>b&&(x.farms.take i).all (Cc t)) (i+1)=(u&&Cc t x.farms[i])):=ya (by
    have h1:u=(b&&(x.farms.take i).all (Cc t)):=R.o.b
    show (b&&(x.farms.take (i+1)).all (Cc t))=_
    rw[yr ag,z8,zb,zn,zj,<-zM,<-h1])
   have cd:Hid ((fun i=>(x.farms.take i).map (BQ t)) (i+1)=(fun i=>(x.farms.take i).map (BQ t)) i++[BQ t x.farms[i]]):=ya (by
    show (x.farms.take (i+1)).map (BQ t)=(x.farms.take i).map (BQ t)++[BQ t x.farms[i]]
    rw[yr ag,ze];rfl)
   have jv:Hid (i+1<=1000000):=ya (by have:=ed.o;omega)
   generalize hD:x.farms[i]=D at ea X cd
   clear hD
   have f2:=ya ea
   have jp:=ya g8
   have ke:Hid (wr.rangeAt bq (oq+i*12) ct):=ya (A1 f8 (d.o.below.block bq dy.2))
   have k8:Hid (bq < wr.heap.size):=ya (yk dy.2 d.o.below.size)
   have jn:=ya (A6 d.o.l)
   have g4:Hid (S4 < wr.heap.size):=ya (yd.1 d.o.l).1
   have k1:Hid (ls.length=4):=ya (by rw[HS.o.cells];rfl)
   have ah:Hid (∀k∈[w.heap.size,w.heap.size+1,S4,X5]++ob v,w.heap.size<=k∧k < wr.heap.size):=ya (by
    obtain ⟨ds,M,_⟩:=R.o.grow
    have h1:=a6.o;have h5:=R.o.size;have h6:=d.o.b0;have h7:=d.o.b1;have h8:=d.o.b2
    intro k G
    rcases yn.1 G with G|G
    ·have:=fc.o k G;omega
    ·have:=M.lt k G;omega)
   clear f8 ea g8 dy ag
   generalize hq:Cc t D=q1 at X
   go_upto_block 3 with fail
   refine wp_block ?_
   refine AH fun K2 dv=>?_
   have HT:Hid (∀(Bq:Nat) (x4:World) (res:LV) (d':BN) (ge fk hp f0 fj ij gq gv h9 ik hz gw fs g9 eg ia g6 eu gn hj eq i2 ie ca bi cz cq:Value),Below wr.heap.size wr x4->wr.heap.size<=Bq->x4.heap[Bq]?=some (.cells res.toArray 59 (0,0))->E9 (GF (FL F ([w.heap.size,w.heap.size+1,S4,X5]++ob v)) x4) x4 res d'->(q1=true->d'=BQ t D)->K2 {tmps:=#[u0,pV w.heap.size 0,pV (w.heap.size+1) 0,iV 0,pV S4 0,pV X5 0,.bool u,u7,u8,u9,iV i,pV Bq 0,.bool q1,er,gf,i0,gu,hw,fq,en,ej,fx,gj,ew,gk,gr,ek,ho,f3,et,i7,gp,gh,gy,fp,fv,ee,hh,fe,ev,gx,f5,fw,gl,eh,f6,ez,ft,fu,hx,eo,f9,gg,fz,f4,g3,fo,gd,fd,em,i6,fg,i8,g5,fl,hr,fa,ga,hn,gc,gt,el,f7,gi,hu,gm,pV X5 22,ge,fk,hp,f0,fj,ij,gq,gv,h9,ik,hz,gw,fs,g9,eg,ia,g6,eu,gn,hj,eq,i2,ie,ca,bi,cz,cq,c4,bo,b4,cr,dc,cv,b8,aj,d2,ck,aw,dt,ch,c9,bh,ba,cu,dp,bd,c5,c7,bw,d1,co,dm,ax,cg,az,cf,da,au,aq,b7,bu,an,dn,cj,ao,bg,d4,cp,am,cn,ci,bj,b3,bt,dh,df,bs,ak,cw,d7,db,av,dq,dk,cb,d3,d5,bk,cx,bv,d0,ay,dd,d6,ar,dg,ce,cl,bn,c3,bp,c8,di,b5,cm,bm,d9,ap,dj,b9,al,cc,dl,be,c6],defers:=[]} x4):=ya (by
    intro Bq x4 res d' ge fk hp f0 fj ij gq gv h9 ik hz gw fs g9 eg ia g6 eu gn hj eq i2 ie ca bi cz cq aa ec ei hV go
    have O:=ya aa;have jt:=ya ei;have jk:=ya hV;have js:=ya go
    have s:=ya (Gr hV).1;have HOr:=ya (Gr hV).2
    have d8:=ya (d.o.call aa)
    have kj:x4.cell? (aV X5 22)=some (.slice va vn vc):=(d8.o.Xp rfl e3.o).trans (by rw[af.o])
    obtain ⟨ds,M,U,ab⟩:=R.o.grow
    obtain ⟨rows,ai,g7,a7⟩:=(M.rnd Ej ((Ht (C:=B) wr).call aa R.o.size)).own
    have jm:=ya ai;have gb:=ya g7;have gs:=ya a7;have it:=ya U;have iz:=ya ab
    have de:Hid (B<=x4.heap.size):=ya (yo R.o.size aa.size)
    have i1:Hid ((x4.alloc (.cells res.toArray 59)).ownsRow B 59 12 (.slice va vn vc) rows.length rows.flatten):=ya (by rw[<-af.o];exact Cg ai fun k G=>((yc _ _).alloc (ye _) _).block k (Gl ai k G).2)
    have ht:Hid (rows.length+1<=1000000):=ya (by rw[AW.length a7,U];exact jv.o)
    have kb:Hid (B<=(x4.alloc (.cells res.toArray 59)).heap.size):=ya (by have:=de.o;simp;omega)
    clear ai g7 a7 U ab M aa ec ei hV go hf gz
    refine dv.o _ _ ?_
    clear dv K2
    go_wp2_with (first
     |(refine Ae u rfl _ rfl rfl ?_)
     |(refine Ak (g:=u) rfl _ _ _ rfl rfl (.bool (u&&q1)) (by cases u<;>rfl) ?_;generalize Z:(u&&q1)=y2;have du:=ya Z;clear Z)
     |(refine yf rfl 59 _ rfl Bq 0 rfl res _ (A6 jt.o) qV rfl (AX (n:=12) (by kernel_rfl) s.o) ?_)
     |(refine Ct rfl 30 59 _ rfl res rfl 12 qK (by kernel_rfl) s.o (by omega) (by omega) ?_)
     |(at_builtin;refine BT qK rfl _ _ rfl 12 (by kernel_rfl) (by omega) B (.slice va vn vc) rows.length rows.flatten rfl i1.o x4.heap.size 1 res rfl (World.alloc_heap_new _ _) s.o HOr.o ht.o kb.o ?_;intro vx x8 V eb dx;obtain ⟨xa,xn,xc,rfl⟩:=EH V;rw[<-af.o] at eb dx;have ey:=ya (Dj Ej gs.o gb.o jm.o jk.o s.o V eb dx de.o);have cy:=ya (d8.o.up ey.o.below a6.o);clear V eb dx)
     |(refine AQ rfl 30 _ _ rfl X5 22 rfl (.slice xa xn xc) rfl rfl (p:=P) (m:=v) (q:=[h4.v,h5.v,h6.v]) (t:=35) cy.o.x e3.o (by kernel_rfl) rfl ?_;intro x9 ef;have e4:=ya ef;clear ef)
     |(refine Ab (g:=u) z7 rfl ?_;simp only[CW,Aa])
     |(refine Ab (g:=u) (Av u) rfl ?_;simp only[CW,Aa])
     |(rw[AD u q1];generalize Z:(u&&q1)=y2;have du:=ya Z;clear Z))
    have fb:=R.o.next (b':=y2) Hy (R.o.ex.flux (AP.below O.o) (fun _ h=>.inl h)) O.o.size ey.o it.o (by rw[<-du.o];exact X.o.symm) (by
     intro hy
     rw[<-du.o] at hy
     simp only[ym] at hy
     refine qn ?_ cd.o.symm
     rw[iz.o hy.1,js.o hy.2])
    have jj:Hid (I (i+1) (.bool y2) x9):=ya (by rw[HI.o];exact ⟨y2,.slice xa xn xc,rfl,fb.put Ej (fb.ex.flux (e4.o.flux (.inr (by simp))) (fun _ h=>.inl h)) e4.o (by simp) a6.o,cy.o.wrote e4.o⟩)
    exact ⟨⟨i+1,by push_cast;rfl,by omega,jj⟩,by simp[intOf];omega⟩
    )
   clear dv
   have Q:Hid (Below wr.heap.size wr wr.drew):=ya (yc _ _).drew
   refine wp_region_noPanic ?_
   refine Bz (by kernel_rfl) (fun W=>Below wr.heap.size wr W) 11 ?_
   refine A0 (i:=0) (v:=pV w.heap.size 22) rfl (by kernel_rfl) (by kernel_rfl) (by kernel_rfl) (fun _ _ _ h=>h) (by kernel_rfl) (Or.inl ⟨by rfl,?_⟩) (fun _=>Q.o) ?_
   ·intro w _;go_simp
   refine Ag (i:=1) (v:=.slice (some (aV bq oq)) n c) rfl (by kernel_rfl) (by kernel_rfl) (by kernel_rfl) (fun _ _ _ h=>h) (by kernel_rfl) (Or.inl ⟨by rfl,?_⟩) Q.o ?_
   ·intro W hW
    have hc:W.cell? (aV w.heap.size 22)=some (.slice (some (aV bq oq)) n c):=(hW.cell (p:=(aV w.heap.size 22)) (by have:=g4.o;have:=d.o.b0;simp only;omega)).trans hf
    clear hW
    go_simp
   refine A0 (i:=2) (v:=iV i) rfl (by kernel_rfl) (by kernel_rfl) (by kernel_rfl) (fun _ _ _ h=>h) (by kernel_rfl) (Or.inl ⟨by rfl,?_⟩) (fun _=>Q.o) ?_
   ·intro w _;go_simp
   refine A0 (i:=3) (v:=pV bq (oq+i*12)) rfl (by kernel_rfl) (by kernel_rfl) (by kernel_rfl) (fun _ _ _ h=>h) (by kernel_rfl) (Or.inl ⟨by rfl,?_⟩) (fun _=>Q.o) ?_
   ·intro w _;go_simp
   refine Ag (i:=4) (v:=.agg (ct).toArray) rfl (by kernel_rfl) (by kernel_rfl) (by kernel_rfl) (fun _ _ _ h=>h) (by kernel_rfl) (yS (by rfl) 59 _ rfl (bq) (oq+i*12) rfl (ct) _ (fun W hW=>A1 ke.o (hW.block _ k8.o)) qV rfl (AX (n:=12) (by kernel_rfl) jp.o)) Q.o ?_
   refine Ag (i:=5) (v:=.agg (ls).toArray) rfl (by kernel_rfl) (by kernel_rfl) (by kernel_rfl) (fun _ _ _ h=>h) (by kernel_rfl) (yS (by rfl) 109 _ rfl (S4) (0) rfl (ls) _ (fun W hW=>A1 jn.o (hW.block _ g4.o)) qx rfl (AX (n:=4) (by kernel_rfl) k1.o)) Q.o ?_
   refine D4 (i:=6) (j:=10) (by kernel_rfl) rfl rfl (fun K r=>?_) (fun K r=>?_)
   ·go_simp
    refine (Qb (F:=FL F ([w.heap.size,w.heap.size+1,S4,X5]++ob v)) (Ej.flux f2.o (AP.below (d.o.below.trans ((yc _ _).drew.mono d.o.below.size))) fun b hb=>hb.imp id fun G=>(ah.o b G).1) ((d.o.Xu HS.o).up (yc _ _).drew) (FG (fun b hb=>yk (HF.o b hb) d.o.below.size) fun k G=>(ah.o k G).2)).mono ?_
    rintro e x2 ⟨res,d',rfl,H,S,ad⟩
    rw[hq]
    rw[hq] at S
    have s:=ya (Gr H).1;have HOr:=ya (Gr H).2
    have f:Hid (Below wr.heap.size wr x2):=ya ((yc _ _).drew.trans ad)
    refine r.o _ _ (fun _=>f.o) ?_
    clear r K
    refine A0 (i:=7) (v:=.tuple #[.agg (res).toArray,.bool q1]) rfl (by kernel_rfl) (by kernel_rfl) (by kernel_rfl) (fun _ _ _ h=>h) (by kernel_rfl) (Or.inl ⟨by rfl,?_⟩) (fun _=>f.o) ?_
    ·intro w _;go_simp
    refine A0 (i:=8) (v:=.agg (res).toArray) rfl (by kernel_rfl) (by kernel_rfl) (by kernel_rfl) (fun _ _ _ h=>h) (by kernel_rfl) (Or.inl ⟨by rfl,?_⟩) (fun _=>f.o) ?_
    ·intro w _;go_simp
    refine A0 (i:=9) (v:=.bool q1) rfl (by kernel_rfl) (by kernel_rfl) (by kernel_rfl) (fun _ _ _ h=>h) (by kernel_rfl) (Or.inl ⟨by rfl,?_⟩) (fun _=>f.o) ?_
    ·intro w _;go_simp
    refine A4 (i:=10) (by kernel_rfl) rfl (fun K r=>?_)
    go_simp
    have A:Hid (Below x2.heap.size x2 (x2.alloc (.cells (j6).toArray 59))):=ya ((yc _ _).alloc (ye _) _)
    have ac:Hid ((x2.alloc (.cells (j6).toArray 59)).heap[x2.heap.size]?=some (.cells ([]++((j6)++[])).toArray 59 (0,0))):=ya (by simpa using World.alloc_heap_new x2 (.cells (j6).toArray 59))
    refine r.o _ _ (fun _=>f.o.trans (A.o.mono f.o.size)) ?_
    clear r K
    refine A4 (i:=11) (by kernel_rfl) rfl (fun K r=>?_)
    rw[yu (by rfl)]
    refine zh 59 _ _ rfl (x2.heap.size) 0 (res).toArray rfl rfl (Be ac.o (by simp[s.o])) (by rw[yp];exact (AX (n:=12) (by kernel_rfl) s.o)) (yy HOr.o) ?_
    have E:=ya (Aw (x2.heap.size) 59 (res) 0 (x2.alloc (.cells (j6).toArray 59)) [] (j6) [] ac.o rfl (by rw[s.o];rfl))
    rw[yE,yG] at E
    refine r.o _ _ (by intro h;cases h) ?_
    clear r K
    obtain ⟨x4,N⟩:∃z:World,z=(x2.alloc (.cells (j6).toArray 59)).setCells (x2.heap.size) 0 (res):=⟨_,rfl⟩
    rw[yN,<-N]
    rw[<-N] at E
    clear N
    have bz:Hid (Below x2.heap.size x2 x4):=ya (E.o.below A.o (ye _))
    have O:Hid (Below wr.heap.size wr x4):=ya (f.o.trans (bz.o.mono f.o.size))
    have a8:=ya E.o.row
    have Y:Hid (wr.heap.size<=x2.heap.size):=ya f.o.size
    have hE:=Ej.flux (F':=FL F ([w.heap.size,w.heap.size+1,S4,X5]++ob v)) H (AP.below bz.o) (fun _ h=>.inl h)
    refine A4 (i:=12) (by kernel_rfl) rfl (fun K r=>?_)
    go_simp
    refine r.o _ _ (by intro h;cases h) ?_
    clear r K
    refine AG (by kernel_rfl) ?_
    refine NoPanic.normal ?_
    exact HT.o _ _ _ _ _ _ _ _ _ _ _ _ _ _ _ _ _ _ _ _ _ _ _ _ _ _ _ _ _ _ _ O.o Y.o a8.o hE S
   ·go_simp
    have A:Hid (Below wr.heap.size wr (wr.drew.alloc (.cells (j6).toArray 59))):=ya ((yc _ _).drew.alloc (ye _) _)
    refine r.o _ _ (fun _=>A.o) ?_
    clear r K
    refine A4 (i:=6) (by kernel_rfl) rfl (fun K r=>?_)
    go_simp
    have e9:Hid ((wr.drew.alloc (.cells (j6).toArray 59)).heap[wr.heap.size]?=some (.cells (j6).toArray 59 (0,0))):=ya (World.alloc_heap_new wr.drew (.cells (j6).toArray 59))
    refine (Qb (F:=FL F (([w.heap.size,w.heap.size+1,S4,X5]++ob v)++[wr.heap.size])) (Ej.flux f2.o (AP.below (d.o.below.trans (A.o.mono d.o.below.size))) fun b hb=>hb.imp id fun G=>(yn.1 G).elim (fun h=>(ah.o b h).1) (fun h=>by simp at h;rw[h];exact d.o.below.size)) ((d.o.Xu HS.o).up A.o) (FG (fun b hb=>yk (HF.o b hb) (d.o.below.trans (A.o.mono d.o.below.size)).size) fun k G=>(yn.1 G).elim (fun h=>yk (ah.o k h).2 A.o.size) (fun h=>by simp at h;rw[h];exact (yd.1 e9.o).1))).mono ?_
    rintro e x2 ⟨res,d',rfl,H,S,ad⟩
    rw[hq]
    rw[hq] at S
    have s:=ya (Gr H).1;have HOr:=ya (Gr H).2
    have kg:=ya ad
    have f:Hid (Below wr.heap.size wr x2):=ya (A.o.trans (ad.mono A.o.size))
    have ac:Hid (x2.heap[wr.heap.size]?=some (.cells ([]++((j6)++[])).toArray 59 (0,0))):=ya (by
     have h:=(ad.block wr.heap.size (yd.1 e9.o).1).trans e9.o
     simpa using h)
    refine r.o _ _ (fun _=>f.o) ?_
    clear r K
    refine A0 (i:=7) (v:=.tuple #[.agg (res).toArray,.bool q1]) rfl (by kernel_rfl) (by kernel_rfl) (by kernel_rfl) (fun _ _ _ h=>h) (by kernel_rfl) (Or.inl ⟨by rfl,?_⟩) (fun _=>f.o) ?_
    ·intro w _;go_simp
    refine A0 (i:=8) (v:=.agg (res).toArray) rfl (by kernel_rfl) (by kernel_rfl) (by kernel_rfl) (fun _ _ _ h=>h) (by kernel_rfl) (Or.inl ⟨by rfl,?_⟩) (fun _=>f.o) ?_
    ·intro w _;go_simp
    refine A0 (i:=9) (v:=.bool q1) rfl (by kernel_rfl) (by kernel_rfl) (by kernel_rfl) (fun _ _ _ h=>h) (by kernel_rfl) (Or.inl ⟨by rfl,?_⟩) (fun _=>f.o) ?_
    ·intro w _;go_simp
    refine A4 (i:=11) (by kernel_rfl) rfl (fun K r=>?_)
    rw[yu (by rfl)]
    refine zh 59 _ _ rfl (wr.heap.size) 0 (res).toArray rfl rfl (Be ac.o (by simp[s.o])) (by rw[yp];exact (AX (n:=12) (by kernel_rfl) s.o)) (yy HOr.o) ?_
    have E:=ya (Aw (wr.heap.size) 59 (res) 0 (x2) [] (j6) [] ac.o rfl (by rw[s.o];rfl))
    rw[yE,yG] at E
    refine r.o _ _ (by intro h;cases h) ?_
    clear r K
    obtain ⟨x4,N⟩:∃z:World,z=(x2).setCells (wr.heap.size) 0 (res):=⟨_,rfl⟩
    rw[yN,<-N]
    rw[<-N] at E
    clear N
    have O:Hid (Below wr.heap.size wr x4):=ya (E.o.below f.o (ye _))
    have a8:=ya E.o.row
    have Y:Hid (wr.heap.size<=wr.heap.size):=ya (ye _)
    have hE:=Ej.flux (F':=FL F ([w.heap.size,w.heap.size+1,S4,X5]++ob v)) H (E.o.flux (.inr (by simp))) (fun b hb=>.inl (hb.imp id (fun h=>yn.2 (.inl h))))
    refine A4 (i:=12) (by kernel_rfl) rfl (fun K r=>?_)
    go_simp
    refine r.o _ _ (by intro h;cases h) ?_
    clear r K
    refine AG (by kernel_rfl) ?_
    refine NoPanic.normal ?_
    exact HT.o _ _ _ _ _ _ _ _ _ _ _ _ _ _ _ _ _ _ _ _ _ _ _ _ _ _ _ _ _ _ _ O.o Y.o a8.o hE S
  ·obtain rfl:i=n:=by omega
   have gz:decide ((i:Int) < (i:Int))=false:=by simp
   obtain ⟨ds,M,U,ab⟩:=R.o.grow
   obtain ⟨hd,k5,ff⟩:=M.done Ej (fun b hb=>by have h1:=HF.o b hb;have h2:=a6.o;have h3:=d.o.b0;have h4:=d.o.b1;have h5:=d.o.b2;omega) (fun k G=>by have h2:=a6.o;have:=fc.o k G;omega) (by have:=ed.o;have:=ae.o;omega)
   have hg:=R.o.ex.flux (F':=FL F [w.heap.size,w.heap.size+1,S4,X5]) (AP.refl _ _) (fun b hb=>.inl (hb.imp id (fun h=>yn.2 (.inl h))))
   have ec:u=(b&&(x.farms.all (Cc t))):=by
    have h:u=(fun i=>b&&(x.farms.take i).all (Cc t)) i:=R.o.b
    rw[h,ae.o]
    simp only[yx]
   have ep:u=true->ds=(x.farms.map (BQ t)):=fun hb=>by
    have h:=ab hb
    simp only[ae.o,yx] at h
    exact h
   subst ec
   subst k5
   have jh:=ya ep;have T:=ya ff;have J:=ya hg
   clear M U ab ep ff hg R af
   go_wp2
   refine r.o _ _ ?_
   refine X0 (y:=(⟨y.name,y.season,y.cap,y.start,y.lets,y.crops,y.reaches,ds,y.rots,y.rights,y.duties⟩:AA)) (y0:=(⟨y0.name,y0.season,y0.cap,y0.start,y0.lets,y0.crops,y0.reaches,(x.farms.map (BQ t)),y0.rots,y0.rights,y0.duties⟩:AA)) HV.o HF.o jx.o HS.o (by have h:=d.o;rw[k9.o] at h;simpa[yg] using h) ⟨J.o.name,J.o.e0,J.o.e1,J.o.e2,J.o.lets,J.o.crops,fun _=>J.o.reaches (by omega),fun _=>T.o,fun h=>absurd h (by omega),fun h=>absurd h (by omega),fun h=>absurd h (by omega)⟩ (fun hb=>by
     have h1:=HM.o (by simp only[ym] at hb;exact hb.1)
     rw[jh.o hb,h1])
end Go.Proofs.Ytghepahgkcigpaa
