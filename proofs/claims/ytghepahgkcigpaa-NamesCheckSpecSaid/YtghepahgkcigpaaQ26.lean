/- The reference's Resolve from the loop over rights on (printed by gen_zj.py). -/
import Derived.Test.YtghepahgkcigpaaQ0
import Derived.Test.YtghepahgkcigpaaQ22
import Derived.Test.YtghepahgkcigpaaQ14
import Derived.Deep.CutBlock
set_option maxRecDepth 100000
set_option maxHeartbeats 64000000
set_option linter.unusedSimpArgs false
namespace Go.Proofs.Ytghepahgkcigpaa
open Go.RowKit
theorem WZ{F:NP}{w V0 W:World}{cs ls:LV}{S4 X5:Nat}{x y y0:AA}{L:BL}{c0 c1 c2:LV}{hl hc h2 h3 h4 h5 h6 a0 a1 a2 a3:AF}{t:Tb}{b:Bool}{u0 u7 u8 u9 fs gk f1 f7 hj iz k9 kc k3 eq ek gl hu fa hw i8 el ip fh f8 jk i2 hp ig gb gg ec im fx f9 ie fj gi hx eg fk fe ge gf iy ew fo hn go fi gp ga gz fw en jj g3 jl gr g8 iq fq gv io gy ic em fl ht iw hz gc fd f0 g5 er ei iu i0 ij ix gm gd gh gj i7 g6 f6 ho eo ha f4 ee ev ed d9 bp bo dl bz bk ax cv da cx b3 al d2 cn ar dp cl c8 bd b7 cw dn b8 c4 c6 bu d1 cr dm au ck aw gu ik ez ey fb g7 et jo h9 eu fp ib hr ep hh gx ft f5 g4 ji ir fz ej i6 ih il f3 jr dj ca d3 d4 be cy bs d0 av db d5 ao de cg cp bj bw bm c7 dg az cq bi d8 an di b4 am cc dk ba c5:Value}(hv:Ba (GF F w) w L cs x)(hF:∀b,F b->b < w.heap.size)(e3:Fw x)(hs:MN V0 ls a0 a1 a2 a3 t)
 (hR:Rs w cs ls (.string y.name::(c0++(c1++(c2++[hl.v,hc.v,h2.v,h3.v,h4.v,h5.v,h6.v])))) S4 X5 V0 W)(M:EE 3 (GF (FL F [w.heap.size,w.heap.size+1,S4,X5]) W) W c0 c1 c2 hl hc h2 h3 h4 h5 h6 y)(hm:b=true->y=y0):
  Code.wp Try.prog (DM 12 (Try.f12.body.getD .skip)) (bodyPost Try.prog Try.f12 (JR F w (IZ ((b&&(x.rights.all (BA t)))&&(x.duties.all (Ci t)))) (⟨y0.name,y0.season,y0.cap,y0.start,y0.lets,y0.crops,y0.reaches,y0.farms,y0.rots,(x.rights.map (Bg t)),(x.duties.map (BP t))⟩:AA))) {tmps:=#[u0,.pointer (some ⟨w.heap.size,0,none⟩),.pointer (some ⟨w.heap.size+1,0,none⟩),.int .i64 0,.pointer (some ⟨S4,0,none⟩),.pointer (some ⟨X5,0,none⟩),.bool b,u7,u8,u9,fs,gk,f1,f7,hj,iz,k9,kc,k3,eq,ek,gl,hu,fa,hw,i8,el,ip,fh,f8,jk,i2,hp,ig,gb,gg,ec,im,fx,f9,ie,fj,gi,hx,eg,fk,fe,ge,gf,iy,ew,fo,hn,go,fi,gp,ga,gz,fw,en,jj,g3,jl,gr,g8,iq,fq,gv,io,gy,ic,em,fl,ht,iw,hz,gc,fd,f0,g5,er,ei,iu,i0,ij,ix,gm,gd,gh,gj,i7,g6,f6,ho,eo,ha,f4,ee,ev,ed,d9,bp,bo,dl,bz,bk,ax,cv,da,cx,b3,al,d2,cn,ar,dp,cl,c8,bd,b7,cw,dn,b8,c4,c6,bu,d1,cr,dm,au,ck,aw,gu,ik,ez,ey,fb,g7,et,jo,h9,eu,fp,ib,hr,ep,hh,gx,ft,f5,g4,ji,ir,fz,ej,i6,ih,il,f3,jr,dj,ca,d3,d4,be,cy,bs,d0,av,db,d5,ao,de,cg,cp,bj,bw,bm,c7,dg,az,cq,bi,d8,an,di,b4,am,cc,dk,ba,c5],defers:=[]} W:=by
 obtain ⟨⟨a,n,c⟩,hL⟩:∃h:AF,L.rights=h:=⟨_,rfl⟩
 obtain ⟨s0,s1,s2,jq,g0,g1,g2⟩:=hv.cells
 have e5:Hid (∀(row:LV) (W:World),Rs w cs ls row S4 X5 V0 W->W.cell? (aV w.heap.size 24)=some (.slice a n c)):=ya (by
  intro row W h
  refine h.cell (p:=.string x.name::(s0++(s1++(s2++[L.lets.v,L.crops.v,L.reaches.v,L.farms.v,L.rots.v])))) (q:=[L.duties.v]) ?_ (by simp[g0.len,g1.len,g2.len])
  rw[jq,hL]
  simp[yg,AF.v])
 have T:B7 (GF F w) w 37 (CQ (GF F w) w) ⟨a,n,c⟩ x.rights:=hL▸hv.rights
 have ke:=ya T.2.2
 have ae:Hid (n=x.rights.length):=ya T.1
 have eb:Hid (x.rights.length<=1000):=ya (by have:=e3.rights;omega)
 have HN:Hid (n<=140737488355328):=ya (by have:=ae.o;have:=eb.o;omega)
 have HV:=ya hv
 have HF:=ya hF
 have k5:=ya e3
 have HS:=ya hs
 have HM:=ya hm
 have HG:=ya M
 obtain ⟨P,hP⟩:∃P:LV,P=.string y.name::(c0++(c1++(c2++[hl.v,hc.v,h2.v,h3.v,h4.v]))):=⟨_,rfl⟩
 have dx:Hid (P.length=24):=ya (by rw[hP];simp[M.e0.len,M.e1.len,M.e2.len])
 have ka:=ya hP
 have e6:Hid (Rs w cs ls (P++(h5.v::[h6.v])) S4 X5 V0 W):=ya (by rw[hP];simpa[yg] using hR)
 have fv:=ya hR.blocks
 clear hv hF e3 hs hm M hR hP hL jq g0 g1 g2 T
 refine AH fun K r=>?_
 go_wp2_with (first|(refine AQ rfl 32 _ _ rfl X5 24 rfl (.slice none 0 0) rfl rfl (p:=P) (m:=h5.v) (q:=[h6.v]) (t:=35) e6.o.x dx.o (by kernel_rfl) rfl ?_;intro W1 jp;have du:=ya jp;clear jp))
 refine r.o _ _ ?_
 clear r K
 have e4:=ya (e6.o.wrote du.o)
 obtain ⟨B,hB⟩:∃B:Nat,B=W1.heap.size:=⟨_,rfl⟩
 have a6:Hid (X5 < B):=ya (by rw[hB];exact e4.o.lt)
 have jn:Hid (DQ CQ 68 37 B F [w.heap.size,w.heap.size+1,S4,X5] (fun l W=>EE 3 (GF (FL F l) W) W c0 c1 c2 hl hc h2 h3 h4 h5 h6 y) (fun i=>b&&(x.rights.take i).all (BA t)) (fun i=>(x.rights.take i).map (Bg t)) 0 b (.slice none 0 0) W1):=ya (by
  refine ⟨?_,⟨[],FM,rfl,fun _=>rfl⟩,by simp,by rw[hB];exact ye _⟩
  have h:EE 3 (GF (FL F [w.heap.size,w.heap.size+1,S4,X5]) W1) W1 c0 c1 c2 hl hc h2 h3 h4 h5 h6 y:=HG.o.flux (du.o.flux (.inr (by simp))) (fun _ h=>.inl h)
  simpa[ob,Value.ownBlock] using h)
 have kh:=ya hB
 clear e6 du HG hB
 refine AH fun K r=>?_
 obtain ⟨I,hI⟩:∃I:Nat->Value->World->Prop,I=fun i v6 wr=>∃(u:Bool) (v:Value),v6=.bool u∧DQ CQ 68 37 B F [w.heap.size,w.heap.size+1,S4,X5] (fun l W=>EE 3 (GF (FL F l) W) W c0 c1 c2 hl hc h2 h3 h4 h5 h6 y) (fun i=>b&&(x.rights.take i).all (BA t)) (fun i=>(x.rights.take i).map (Bg t)) i u v wr∧Rs w cs ls (P++(v::[h6.v])) S4 X5 V0 wr:=⟨_,rfl⟩
 have HI:=ya hI
 have ff:Hid (I 0 (.bool b) W1):=ya (by rw[hI];exact ⟨b,_,rfl,jn.o,e4.o⟩)
 clear hI jn e4
 go_wp2
 go_loopw [6,16] (fun v6 iv wr=>∃i:Nat,iv=iV i∧i<=n∧Hid (I i v6 wr)) (fun _ iv _=>n - (intOf iv).toNat)
 case atStart=>exact ⟨0,rfl,yv _,ff⟩
 case round=>
  clear ff
  obtain ⟨i,rfl,hi,gn⟩:=hrel
  obtain ⟨u,v,rfl,hJ,jm⟩:∃(u:Bool) (v:Value),u6=.bool u∧DQ CQ 68 37 B F [w.heap.size,w.heap.size+1,S4,X5] (fun l W=>EE 3 (GF (FL F l) W) W c0 c1 c2 hl hc h2 h3 h4 h5 h6 y) (fun i=>b&&(x.rights.take i).all (BA t)) (fun i=>(x.rights.take i).map (Bg t)) i u v wr∧Rs w cs ls (P++(v::[h6.v])) S4 X5 V0 wr:=by have h:=gn.o;rw[HI.o] at h;exact h
  obtain ⟨va,vn,vc,g9⟩:∃va vn vc,v=.slice va vn vc:=by obtain ⟨ds,M,_⟩:=hJ.grow;exact M.slice
  have R:=ya hJ;have d:=ya jm
  have af:=ya g9
  clear gn hJ jm g9
  have hf:=e5.o _ _ d.o
  have kg:n<=140737488355328:=HN.o
  by_cases jz:i < n
  ·have ag:i < x.rights.length:=by rw[<-ae.o];exact jz
   have ii:(i:Int) < (n:Int):=by omega
   obtain ⟨bq,oq,ct,he,dw,gt,fm,e8⟩:=ke.o i ag
   obtain rfl:a=some (aV bq oq):=he
   have X:Hid ((fun i=>b&&(x.rights.take i).all (BA t)) (i+1)=(u&&BA t x.rights[i])):=ya (by
    have h1:u=(b&&(x.rights.take i).all (BA t)):=R.o.b
    show (b&&(x.rights.take (i+1)).all (BA t))=_
    rw[yr ag,z8,zb,zn,zj,<-zM,<-h1])
   have cd:Hid ((fun i=>(x.rights.take i).map (Bg t)) (i+1)=(fun i=>(x.rights.take i).map (Bg t)) i++[Bg t x.rights[i]]):=ya (by
    show (x.rights.take (i+1)).map (Bg t)=(x.rights.take i).map (Bg t)++[Bg t x.rights[i]]
    rw[yr ag,ze];rfl)
   have k4:Hid (i+1<=1000000):=ya (by have:=eb.o;omega)
   generalize hD:x.rights[i]=D at e8 X cd
   clear hD
   have fg:=ya e8
   have k0:=ya gt
   have kd:Hid (wr.rangeAt bq (oq+i*37) ct):=ya (A1 fm (d.o.below.block bq dw.2))
   have k8:Hid (bq < wr.heap.size):=ya (yk dw.2 d.o.below.size)
   have jy:=ya (A6 d.o.l)
   have gq:Hid (S4 < wr.heap.size):=ya (yd.1 d.o.l).1
   have k6:Hid (ls.length=4):=ya (by rw[HS.o.cells];rfl)
   have ah:Hid (∀k∈[w.heap.size,w.heap.size+1,S4,X5]++ob v,w.heap.size<=k∧k < wr.heap.size):=ya (by
    obtain ⟨ds,M,_⟩:=R.o.grow
    have h1:=a6.o;have h5:=R.o.size;have h6:=d.o.b0;have h7:=d.o.b1;have h8:=d.o.b2
    intro k H
    rcases yn.1 H with H|H
    ·have:=fv.o k H;omega
    ·have:=M.lt k H;omega)
   clear fm e8 gt dw ag
   generalize hq:BA t D=q1 at X
   go_upto_block 7 with fail
   refine wp_block ?_
   refine AH fun K2 dt=>?_
   have HT:Hid (∀(Bq:Nat) (x4:World) (res:LV) (d':AJ) (cj bn cm cb b9 d6 dc aj ak ce c9 c3 cf z146 df ci bg aq cu b5 ay bh dh co bt ch ap:Value),Below wr.heap.size wr x4->wr.heap.size<=Bq->x4.heap[Bq]?=some (.cells res.toArray 68 (0,0))->CQ (GF (FL F ([w.heap.size,w.heap.size+1,S4,X5]++ob v)) x4) x4 res d'->(q1=true->d'=Bg t D)->K2 {tmps:=#[u0,pV w.heap.size 0,pV (w.heap.size+1) 0,iV 0,pV S4 0,pV X5 0,.bool u,u7,u8,u9,fs,gk,f1,f7,hj,iz,iV i,pV Bq 0,.bool q1,eq,ek,gl,hu,fa,hw,i8,el,ip,fh,f8,jk,i2,hp,ig,gb,gg,ec,im,fx,f9,ie,fj,gi,hx,eg,fk,fe,ge,gf,iy,ew,fo,hn,go,fi,gp,ga,gz,fw,en,jj,g3,jl,gr,g8,iq,fq,gv,io,gy,ic,em,fl,ht,iw,hz,gc,fd,f0,g5,er,ei,iu,i0,ij,ix,gm,gd,gh,gj,i7,g6,f6,ho,eo,ha,f4,ee,ev,ed,d9,bp,bo,dl,bz,bk,ax,cv,da,cx,b3,al,d2,cn,ar,dp,cl,c8,bd,b7,cw,dn,b8,c4,c6,bu,d1,cr,dm,au,ck,aw,pV X5 24,cj,bn,cm,cb,b9,d6,dc,aj,ak,ce,c9,c3,cf,z146,df,ci,bg,aq,cu,b5,ay,bh,dh,co,bt,ch,ap,dj,ca,d3,d4,be,cy,bs,d0,av,db,d5,ao,de,cg,cp,bj,bw,bm,c7,dg,az,cq,bi,d8,an,di,b4,am,cc,dk,ba,c5],defers:=[]} x4):=ya (by
    intro Bq x4 res d' cj bn cm cb b9 d6 dc aj ak ce c9 c3 cf z146 df ci bg aq cu b5 ay bh dh co bt ch ap aa ea eh hV i1
    have O:=ya aa;have k2:=ya eh;have jw:=ya hV;have k1:=ya i1
    have s:=ya (Fk hV).1;have HOr:=ya (Fk hV).2
    have d7:=ya (d.o.call aa)
    have ki:x4.cell? (aV X5 24)=some (.slice va vn vc):=(d7.o.Xp rfl dx.o).trans (by rw[af.o])
    obtain ⟨ds,M,U,ab⟩:=R.o.grow
    obtain ⟨rows,ai,gs,a7⟩:=(M.rnd DJ ((Ht (C:=B) wr).call aa R.o.size)).own
    have jx:=ya ai;have gw:=ya gs;have ia:=ya a7;have js:=ya U;have jt:=ya ab
    have dd:Hid (B<=x4.heap.size):=ya (yo R.o.size aa.size)
    have jh:Hid ((x4.alloc (.cells res.toArray 68)).ownsRow B 68 37 (.slice va vn vc) rows.length rows.flatten):=ya (by rw[<-af.o];exact Cg ai fun k H=>((yc _ _).alloc (ye _) _).block k (Gl ai k H).2)
    have it:Hid (rows.length+1<=1000000):=ya (by rw[AW.length a7,U];exact k4.o)
    have kb:Hid (B<=(x4.alloc (.cells res.toArray 68)).heap.size):=ya (by have:=dd.o;simp;omega)
    clear ai gs a7 U ab M aa ea eh hV i1 hf ii
    refine dt.o _ _ ?_
    clear dt K2
    go_wp2_with (first
     |(refine Ae u rfl _ rfl rfl ?_)
     |(refine Ak (g:=u) rfl _ _ _ rfl rfl (.bool (u&&q1)) (by cases u<;>rfl) ?_;generalize Z:(u&&q1)=y2;have dq:=ya Z;clear Z)
     |(refine yf rfl 68 _ rfl Bq 0 rfl res _ (A6 k2.o) qZ rfl (AX (n:=37) (by kernel_rfl) s.o) ?_)
     |(refine Ct rfl 32 68 _ rfl res rfl 37 qM (by kernel_rfl) s.o (by omega) (by omega) ?_)
     |(at_builtin;refine BT qM rfl _ _ rfl 37 (by kernel_rfl) (by omega) B (.slice va vn vc) rows.length rows.flatten rfl jh.o x4.heap.size 1 res rfl (World.alloc_heap_new _ _) s.o HOr.o it.o kb.o ?_;intro vx x8 V e9 dv;obtain ⟨xa,xn,xc,rfl⟩:=EH V;rw[<-af.o] at e9 dv;have fc:=ya (Dj DJ ia.o gw.o jx.o jw.o s.o V e9 dv dd.o);have cz:=ya (d7.o.up fc.o.below a6.o);clear V e9 dv)
     |(refine AQ rfl 32 _ _ rfl X5 24 rfl (.slice xa xn xc) rfl rfl (p:=P) (m:=v) (q:=[h6.v]) (t:=35) cz.o.x dx.o (by kernel_rfl) rfl ?_;intro x9 ef;have dy:=ya ef;clear ef)
     |(refine Ab (g:=u) z7 rfl ?_;simp only[CW,Aa])
     |(refine Ab (g:=u) (Av u) rfl ?_;simp only[CW,Aa])
     |(rw[AD u q1];generalize Z:(u&&q1)=y2;have dq:=ya Z;clear Z))
    have fu:=R.o.next (b':=y2) Hy (R.o.ex.flux (AP.below O.o) (fun _ h=>.inl h)) O.o.size fc.o js.o (by rw[<-dq.o];exact X.o.symm) (by
     intro hy
     rw[<-dq.o] at hy
     simp only[ym] at hy
     refine qn ?_ cd.o.symm
     rw[jt.o hy.1,k1.o hy.2])
    have jv:Hid (I (i+1) (.bool y2) x9):=ya (by rw[HI.o];exact ⟨y2,.slice xa xn xc,rfl,fu.put DJ (fu.ex.flux (dy.o.flux (.inr (by simp))) (fun _ h=>.inl h)) dy.o (by simp) a6.o,cz.o.wrote dy.o⟩)
    exact ⟨⟨i+1,by push_cast;rfl,by omega,jv⟩,by simp[intOf];omega⟩
    )
   clear dt
   have Q:Hid (Below wr.heap.size wr wr.drew):=ya (yc _ _).drew
   refine wp_region_noPanic ?_
   refine Bz (by kernel_rfl) (fun W=>Below wr.heap.size wr W) 11 ?_
   refine A0 (i:=0) (v:=pV w.heap.size 24) rfl (by kernel_rfl) (by kernel_rfl) (by kernel_rfl) (fun _ _ _ h=>h) (by kernel_rfl) (Or.inl ⟨by rfl,?_⟩) (fun _=>Q.o) ?_
   ·intro w _;go_simp
   refine Ag (i:=1) (v:=.slice (some (aV bq oq)) n c) rfl (by kernel_rfl) (by kernel_rfl) (by kernel_rfl) (fun _ _ _ h=>h) (by kernel_rfl) (Or.inl ⟨by rfl,?_⟩) Q.o ?_
   ·intro W hW
    have hc:W.cell? (aV w.heap.size 24)=some (.slice (some (aV bq oq)) n c):=(hW.cell (p:=(aV w.heap.size 24)) (by have:=gq.o;have:=d.o.b0;simp only;omega)).trans hf
    clear hW
    go_simp
   refine A0 (i:=2) (v:=iV i) rfl (by kernel_rfl) (by kernel_rfl) (by kernel_rfl) (fun _ _ _ h=>h) (by kernel_rfl) (Or.inl ⟨by rfl,?_⟩) (fun _=>Q.o) ?_
   ·intro w _;go_simp
   refine A0 (i:=3) (v:=pV bq (oq+i*37)) rfl (by kernel_rfl) (by kernel_rfl) (by kernel_rfl) (fun _ _ _ h=>h) (by kernel_rfl) (Or.inl ⟨by rfl,?_⟩) (fun _=>Q.o) ?_
   ·intro w _;go_simp
   refine Ag (i:=4) (v:=.agg (ct).toArray) rfl (by kernel_rfl) (by kernel_rfl) (by kernel_rfl) (fun _ _ _ h=>h) (by kernel_rfl) (yS (by rfl) 68 _ rfl (bq) (oq+i*37) rfl (ct) _ (fun W hW=>A1 kd.o (hW.block _ k8.o)) qZ rfl (AX (n:=37) (by kernel_rfl) k0.o)) Q.o ?_
   refine Ag (i:=5) (v:=.agg (ls).toArray) rfl (by kernel_rfl) (by kernel_rfl) (by kernel_rfl) (fun _ _ _ h=>h) (by kernel_rfl) (yS (by rfl) 109 _ rfl (S4) (0) rfl (ls) _ (fun W hW=>A1 jy.o (hW.block _ gq.o)) qx rfl (AX (n:=4) (by kernel_rfl) k6.o)) Q.o ?_
   refine D4 (i:=6) (j:=10) (by kernel_rfl) rfl rfl (fun K r=>?_) (fun K r=>?_)
   ·go_simp
    refine (NM (F:=FL F ([w.heap.size,w.heap.size+1,S4,X5]++ob v)) (DJ.flux fg.o (AP.below (d.o.below.trans ((yc _ _).drew.mono d.o.below.size))) fun b hb=>hb.imp id fun H=>(ah.o b H).1) ((d.o.Xu HS.o).up (yc _ _).drew) (FG (fun b hb=>yk (HF.o b hb) d.o.below.size) fun k H=>(ah.o k H).2)).mono ?_
    rintro e x2 ⟨res,d',rfl,J,S,ad⟩
    rw[hq]
    rw[hq] at S
    have s:=ya (Fk J).1;have HOr:=ya (Fk J).2
    have f:Hid (Below wr.heap.size wr x2):=ya ((yc _ _).drew.trans ad)
    refine r.o _ _ (fun _=>f.o) ?_
    clear r K
    refine A0 (i:=7) (v:=.tuple #[.agg (res).toArray,.bool q1]) rfl (by kernel_rfl) (by kernel_rfl) (by kernel_rfl) (fun _ _ _ h=>h) (by kernel_rfl) (Or.inl ⟨by rfl,?_⟩) (fun _=>f.o) ?_
    ·intro w _;go_simp
    refine A0 (i:=8) (v:=.agg (res).toArray) rfl (by kernel_rfl) (by kernel_rfl) (by kernel_rfl) (fun _ _ _ h=>h) (by kernel_rfl) (Or.inl ⟨by rfl,?_⟩) (fun _=>f.o) ?_
    ·intro w _;go_simp
    refine A0 (i:=9) (v:=.bool q1) rfl (by kernel_rfl) (by kernel_rfl) (by kernel_rfl) (fun _ _ _ h=>h) (by kernel_rfl) (Or.inl ⟨by rfl,?_⟩) (fun _=>f.o) ?_
    ·intro w _;go_simp
    refine A4 (i:=10) (by kernel_rfl) rfl (fun K r=>?_)
    go_simp
    have A:Hid (Below x2.heap.size x2 (x2.alloc (.cells (j4).toArray 68))):=ya ((yc _ _).alloc (ye _) _)
    have ac:Hid ((x2.alloc (.cells (j4).toArray 68)).heap[x2.heap.size]?=some (.cells ([]++((j4)++[])).toArray 68 (0,0))):=ya (by simpa using World.alloc_heap_new x2 (.cells (j4).toArray 68))
    refine r.o _ _ (fun _=>f.o.trans (A.o.mono f.o.size)) ?_
    clear r K
    refine A4 (i:=11) (by kernel_rfl) rfl (fun K r=>?_)
    rw[yu (by rfl)]
    refine zh 68 _ _ rfl (x2.heap.size) 0 (res).toArray rfl rfl (Be ac.o (by simp[s.o])) (by rw[yp];exact (AX (n:=37) (by kernel_rfl) s.o)) (yy HOr.o) ?_
    have E:=ya (Aw (x2.heap.size) 68 (res) 0 (x2.alloc (.cells (j4).toArray 68)) [] (j4) [] ac.o rfl (by rw[s.o];rfl))
    rw[yE,yG] at E
    refine r.o _ _ (by intro h;cases h) ?_
    clear r K
    obtain ⟨x4,N⟩:∃z:World,z=(x2.alloc (.cells (j4).toArray 68)).setCells (x2.heap.size) 0 (res):=⟨_,rfl⟩
    rw[yN,<-N]
    rw[<-N] at E
    clear N
    have bv:Hid (Below x2.heap.size x2 x4):=ya (E.o.below A.o (ye _))
    have O:Hid (Below wr.heap.size wr x4):=ya (f.o.trans (bv.o.mono f.o.size))
    have a8:=ya E.o.row
    have Y:Hid (wr.heap.size<=x2.heap.size):=ya f.o.size
    have hE:=DJ.flux (F':=FL F ([w.heap.size,w.heap.size+1,S4,X5]++ob v)) J (AP.below bv.o) (fun _ h=>.inl h)
    refine A4 (i:=12) (by kernel_rfl) rfl (fun K r=>?_)
    go_simp
    refine r.o _ _ (by intro h;cases h) ?_
    clear r K
    refine AG (by kernel_rfl) ?_
    refine NoPanic.normal ?_
    exact HT.o _ _ _ _ _ _ _ _ _ _ _ _ _ _ _ _ _ _ _ _ _ _ _ _ _ _ _ _ _ _ _ O.o Y.o a8.o hE S
   ·go_simp
    have A:Hid (Below wr.heap.size wr (wr.drew.alloc (.cells (j4).toArray 68))):=ya ((yc _ _).drew.alloc (ye _) _)
    refine r.o _ _ (fun _=>A.o) ?_
    clear r K
    refine A4 (i:=6) (by kernel_rfl) rfl (fun K r=>?_)
    go_simp
    have e7:Hid ((wr.drew.alloc (.cells (j4).toArray 68)).heap[wr.heap.size]?=some (.cells (j4).toArray 68 (0,0))):=ya (World.alloc_heap_new wr.drew (.cells (j4).toArray 68))
    refine (NM (F:=FL F (([w.heap.size,w.heap.size+1,S4,X5]++ob v)++[wr.heap.size])) (DJ.flux fg.o (AP.below (d.o.below.trans (A.o.mono d.o.below.size))) fun b hb=>hb.imp id fun H=>(yn.1 H).elim (fun h=>(ah.o b h).1) (fun h=>by simp at h;rw[h];exact d.o.below.size)) ((d.o.Xu HS.o).up A.o) (FG (fun b hb=>yk (HF.o b hb) (d.o.below.trans (A.o.mono d.o.below.size)).size) fun k H=>(yn.1 H).elim (fun h=>yk (ah.o k h).2 A.o.size) (fun h=>by simp at h;rw[h];exact (yd.1 e7.o).1))).mono ?_
    rintro e x2 ⟨res,d',rfl,J,S,ad⟩
    rw[hq]
    rw[hq] at S
    have s:=ya (Fk J).1;have HOr:=ya (Fk J).2
    have kf:=ya ad
    have f:Hid (Below wr.heap.size wr x2):=ya (A.o.trans (ad.mono A.o.size))
    have ac:Hid (x2.heap[wr.heap.size]?=some (.cells ([]++((j4)++[])).toArray 68 (0,0))):=ya (by
     have h:=(ad.block wr.heap.size (yd.1 e7.o).1).trans e7.o
     simpa using h)
    refine r.o _ _ (fun _=>f.o) ?_
    clear r K
    refine A0 (i:=7) (v:=.tuple #[.agg (res).toArray,.bool q1]) rfl (by kernel_rfl) (by kernel_rfl) (by kernel_rfl) (fun _ _ _ h=>h) (by kernel_rfl) (Or.inl ⟨by rfl,?_⟩) (fun _=>f.o) ?_
    ·intro w _;go_simp
    refine A0 (i:=8) (v:=.agg (res).toArray) rfl (by kernel_rfl) (by kernel_rfl) (by kernel_rfl) (fun _ _ _ h=>h) (by kernel_rfl) (Or.inl ⟨by rfl,?_⟩) (fun _=>f.o) ?_
    ·intro w _;go_simp
    refine A0 (i:=9) (v:=.bool q1) rfl (by kernel_rfl) (by kernel_rfl) (by kernel_rfl) (fun _ _ _ h=>h) (by kernel_rfl) (Or.inl ⟨by rfl,?_⟩) (fun _=>f.o) ?_
    ·intro w _;go_simp
    refine A4 (i:=11) (by kernel_rfl) rfl (fun K r=>?_)
    rw[yu (by rfl)]
    refine zh 68 _ _ rfl (wr.heap.size) 0 (res).toArray rfl rfl (Be ac.o (by simp[s.o])) (by rw[yp];exact (AX (n:=37) (by kernel_rfl) s.o)) (yy HOr.o) ?_
    have E:=ya (Aw (wr.heap.size) 68 (res) 0 (x2) [] (j4) [] ac.o rfl (by rw[s.o];rfl))
    rw[yE,yG] at E
    refine r.o _ _ (by intro h;cases h) ?_
    clear r K
    obtain ⟨x4,N⟩:∃z:World,z=(x2).setCells (wr.heap.size) 0 (res):=⟨_,rfl⟩
    rw[yN,<-N]
    rw[<-N] at E
    clear N
    have O:Hid (Below wr.heap.size wr x4):=ya (E.o.below f.o (ye _))
    have a8:=ya E.o.row
    have Y:Hid (wr.heap.size<=wr.heap.size):=ya (ye _)
    have hE:=DJ.flux (F':=FL F ([w.heap.size,w.heap.size+1,S4,X5]++ob v)) J (E.o.flux (.inr (by simp))) (fun b hb=>.inl (hb.imp id (fun h=>yn.2 (.inl h))))
    refine A4 (i:=12) (by kernel_rfl) rfl (fun K r=>?_)
    go_simp
    refine r.o _ _ (by intro h;cases h) ?_
    clear r K
    refine AG (by kernel_rfl) ?_
    refine NoPanic.normal ?_
    exact HT.o _ _ _ _ _ _ _ _ _ _ _ _ _ _ _ _ _ _ _ _ _ _ _ _ _ _ _ _ _ _ _ O.o Y.o a8.o hE S
  ·obtain rfl:i=n:=by omega
   have ii:decide ((i:Int) < (i:Int))=false:=by simp
   obtain ⟨ds,M,U,ab⟩:=R.o.grow
   obtain ⟨hd,k7,fy⟩:=M.done DJ (fun b hb=>by have h1:=HF.o b hb;have h2:=a6.o;have h3:=d.o.b0;have h4:=d.o.b1;have h5:=d.o.b2;omega) (fun k H=>by have h2:=a6.o;have:=fv.o k H;omega) (by have:=eb.o;have:=ae.o;omega)
   have hg:=R.o.ex.flux (F':=FL F [w.heap.size,w.heap.size+1,S4,X5]) (AP.refl _ _) (fun b hb=>.inl (hb.imp id (fun h=>yn.2 (.inl h))))
   have ea:u=(b&&(x.rights.all (BA t))):=by
    have h:u=(fun i=>b&&(x.rights.take i).all (BA t)) i:=R.o.b
    rw[h,ae.o]
    simp only[yx]
   have f2:u=true->ds=(x.rights.map (Bg t)):=fun hb=>by
    have h:=ab hb
    simp only[ae.o,yx] at h
    exact h
   subst ea
   subst k7
   have ju:=ya f2;have T:=ya fy;have G:=ya hg
   clear M U ab f2 fy hg R af
   go_wp2
   refine r.o _ _ ?_
   refine WY (y:=(⟨y.name,y.season,y.cap,y.start,y.lets,y.crops,y.reaches,y.farms,y.rots,ds,y.duties⟩:AA)) (y0:=(⟨y0.name,y0.season,y0.cap,y0.start,y0.lets,y0.crops,y0.reaches,y0.farms,y0.rots,(x.rights.map (Bg t)),y0.duties⟩:AA)) HV.o HF.o k5.o HS.o (by have h:=d.o;rw[ka.o] at h;simpa[yg] using h) ⟨G.o.name,G.o.e0,G.o.e1,G.o.e2,G.o.lets,G.o.crops,fun _=>G.o.reaches (by omega),fun _=>G.o.farms (by omega),fun _=>G.o.rots (by omega),fun _=>T.o,fun h=>absurd h (by omega)⟩ (fun hb=>by
     have h1:=HM.o (by simp only[ym] at hb;exact hb.1)
     rw[ju.o hb,h1])
end Go.Proofs.Ytghepahgkcigpaa
