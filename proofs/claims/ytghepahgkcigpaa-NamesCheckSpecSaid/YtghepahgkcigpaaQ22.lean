/- The reference's Resolve from the loop over duties on (printed by gen_zj.py). -/
import Derived.Test.YtghepahgkcigpaaQ0
import Derived.Test.YtghepahgkcigpaaQ20
import Derived.Test.YtghepahgkcigpaaQ12
import Derived.Deep.CutBlock
set_option maxRecDepth 100000
set_option maxHeartbeats 64000000
set_option linter.unusedSimpArgs false
namespace Go.Proofs.Ytghepahgkcigpaa
open Go.RowKit
theorem WY{F:NP}{w V0 W:World}{cs ls:LV}{S4 X5:Nat}{x y y0:AA}{L:BL}{c0 c1 c2:LV}{hl hc h2 h3 h4 h5 h6 a0 a1 a2 a3:AF}{t:Tb}{b:Bool}{u0 u7 u8 u9 fl gk ew f2 ha iz ic ix g8 ju jt k8 hp f6 hr i6 ek ip fd f3 jl hz hn ih g7 gf ed il fs f4 ie ff gh ht eh fg f9 gc ge iy er fj hh gn fe go g6 gx fq en jk fx jo gr g4 iq fk gu im gw ib em fh ho iu hu g9 f8 ev fy ep ej it hw ik iw gl gb gg gi i2 fz f1 hj eo h9 ez ef eq ee d8 bv bt di c6 bo b4 cr d9 cv ba ak d0 cm ax dp ci cb bi bd cu dl be c7 ca c3 cz co dj ay ch az cg d5 au aq b9 bw ao dk cl ap bh d1 cp an cn cj bj b3 bu de dd bs am cw d2 d7 aw dn jn gj i8 ia fo i0 g3 i1 f0 io ig eu jh gp gy fu ga fv gd jj f5 gz ft ii et jm fb el cc dh bg c9:Value}(hv:Ba (GF F w) w L cs x)(hF:∀b,F b->b < w.heap.size)(e4:Fw x)(hs:MN V0 ls a0 a1 a2 a3 t)
 (hR:Rs w cs ls (.string y.name::(c0++(c1++(c2++[hl.v,hc.v,h2.v,h3.v,h4.v,h5.v,h6.v])))) S4 X5 V0 W)(M:EE 4 (GF (FL F [w.heap.size,w.heap.size+1,S4,X5]) W) W c0 c1 c2 hl hc h2 h3 h4 h5 h6 y)(hm:b=true->y=y0):
  Code.wp Try.prog (DM 14 (Try.f12.body.getD .skip)) (bodyPost Try.prog Try.f12 (JR F w (IZ (b&&(x.duties.all (Ci t)))) (⟨y0.name,y0.season,y0.cap,y0.start,y0.lets,y0.crops,y0.reaches,y0.farms,y0.rots,y0.rights,(x.duties.map (BP t))⟩:AA))) {tmps:=#[u0,.pointer (some ⟨w.heap.size,0,none⟩),.pointer (some ⟨w.heap.size+1,0,none⟩),.int .i64 0,.pointer (some ⟨S4,0,none⟩),.pointer (some ⟨X5,0,none⟩),.bool b,u7,u8,u9,fl,gk,ew,f2,ha,iz,ic,ix,g8,ju,jt,k8,hp,f6,hr,i6,ek,ip,fd,f3,jl,hz,hn,ih,g7,gf,ed,il,fs,f4,ie,ff,gh,ht,eh,fg,f9,gc,ge,iy,er,fj,hh,gn,fe,go,g6,gx,fq,en,jk,fx,jo,gr,g4,iq,fk,gu,im,gw,ib,em,fh,ho,iu,hu,g9,f8,ev,fy,ep,ej,it,hw,ik,iw,gl,gb,gg,gi,i2,fz,f1,hj,eo,h9,ez,ef,eq,ee,d8,bv,bt,di,c6,bo,b4,cr,d9,cv,ba,ak,d0,cm,ax,dp,ci,cb,bi,bd,cu,dl,be,c7,ca,c3,cz,co,dj,ay,ch,az,cg,d5,au,aq,b9,bw,ao,dk,cl,ap,bh,d1,cp,an,cn,cj,bj,b3,bu,de,dd,bs,am,cw,d2,d7,aw,dn,jn,gj,i8,ia,fo,i0,g3,i1,f0,io,ig,eu,jh,gp,gy,fu,ga,fv,gd,jj,f5,gz,ft,ii,et,jm,fb,el,cc,dh,bg,c9],defers:=[]} W:=by
 obtain ⟨⟨a,n,c⟩,hL⟩:∃h:AF,L.duties=h:=⟨_,rfl⟩
 obtain ⟨s0,s1,s2,js,g0,g1,g2⟩:=hv.cells
 have e6:Hid (∀(row:LV) (W:World),Rs w cs ls row S4 X5 V0 W->W.cell? (aV w.heap.size 25)=some (.slice a n c)):=ya (by
  intro row W h
  refine h.cell (p:=.string x.name::(s0++(s1++(s2++[L.lets.v,L.crops.v,L.reaches.v,L.farms.v,L.rots.v,L.rights.v])))) (q:=[]) ?_ (by simp[g0.len,g1.len,g2.len])
  rw[js,hL]
  simp[yg,AF.v])
 have T:B7 (GF F w) w 11 (Er (GF F w) w) ⟨a,n,c⟩ x.duties:=hL▸hv.duties
 have ke:=ya T.2.2
 have ae:Hid (n=x.duties.length):=ya T.1
 have ec:Hid (x.duties.length<=1000):=ya (by have:=e4.duties;omega)
 have HN:Hid (n<=140737488355328):=ya (by have:=ae.o;have:=ec.o;omega)
 have HV:=ya hv
 have HF:=ya hF
 have kh:=ya e4
 have HS:=ya hs
 have HM:=ya hm
 have HG:=ya M
 obtain ⟨P,hP⟩:∃P:LV,P=.string y.name::(c0++(c1++(c2++[hl.v,hc.v,h2.v,h3.v,h4.v,h5.v]))):=⟨_,rfl⟩
 have dy:Hid (P.length=25):=ya (by rw[hP];simp[M.e0.len,M.e1.len,M.e2.len])
 have kb:=ya hP
 have e7:Hid (Rs w cs ls (P++(h6.v::[])) S4 X5 V0 W):=ya (by rw[hP];simpa[yg] using hR)
 have fp:=ya hR.blocks
 clear hv hF e4 hs hm M hR hP hL js g0 g1 g2 T
 refine AH fun K r=>?_
 go_wp2_with (first|(refine AQ rfl 33 _ _ rfl X5 25 rfl (.slice none 0 0) rfl rfl (p:=P) (m:=h6.v) (q:=[]) (t:=35) e7.o.x dy.o (by kernel_rfl) rfl ?_;intro W1 jr;have dv:=ya jr;clear jr))
 refine r.o _ _ ?_
 clear r K
 have e5:=ya (e7.o.wrote dv.o)
 obtain ⟨B,hB⟩:∃B:Nat,B=W1.heap.size:=⟨_,rfl⟩
 have a6:Hid (X5 < B):=ya (by rw[hB];exact e5.o.lt)
 have jq:Hid (DQ Er 70 11 B F [w.heap.size,w.heap.size+1,S4,X5] (fun l W=>EE 4 (GF (FL F l) W) W c0 c1 c2 hl hc h2 h3 h4 h5 h6 y) (fun i=>b&&(x.duties.take i).all (Ci t)) (fun i=>(x.duties.take i).map (BP t)) 0 b (.slice none 0 0) W1):=ya (by
  refine ⟨?_,⟨[],FM,rfl,fun _=>rfl⟩,by simp,by rw[hB];exact ye _⟩
  have h:EE 4 (GF (FL F [w.heap.size,w.heap.size+1,S4,X5]) W1) W1 c0 c1 c2 hl hc h2 h3 h4 h5 h6 y:=HG.o.flux (dv.o.flux (.inr (by simp))) (fun _ h=>.inl h)
  simpa[ob,Value.ownBlock] using h)
 have ki:=ya hB
 clear e7 dv HG hB
 refine AH fun K r=>?_
 obtain ⟨I,hI⟩:∃I:Nat->Value->World->Prop,I=fun i v6 wr=>∃(u:Bool) (v:Value),v6=.bool u∧DQ Er 70 11 B F [w.heap.size,w.heap.size+1,S4,X5] (fun l W=>EE 4 (GF (FL F l) W) W c0 c1 c2 hl hc h2 h3 h4 h5 h6 y) (fun i=>b&&(x.duties.take i).all (Ci t)) (fun i=>(x.duties.take i).map (BP t)) i u v wr∧Rs w cs ls (P++(v::[])) S4 X5 V0 wr:=⟨_,rfl⟩
 have HI:=ya hI
 have fa:Hid (I 0 (.bool b) W1):=ya (by rw[hI];exact ⟨b,_,rfl,jq.o,e5.o⟩)
 clear hI jq e5
 go_wp2
 go_loopw [6,19] (fun v6 iv wr=>∃i:Nat,iv=iV i∧i<=n∧Hid (I i v6 wr)) (fun _ iv _=>n - (intOf iv).toNat)
 case atStart=>exact ⟨0,rfl,yv _,fa⟩
 case round=>
  clear fa
  obtain ⟨i,rfl,hi,gm⟩:=hrel
  obtain ⟨u,v,rfl,hJ,jp⟩:∃(u:Bool) (v:Value),u6=.bool u∧DQ Er 70 11 B F [w.heap.size,w.heap.size+1,S4,X5] (fun l W=>EE 4 (GF (FL F l) W) W c0 c1 c2 hl hc h2 h3 h4 h5 h6 y) (fun i=>b&&(x.duties.take i).all (Ci t)) (fun i=>(x.duties.take i).map (BP t)) i u v wr∧Rs w cs ls (P++(v::[])) S4 X5 V0 wr:=by have h:=gm.o;rw[HI.o] at h;exact h
  obtain ⟨va,vn,vc,g5⟩:∃va vn vc,v=.slice va vn vc:=by obtain ⟨ds,M,_⟩:=hJ.grow;exact M.slice
  have R:=ya hJ;have d:=ya jp
  have af:=ya g5
  clear gm hJ jp g5
  have hf:=e6.o _ _ d.o
  have kg:n<=140737488355328:=HN.o
  by_cases k2:i < n
  ·have ag:i < x.duties.length:=by rw[<-ae.o];exact k2
   have ij:(i:Int) < (n:Int):=by omega
   obtain ⟨bq,oq,ct,he,dx,gt,fi,e9⟩:=ke.o i ag
   obtain rfl:a=some (aV bq oq):=he
   have X:Hid ((fun i=>b&&(x.duties.take i).all (Ci t)) (i+1)=(u&&Ci t x.duties[i])):=ya (by
    have h1:u=(b&&(x.duties.take i).all (Ci t)):=R.o.b
    show (b&&(x.duties.take (i+1)).all (Ci t))=_
    rw[yr ag,z8,zb,zn,zj,<-zM,<-h1])
   have cd:Hid ((fun i=>(x.duties.take i).map (BP t)) (i+1)=(fun i=>(x.duties.take i).map (BP t)) i++[BP t x.duties[i]]):=ya (by
    show (x.duties.take (i+1)).map (BP t)=(x.duties.take i).map (BP t)++[BP t x.duties[i]]
    rw[yr ag,ze];rfl)
   have k6:Hid (i+1<=1000000):=ya (by have:=ec.o;omega)
   generalize hD:x.duties[i]=D at e9 X cd
   clear hD
   have fc:=ya e9
   have k3:=ya gt
   have kd:Hid (wr.rangeAt bq (oq+i*11) ct):=ya (A1 fi (d.o.below.block bq dx.2))
   have ka:Hid (bq < wr.heap.size):=ya (yk dx.2 d.o.below.size)
   have k1:=ya (A6 d.o.l)
   have gq:Hid (S4 < wr.heap.size):=ya (yd.1 d.o.l).1
   have k7:Hid (ls.length=4):=ya (by rw[HS.o.cells];rfl)
   have ah:Hid (∀k∈[w.heap.size,w.heap.size+1,S4,X5]++ob v,w.heap.size<=k∧k < wr.heap.size):=ya (by
    obtain ⟨ds,M,_⟩:=R.o.grow
    have h1:=a6.o;have h5:=R.o.size;have h6:=d.o.b0;have h7:=d.o.b1;have h8:=d.o.b2
    intro k H
    rcases yn.1 H with H|H
    ·have:=fp.o k H;omega
    ·have:=M.lt k H;omega)
   clear fi e9 gt dx ag
   generalize hq:Ci t D=q1 at X
   go_upto_block 9 with fail
   refine wp_block ?_
   refine AH fun K2 du=>?_
   have HT:Hid (∀(Bq:Nat) (x4:World) (res:LV) (d':BV) (bk df ar ck d6 c5 al dm d4 cf b7 cq da b8 av cy bz db b5 aj bp bn dg bm dq c8 ce:Value),Below wr.heap.size wr x4->wr.heap.size<=Bq->x4.heap[Bq]?=some (.cells res.toArray 70 (0,0))->Er (GF (FL F ([w.heap.size,w.heap.size+1,S4,X5]++ob v)) x4) x4 res d'->(q1=true->d'=BP t D)->K2 {tmps:=#[u0,pV w.heap.size 0,pV (w.heap.size+1) 0,iV 0,pV S4 0,pV X5 0,.bool u,u7,u8,u9,fl,gk,ew,f2,ha,iz,ic,ix,g8,iV i,pV Bq 0,.bool q1,hp,f6,hr,i6,ek,ip,fd,f3,jl,hz,hn,ih,g7,gf,ed,il,fs,f4,ie,ff,gh,ht,eh,fg,f9,gc,ge,iy,er,fj,hh,gn,fe,go,g6,gx,fq,en,jk,fx,jo,gr,g4,iq,fk,gu,im,gw,ib,em,fh,ho,iu,hu,g9,f8,ev,fy,ep,ej,it,hw,ik,iw,gl,gb,gg,gi,i2,fz,f1,hj,eo,h9,ez,ef,eq,ee,d8,bv,bt,di,c6,bo,b4,cr,d9,cv,ba,ak,d0,cm,ax,dp,ci,cb,bi,bd,cu,dl,be,c7,ca,c3,cz,co,dj,ay,ch,az,cg,d5,au,aq,b9,bw,ao,dk,cl,ap,bh,d1,cp,an,cn,cj,bj,b3,bu,de,dd,bs,am,cw,d2,d7,aw,dn,pV X5 25,bk,df,ar,ck,d6,c5,al,dm,d4,cf,b7,cq,da,b8,av,cy,bz,db,b5,aj,bp,bn,dg,bm,dq,c8,ce,cc,dh,bg,c9],defers:=[]} x4):=ya (by
    intro Bq x4 res d' bk df ar ck d6 c5 al dm d4 cf b7 cq da b8 av cy bz db b5 aj bp bn dg bm dq c8 ce aa eb ei hV hx
    have O:=ya aa;have k5:=ya ei;have jz:=ya hV;have k4:=ya hx
    have s:=ya (Gs hV).1;have HOr:=ya (Gs hV).2
    have d3:=ya (d.o.call aa)
    have kj:x4.cell? (aV X5 25)=some (.slice va vn vc):=(d3.o.Xp rfl dy.o).trans (by rw[af.o])
    obtain ⟨ds,M,U,ab⟩:=R.o.grow
    obtain ⟨rows,ai,gs,a7⟩:=(M.rnd Ek ((Ht (C:=B) wr).call aa R.o.size)).own
    have k0:=ya ai;have gv:=ya gs;have i7:=ya a7;have jv:=ya U;have jw:=ya ab
    have dc:Hid (B<=x4.heap.size):=ya (yo R.o.size aa.size)
    have ji:Hid ((x4.alloc (.cells res.toArray 70)).ownsRow B 70 11 (.slice va vn vc) rows.length rows.flatten):=ya (by rw[<-af.o];exact Cg ai fun k H=>((yc _ _).alloc (ye _) _).block k (Gl ai k H).2)
    have ir:Hid (rows.length+1<=1000000):=ya (by rw[AW.length a7,U];exact k6.o)
    have kc:Hid (B<=(x4.alloc (.cells res.toArray 70)).heap.size):=ya (by have:=dc.o;simp;omega)
    clear ai gs a7 U ab M aa eb ei hV hx hf ij
    refine du.o _ _ ?_
    clear du K2
    go_wp2_with (first
     |(refine Ae u rfl _ rfl rfl ?_)
     |(refine Ak (g:=u) rfl _ _ _ rfl rfl (.bool (u&&q1)) (by cases u<;>rfl) ?_;generalize Z:(u&&q1)=y2;have dt:=ya Z;clear Z)
     |(refine yf rfl 70 _ rfl Bq 0 rfl res _ (A6 k5.o) j0 rfl (AX (n:=11) (by kernel_rfl) s.o) ?_)
     |(refine Ct rfl 33 70 _ rfl res rfl 11 qN (by kernel_rfl) s.o (by omega) (by omega) ?_)
     |(at_builtin;refine BT qN rfl _ _ rfl 11 (by kernel_rfl) (by omega) B (.slice va vn vc) rows.length rows.flatten rfl ji.o x4.heap.size 1 res rfl (World.alloc_heap_new _ _) s.o HOr.o ir.o kc.o ?_;intro vx x8 V ea dw;obtain ⟨xa,xn,xc,rfl⟩:=EH V;rw[<-af.o] at ea dw;have f7:=ya (Dj Ek i7.o gv.o k0.o jz.o s.o V ea dw dc.o);have cx:=ya (d3.o.up f7.o.below a6.o);clear V ea dw)
     |(refine AQ rfl 33 _ _ rfl X5 25 rfl (.slice xa xn xc) rfl rfl (p:=P) (m:=v) (q:=[]) (t:=35) cx.o.x dy.o (by kernel_rfl) rfl ?_;intro x9 eg;have e3:=ya eg;clear eg)
     |(refine Ab (g:=u) z7 rfl ?_;simp only[CW,Aa])
     |(refine Ab (g:=u) (Av u) rfl ?_;simp only[CW,Aa])
     |(rw[AD u q1];generalize Z:(u&&q1)=y2;have dt:=ya Z;clear Z))
    have fm:=R.o.next (b':=y2) Hy (R.o.ex.flux (AP.below O.o) (fun _ h=>.inl h)) O.o.size f7.o jv.o (by rw[<-dt.o];exact X.o.symm) (by
     intro hy
     rw[<-dt.o] at hy
     simp only[ym] at hy
     refine qn ?_ cd.o.symm
     rw[jw.o hy.1,k4.o hy.2])
    have jy:Hid (I (i+1) (.bool y2) x9):=ya (by rw[HI.o];exact ⟨y2,.slice xa xn xc,rfl,fm.put Ek (fm.ex.flux (e3.o.flux (.inr (by simp))) (fun _ h=>.inl h)) e3.o (by simp) a6.o,cx.o.wrote e3.o⟩)
    exact ⟨⟨i+1,by push_cast;rfl,by omega,jy⟩,by simp[intOf];omega⟩
    )
   clear du
   have Q:Hid (Below wr.heap.size wr wr.drew):=ya (yc _ _).drew
   refine wp_region_noPanic ?_
   refine Bz (by kernel_rfl) (fun W=>Below wr.heap.size wr W) 11 ?_
   refine A0 (i:=0) (v:=pV w.heap.size 25) rfl (by kernel_rfl) (by kernel_rfl) (by kernel_rfl) (fun _ _ _ h=>h) (by kernel_rfl) (Or.inl ⟨by rfl,?_⟩) (fun _=>Q.o) ?_
   ·intro w _;go_simp
   refine Ag (i:=1) (v:=.slice (some (aV bq oq)) n c) rfl (by kernel_rfl) (by kernel_rfl) (by kernel_rfl) (fun _ _ _ h=>h) (by kernel_rfl) (Or.inl ⟨by rfl,?_⟩) Q.o ?_
   ·intro W hW
    have hc:W.cell? (aV w.heap.size 25)=some (.slice (some (aV bq oq)) n c):=(hW.cell (p:=(aV w.heap.size 25)) (by have:=gq.o;have:=d.o.b0;simp only;omega)).trans hf
    clear hW
    go_simp
   refine A0 (i:=2) (v:=iV i) rfl (by kernel_rfl) (by kernel_rfl) (by kernel_rfl) (fun _ _ _ h=>h) (by kernel_rfl) (Or.inl ⟨by rfl,?_⟩) (fun _=>Q.o) ?_
   ·intro w _;go_simp
   refine A0 (i:=3) (v:=pV bq (oq+i*11)) rfl (by kernel_rfl) (by kernel_rfl) (by kernel_rfl) (fun _ _ _ h=>h) (by kernel_rfl) (Or.inl ⟨by rfl,?_⟩) (fun _=>Q.o) ?_
   ·intro w _;go_simp
   refine Ag (i:=4) (v:=.agg (ct).toArray) rfl (by kernel_rfl) (by kernel_rfl) (by kernel_rfl) (fun _ _ _ h=>h) (by kernel_rfl) (yS (by rfl) 70 _ rfl (bq) (oq+i*11) rfl (ct) _ (fun W hW=>A1 kd.o (hW.block _ ka.o)) j0 rfl (AX (n:=11) (by kernel_rfl) k3.o)) Q.o ?_
   refine Ag (i:=5) (v:=.agg (ls).toArray) rfl (by kernel_rfl) (by kernel_rfl) (by kernel_rfl) (fun _ _ _ h=>h) (by kernel_rfl) (yS (by rfl) 109 _ rfl (S4) (0) rfl (ls) _ (fun W hW=>A1 k1.o (hW.block _ gq.o)) qx rfl (AX (n:=4) (by kernel_rfl) k7.o)) Q.o ?_
   refine D4 (i:=6) (j:=10) (by kernel_rfl) rfl rfl (fun K r=>?_) (fun K r=>?_)
   ·go_simp
    refine (Qa (F:=FL F ([w.heap.size,w.heap.size+1,S4,X5]++ob v)) (Ek.flux fc.o (AP.below (d.o.below.trans ((yc _ _).drew.mono d.o.below.size))) fun b hb=>hb.imp id fun H=>(ah.o b H).1) ((d.o.Xu HS.o).up (yc _ _).drew) (FG (fun b hb=>yk (HF.o b hb) d.o.below.size) fun k H=>(ah.o k H).2)).mono ?_
    rintro e x2 ⟨res,d',rfl,J,S,ad⟩
    rw[hq]
    rw[hq] at S
    have s:=ya (Gs J).1;have HOr:=ya (Gs J).2
    have f:Hid (Below wr.heap.size wr x2):=ya ((yc _ _).drew.trans ad)
    refine r.o _ _ (fun _=>f.o) ?_
    clear r K
    refine A0 (i:=7) (v:=.tuple #[.agg (res).toArray,.bool q1]) rfl (by kernel_rfl) (by kernel_rfl) (by kernel_rfl) (fun _ _ _ h=>h) (by kernel_rfl) (Or.inl ⟨by rfl,?_⟩) (fun _=>f.o) ?_
    ·intro w _;go_simp
    refine A0 (i:=8) (v:=.agg (res).toArray) rfl (by kernel_rfl) (by kernel_rfl) (by kernel_rfl) (fun _ _ _ h=>h) (by kernel_rfl) (Or.inl ⟨by rfl,?_⟩) (fun _=>f.o) ?_
    ·intro w _;go_simp
    refine A0 (i:=9) (v:=.bool q1) rfl (by kernel_rfl) (by kernel_rfl) (by kernel_rfl) (fun _ _ _ h=>h) (by kernel_rfl) (Or.inl ⟨by rfl,?_⟩) (fun _=>f.o) ?_
    ·intro w _;go_simp
    refine A4 (i:=10) (by kernel_rfl) rfl (fun K r=>?_)
    go_simp
    have A:Hid (Below x2.heap.size x2 (x2.alloc (.cells (j8).toArray 70))):=ya ((yc _ _).alloc (ye _) _)
    have ac:Hid ((x2.alloc (.cells (j8).toArray 70)).heap[x2.heap.size]?=some (.cells ([]++((j8)++[])).toArray 70 (0,0))):=ya (by simpa using World.alloc_heap_new x2 (.cells (j8).toArray 70))
    refine r.o _ _ (fun _=>f.o.trans (A.o.mono f.o.size)) ?_
    clear r K
    refine A4 (i:=11) (by kernel_rfl) rfl (fun K r=>?_)
    rw[yu (by rfl)]
    refine zh 70 _ _ rfl (x2.heap.size) 0 (res).toArray rfl rfl (Be ac.o (by simp[s.o])) (by rw[yp];exact (AX (n:=11) (by kernel_rfl) s.o)) (yy HOr.o) ?_
    have E:=ya (Aw (x2.heap.size) 70 (res) 0 (x2.alloc (.cells (j8).toArray 70)) [] (j8) [] ac.o rfl (by rw[s.o];rfl))
    rw[yE,yG] at E
    refine r.o _ _ (by intro h;cases h) ?_
    clear r K
    obtain ⟨x4,N⟩:∃z:World,z=(x2.alloc (.cells (j8).toArray 70)).setCells (x2.heap.size) 0 (res):=⟨_,rfl⟩
    rw[yN,<-N]
    rw[<-N] at E
    clear N
    have c4:Hid (Below x2.heap.size x2 x4):=ya (E.o.below A.o (ye _))
    have O:Hid (Below wr.heap.size wr x4):=ya (f.o.trans (c4.o.mono f.o.size))
    have a8:=ya E.o.row
    have Y:Hid (wr.heap.size<=x2.heap.size):=ya f.o.size
    have hE:=Ek.flux (F':=FL F ([w.heap.size,w.heap.size+1,S4,X5]++ob v)) J (AP.below c4.o) (fun _ h=>.inl h)
    refine A4 (i:=12) (by kernel_rfl) rfl (fun K r=>?_)
    go_simp
    refine r.o _ _ (by intro h;cases h) ?_
    clear r K
    refine AG (by kernel_rfl) ?_
    refine NoPanic.normal ?_
    exact HT.o _ _ _ _ _ _ _ _ _ _ _ _ _ _ _ _ _ _ _ _ _ _ _ _ _ _ _ _ _ _ _ O.o Y.o a8.o hE S
   ·go_simp
    have A:Hid (Below wr.heap.size wr (wr.drew.alloc (.cells (j8).toArray 70))):=ya ((yc _ _).drew.alloc (ye _) _)
    refine r.o _ _ (fun _=>A.o) ?_
    clear r K
    refine A4 (i:=6) (by kernel_rfl) rfl (fun K r=>?_)
    go_simp
    have e8:Hid ((wr.drew.alloc (.cells (j8).toArray 70)).heap[wr.heap.size]?=some (.cells (j8).toArray 70 (0,0))):=ya (World.alloc_heap_new wr.drew (.cells (j8).toArray 70))
    refine (Qa (F:=FL F (([w.heap.size,w.heap.size+1,S4,X5]++ob v)++[wr.heap.size])) (Ek.flux fc.o (AP.below (d.o.below.trans (A.o.mono d.o.below.size))) fun b hb=>hb.imp id fun H=>(yn.1 H).elim (fun h=>(ah.o b h).1) (fun h=>by simp at h;rw[h];exact d.o.below.size)) ((d.o.Xu HS.o).up A.o) (FG (fun b hb=>yk (HF.o b hb) (d.o.below.trans (A.o.mono d.o.below.size)).size) fun k H=>(yn.1 H).elim (fun h=>yk (ah.o k h).2 A.o.size) (fun h=>by simp at h;rw[h];exact (yd.1 e8.o).1))).mono ?_
    rintro e x2 ⟨res,d',rfl,J,S,ad⟩
    rw[hq]
    rw[hq] at S
    have s:=ya (Gs J).1;have HOr:=ya (Gs J).2
    have kf:=ya ad
    have f:Hid (Below wr.heap.size wr x2):=ya (A.o.trans (ad.mono A.o.size))
    have ac:Hid (x2.heap[wr.heap.size]?=some (.cells ([]++((j8)++[])).toArray 70 (0,0))):=ya (by
     have h:=(ad.block wr.heap.size (yd.1 e8.o).1).trans e8.o
     simpa using h)
    refine r.o _ _ (fun _=>f.o) ?_
    clear r K
    refine A0 (i:=7) (v:=.tuple #[.agg (res).toArray,.bool q1]) rfl (by kernel_rfl) (by kernel_rfl) (by kernel_rfl) (fun _ _ _ h=>h) (by kernel_rfl) (Or.inl ⟨by rfl,?_⟩) (fun _=>f.o) ?_
    ·intro w _;go_simp
    refine A0 (i:=8) (v:=.agg (res).toArray) rfl (by kernel_rfl) (by kernel_rfl) (by kernel_rfl) (fun _ _ _ h=>h) (by kernel_rfl) (Or.inl ⟨by rfl,?_⟩) (fun _=>f.o) ?_
    ·intro w _;go_simp
    refine A0 (i:=9) (v:=.bool q1) rfl (by kernel_rfl) (by kernel_rfl) (by kernel_rfl) (fun _ _ _ h=>h) (by kernel_rfl) (Or.inl ⟨by rfl,?_⟩) (fun _=>f.o) ?_
    ·intro w _;go_simp
    refine A4 (i:=11) (by kernel_rfl) rfl (fun K r=>?_)
    rw[yu (by rfl)]
    refine zh 70 _ _ rfl (wr.heap.size) 0 (res).toArray rfl rfl (Be ac.o (by simp[s.o])) (by rw[yp];exact (AX (n:=11) (by kernel_rfl) s.o)) (yy HOr.o) ?_
    have E:=ya (Aw (wr.heap.size) 70 (res) 0 (x2) [] (j8) [] ac.o rfl (by rw[s.o];rfl))
    rw[yE,yG] at E
    refine r.o _ _ (by intro h;cases h) ?_
    clear r K
    obtain ⟨x4,N⟩:∃z:World,z=(x2).setCells (wr.heap.size) 0 (res):=⟨_,rfl⟩
    rw[yN,<-N]
    rw[<-N] at E
    clear N
    have O:Hid (Below wr.heap.size wr x4):=ya (E.o.below f.o (ye _))
    have a8:=ya E.o.row
    have Y:Hid (wr.heap.size<=wr.heap.size):=ya (ye _)
    have hE:=Ek.flux (F':=FL F ([w.heap.size,w.heap.size+1,S4,X5]++ob v)) J (E.o.flux (.inr (by simp))) (fun b hb=>.inl (hb.imp id (fun h=>yn.2 (.inl h))))
    refine A4 (i:=12) (by kernel_rfl) rfl (fun K r=>?_)
    go_simp
    refine r.o _ _ (by intro h;cases h) ?_
    clear r K
    refine AG (by kernel_rfl) ?_
    refine NoPanic.normal ?_
    exact HT.o _ _ _ _ _ _ _ _ _ _ _ _ _ _ _ _ _ _ _ _ _ _ _ _ _ _ _ _ _ _ _ O.o Y.o a8.o hE S
  ·obtain rfl:i=n:=by omega
   have ij:decide ((i:Int) < (i:Int))=false:=by simp
   obtain ⟨ds,M,U,ab⟩:=R.o.grow
   obtain ⟨hd,k9,fw⟩:=M.done Ek (fun b hb=>by have h1:=HF.o b hb;have h2:=a6.o;have h3:=d.o.b0;have h4:=d.o.b1;have h5:=d.o.b2;omega) (fun k H=>by have h2:=a6.o;have:=fp.o k H;omega) (by have:=ec.o;have:=ae.o;omega)
   have hg:=R.o.ex.flux (F':=FL F [w.heap.size,w.heap.size+1,S4,X5]) (AP.refl _ _) (fun b hb=>.inl (hb.imp id (fun h=>yn.2 (.inl h))))
   have eb:u=(b&&(x.duties.all (Ci t))):=by
    have h:u=(fun i=>b&&(x.duties.take i).all (Ci t)) i:=R.o.b
    rw[h,ae.o]
    simp only[yx]
   have ey:u=true->ds=(x.duties.map (BP t)):=fun hb=>by
    have h:=ab hb
    simp only[ae.o,yx] at h
    exact h
   subst eb
   subst k9
   have jx:=ya ey;have T:=ya fw;have G:=ya hg
   clear M U ab ey fw hg R af
   go_wp2
   refine r.o _ _ ?_
   refine WX (y:=(⟨y.name,y.season,y.cap,y.start,y.lets,y.crops,y.reaches,y.farms,y.rots,y.rights,ds⟩:AA)) (y1:=(⟨y0.name,y0.season,y0.cap,y0.start,y0.lets,y0.crops,y0.reaches,y0.farms,y0.rots,y0.rights,(x.duties.map (BP t))⟩:AA)) (by have h:=d.o;rw[kb.o] at h;simpa[yg] using h) (Vw (y:=(⟨y.name,y.season,y.cap,y.start,y.lets,y.crops,y.reaches,y.farms,y.rots,y.rights,ds⟩:AA)) ⟨G.o.name,G.o.e0,G.o.e1,G.o.e2,G.o.lets,G.o.crops,fun _=>G.o.reaches (by omega),fun _=>G.o.farms (by omega),fun _=>G.o.rots (by omega),fun _=>G.o.rights (by omega),fun _=>T.o⟩) (fun hb=>by
     have h1:=HM.o (by simp only[ym] at hb;exact hb.1)
     rw[jx.o hb,h1])
end Go.Proofs.Ytghepahgkcigpaa
