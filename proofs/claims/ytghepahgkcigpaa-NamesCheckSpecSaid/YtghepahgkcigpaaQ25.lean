/- The reference's plain: rotations (printed by gen_zq.py). -/
import Derived.Test.YtghepahgkcigpaaQ0
import Derived.Test.YtghepahgkcigpaaQ23
import Derived.StillTailTactics
import Derived.Deep.CutBlock
set_option maxRecDepth 100000
set_option maxHeartbeats 32000000
set_option linter.unusedSimpArgs false
namespace Go.Proofs.Ytghepahgkcigpaa
open Go.RowKit
theorem NX{B:Nat}{W W':World}{v:Value}{l:List Pl}{b:Nat}{c:Array Value}{t:TypeId}(a:FX B W v l)(h:W.grownBy W' v.ownBlock)(hb:W.heap[b]?=some (.cells c t (0,0)))(d:t≠125):W'.heap[b]?=some (.cells c t (0,0)):=by
 refine (h.block b (yd.1 hb).1 fun e=>?_).trans hb
 rcases a.2 with ⟨rfl,_⟩|⟨g,cap,f,rfl,h4,h5,_⟩
 ·cases e
 ·simp only[Value.ownBlock,yZ] at e
  subst e
  rw[hb] at h5
  simp only[yZ,Obj.cells.injEq] at h5
  exact d h5.2.1
theorem Wk{N:NP}{w W:World}{cs:LV}{x:AA}{L:BL}{v u0 u2 u4 u5 u6 u7 u8 u9 fk gc ey f2 gm i0 ha hy fz er el gd gr f7 gs gz em hq fb f3 i2 gw gp hj fy g8 ef ho fm f6 hh fd ga gt ei ff f9 g6 g7 hz ev fh gn gf fc gg fx gk fl eo i1 fq i6 gh fw ht fj gi hp gj h8 en fg gq hw gu g3 f8 ew ft et ej hu gv hm hx ge g5 g9 gb gy fu f1 go ep gl f0 eh eu eg dq cd cb e8 ci c8 bi d6 dt d9 bm aq df cz bb ee cw cm bw bs d8 eb bt cj ck cg dd d3 e9 bd cv bg cu dm b7 b4 bk ce ay ea cy az bu dh d5 ax d2 cx bz bh cc dx dv ca au da dk dp ba ed e6 cp dg di c3 db cf dc be du dj b5 dw cr d0 c7 ch c9 cl e3 bj d1 c4 dl b3 e5 bo aw cq e7:Value}(hv:Ba N w L cs x)(hN:∀b,N b->b < w.heap.size)(a7:Fw x)(hP:Ps w cs W v (RD x)):
  Code.wp Try.prog (DM 6 (Try.f62.body.getD .skip)) (bodyPost Try.prog Try.f62 (Ir w (Co x))) {tmps:=#[u0,.pointer (some ⟨w.heap.size,0,none⟩),u2,v,u4,u5,u6,u7,u8,u9,fk,gc,ey,f2,gm,i0,ha,hy,fz,er,el,gd,gr,f7,gs,gz,em,hq,fb,f3,i2,gw,gp,hj,fy,g8,ef,ho,fm,f6,hh,fd,ga,gt,ei,ff,f9,g6,g7,hz,ev,fh,gn,gf,fc,gg,fx,gk,fl,eo,i1,fq,i6,gh,fw,ht,fj,gi,hp,gj,h8,en,fg,gq,hw,gu,g3,f8,ew,ft,et,ej,hu,gv,hm,hx,ge,g5,g9,gb,gy,fu,f1,go,ep,gl,f0,eh,eu,eg,dq,cd,cb,e8,ci,c8,bi,d6,dt,d9,bm,aq,df,cz,bb,ee,cw,cm,bw,bs,d8,eb,bt,cj,ck,cg,dd,d3,e9,bd,cv,bg,cu,dm,b7,b4,bk,ce,ay,ea,cy,az,bu,dh,d5,ax,d2,cx,bz,bh,cc,dx,dv,ca,au,da,dk,dp,ba,ed,e6,cp,dg,di,c3,db,cf,dc,be,du,dj,b5,dw,cr,d0,c7,ch,c9,cl,e3,bj,d1,c4,dl,b3,e5,bo,aw,cq,e7],defers:=[]} W:=by
 obtain ⟨⟨a,n,c⟩,hL⟩:∃h:AF,L.rots=h:=⟨_,rfl⟩
 obtain ⟨s0,s1,s2,ec,g0,g1,g2⟩:=hv.cells
 have ah:Hid (∀(W:World) (v:Value) (l:List Pl),Ps w cs W v l->W.cell? (aV w.heap.size 23)=some (.slice a n c)):=ya (by
  intro W v l h
  refine h.cell (p:=.string x.name::(s0++(s1++(s2++[L.lets.v,L.crops.v,L.reaches.v,L.farms.v])))) (q:=[L.rights.v,L.duties.v]) ?_ (by simp[g0.len,g1.len,g2.len])
  rw[ec,hL]
  simp[yg,AF.v])
 obtain ⟨X,b8,S⟩:=hv.rots
 rw[hL] at X S
 have ia:=ya S
 have ap:Hid (n=x.rots.length):=ya X
 clear X b8 S
 have i8:Hid (x.rots.length<=1000):=ya (by have:=a7.rots;omega)
 have e4:Hid (n<=140737488355328):=ya (by have:=ap.o;have:=i8.o;omega)
 have HV:=ya hv
 have HN:=ya hN
 have a2:=ya a7
 have eq:=ya (Iq a7)
 obtain ⟨I,hI⟩:∃I:Nat->Value->World->Prop,I=fun i v wr=>Ps w cs wr v (RD x++(x.rots.take i).flatMap Gy):=⟨_,rfl⟩
 have HI:=ya hI
 have bn:Hid (I 0 v W):=ya (by rw[hI];simpa using hP)
 clear hv hN a7 hP hL ec g0 g1 g2 hI
 refine AH fun K hK=>?_
 go_wp2
 go_loopw [3,9] (fun v3 iv wr=>∃i:Nat,iv=iV i∧i<=n∧Hid (I i v3 wr)) (fun _ iv _=>n - (intOf iv).toNat)
 case atStart=>exact ⟨0,rfl,yv _,bn⟩
 case round=>
  clear bn
  obtain ⟨i,rfl,hi,Y⟩:=hrel
  have e:Hid (Ps w cs wr u3 (RD x++(x.rots.take i).flatMap Gy)):=ya (by have h:=Y.o;rw[HI.o] at h;exact h)
  clear Y
  have hf:=ah.o _ _ _ e.o
  have ib:n<=140737488355328:=e4.o
  by_cases fs:i < n
  ·have a1:i < x.rots.length:=by rw[<-ap.o];exact fs
   have a8:(i:Int) < (n:Int):=by omega
   obtain ⟨bq,oq,G,he,T,ag,U,E⟩:=ia.o i a1
   obtain rfl:a=some (aV bq oq):=he
   have Q:(RD x++(x.rots.take i).flatMap Gy).length<=10000:=by
    have h1:=CO (l:=x.rots) (f:=Gy) (c:=71) (i:=i) (fun d hd=>Qj (a2.o.turns d hd))
    have h2:=eq.o.p5;have h3:=a2.o.rots
    rw[yi]
    omega
   have af:Hid (RD x++(x.rots.take (i+1)).flatMap Gy=(RD x++(x.rots.take i).flatMap Gy)++Gy x.rots[i]):=ya (by rw[Ck a1,yg])
   have ak:x.rots[i].turns.length<=70:=a2.o.turns _ (yw a1)
   generalize hD:x.rots[i]=D at E af ak
   clear hD
   generalize co:RD x++(x.rots.take i).flatMap Gy=u at af e Q
   clear co
   have av:=A1 U (e.o.below.block bq (HN.o bq T))
   have ao:=Io ⟨_,E⟩
   obtain ⟨r,⟨m,j⟩,s,e0,e1,e2,P⟩:=D
   obtain ⟨⟨ta,C,tc⟩,bp⟩:∃h:AF,A5 L i=h:=⟨_,rfl⟩
   rw[bp] at E
   obtain ⟨h1,h2,c0,c1,c2,rfl,q0,q1,q2,k1,k2,k3⟩:=E
   clear bp
   obtain ⟨G,B⟩:∃G:LV,G=.string r::(.string m::iV j::(iV s::(c0++(c1++(c2++([.slice ta C tc])))))):=⟨_,rfl⟩
   have i7:Hid (wr.rangeAt bq (oq+i*23) G):=ya (by rw[B];simpa[Ad,AF.v] using av)
   have ae:Hid (G.length=23):=ya (by rw[B];simpa[Ad,AF.v] using ao.1)
   have h7:Hid (∀v∈G,v.oneCell'=true):=ya (by rw[B];simpa[Ad,AF.v] using ao.2)
   have a6:=ya B
   have am:=ya (And.intro q0.len (And.intro q1.len q2.len))
   have al:Hid (C=P.length):=ya k1
   have bv:Hid (P.length<=70):=ya ak
   have ek:C<=140737488355328:=by have:=al.o;have:=bv.o;omega
   have fp:=ya k3
   clear U ag T a1 av ao B q0 q1 q2 h1 h2 k1 k2 k3 ak
   go_upto_region 23 with (first
    |(refine yf rfl 64 _ rfl bq (oq+i*23) rfl G _ i7.o qX rfl (AX (n:=23) (by kernel_rfl) ae.o) ?_)
    |(refine A2 rfl 64 _ _ rfl wr.heap.size rfl G rfl (World.alloc_heap_new _ _) (by rw[ae.o];rfl) (AX (n:=23) (by kernel_rfl) ae.o) h7.o ?_;intro x1 ar;have O:=ya ar;clear ar))
   clear hf a8
   have ac:=ya (FN O.o)
   have h9:x1.cell? (aV wr.heap.size 0)=some (.string r):=Ew (row:=.string r::(.string m::iV j::(iV s::(c0++(c1++(c2++([.slice ta C tc]))))))) (by have h:=O.o.row;rw[a6.o] at h;exact h) (p:=[]) (q:=.string m::iV j::(iV s::(c0++(c1++(c2++([.slice ta C tc])))))) (by first|rfl|simp) (by simp)
   have d4:=ya (Gz (c:=[Value.string m,iV j]) (o:=1) (row:=.string r::(.string m::iV j::(iV s::(c0++(c1++(c2++([.slice ta C tc]))))))) (by have h:=O.o.row;rw[a6.o] at h;exact h) (p:=[.string r]) (q:=iV s::(c0++(c1++(c2++([.slice ta C tc]))))) (by first|rfl|simp) (by simp))
   have fo:x1.cell? (aV wr.heap.size 3)=some (iV s):=Ew (row:=.string r::(.string m::iV j::(iV s::(c0++(c1++(c2++([.slice ta C tc]))))))) (by have h:=O.o.row;rw[a6.o] at h;exact h) (p:=[.string r,.string m,iV j]) (q:=c0++(c1++(c2++([.slice ta C tc])))) (by first|rfl|simp) (by simp)
   have R:Hid (Below x1.heap.size x1 (x1.alloc (.cells #[iV 6,.string r,.string m,iV j,.string {data:=#[]},iV 0,iV s,.bool false] 125))):=ya ((yc _ _).alloc (ye _) _)
   have z:Hid (Below wr.heap.size wr (x1.alloc (.cells #[iV 6,.string r,.string m,iV j,.string {data:=#[]},iV 0,iV s,.bool false] 125))):=ya ((ac.o).trans (R.o.mono (ac.o).size))
   have A:=ya (e.o.own.up z.o)
   have M:Hid ((x1.alloc (.cells #[iV 6,.string r,.string m,iV j,.string {data:=#[]},iV 0,iV s,.bool false] 125)).heap[x1.heap.size]?=some (.cells (([(⟨6,r,⟨m,j⟩,He,s,false⟩:Pl)]:List Pl).flatMap Li).toArray 125 (0,0))):=ya (World.alloc_heap_new x1 (.cells #[iV 6,.string r,.string m,iV j,.string {data:=#[]},iV 0,iV s,.bool false] 125))
   have g:Hid ((w.heap.size+1)<=(x1.alloc (.cells #[iV 6,.string r,.string m,iV j,.string {data:=#[]},iV 0,iV s,.bool false] 125)).heap.size):=ya (yo e.o.size z.o.size)
   have H:Hid (u.length+1<=1000000):=ya (by omega)
   have hr:Hid (u.length<=10000):=ya Q
   have V:Hid (x1.heap[wr.heap.size]?=some (.cells G.toArray 64 (0,0))):=ya O.o.row
   clear Q
   go_wp2_with (first|(refine yf rfl 23 _ rfl wr.heap.size 1 rfl [.string m,iV j] _ d4.o qD rfl (by kernel_rfl) ?_)|(at_builtin;refine Cr (w.heap.size+1) rfl _ _ rfl u3 u rfl A.o (x1.heap.size) 1 1 [(⟨6,r,⟨m,j⟩,He,s,false⟩:Pl)] rfl rfl M.o H.o g.o ?_;intro gx n5 c5 w5 y F;have d7:=ya y;have dy:Hid (Below (w.heap.size+1) wr w5):=ya (FY (z.o.mono e.o.size) g.o A.o F);have cn:=ya F;clear y F))
   have aa:Hid (w5.heap[wr.heap.size]?=some (.cells G.toArray 64 (0,0))):=ya ((NX A.o cn.o (c:=G.toArray) (t:=64) (by have h:=R.o.block wr.heap.size (yd.1 V.o).1;exact h.trans V.o) (by decide)))
   obtain ⟨J,hJ⟩:∃J:Nat->Value->World->Prop,J=fun k v W=>Ps w cs W v (u++([(⟨6,r,⟨m,j⟩,He,s,false⟩:Pl)]++(P.take k).flatMap Gx))∧W.heap[wr.heap.size]?=some (.cells G.toArray 64 (0,0)):=⟨_,rfl⟩
   have HJ:=ya hJ
   have Y:Hid (J 0 (.slice gx n5 c5) w5):=ya (by rw[hJ];refine ⟨?_,aa.o⟩;simpa using e.o.next dy.o d7.o)
   have ic:Hid (Below w.heap.size w wr):=ya e.o.below
   clear hJ d7 dy cn aa V R z A M g H h9 fo d4 O ac e
   obtain ⟨wo,rfl⟩:∃wo:World,wo=wr:=⟨_,rfl⟩
   go_loopw [3,11] (fun v3 kv wr=>∃k:Nat,kv=iV k∧k<=C∧Hid (J k v3 wr)) (fun _ kv _=>C - (intOf kv).toNat)
   case atStart=>exact ⟨0,rfl,yv _,Y⟩
   case round=>
    clear Y
    obtain ⟨k,rfl,hk,b9⟩:=hrel
    have Z:Hid (Ps w cs wr u3 (u++([(⟨6,r,⟨m,j⟩,He,s,false⟩:Pl)]++(P.take k).flatMap Gx))∧wr.heap[wo.heap.size]?=some (.cells G.toArray 64 (0,0))):=ya (by have h:=b9.o;rw[HJ.o] at h;exact h)
    clear b9
    have hf:wr.cell? (aV wo.heap.size 22)=some (.slice ta C tc):=Ew (row:=.string r::(.string m::iV j::(iV s::(c0++(c1++(c2++([.slice ta C tc]))))))) (by have h:=Z.o.2;rw[a6.o] at h;exact h) (p:=.string r::(.string m::iV j::(iV s::(c0++(c1++(c2)))))) (q:=[]) (by simp) (by simp[am.o.1,am.o.2.1,am.o.2.2])
    by_cases hn:k < C
    ·have aj:k < P.length:=by rw[<-al.o];exact hn
     have a8:(k:Int) < (C:Int):=by omega
     obtain ⟨tb,tz,ie,he,T,ag,U,E⟩:=fp.o k aj
     obtain rfl:ta=some (aV tb tz):=he
     have Q:(u++([(⟨6,r,⟨m,j⟩,He,s,false⟩:Pl)]++(P.take k).flatMap Gx)).length<=20000:=by
      have h1:=CO (l:=P) (f:=Gx) (c:=1) (i:=k) (fun _ _=>by simp[Gx])
      have h2:=hr.o;have h3:=bv.o
      rw[yi,yi]
      simp only[yC,yK]
      omega
     have ad:Hid (u++([(⟨6,r,⟨m,j⟩,He,s,false⟩:Pl)]++(P.take (k+1)).flatMap Gx)=(u++([(⟨6,r,⟨m,j⟩,He,s,false⟩:Pl)]++(P.take k).flatMap Gx))++Gx P[k]):=ya (by rw[Ck aj];simp only[yg])
     generalize hD:P[k]=D at E ad
     clear hD
     obtain ⟨⟨fn,fi⟩,de⟩:=D
     obtain ⟨hd,c,rfl,_⟩:=E
     have e:=ya Z.o.1
     have f5:Hid (wr.rangeAt tb (tz+k*8) [.string fn,iV fi]):=ya (by
      have h:=A1 U (e.o.below.block tb (HN.o tb T))
      have h2:=Bn (p:=[]) (c:=[Value.string fn,iV fi]) (q:=c) (by simpa[Ad] using h)
      simpa using h2)
     clear U ag T aj hd
     obtain ⟨ab,a0⟩:∃l:List Pl,l=u++([(⟨6,r,⟨m,j⟩,He,s,false⟩:Pl)]++(P.take k).flatMap Gx):=⟨_,rfl⟩
     rw[<-a0] at e ad Q
     clear a0
     have R:Hid (Below wr.heap.size wr (wr.alloc (.cells #[iV 7,.string {data:=#[]},.string fn,iV fi,.string {data:=#[]},iV 0,iV 0,.bool false] 125))):=ya ((yc _ _).alloc (ye _) _)
     have z:Hid (Below wr.heap.size wr (wr.alloc (.cells #[iV 7,.string {data:=#[]},.string fn,iV fi,.string {data:=#[]},iV 0,iV 0,.bool false] 125))):=ya ((yc wr.heap.size wr).trans (R.o.mono (yc wr.heap.size wr).size))
     have A:=ya (e.o.own.up z.o)
     have M:Hid ((wr.alloc (.cells #[iV 7,.string {data:=#[]},.string fn,iV fi,.string {data:=#[]},iV 0,iV 0,.bool false] 125)).heap[wr.heap.size]?=some (.cells (([(⟨7,{data:=#[]},⟨fn,fi⟩,He,0,false⟩:Pl)]:List Pl).flatMap Li).toArray 125 (0,0))):=ya (World.alloc_heap_new wr (.cells #[iV 7,.string {data:=#[]},.string fn,iV fi,.string {data:=#[]},iV 0,iV 0,.bool false] 125))
     have g:Hid ((w.heap.size+1)<=(wr.alloc (.cells #[iV 7,.string {data:=#[]},.string fn,iV fi,.string {data:=#[]},iV 0,iV 0,.bool false] 125)).heap.size):=ya (yo e.o.size z.o.size)
     have H:Hid (ab.length+1<=1000000):=ya (by omega)
     clear Q
     go_wp2_with (first|(refine yf rfl 23 _ rfl tb (tz+k*8) rfl [.string fn,iV fi] _ f5.o qD rfl (by kernel_rfl) ?_)|(at_builtin;refine Cr (w.heap.size+1) rfl _ _ rfl u3 ab rfl A.o (wr.heap.size) 1 1 [(⟨7,{data:=#[]},⟨fn,fi⟩,He,0,false⟩:Pl)] rfl rfl M.o H.o g.o ?_;intro ez n6 c6 w6 y F;have f4:=ya y;have g4:Hid (Below (w.heap.size+1) wr w6):=ya (FY (z.o.mono e.o.size) g.o A.o F);have fa:=ya F;clear y F))
     have fv:Hid (J (k+1) (.slice ez n6 c6) w6):=ya (by
      rw[HJ.o]
      refine ⟨?_,NX A.o fa.o (c:=G.toArray) (t:=64) ((R.o.block wo.heap.size (yd.1 Z.o.2).1).trans Z.o.2) (by decide)⟩
      show Ps w cs w6 _ (u++([(⟨6,r,⟨m,j⟩,He,s,false⟩:Pl)]++(P.take (k+1)).flatMap Gx))
      rw[ad.o]
      exact e.o.next g4.o f4.o)
     exact ⟨⟨k+1,by push_cast;rfl,by omega,fv⟩,by simp[intOf];omega⟩
    ·obtain rfl:k=C:=by omega
     have a8:decide ((k:Int) < (k:Int))=false:=by simp
     have fe:Hid (I (i+1) u3 wr):=ya (by
      rw[HI.o]
      show Ps w cs wr u3 (RD x++(x.rots.take (i+1)).flatMap Gy)
      rw[af.o]
      have h:=Z.o.1
      rw[al.o,yx] at h
      exact h)
     go_wp2
     exact ⟨⟨i+1,by push_cast;rfl,by omega,fe⟩,by simp[intOf];omega⟩
  ·obtain rfl:i=n:=by omega
   have a8:decide ((i:Int) < (i:Int))=false:=by simp
   have hg:Hid (Ps w cs wr u3 (RD x++x.rots.flatMap Gy)):=ya (by
    have h:=e.o
    rw[ap.o,yx] at h
    exact h)
   clear e
   go_wp2
   exact hK.o _ _ (Wj HV.o HN.o a2.o hg.o)
end Go.Proofs.Ytghepahgkcigpaa
