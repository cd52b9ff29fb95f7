/- Parts of the proof, in short words: Yt Zr Zs Zt Zu Ah -/
import Derived.Test.YtghepahgkcigpaaRg0
import Derived.Test.YtghepahgkcigpaaRg18
import Derived.Test.YtghepahgkcigpaaRg19
import Derived.Test.YtghepahgkcigpaaRg20
import Derived.StillTailTactics
import Derived.Deep.CutBlock
import Derived.Test.YtghepahgkcigpaaRg4
import Derived.Test.YtghepahgkcigpaaRg7
import Derived.Test.YtghepahgkcigpaaRg21
set_option maxRecDepth 100000
set_option maxHeartbeats 64000000
set_option linter.unusedSimpArgs false
namespace Go.Proofs.Ytghepahgkcigpaa
open Go.RowKit
theorem LI{B:Nat}{W W':World}{v:Value}{l:List Pl}{b:Nat}{c:Array Value}{t:TypeId}(h:EA B W v l)(f:W.grownBy W' v.ownBlock)(hb:W.heap[b]?=some (.cells c t (0,0)))(d:t≠125):W'.heap[b]?=some (.cells c t (0,0)):=by
 refine (f.block b (yf.1 hb).1 fun e=>?_).trans hb
 rcases h.2 with ⟨rfl,_⟩|⟨g,cap,a,rfl,h4,h5,_⟩
 ·cases e
 ·simp only[Value.ownBlock,yV] at e
  subst e
  rw[hb] at h5
  simp only[yV,Obj.cells.injEq] at h5
  exact d h5.2.1
theorem Tp{N:NP}{w W:World}{cs:LV}{x:An}{L:Bh}{v u0 u2 u4 u5 u6 u7 u8 u9 f7 eq fb hr f8 hp hn i0 fz f5 hy fq fx i1 ff h8 el fg ga gg gr hg g6 g8 gd ft gm ek g4 f3 hq gj gw fm gk fu fk f4 en em gi i2 fv gv gp hj h7 f6 gl gc hw fe ef fd f1 ey ha g3 g7 eg ez f2 i8 eo eh fp et i6 gu fo gx h9 go hm fw ge hh fy fa ej ho gq gn i7 ew f9 gz gf fc gt cm bw ce d2 dc e3 db dr bh bg dq dj e4 cr d6 av dv c3 dy b3 dl dp di ay cz ch dk aw bm bd ed cl b9 ea bz bu d0 cx cn eb cu b4 co cp ax bn e6 bb b8 ci d3 ca cf cg dg cw e5 ck bj c8 bt dh bi ec e9 d5 ar df b5 cc cv b7 c4 ba dt dm e7 cy cj be d7 az bo d9 c9 dz bv c7 cd d8:Value}(hv:B8 N w L cs x)(hN:∀b,N b->b < w.heap.size)(aa:Fw x)(hP:Ps w cs W v (QH x)):
  Code.wp Try.prog (CP 6 (Try.f62.body.getD .skip)) (bodyPost Try.prog Try.f62 (Gt w (Ck x))) {tmps:=#[u0,.pointer (some ⟨w.heap.size,0,none⟩),u2,v,u4,u5,u6,u7,u8,u9,f7,eq,fb,hr,f8,hp,hn,i0,fz,f5,hy,fq,fx,i1,ff,h8,el,fg,ga,gg,gr,hg,g6,g8,gd,ft,gm,ek,g4,f3,hq,gj,gw,fm,gk,fu,fk,f4,en,em,gi,i2,fv,gv,gp,hj,h7,f6,gl,gc,hw,fe,ef,fd,f1,ey,ha,g3,g7,eg,ez,f2,i8,eo,eh,fp,et,i6,gu,fo,gx,h9,go,hm,fw,ge,hh,fy,fa,ej,ho,gq,gn,i7,ew,f9,gz,gf,fc,gt,cm,bw,ce,d2,dc,e3,db,dr,bh,bg,dq,dj,e4,cr,d6,av,dv,c3,dy,b3,dl,dp,di,ay,cz,ch,dk,aw,bm,bd,ed,cl,b9,ea,bz,bu,d0,cx,cn,eb,cu,b4,co,cp,ax,bn,e6,bb,b8,ci,d3,ca,cf,cg,dg,cw,e5,ck,bj,c8,bt,dh,bi,ec,e9,d5,ar,df,b5,cc,cv,b7,c4,ba,dt,dm,e7,cy,cj,be,d7,az,bo,d9,c9,dz,bv,c7,cd,d8],defers:=[]} W:=by
 obtain ⟨⟨a,n,c⟩,hL⟩:∃h:Av,L.rots=h:=⟨_,rfl⟩
 obtain ⟨s0,s1,s2,d4,g0,g1,g2⟩:=hv.cells
 have al:Hid (∀(W:World) (v:Value) (l:List Pl),Ps w cs W v l->W.cell? (aV w.heap.size 23)=some (.slice a n c)):=yb (by
  intro W v l h
  refine h.cell (p:=.string x.name::(s0++(s1++(s2++[L.lets.v,L.crops.v,L.reaches.v,L.farms.v])))) (q:=[L.rights.v,L.duties.v]) ?_ (by simp[g0.len,g1.len,g2.len])
  rw[d4,hL]
  simp[yl,Av.v])
 obtain ⟨Y,au,X⟩:=hv.rots
 rw[hL] at Y X
 have gb:=yb X
 have ak:Hid (n=x.rots.length):=yb Y
 clear Y au X
 have gy:Hid (x.rots.length<=1000):=yb (by have:=aa.rots;omega)
 have d1:Hid (n<=140737488355328):=yb (by have:=ak.o;have:=gy.o;omega)
 have HV:=yb hv
 have HN:=yb hN
 have a7:=yb aa
 have er:=yb (Gs aa)
 obtain ⟨I,hI⟩:∃I:Nat->Value->World->Prop,I=fun i v wr=>Ps w cs wr v (QH x++(x.rots.take i).flatMap Iu):=⟨_,rfl⟩
 have HI:=yb hI
 have bk:Hid (I 0 v W):=yb (by rw[hI];simpa using hP)
 clear hv hN aa hP hL d4 g0 g1 g2 hI
 refine Ag fun K hK=>?_
 go_wp2
 go_loopw [3,9] (fun v3 iv wr=>∃i:Nat,iv=iV i∧i<=n∧Hid (I i v3 wr)) (fun _ iv _=>n - (intOf iv).toNat)
 case atStart=>exact ⟨0,rfl,yz _,bk⟩
 case round=>
  clear bk
  obtain ⟨i,rfl,hi,T⟩:=hrel
  have e:Hid (Ps w cs wr u3 (QH x++(x.rots.take i).flatMap Iu)):=yb (by have h:=T.o;rw[HI.o] at h;exact h)
  clear T
  have hf:=al.o _ _ _ e.o
  have ia:n<=140737488355328:=d1.o
  by_cases fs:i < n
  ·have a8:i < x.rots.length:=by rw[<-ak.o];exact fs
   have a6:(i:Int) < (n:Int):=by omega
   obtain ⟨bq,oq,H,he,a0,aq,Z,F⟩:=gb.o i a8
   obtain rfl:a=some (aV bq oq):=he
   have O:(QH x++(x.rots.take i).flatMap Iu).length<=10000:=by
    have h1:=Cf (l:=x.rots) (f:=Iu) (c:=71) (i:=i) (fun d hd=>NO (a7.o.turns d hd))
    have h2:=er.o.p5;have h3:=a7.o.rots
    rw[ym]
    omega
   have ad:Hid (QH x++(x.rots.take (i+1)).flatMap Iu=(QH x++(x.rots.take i).flatMap Iu)++Iu x.rots[i]):=yb (by rw[BF a8,yl])
   have af:x.rots[i].turns.length<=70:=a7.o.turns _ (yy a8)
   generalize hD:x.rots[i]=D at F ad af
   clear hD
   generalize dw:QH x++(x.rots.take i).flatMap Iu=u at ad e O
   clear dw
   have dx:=A2 Z (e.o.below.block bq (HN.o bq a0))
   have ae:=JI ⟨_,F⟩
   obtain ⟨r,⟨j,m⟩,s,e0,e1,e2,R⟩:=D
   obtain ⟨⟨ta,C,tc⟩,dd⟩:∃h:Av,A4 L i=h:=⟨_,rfl⟩
   rw[dd] at F
   obtain ⟨h1,h2,c0,c1,c2,rfl,q0,q1,q2,k1,k2,k3⟩:=F
   clear dd
   obtain ⟨H,B⟩:∃H:LV,H=.string r::(.string j::iV m::(iV s::(c0++(c1++(c2++([.slice ta C tc])))))):=⟨_,rfl⟩
   have fj:Hid (wr.rangeAt bq (oq+i*23) H):=yb (by rw[B];simpa[Ah,Av.v] using dx)
   have ao:Hid (H.length=23):=yb (by rw[B];simpa[Ah,Av.v] using ae.1)
   have ev:Hid (∀v∈H,v.oneCell'=true):=yb (by rw[B];simpa[Ah,Av.v] using ae.2)
   have a2:=yb B
   have am:=yb (And.intro q0.len (And.intro q1.len q2.len))
   have aj:Hid (C=R.length):=yb k1
   have bp:Hid (R.length<=70):=yb af
   have hz:C<=140737488355328:=by have:=aj.o;have:=bp.o;omega
   have f0:=yb k3
   clear Z aq a0 a8 dx ae B q0 q1 q2 h1 h2 k1 k2 k3 af
   go_upto_region 23 with (first
    |(refine yj rfl 64 _ rfl bq (oq+i*23) rfl H _ fj.o qL rfl (BW (n:=23) (by kernel_rfl) ao.o) ?_)
    |(refine Aj rfl 64 _ _ rfl wr.heap.size rfl H rfl (World.alloc_heap_new _ _) (by rw[ao.o];rfl) (BW (n:=23) (by kernel_rfl) ao.o) ev.o ?_;intro S cb;have P:=yb cb;clear cb))
   clear hf a6
   have ag:=yb (AB P.o)
   have hx:S.cell? (aV wr.heap.size 0)=some (.string r):=Dt (row:=.string r::(.string j::iV m::(iV s::(c0++(c1++(c2++([.slice ta C tc]))))))) (by have h:=P.o.row;rw[a2.o] at h;exact h) (p:=[]) (q:=.string j::iV m::(iV s::(c0++(c1++(c2++([.slice ta C tc])))))) (by first|rfl|simp) (by simp)
   have e8:=yb (Ff (c:=[Value.string j,iV m]) (o:=1) (row:=.string r::(.string j::iV m::(iV s::(c0++(c1++(c2++([.slice ta C tc]))))))) (by have h:=P.o.row;rw[a2.o] at h;exact h) (p:=[.string r]) (q:=iV s::(c0++(c1++(c2++([.slice ta C tc]))))) (by first|rfl|simp) (by simp))
   have eu:S.cell? (aV wr.heap.size 3)=some (iV s):=Dt (row:=.string r::(.string j::iV m::(iV s::(c0++(c1++(c2++([.slice ta C tc]))))))) (by have h:=P.o.row;rw[a2.o] at h;exact h) (p:=[.string r,.string j,iV m]) (q:=c0++(c1++(c2++([.slice ta C tc])))) (by first|rfl|simp) (by simp)
   have Q:Hid (Below S.heap.size S (S.alloc (.cells #[iV 6,.string r,.string j,iV m,.string {data:=#[]},iV 0,iV s,.bool false] 125))):=yb ((yg _ _).alloc (ye _) _)
   have z:Hid (Below wr.heap.size wr (S.alloc (.cells #[iV 6,.string r,.string j,iV m,.string {data:=#[]},iV 0,iV s,.bool false] 125))):=yb ((ag.o).trans (Q.o.mono (ag.o).size))
   have A:=yb (e.o.own.up z.o)
   have G:Hid ((S.alloc (.cells #[iV 6,.string r,.string j,iV m,.string {data:=#[]},iV 0,iV s,.bool false] 125)).heap[S.heap.size]?=some (.cells (([(⟨6,r,⟨j,m⟩,GJ,s,false⟩:Pl)]:List Pl).flatMap Jn).toArray 125 (0,0))):=yb (World.alloc_heap_new S (.cells #[iV 6,.string r,.string j,iV m,.string {data:=#[]},iV 0,iV s,.bool false] 125))
   have g:Hid ((w.heap.size+1)<=(S.alloc (.cells #[iV 6,.string r,.string j,iV m,.string {data:=#[]},iV 0,iV s,.bool false] 125)).heap.size):=yb (yr e.o.size z.o.size)
   have M:Hid (u.length+1<=1000000):=yb (by omega)
   have ep:Hid (u.length<=10000):=yb O
   have a1:Hid (S.heap[wr.heap.size]?=some (.cells H.toArray 64 (0,0))):=yb P.o.row
   clear O
   go_wp2_with (first|(refine yj rfl 23 _ rfl wr.heap.size 1 rfl [.string j,iV m] _ e8.o qo rfl (by kernel_rfl) ?_)|(at_builtin;refine BK (w.heap.size+1) rfl _ _ rfl u3 u rfl A.o (S.heap.size) 1 1 [(⟨6,r,⟨j,m⟩,GJ,s,false⟩:Pl)] rfl rfl G.o M.o g.o ?_;intro g9 n5 c5 w5 y E;have da:=yb y;have du:Hid (Below (w.heap.size+1) wr w5):=yb (EC (z.o.mono e.o.size) g.o A.o E);have cq:=yb E;clear y E))
   have ab:Hid (w5.heap[wr.heap.size]?=some (.cells H.toArray 64 (0,0))):=yb ((LI A.o cq.o (c:=H.toArray) (t:=64) (by have h:=Q.o.block wr.heap.size (yf.1 a1.o).1;exact h.trans a1.o) (by decide)))
   obtain ⟨J,hJ⟩:∃J:Nat->Value->World->Prop,J=fun k v W=>Ps w cs W v (u++([(⟨6,r,⟨j,m⟩,GJ,s,false⟩:Pl)]++(R.take k).flatMap Gc))∧W.heap[wr.heap.size]?=some (.cells H.toArray 64 (0,0)):=⟨_,rfl⟩
   have HJ:=yb hJ
   have T:Hid (J 0 (.slice g9 n5 c5) w5):=yb (by rw[hJ];refine ⟨?_,ab.o⟩;simpa using e.o.next du.o da.o)
   have ib:Hid (Below w.heap.size w wr):=yb e.o.below
   clear hJ da du cq ab a1 Q z A G g M hx eu e8 P ag e
   obtain ⟨wo,rfl⟩:∃wo:World,wo=wr:=⟨_,rfl⟩
   go_loopw [3,11] (fun v3 kv wr=>∃k:Nat,kv=iV k∧k<=C∧Hid (J k v3 wr)) (fun _ kv _=>C - (intOf kv).toNat)
   case atStart=>exact ⟨0,rfl,yz _,T⟩
   case round=>
    clear T
    obtain ⟨k,rfl,hk,bs⟩:=hrel
    have V:Hid (Ps w cs wr u3 (u++([(⟨6,r,⟨j,m⟩,GJ,s,false⟩:Pl)]++(R.take k).flatMap Gc))∧wr.heap[wo.heap.size]?=some (.cells H.toArray 64 (0,0))):=yb (by have h:=bs.o;rw[HJ.o] at h;exact h)
    clear bs
    have hf:wr.cell? (aV wo.heap.size 22)=some (.slice ta C tc):=Dt (row:=.string r::(.string j::iV m::(iV s::(c0++(c1++(c2++([.slice ta C tc]))))))) (by have h:=V.o.2;rw[a2.o] at h;exact h) (p:=.string r::(.string j::iV m::(iV s::(c0++(c1++(c2)))))) (q:=[]) (by simp) (by simp[am.o.1,am.o.2.1,am.o.2.2])
    by_cases gh:k < C
    ·have ap:k < R.length:=by rw[<-aj.o];exact gh
     have a6:(k:Int) < (C:Int):=by omega
     obtain ⟨tb,tz,ic,he,a0,aq,Z,F⟩:=f0.o k ap
     obtain rfl:ta=some (aV tb tz):=he
     have O:(u++([(⟨6,r,⟨j,m⟩,GJ,s,false⟩:Pl)]++(R.take k).flatMap Gc)).length<=20000:=by
      have h1:=Cf (l:=R) (f:=Gc) (c:=1) (i:=k) (fun _ _=>by simp[Gc])
      have h2:=ep.o;have h3:=bp.o
      rw[ym,ym]
      simp only[yE,yI]
      omega
     have ah:Hid (u++([(⟨6,r,⟨j,m⟩,GJ,s,false⟩:Pl)]++(R.take (k+1)).flatMap Gc)=(u++([(⟨6,r,⟨j,m⟩,GJ,s,false⟩:Pl)]++(R.take k).flatMap Gc))++Gc R[k]):=yb (by rw[BF ap];simp only[yl])
     generalize hD:R[k]=D at F ah
     clear hD
     obtain ⟨⟨fn,fi⟩,de⟩:=D
     obtain ⟨hd,c,rfl,_⟩:=F
     have e:=yb V.o.1
     have g5:Hid (wr.rangeAt tb (tz+k*8) [.string fn,iV fi]):=yb (by
      have h:=A2 Z (e.o.below.block tb (HN.o tb a0))
      have h2:=AK (p:=[]) (c:=[Value.string fn,iV fi]) (q:=c) (by simpa[Ah] using h)
      simpa using h2)
     clear Z aq a0 ap hd
     obtain ⟨ac,U⟩:∃l:List Pl,l=u++([(⟨6,r,⟨j,m⟩,GJ,s,false⟩:Pl)]++(R.take k).flatMap Gc):=⟨_,rfl⟩
     rw[<-U] at e ah O
     clear U
     have Q:Hid (Below wr.heap.size wr (wr.alloc (.cells #[iV 7,.string {data:=#[]},.string fn,iV fi,.string {data:=#[]},iV 0,iV 0,.bool false] 125))):=yb ((yg _ _).alloc (ye _) _)
     have z:Hid (Below wr.heap.size wr (wr.alloc (.cells #[iV 7,.string {data:=#[]},.string fn,iV fi,.string {data:=#[]},iV 0,iV 0,.bool false] 125))):=yb ((yg wr.heap.size wr).trans (Q.o.mono (yg wr.heap.size wr).size))
     have A:=yb (e.o.own.up z.o)
     have G:Hid ((wr.alloc (.cells #[iV 7,.string {data:=#[]},.string fn,iV fi,.string {data:=#[]},iV 0,iV 0,.bool false] 125)).heap[wr.heap.size]?=some (.cells (([(⟨7,{data:=#[]},⟨fn,fi⟩,GJ,0,false⟩:Pl)]:List Pl).flatMap Jn).toArray 125 (0,0))):=yb (World.alloc_heap_new wr (.cells #[iV 7,.string {data:=#[]},.string fn,iV fi,.string {data:=#[]},iV 0,iV 0,.bool false] 125))
     have g:Hid ((w.heap.size+1)<=(wr.alloc (.cells #[iV 7,.string {data:=#[]},.string fn,iV fi,.string {data:=#[]},iV 0,iV 0,.bool false] 125)).heap.size):=yb (yr e.o.size z.o.size)
     have M:Hid (ac.length+1<=1000000):=yb (by omega)
     clear O
     go_wp2_with (first|(refine yj rfl 23 _ rfl tb (tz+k*8) rfl [.string fn,iV fi] _ g5.o qo rfl (by kernel_rfl) ?_)|(at_builtin;refine BK (w.heap.size+1) rfl _ _ rfl u3 ac rfl A.o (wr.heap.size) 1 1 [(⟨7,{data:=#[]},⟨fn,fi⟩,GJ,0,false⟩:Pl)] rfl rfl G.o M.o g.o ?_;intro fh n6 c6 w6 y E;have gs:=yb y;have ht:Hid (Below (w.heap.size+1) wr w6):=yb (EC (z.o.mono e.o.size) g.o A.o E);have ee:=yb E;clear y E))
     have hu:Hid (J (k+1) (.slice fh n6 c6) w6):=yb (by
      rw[HJ.o]
      refine ⟨?_,LI A.o ee.o (c:=H.toArray) (t:=64) ((Q.o.block wo.heap.size (yf.1 V.o.2).1).trans V.o.2) (by decide)⟩
      show Ps w cs w6 _ (u++([(⟨6,r,⟨j,m⟩,GJ,s,false⟩:Pl)]++(R.take (k+1)).flatMap Gc))
      rw[ah.o]
      exact e.o.next ht.o gs.o)
     exact ⟨⟨k+1,by push_cast;rfl,by omega,hu⟩,by simp[intOf];omega⟩
    ·obtain rfl:k=C:=by omega
     have a6:decide ((k:Int) < (k:Int))=false:=by simp
     have ei:Hid (I (i+1) u3 wr):=yb (by
      rw[HI.o]
      show Ps w cs wr u3 (QH x++(x.rots.take (i+1)).flatMap Iu)
      rw[ad.o]
      have h:=V.o.1
      rw[aj.o,yw] at h
      exact h)
     go_wp2
     exact ⟨⟨i+1,by push_cast;rfl,by omega,ei⟩,by simp[intOf];omega⟩
  ·obtain rfl:i=n:=by omega
   have a6:decide ((i:Int) < (i:Int))=false:=by simp
   have fl:Hid (Ps w cs wr u3 (QH x++x.rots.flatMap Iu)):=yb (by
    have h:=e.o
    rw[ak.o,yw] at h
    exact h)
   clear e
   go_wp2
   exact hK.o _ _ (To HV.o HN.o a7.o fl.o)
theorem Mu{o:Oper}{a:Act}{K:Act->World->Prop}{Q:QT}{W:World}(B:Nat)(s x:Operand)(J:o.op=.call {callee:=.builtin .append,args:=#[s,x],argTypes:=#[122,122]})
 (v:Value)(l:List Pl)(hs:a.eval s=v)(p:EA B W v l)(g m c:Nat)(d:List Pl)(D:a.eval x=.slice (some ⟨g,0,none⟩) m c)(H:m=d.length)(I:W.heap[g]?=some (.cells (d.flatMap Jn).toArray 125 (0,0)))
 (t:l.length+d.length<=1000000)(k:B<=W.heap.size)
 (h:∀(w:Option Addr) (n c:Nat) w',EA B w' (.slice w n c) (l++d)->W.grownBy w' v.ownBlock->K (a.put o.dst (.slice w n c)) w'):Oper.wp Try.prog o a W K Q:=by
 subst H
 have h0:((Try.prog.info? 125).bind fun i=>i.zero.map fun z=>(i.size,z.cells.size,i.bytes))=some (8,8,88):=by kernel_rfl
 cases f:Try.prog.info? 125 with
 |none=>rw[f] at h0;cases h0
 |some i0=>
  rw[f] at h0
  cases r:i0.zero with
  |none=>simp[r] at h0
  |some z=>
  simp only[r,xE,xL,yV,zq] at h0
  obtain ⟨A,C,G⟩:=h0
  have e:∀j u,(d.flatMap Jn)[j]?=some u->W.cell? (((aV g 0):Addr).add j)=some u:=fun j u F=>by
   rw[zy]
   simp only[World.cell?,I]
   simpa using F
  refine qg W s x 122 J B 125 i0 z 8 88 qj f r A G C (by decide) v l.length _ hs p (aV g 0) d.length c (d.flatMap Jn) D (Iv d).1 e (Iv d).2 (by unfold maxLen;omega) (by omega) k ?_
  intro v' w' b q _
  obtain ⟨va,E,y,rfl⟩:=Cz b
  exact (h va E y w' (by unfold EA;rw[ym,zB];exact b) q)
theorem Tq{N:NP}{w W:World}{cs:LV}{x:An}{L:Bh}{v u0 u2 u4 u5 u6 u7 u8 u9 gk f0 gv ee gl e3 dp fj fb ge f5 et f9 fm e4 gc ec e8 gd dr f3 gm fq g5 gs ez eo ea fe g8 eb e5 fh en ef f1 ei g9 eg ed dv fo f2 ff ev gt g3 gj em gr ek dx dw dt fy ft gi fc fv dy fu g6 gh el e6 eq fg fz f6 ep fk gg eu gu f7 fx gn fa gq e9 dz ey er g4 fs go fw dq dm f4 d8 ao ce b9 d2 cf d3 bg cq cm bb U ck X bp ab bo b5 cc au aa ar T ag ap cj a6 ae db c9 dl d9 bw da ay ah av aj dc dd Z aw df dg af dj cr c6 b3 cw bd c4 cg ci di a7 cn d5 cy bj ac dk cz dh d6 bm R d7 ax cb a1 az b7 bz bk ad cv am d4 cl c7 ak V cx c3 cp al ba cd ch:Value}(hv:B8 N w L cs x)(hN:∀b,N b->b < w.heap.size)(A:Fw x)(hP:Ps w cs W v (QG x)):
  Code.wp Try.prog (CP 5 (Try.f62.body.getD .skip)) (bodyPost Try.prog Try.f62 (Gt w (Ck x))) {tmps:=#[u0,.pointer (some ⟨w.heap.size,0,none⟩),u2,v,u4,u5,u6,u7,u8,u9,gk,f0,gv,ee,gl,e3,dp,fj,fb,ge,f5,et,f9,fm,e4,gc,ec,e8,gd,dr,f3,gm,fq,g5,gs,ez,eo,ea,fe,g8,eb,e5,fh,en,ef,f1,ei,g9,eg,ed,dv,fo,f2,ff,ev,gt,g3,gj,em,gr,ek,dx,dw,dt,fy,ft,gi,fc,fv,dy,fu,g6,gh,el,e6,eq,fg,fz,f6,ep,fk,gg,eu,gu,f7,fx,gn,fa,gq,e9,dz,ey,er,g4,fs,go,fw,dq,dm,f4,d8,ao,ce,b9,d2,cf,d3,bg,cq,cm,bb,U,ck,X,bp,ab,bo,b5,cc,au,aa,ar,T,ag,ap,cj,a6,ae,db,c9,dl,d9,bw,da,ay,ah,av,aj,dc,dd,Z,aw,df,dg,af,dj,cr,c6,b3,cw,bd,c4,cg,ci,di,a7,cn,d5,cy,bj,ac,dk,cz,dh,d6,bm,R,d7,ax,cb,a1,az,b7,bz,bk,ad,cv,am,d4,cl,c7,ak,V,cx,c3,cp,al,ba,cd,ch],defers:=[]} W:=by
 obtain ⟨⟨a,n,c⟩,hL⟩:∃h:Av,L.farms=h:=⟨_,rfl⟩
 obtain ⟨s0,s1,s2,be,g0,g1,g2⟩:=hv.cells
 have H:Hid (∀(W:World) (v:Value) (l:List Pl),Ps w cs W v l->W.cell? (aV w.heap.size 22)=some (.slice a n c)):=yb (by
  intro W v l h
  refine h.cell (p:=.string x.name::(s0++(s1++(s2++[L.lets.v,L.crops.v,L.reaches.v])))) (q:=[L.rots.v,L.rights.v,L.duties.v]) ?_ (by simp[g0.len,g1.len,g2.len])
  rw[be,hL]
  simp[yl,Av.v])
 have J:Az N w 12 (DE N w) ⟨a,n,c⟩ x.farms:=hL▸hv.farms
 have gf:=yb J.2.2
 have G:Hid (n=x.farms.length):=yb J.1
 clear J
 have fl:Hid (x.farms.length<=1000):=yb (by have:=A.farms;omega)
 have b4:Hid (n<=140737488355328):=yb (by have:=G.o;have:=fl.o;omega)
 have HV:=yb hv
 have HN:=yb hN
 have Y:=yb A
 have fd:=yb (Gs A)
 obtain ⟨I,hI⟩:∃I:Nat->Value->World->Prop,I=fun i v wr=>Ps w cs wr v (QG x++(x.farms.take i).flatMap Fz):=⟨_,rfl⟩
 have HI:=yb hI
 have d1:Hid (I 0 v W):=yb (by rw[hI];simpa using hP)
 clear hv hN A hP hL be g0 g1 g2 hI
 refine Ag fun K hK=>?_
 go_wp2
 go_loopw [3,7] (fun v3 iv wr=>∃i:Nat,iv=iV i∧i<=n∧Hid (I i v3 wr)) (fun _ iv _=>n - (intOf iv).toNat)
 case atStart=>exact ⟨0,rfl,yz _,d1⟩
 case round=>
  clear d1
  obtain ⟨i,rfl,hi,bs⟩:=hrel
  have d:Hid (Ps w cs wr u3 (QG x++(x.farms.take i).flatMap Fz)):=yb (by have h:=bs.o;rw[HI.o] at h;exact h)
  clear bs
  have hf:=H.o _ _ _ d.o
  have gw:n<=140737488355328:=b4.o
  by_cases ew:i < n
  ·have F:i < x.farms.length:=by rw[<-G.o];exact ew
   have aq:(i:Int) < (n:Int):=by omega
   obtain ⟨S,oq,B,he,bu,gp,b8,E⟩:=gf.o i F
   obtain rfl:a=some (aV S oq):=he
   have cu:(QG x++(x.farms.take i).flatMap Fz).length<=10000:=by
    have h1:=Cf (l:=x.farms) (f:=Fz) (c:=1) (i:=i) (fun _ _=>by simp[Fz])
    have h2:=fd.o.p4;have h3:=Y.o.farms
    rw[ym]
    omega
   have M:Hid (QG x++(x.farms.take (i+1)).flatMap Fz=(QG x++(x.farms.take i).flatMap Fz)++Fz x.farms[i]):=yb (by rw[BF F,yl])
   generalize hD:x.farms[i]=D at E M
   clear hD
   generalize bt:QG x++(x.farms.take i).flatMap Fz=co at M d cu
   clear bt
   have bv:=A2 b8 (d.o.below.block S (HN.o S bu))
   have Q:=Ir E
   obtain ⟨r,⟨e,m⟩,s,de,⟨g,j⟩⟩:=D
   obtain ⟨h1,h2,h3,c,rfl,hx⟩:=E
   obtain ⟨B,k⟩:∃B:LV,B=.string r::(.string e::iV m::(.bool s::(c++([.string g,iV j])))):=⟨_,rfl⟩
   have eh:Hid (wr.rangeAt S (oq+i*12) B):=yb (by rw[k];simpa[Ah] using bv)
   have P:Hid (B.length=12):=yb (by rw[k];simpa[Ah] using Q.1)
   have fi:Hid (∀v∈B,v.oneCell'=true):=yb (by rw[k];simpa[Ah] using Q.2)
   have fp:=yb hx.len
   have z:=yb k
   clear b8 gp bu F bv Q k hx h1 h2 h3
   go_upto_region 18 with (first
    |(refine yj rfl 59 _ rfl S (oq+i*12) rfl B _ eh.o qJ rfl (BW (n:=12) (by kernel_rfl) P.o) ?_)
    |(refine Aj rfl 59 _ _ rfl wr.heap.size rfl B rfl (World.alloc_heap_new _ _) (by rw[P.o];rfl) (BW (n:=12) (by kernel_rfl) P.o) fi.o ?_;intro t c8;have u:=yb c8;clear c8))
   clear hf aq
   have bh:=yb (AB u.o)
   have gx:t.cell? (aV wr.heap.size 0)=some (.string r):=Dt (row:=.string r::(.string e::iV m::(.bool s::(c++([.string g,iV j]))))) (by have h:=u.o.row;rw[z.o] at h;exact h) (p:=[]) (q:=.string e::iV m::(.bool s::(c++([.string g,iV j])))) (by first|rfl|simp) (by simp)
   have ga:=yb (Ff (c:=[Value.string e,iV m]) (o:=1) (row:=.string r::(.string e::iV m::(.bool s::(c++([.string g,iV j]))))) (by have h:=u.o.row;rw[z.o] at h;exact h) (p:=[.string r]) (q:=.bool s::(c++([.string g,iV j]))) (by first|rfl|simp) (by simp))
   have gy:t.cell? (aV wr.heap.size 3)=some (.bool s):=Dt (row:=.string r::(.string e::iV m::(.bool s::(c++([.string g,iV j]))))) (by have h:=u.o.row;rw[z.o] at h;exact h) (p:=.string r::([.string e,iV m])) (q:=c++([.string g,iV j])) (by first|rfl|simp) (by simp)
   have a8:=yb (Ff (c:=[Value.string g,iV j]) (o:=10) (row:=.string r::(.string e::iV m::(.bool s::(c++([.string g,iV j]))))) (by have h:=u.o.row;rw[z.o] at h;exact h) (p:=.string r::(.string e::iV m::(.bool s::(c)))) (q:=[]) (by first|rfl|simp) (by simp[fp.o]))
   have du:Hid (Below t.heap.size t (t.alloc (.cells #[iV 5,.string r,.string e,iV m,.string g,iV j,iV 0,.bool s] 125))):=yb ((yg _ _).alloc (ye _) _)
   have O:Hid (Below wr.heap.size wr (t.alloc (.cells #[iV 5,.string r,.string e,iV m,.string g,iV j,iV 0,.bool s] 125))):=yb ((bh.o).trans (du.o.mono (bh.o).size))
   have d0:=yb (d.o.own.up O.o)
   have a2:Hid ((t.alloc (.cells #[iV 5,.string r,.string e,iV m,.string g,iV j,iV 0,.bool s] 125)).heap[t.heap.size]?=some (.cells (([(⟨5,r,⟨e,m⟩,⟨g,j⟩,0,s⟩:Pl)]:List Pl).flatMap Jn).toArray 125 (0,0))):=yb (World.alloc_heap_new t (.cells #[iV 5,.string r,.string e,iV m,.string g,iV j,iV 0,.bool s] 125))
   have y:Hid ((w.heap.size+1)<=(t.alloc (.cells #[iV 5,.string r,.string e,iV m,.string g,iV j,iV 0,.bool s] 125)).heap.size):=yb (yr d.o.size O.o.size)
   have a0:Hid (co.length+1<=1000000):=yb (by omega)
   clear cu
   go_wp2_with (first|(refine yj rfl 23 _ rfl wr.heap.size 1 rfl [.string e,iV m] _ ga.o qo rfl (by kernel_rfl) ?_)|(refine yj rfl 23 _ rfl wr.heap.size 10 rfl [.string g,iV j] _ a8.o qo rfl (by kernel_rfl) ?_)|(at_builtin;refine BK (w.heap.size+1) rfl _ _ rfl u3 co rfl d0.o (t.heap.size) 1 1 [(⟨5,r,⟨e,m⟩,⟨g,j⟩,0,s⟩:Pl)] rfl rfl a2.o a0.o y.o ?_;intro gb n5 c5 w5 C ca;have g7:=yb C;have f8:Hid (Below (w.heap.size+1) wr w5):=yb (EC (O.o.mono d.o.size) y.o d0.o ca);clear C ca))
   have e7:Hid (I (i+1) (.slice gb n5 c5) w5):=yb (by rw[HI.o];show Ps w cs w5 _ (QG x++(x.farms.take (i+1)).flatMap Fz);rw[M.o];exact d.o.next f8.o g7.o)
   exact ⟨⟨i+1,by push_cast;rfl,by omega,e7⟩,by simp[intOf];omega⟩
  ·obtain rfl:i=n:=by omega
   have aq:decide ((i:Int) < (i:Int))=false:=by simp
   have ej:Hid (Ps w cs wr u3 (QG x++x.farms.flatMap Fz)):=yb (by
    have h:=d.o
    rw[G.o,yw] at h
    exact h)
   clear d
   go_wp2
   exact hK.o _ _ (Tp HV.o HN.o Y.o ej.o)
theorem Tr{N:NP}{w W:World}{cs:LV}{x:An}{L:Bh}{v u0 u2 u4 u5 u6 u7 u8 u9 gh f0 gs ee gi du dh fi fa gb f5 et f8 fl dv g9 eb dz ga dj f3 gj fo g3 gp ez eo e9 fd g6 ea dw fh en ef f1 eh g7 eg ec dm fm f2 fe ev gq fy gg em go ej dq dp dk fw fq gf fb ft dr fs g4 ge ek dx eq ff fx f6 ep fj gd eu gr f7 fv gl f9 gn e8 dt ey er fz fp gk fu di dg f4 d2 ah c8 az cw ca cv b8 cj cg b4 O ce Q be a1 bg aw bw al a0 ak M aa aj cd Y a7 d4 bt de d1 bk d3 aq ab am ac d5 d6 S ao d7 d8 a8 dc ck bp au co b5 bo cb cc db Z ch cy cq b9 a2 dd cp d9 cz bb J d0 ap bv U ar ax bm ba a6 cm ag cx cf bs ae P cn bn c9 af b3 bz da:Value}(hv:B8 N w L cs x)(hN:∀b,N b->b < w.heap.size)(y:Fw x)(hP:Ps w cs W v (QF x)):
  Code.wp Try.prog (CP 4 (Try.f62.body.getD .skip)) (bodyPost Try.prog Try.f62 (Gt w (Ck x))) {tmps:=#[u0,.pointer (some ⟨w.heap.size,0,none⟩),u2,v,u4,u5,u6,u7,u8,u9,gh,f0,gs,ee,gi,du,dh,fi,fa,gb,f5,et,f8,fl,dv,g9,eb,dz,ga,dj,f3,gj,fo,g3,gp,ez,eo,e9,fd,g6,ea,dw,fh,en,ef,f1,eh,g7,eg,ec,dm,fm,f2,fe,ev,gq,fy,gg,em,go,ej,dq,dp,dk,fw,fq,gf,fb,ft,dr,fs,g4,ge,ek,dx,eq,ff,fx,f6,ep,fj,gd,eu,gr,f7,fv,gl,f9,gn,e8,dt,ey,er,fz,fp,gk,fu,di,dg,f4,d2,ah,c8,az,cw,ca,cv,b8,cj,cg,b4,O,ce,Q,be,a1,bg,aw,bw,al,a0,ak,M,aa,aj,cd,Y,a7,d4,bt,de,d1,bk,d3,aq,ab,am,ac,d5,d6,S,ao,d7,d8,a8,dc,ck,bp,au,co,b5,bo,cb,cc,db,Z,ch,cy,cq,b9,a2,dd,cp,d9,cz,bb,J,d0,ap,bv,U,ar,ax,bm,ba,a6,cm,ag,cx,cf,bs,ae,P,cn,bn,c9,af,b3,bz,da],defers:=[]} W:=by
 obtain ⟨⟨a,n,c⟩,hL⟩:∃h:Av,L.reaches=h:=⟨_,rfl⟩
 obtain ⟨s0,s1,s2,b7,g0,g1,g2⟩:=hv.cells
 have E:Hid (∀(W:World) (v:Value) (l:List Pl),Ps w cs W v l->W.cell? (aV w.heap.size 21)=some (.slice a n c)):=yb (by
  intro W v l h
  refine h.cell (p:=.string x.name::(s0++(s1++(s2++[L.lets.v,L.crops.v])))) (q:=[L.farms.v,L.rots.v,L.rights.v,L.duties.v]) ?_ (by simp[g0.len,g1.len,g2.len])
  rw[b7,hL]
  simp[yl,Av.v])
 have G:Az N w 51 (CG N w) ⟨a,n,c⟩ x.reaches:=hL▸hv.reaches
 have gc:=yb G.2.2
 have C:Hid (n=x.reaches.length):=yb G.1
 clear G
 have fk:Hid (x.reaches.length<=1000):=yb (by have:=y.reaches;omega)
 have av:Hid (n<=140737488355328):=yb (by have:=C.o;have:=fk.o;omega)
 have HV:=yb hv
 have HN:=yb hN
 have R:=yb y
 have fc:=yb (Gs y)
 obtain ⟨I,hI⟩:∃I:Nat->Value->World->Prop,I=fun i v wr=>Ps w cs wr v (QF x++(x.reaches.take i).flatMap DU):=⟨_,rfl⟩
 have HI:=yb hI
 have cu:Hid (I 0 v W):=yb (by rw[hI];simpa using hP)
 clear hv hN y hP hL b7 g0 g1 g2 hI
 refine Ag fun K t=>?_
 go_wp2
 go_loopw [3,6] (fun v3 iv wr=>∃i:Nat,iv=iV i∧i<=n∧Hid (I i v3 wr)) (fun _ iv _=>n - (intOf iv).toNat)
 case atStart=>exact ⟨0,rfl,yz _,cu⟩
 case round=>
  clear cu
  obtain ⟨i,rfl,hi,bh⟩:=hrel
  have e:Hid (Ps w cs wr u3 (QF x++(x.reaches.take i).flatMap DU)):=yb (by have h:=bh.o;rw[HI.o] at h;exact h)
  clear bh
  have hf:=E.o _ _ _ e.o
  have gt:n<=140737488355328:=av.o
  by_cases ew:i < n
  ·have B:i < x.reaches.length:=by rw[<-C.o];exact ew
   have el:(i:Int) < (n:Int):=by omega
   obtain ⟨g,j,ct,he,bj,gm,ay,ad⟩:=gc.o i B
   obtain rfl:a=some (aV g j):=he
   have cl:(QF x++(x.reaches.take i).flatMap DU).length<=10000:=by
    have h1:=Cf (l:=x.reaches) (f:=DU) (c:=1) (i:=i) (fun _ _=>by simp[DU])
    have h2:=fc.o.p3;have h3:=R.o.reaches
    rw[ym]
    omega
   have H:Hid (QF x++(x.reaches.take (i+1)).flatMap DU=(QF x++(x.reaches.take i).flatMap DU)++DU x.reaches[i]):=yb (by rw[BF B,yl])
   generalize hD:x.reaches[i]=D at ad H
   clear hD
   generalize bi:QF x++(x.reaches.take i).flatMap DU=ci at H e cl
   clear bi
   have F:=A2 ay (e.o.below.block g (HN.o g bj))
   obtain ⟨m,⟨k,r⟩,e0,e1,e2,e3,e4,e5,e6,e7⟩:=D
   obtain ⟨gu,hdr,c0,c1,c2,c3,c4,c5,c6,c7,rfl,_⟩:=ad
   have ed:wr.cell? (aV g (j+i*51))=some (.string m):=by simpa using Mt (p:=[]) F
   have fg:Hid (wr.rangeAt g (j+i*51+1) (Ah ⟨k,r⟩)):=yb (AK (p:=[Value.string m]) (c:=Ah ⟨k,r⟩) F)
   clear ay gm B F
   go_upto_region 13 with fail
   have d:Hid (Below (w.heap.size+1) wr wr.drew):=yb ((yg _ _).drew)
   have df:Hid (g < w.heap.size):=yb (HN.o g bj)
   refine wp_region_noPanic ?_
   refine BT (by kernel_rfl) (fun V=>Below (w.heap.size+1) wr V) 16 ?_
   have dl:Hid (Below wr.drew.heap.size wr.drew (wr.drew.alloc (.cells #[iV 4,.string m,.string k,iV r,.string {data:=#[]},iV 0,iV 0,.bool false] 125))):=yb ((yg _ _).alloc (ye _) _)
   have z:Hid (Below wr.heap.size wr (wr.drew.alloc (.cells #[iV 4,.string m,.string k,iV r,.string {data:=#[]},iV 0,iV 0,.bool false] 125))):=yb (((yg wr.heap.size wr).drew).trans (dl.o.mono ((yg wr.heap.size wr).drew).size))
   have cr:=yb (e.o.own.up z.o)
   have X:Hid ((wr.drew.alloc (.cells #[iV 4,.string m,.string k,iV r,.string {data:=#[]},iV 0,iV 0,.bool false] 125)).heap[wr.drew.heap.size]?=some (.cells (([(⟨4,m,⟨k,r⟩,GJ,0,false⟩:Pl)]:List Pl).flatMap Jn).toArray 125 (0,0))):=yb (World.alloc_heap_new wr.drew (.cells #[iV 4,.string m,.string k,iV r,.string {data:=#[]},iV 0,iV 0,.bool false] 125))
   have s:Hid ((w.heap.size+1)<=(wr.drew.alloc (.cells #[iV 4,.string m,.string k,iV r,.string {data:=#[]},iV 0,iV 0,.bool false] 125)).heap.size):=yb (yr e.o.size z.o.size)
   have T:Hid (ci.length+1<=1000000):=yb (by omega)
   clear cl
   refine A0 (i:=0) (v:=u3) rfl (by kernel_rfl) (by kernel_rfl) (by kernel_rfl) (fun _ _ _ h=>h) (by kernel_rfl) (Or.inl ⟨by rfl,?_⟩) (fun _=>d.o) ?_
   ·intro w _;go_simp
   refine A0 (i:=1) (v:=pV w.heap.size 21) rfl (by kernel_rfl) (by kernel_rfl) (by kernel_rfl) (fun _ _ _ h=>h) (by kernel_rfl) (Or.inl ⟨by rfl,?_⟩) (fun _=>d.o) ?_
   ·intro w _;go_simp
   refine Ae (i:=2) (v:=.slice (some (aV g j)) n c) rfl (by kernel_rfl) (by kernel_rfl) (by kernel_rfl) (fun _ _ _ h=>h) (by kernel_rfl) (Or.inl ⟨by rfl,?_⟩) d.o ?_
   ·intro W u
    have hc:W.cell? (aV w.heap.size 21)=some (.slice (some (aV g j)) n c):=(u.cell (p:=(aV w.heap.size 21)) (by simp)).trans hf
    clear u
    go_simp
   refine A0 (i:=3) (v:=iV i) rfl (by kernel_rfl) (by kernel_rfl) (by kernel_rfl) (fun _ _ _ h=>h) (by kernel_rfl) (Or.inl ⟨by rfl,?_⟩) (fun _=>d.o) ?_
   ·intro w _;go_simp
   refine A0 (i:=4) (v:=pV g (j+i*51)) rfl (by kernel_rfl) (by kernel_rfl) (by kernel_rfl) (fun _ _ _ h=>h) (by kernel_rfl) (Or.inl ⟨by rfl,?_⟩) (fun _=>d.o) ?_
   ·intro w _;go_simp
   refine A0 (i:=5) (v:=pV g (j+i*51)) rfl (by kernel_rfl) (by kernel_rfl) (by kernel_rfl) (fun _ _ _ h=>h) (by kernel_rfl) (Or.inl ⟨by rfl,?_⟩) (fun _=>d.o) ?_
   ·intro w _;go_simp
   refine Ae (i:=6) (v:=.string m) rfl (by kernel_rfl) (by kernel_rfl) (by kernel_rfl) (fun _ _ _ h=>h) (by kernel_rfl) (Or.inl ⟨by rfl,?_⟩) d.o ?_
   ·intro W u
    have hc:W.cell? (aV g (j+i*51))=some (.string m):=(u.cell (p:=(aV g (j+i*51))) (by have:=df.o;simp only;omega)).trans ed
    clear u
    go_simp
   refine A0 (i:=7) (v:=pV w.heap.size 21) rfl (by kernel_rfl) (by kernel_rfl) (by kernel_rfl) (fun _ _ _ h=>h) (by kernel_rfl) (Or.inl ⟨by rfl,?_⟩) (fun _=>d.o) ?_
   ·intro w _;go_simp
   refine Ae (i:=8) (v:=.slice (some (aV g j)) n c) rfl (by kernel_rfl) (by kernel_rfl) (by kernel_rfl) (fun _ _ _ h=>h) (by kernel_rfl) (Or.inl ⟨by rfl,?_⟩) d.o ?_
   ·intro W u
    have hc:W.cell? (aV w.heap.size 21)=some (.slice (some (aV g j)) n c):=(u.cell (p:=(aV w.heap.size 21)) (by simp)).trans hf
    clear u
    go_simp
   refine A0 (i:=9) (v:=iV i) rfl (by kernel_rfl) (by kernel_rfl) (by kernel_rfl) (fun _ _ _ h=>h) (by kernel_rfl) (Or.inl ⟨by rfl,?_⟩) (fun _=>d.o) ?_
   ·intro w _;go_simp
   refine A0 (i:=10) (v:=pV g (j+i*51)) rfl (by kernel_rfl) (by kernel_rfl) (by kernel_rfl) (fun _ _ _ h=>h) (by kernel_rfl) (Or.inl ⟨by rfl,?_⟩) (fun _=>d.o) ?_
   ·intro w _;go_simp
   refine A0 (i:=11) (v:=pV g (j+i*51+1)) rfl (by kernel_rfl) (by kernel_rfl) (by kernel_rfl) (fun _ _ _ h=>h) (by kernel_rfl) (Or.inl ⟨by rfl,?_⟩) (fun _=>d.o) ?_
   ·intro w _;go_simp
   refine Ae (i:=12) (v:=.agg (Ah ⟨k,r⟩).toArray) rfl (by kernel_rfl) (by kernel_rfl) (by kernel_rfl) (fun _ _ _ h=>h) (by kernel_rfl) (yK (by rfl) 23 _ rfl (g) (j+i*51+1) (by kernel_rfl) (Ah ⟨k,r⟩) _ (fun W u=>A2 fg.o (u.block g (Nat.lt_succ_of_lt df.o))) qo rfl (Un _)) d.o ?_
   refine A0 (i:=13) (v:=.agg #[iV 4,.string m,.string k,iV r,.string {data:=#[]},iV 0,iV 0,.bool false]) rfl (by kernel_rfl) (by kernel_rfl) (by kernel_rfl) (fun _ _ _ h=>h) (by kernel_rfl) (Or.inl ⟨by rfl,?_⟩) (fun _=>d.o) ?_
   ·intro w _;simp only[Ah];go_simp
   refine A3 (i:=14) (by kernel_rfl) rfl (fun K t=>?_)
   go_simp
   refine t.o _ _ (fun _=>z.o.mono e.o.size) ?_
   clear t K
   refine A3 (i:=15) (by kernel_rfl) rfl (fun K t=>?_)
   rw[yx (by rfl)]
   refine Mu (w.heap.size+1) _ _ rfl u3 ci rfl cr.o wr.drew.heap.size 1 1 [(⟨4,m,⟨k,r⟩,GJ,0,false⟩:Pl)] rfl rfl X.o T.o s.o ?_
   intro g8 n5 c5 w5 A bu
   have g5:=yb A
   have bd:Hid (Below (w.heap.size+1) wr w5):=yb (EC (z.o.mono e.o.size) s.o cr.o bu)
   refine t.o _ _ (fun _=>bd.o) ?_
   clear t K A bu
   refine A3 (i:=16) (by kernel_rfl) rfl (fun K t=>?_)
   go_simp
   refine t.o _ _ (by intro h;cases h) ?_
   clear t K
   refine BS (by kernel_rfl) ?_
   refine NoPanic.normal ?_
   go_wp2
   have dy:Hid (I (i+1) (.slice g8 n5 c5) w5):=yb (by rw[HI.o];show Ps w cs w5 _ (QF x++(x.reaches.take (i+1)).flatMap DU);rw[H.o];exact e.o.next bd.o g5.o)
   exact ⟨⟨i+1,by push_cast;rfl,by omega,dy⟩,by simp[intOf];omega⟩
  ·obtain rfl:i=n:=by omega
   have el:decide ((i:Int) < (i:Int))=false:=by simp
   have ei:Hid (Ps w cs wr u3 (QF x++x.reaches.flatMap DU)):=yb (by
    have h:=e.o
    rw[C.o,yw] at h
    exact h)
   clear e
   go_wp2
   exact t.o _ _ (Tq HV.o HN.o R.o ei.o)
theorem Ts{N:NP}{w W:World}{cs:LV}{x:An}{L:Bh}{v u0 u2 u4 u5 u6 u7 u8 u9 ft ed g7 dm fu db d1 ew eo fl ei e7 em f0 dc fj dk dg fk d3 eg fv f2 fd g4 ec e3 di er fg dj dd ev dz dp ee dr fh dq dl d6 f1 ef et e9 g5 fb fs dy g3 du d8 d7 d4 f9 f4 fq ep f6 d9 f5 fe fp dw de e5 eu fa ej e4 ey fo e8 g6 ek f8 fx en fz dh da eb e6 fc f3 fw f7 d2 d0 eh cm a7 bk am cg bn cf ar c4 bw ao B bu E ay R ax aj bi ab Q aa A X a8 bt O U co be cz cl b7 cn af Y ac Z cp cq G ad cr cu V cx c6 bb ah ca ap ba bo bs cw P bz ci cc au S cy cb cv cj aw z ck ae bh J ag ak b8 av T c8 a6 ch bv bd a1 C c9 b9 bm a2 an bj bp:Value}(hv:B8 N w L cs x)(hN:∀b,N b->b < w.heap.size)(g:Fw x)(hP:Ps w cs W v (QE x)):
  Code.wp Try.prog (CP 3 (Try.f62.body.getD .skip)) (bodyPost Try.prog Try.f62 (Gt w (Ck x))) {tmps:=#[u0,.pointer (some ⟨w.heap.size,0,none⟩),u2,v,u4,u5,u6,u7,u8,u9,ft,ed,g7,dm,fu,db,d1,ew,eo,fl,ei,e7,em,f0,dc,fj,dk,dg,fk,d3,eg,fv,f2,fd,g4,ec,e3,di,er,fg,dj,dd,ev,dz,dp,ee,dr,fh,dq,dl,d6,f1,ef,et,e9,g5,fb,fs,dy,g3,du,d8,d7,d4,f9,f4,fq,ep,f6,d9,f5,fe,fp,dw,de,e5,eu,fa,ej,e4,ey,fo,e8,g6,ek,f8,fx,en,fz,dh,da,eb,e6,fc,f3,fw,f7,d2,d0,eh,cm,a7,bk,am,cg,bn,cf,ar,c4,bw,ao,B,bu,E,ay,R,ax,aj,bi,ab,Q,aa,A,X,a8,bt,O,U,co,be,cz,cl,b7,cn,af,Y,ac,Z,cp,cq,G,ad,cr,cu,V,cx,c6,bb,ah,ca,ap,ba,bo,bs,cw,P,bz,ci,cc,au,S,cy,cb,cv,cj,aw,z,ck,ae,bh,J,ag,ak,b8,av,T,c8,a6,ch,bv,bd,a1,C,c9,b9,bm,a2,an,bj,bp],defers:=[]} W:=by
 obtain ⟨⟨a,n,c⟩,hL⟩:∃h:Av,L.crops=h:=⟨_,rfl⟩
 obtain ⟨s0,s1,s2,aq,g0,g1,g2⟩:=hv.cells
 have s:Hid (∀(W:World) (v:Value) (l:List Pl),Ps w cs W v l->W.cell? ⟨w.heap.size,20,none⟩=some (.slice a n c)):=yb (by
  intro W v l h
  refine h.cell (p:=.string x.name::(s0++(s1++(s2++[L.lets.v])))) (q:=[L.reaches.v,L.farms.v,L.rots.v,L.rights.v,L.duties.v]) ?_ (by simp[g0.len,g1.len,g2.len])
  rw[aq,hL]
  simp[yl,Av.v])
 have t:Az N w 7 (Dq N w) ⟨a,n,c⟩ x.crops:=hL▸hv.crops
 have fm:=yb t.2.2
 have r:Hid (n=x.crops.length):=yb t.1
 clear t
 have ez:Hid (x.crops.length<=1000):=yb (by have:=g.crops;omega)
 have ai:Hid (n<=140737488355328):=yb (by have:=r.o;have:=ez.o;omega)
 have HV:=yb hv
 have HN:=yb hN
 have F:=yb g
 have eq:=yb (Gs g)
 obtain ⟨I,hI⟩:∃I:Nat->Value->World->Prop,I=fun i v wr=>Ps w cs wr v (QE x++(x.crops.take i).flatMap Fy):=⟨_,rfl⟩
 have HI:=yb hI
 have ce:Hid (I 0 v W):=yb (by rw[hI];simpa using hP)
 clear hv hN g hP hL aq g0 g1 g2 hI
 refine Ag fun K hK=>?_
 go_wp2
 go_loopw [3,5] (fun v3 iv wr=>∃i:Nat,iv=.int .i64 i∧i<=n∧Hid (I i v3 wr)) (fun _ iv _=>n - (intOf iv).toNat)
 case atStart=>exact ⟨0,rfl,yz _,ce⟩
 case round=>
  clear ce
  obtain ⟨i,rfl,hi,az⟩:=hrel
  have d:Hid (Ps w cs wr u3 (QE x++(x.crops.take i).flatMap Fy)):=yb (by have h:=az.o;rw[HI.o] at h;exact h)
  clear az
  have hf:=s.o _ _ _ d.o
  have g8:n<=140737488355328:=ai.o
  by_cases ea:i < n
  ·have m:i < x.crops.length:=by rw[<-r.o];exact ea
   have dx:(i:Int) < (n:Int):=by omega
   obtain ⟨bq,oq,ct,he,b4,fy,al,a0⟩:=fm.o i m
   obtain rfl:a=some ⟨bq,oq,none⟩:=he
   have c7:(QE x++(x.crops.take i).flatMap Fy).length<=10000:=by
    have h1:=Cf (l:=x.crops) (f:=Fy) (c:=1) (i:=i) (fun _ _=>by simp[Fy])
    have h2:=eq.o.p2;have h3:=F.o.crops
    rw[ym]
    omega
   have u:Hid (QE x++(x.crops.take (i+1)).flatMap Fy=(QE x++(x.crops.take i).flatMap Fy)++Fy x.crops[i]):=yb (by rw[BF m,yl])
   generalize hD:x.crops[i]=D at a0 u
   clear hD
   generalize b3:QE x++(x.crops.take i).flatMap Fy=c3 at u d c7
   clear b3
   have b5:=A2 al (d.o.below.block bq (HN.o bq b4))
   obtain ⟨j,dv⟩:=D
   obtain ⟨ga,c,rfl,_⟩:=a0
   have g9:wr.cell? ⟨bq,oq+i*7,none⟩=some (.string j):=by simpa using Mt (p:=[]) b5
   clear al fy b4 m b5
   have d5:Hid (Below wr.heap.size wr (wr.alloc (.cells #[.int .i64 3,.string j,.string {data:=#[]},.int .i64 0,.string {data:=#[]},.int .i64 0,.int .i64 0,.bool false] 125))):=yb ((yg _ _).alloc (ye _) _)
   have y:Hid (Below wr.heap.size wr (wr.alloc (.cells #[.int .i64 3,.string j,.string {data:=#[]},.int .i64 0,.string {data:=#[]},.int .i64 0,.int .i64 0,.bool false] 125))):=yb ((yg wr.heap.size wr).trans (d5.o.mono (yg wr.heap.size wr).size))
   have cd:=yb (d.o.own.up y.o)
   have M:Hid ((wr.alloc (.cells #[.int .i64 3,.string j,.string {data:=#[]},.int .i64 0,.string {data:=#[]},.int .i64 0,.int .i64 0,.bool false] 125)).heap[wr.heap.size]?=some (.cells (([(⟨3,j,GJ,GJ,0,false⟩:Pl)]:List Pl).flatMap Jn).toArray 125 (0,0))):=yb (World.alloc_heap_new wr (.cells #[.int .i64 3,.string j,.string {data:=#[]},.int .i64 0,.string {data:=#[]},.int .i64 0,.int .i64 0,.bool false] 125))
   have e:Hid ((w.heap.size+1)<=(wr.alloc (.cells #[.int .i64 3,.string j,.string {data:=#[]},.int .i64 0,.string {data:=#[]},.int .i64 0,.int .i64 0,.bool false] 125)).heap.size):=yb (yr d.o.size y.o.size)
   have H:Hid (c3.length+1<=1000000):=yb (by omega)
   clear c7
   go_wp2_with (first|(at_builtin;refine BK (w.heap.size+1) rfl _ _ rfl u3 c3 rfl cd.o (wr.heap.size) 1 1 [(⟨3,j,GJ,GJ,0,false⟩:Pl)] rfl rfl M.o H.o e.o ?_;intro fi n5 c5 w5 k bg;have ff:=yb k;have el:Hid (Below (w.heap.size+1) wr w5):=yb (EC (y.o.mono d.o.size) e.o cd.o bg);clear k bg))
   have df:Hid (I (i+1) (.slice fi n5 c5) w5):=yb (by rw[HI.o];show Ps w cs w5 _ (QE x++(x.crops.take (i+1)).flatMap Fy);rw[u.o];exact d.o.next el.o ff.o)
   exact ⟨⟨i+1,by push_cast;rfl,by omega,df⟩,by simp[intOf];omega⟩
  ·obtain rfl:i=n:=by omega
   have dx:decide ((i:Int) < (i:Int))=false:=by simp
   have dt:Hid (Ps w cs wr u3 (QE x++x.crops.flatMap Fy)):=yb (by
    have h:=d.o
    rw[r.o,yw] at h
    exact h)
   clear d
   go_wp2
   exact hK.o _ _ (Tr HV.o HN.o F.o dt.o)
theorem Tt{N:NP}{w W:World}{cs:LV}{x:An}{L:Bh}{v u0 u2 u4 u5 u6 u7 u8 u9 ft ed g7 dm fu db d1 ew eo fl ei e7 em f0 dc fj dk dg fk d3 eg fv f2 fd g4 ec e3 di er fg dj dd ev dz dp ee dr fh dq dl d6 f1 ef et e9 g5 fb fs dy g3 du d8 d7 d4 f9 f4 fq ep f6 d9 f5 fe fp dw de e5 eu fa ej e4 ey fo e8 g6 ek f8 fx en fz dh da eb e6 fc f3 fw f7 d2 d0 eh cm a7 bk am cg bn cf ar c4 bw ao B bu E ay R ax aj bi ab Q aa A X a8 bt O U co be cz cl b7 cn af Y ac Z cp cq G ad cr cu V cx c6 bb ah ca ap ba bo bs cw P bz ci cc au S cy cb cv cj aw z ck ae bh J ag ak b8 av T c8 a6 ch bv bd a1 C c9 b9 bm a2 an bj bp:Value}(hv:B8 N w L cs x)(hN:∀b,N b->b < w.heap.size)(g:Fw x)(hP:Ps w cs W v (Qp x)):
  Code.wp Try.prog (CP 2 (Try.f62.body.getD .skip)) (bodyPost Try.prog Try.f62 (Gt w (Ck x))) {tmps:=#[u0,.pointer (some ⟨w.heap.size,0,none⟩),u2,v,u4,u5,u6,u7,u8,u9,ft,ed,g7,dm,fu,db,d1,ew,eo,fl,ei,e7,em,f0,dc,fj,dk,dg,fk,d3,eg,fv,f2,fd,g4,ec,e3,di,er,fg,dj,dd,ev,dz,dp,ee,dr,fh,dq,dl,d6,f1,ef,et,e9,g5,fb,fs,dy,g3,du,d8,d7,d4,f9,f4,fq,ep,f6,d9,f5,fe,fp,dw,de,e5,eu,fa,ej,e4,ey,fo,e8,g6,ek,f8,fx,en,fz,dh,da,eb,e6,fc,f3,fw,f7,d2,d0,eh,cm,a7,bk,am,cg,bn,cf,ar,c4,bw,ao,B,bu,E,ay,R,ax,aj,bi,ab,Q,aa,A,X,a8,bt,O,U,co,be,cz,cl,b7,cn,af,Y,ac,Z,cp,cq,G,ad,cr,cu,V,cx,c6,bb,ah,ca,ap,ba,bo,bs,cw,P,bz,ci,cc,au,S,cy,cb,cv,cj,aw,z,ck,ae,bh,J,ag,ak,b8,av,T,c8,a6,ch,bv,bd,a1,C,c9,b9,bm,a2,an,bj,bp],defers:=[]} W:=by
 obtain ⟨⟨a,n,c⟩,hL⟩:∃h:Av,L.lets=h:=⟨_,rfl⟩
 obtain ⟨s0,s1,s2,aq,g0,g1,g2⟩:=hv.cells
 have s:Hid (∀(W:World) (v:Value) (l:List Pl),Ps w cs W v l->W.cell? ⟨w.heap.size,19,none⟩=some (.slice a n c)):=yb (by
  intro W v l h
  refine h.cell (p:=.string x.name::(s0++(s1++(s2++[])))) (q:=[L.crops.v,L.reaches.v,L.farms.v,L.rots.v,L.rights.v,L.duties.v]) ?_ (by simp[g0.len,g1.len,g2.len])
  rw[aq,hL]
  simp[yl,Av.v])
 have t:Az N w 7 (FP N w) ⟨a,n,c⟩ x.lets:=hL▸hv.lets
 have fm:=yb t.2.2
 have r:Hid (n=x.lets.length):=yb t.1
 clear t
 have ez:Hid (x.lets.length<=1000):=yb (by have:=g.lets;omega)
 have ai:Hid (n<=140737488355328):=yb (by have:=r.o;have:=ez.o;omega)
 have HV:=yb hv
 have HN:=yb hN
 have F:=yb g
 have eq:=yb (Gs g)
 obtain ⟨I,hI⟩:∃I:Nat->Value->World->Prop,I=fun i v wr=>Ps w cs wr v (Qp x++(x.lets.take i).flatMap It):=⟨_,rfl⟩
 have HI:=yb hI
 have ce:Hid (I 0 v W):=yb (by rw[hI];simpa using hP)
 clear hv hN g hP hL aq g0 g1 g2 hI
 refine Ag fun K hK=>?_
 go_wp2
 go_loopw [3,4] (fun v3 iv wr=>∃i:Nat,iv=.int .i64 i∧i<=n∧Hid (I i v3 wr)) (fun _ iv _=>n - (intOf iv).toNat)
 case atStart=>exact ⟨0,rfl,yz _,ce⟩
 case round=>
  clear ce
  obtain ⟨i,rfl,hi,az⟩:=hrel
  have d:Hid (Ps w cs wr u3 (Qp x++(x.lets.take i).flatMap It)):=yb (by have h:=az.o;rw[HI.o] at h;exact h)
  clear az
  have hf:=s.o _ _ _ d.o
  have g8:n<=140737488355328:=ai.o
  by_cases ea:i < n
  ·have m:i < x.lets.length:=by rw[<-r.o];exact ea
   have dx:(i:Int) < (n:Int):=by omega
   obtain ⟨bq,oq,ct,he,b4,fy,al,a0⟩:=fm.o i m
   obtain rfl:a=some ⟨bq,oq,none⟩:=he
   have c7:(Qp x++(x.lets.take i).flatMap It).length<=10000:=by
    have h1:=Cf (l:=x.lets) (f:=It) (c:=1) (i:=i) (fun _ _=>by simp[It])
    have h2:=eq.o.p1;have h3:=F.o.lets
    rw[ym]
    omega
   have u:Hid (Qp x++(x.lets.take (i+1)).flatMap It=(Qp x++(x.lets.take i).flatMap It)++It x.lets[i]):=yb (by rw[BF m,yl])
   generalize hD:x.lets[i]=D at a0 u
   clear hD
   generalize b3:Qp x++(x.lets.take i).flatMap It=c3 at u d c7
   clear b3
   have b5:=A2 al (d.o.below.block bq (HN.o bq b4))
   obtain ⟨j,dv⟩:=D
   obtain ⟨ga,c,rfl,_⟩:=a0
   have g9:wr.cell? ⟨bq,oq+i*7,none⟩=some (.string j):=by simpa using Mt (p:=[]) b5
   clear al fy b4 m b5
   have d5:Hid (Below wr.heap.size wr (wr.alloc (.cells #[.int .i64 2,.string j,.string {data:=#[]},.int .i64 0,.string {data:=#[]},.int .i64 0,.int .i64 0,.bool false] 125))):=yb ((yg _ _).alloc (ye _) _)
   have y:Hid (Below wr.heap.size wr (wr.alloc (.cells #[.int .i64 2,.string j,.string {data:=#[]},.int .i64 0,.string {data:=#[]},.int .i64 0,.int .i64 0,.bool false] 125))):=yb ((yg wr.heap.size wr).trans (d5.o.mono (yg wr.heap.size wr).size))
   have cd:=yb (d.o.own.up y.o)
   have M:Hid ((wr.alloc (.cells #[.int .i64 2,.string j,.string {data:=#[]},.int .i64 0,.string {data:=#[]},.int .i64 0,.int .i64 0,.bool false] 125)).heap[wr.heap.size]?=some (.cells (([(⟨2,j,GJ,GJ,0,false⟩:Pl)]:List Pl).flatMap Jn).toArray 125 (0,0))):=yb (World.alloc_heap_new wr (.cells #[.int .i64 2,.string j,.string {data:=#[]},.int .i64 0,.string {data:=#[]},.int .i64 0,.int .i64 0,.bool false] 125))
   have e:Hid ((w.heap.size+1)<=(wr.alloc (.cells #[.int .i64 2,.string j,.string {data:=#[]},.int .i64 0,.string {data:=#[]},.int .i64 0,.int .i64 0,.bool false] 125)).heap.size):=yb (yr d.o.size y.o.size)
   have H:Hid (c3.length+1<=1000000):=yb (by omega)
   clear c7
   go_wp2_with (first|(at_builtin;refine BK (w.heap.size+1) rfl _ _ rfl u3 c3 rfl cd.o (wr.heap.size) 1 1 [(⟨2,j,GJ,GJ,0,false⟩:Pl)] rfl rfl M.o H.o e.o ?_;intro fi n5 c5 w5 k bg;have ff:=yb k;have el:Hid (Below (w.heap.size+1) wr w5):=yb (EC (y.o.mono d.o.size) e.o cd.o bg);clear k bg))
   have df:Hid (I (i+1) (.slice fi n5 c5) w5):=yb (by rw[HI.o];show Ps w cs w5 _ (Qp x++(x.lets.take (i+1)).flatMap It);rw[u.o];exact d.o.next el.o ff.o)
   exact ⟨⟨i+1,by push_cast;rfl,by omega,df⟩,by simp[intOf];omega⟩
  ·obtain rfl:i=n:=by omega
   have dx:decide ((i:Int) < (i:Int))=false:=by simp
   have dt:Hid (Ps w cs wr u3 (Qp x++x.lets.flatMap It)):=yb (by
    have h:=d.o
    rw[r.o,yw] at h
    exact h)
   clear d
   go_wp2
   exact hK.o _ _ (Ts HV.o HN.o F.o dt.o)
theorem LK{N:NP}{w:World}{cs:LV}{x:An}{L:Bh}(i:B8 N w L cs x)(hN:∀b,N b->b < w.heap.size)(d:Fw x):
  Calls Try.prog 62 #[.agg cs.toArray] w (Gt w (Ck x)):=by
 have n:=yb i;have r:=yb hN;have k:=yb d
 have m:=yb (DT.len ⟨L,i⟩)
 obtain ⟨v,u,t,e,_⟩:=i.cells
 have l:=yb e
 clear i hN d e
 go_enter Try.func62,Try.ntmps62
 refine Ag fun K j=>?_
 go_wp2_with (first|(refine F8 rfl 35 _ rfl cs.toArray rfl ?_))
 refine j.o _ _ ?_
 clear j K
 obtain ⟨w1,a⟩:∃z:World,z=w.alloc (.cells cs.toArray 35):=⟨_,rfl⟩
 rw[<-a]
 have f:Hid (Below w.heap.size w w1):=yb (by rw[a];exact (yg _ _).alloc (ye _) _)
 have g:Hid (w1.heap[w.heap.size]?=some (.cells cs.toArray 35 (0,0))):=yb (by rw[a];exact World.alloc_heap_new _ _)
 have c:Hid (w1.heap.size=w.heap.size+1):=yb (by rw[a];simp)
 have s:w1.cell? ⟨w.heap.size,0,none⟩=some (.string x.name):=by
  have h:=g.o
  rw[l.o] at h
  exact Dt h (p:=[]) rfl rfl
 clear a
 refine Ag fun K j=>?_
 go_wp2
 refine j.o _ _ (Tt n.o r.o k.o ?_)
 have q:=World.alloc_heap_new w1 (.cells #[.int .i64 1,.string x.name,.string {data:=#[]},.int .i64 0,.string {data:=#[]},.int .i64 0,.int .i64 0,.bool false] 125)
 have hb:Below w1.heap.size w1 (w1.alloc (.cells #[.int .i64 1,.string x.name,.string {data:=#[]},.int .i64 0,.string {data:=#[]},.int .i64 0,.int .i64 0,.bool false] 125)):=(yg _ _).alloc (ye _) _
 refine ⟨f.o.trans (hb.mono f.o.size),(hb.block _ (by rw[c.o];omega)).trans g.o,⟨rfl,.inr ⟨w1.heap.size,1,_,rfl,by rw[c.o];omega,q,by simp[Qp],by simp[maxLen],rfl,rfl⟩⟩,by have:=hb.size;have:=c.o;omega⟩
def Tu(p q:Pl):Bool:=decide (p.kind=q.kind)&&(decide (p.name.toList=q.name.toList)&&(decide (p.a.name.toList=q.a.name.toList)&&(decide (p.a.n=q.a.n)&&(decide (p.b.name.toList=q.b.name.toList)&&(decide (p.b.n=q.b.n)&&(decide (p.n=q.n)&&decide (p.is=q.is)))))))
theorem SJ{p q:Pl}:Tu p q=true↔p=q:=by
 obtain ⟨k,n,⟨l,v⟩,⟨o,u⟩,m,s⟩:=p
 obtain ⟨k',j,⟨c,d⟩,⟨b,f⟩,t,r⟩:=q
 simp only[Tu,yt,yW]
 constructor
 ·rintro ⟨rfl,h1,h2,rfl,h3,rfl,rfl,rfl⟩
  rw[Gd h1,Gd h2,Gd h3]
 ·intro h
  injection h with h1 h2 h3 h4 h5 h6
  injection h3 with i e
  injection h4 with g a
  subst h1 h2 i e g a h5 h6
  exact ⟨rfl,rfl,rfl,rfl,rfl,rfl,rfl,rfl⟩
theorem NQ{o:Oper}{a:Act}{w:World}{K:Act->World->Prop}{Q:QT}(x y:Operand)(B:o.op=.binOp .neq 125 x y 125)(p q:Pl)(r:a.eval x=.agg (Jn p).toArray)(t:a.eval y=.agg (Jn q).toArray)
 (h:K (a.put o.dst (.bool (!Tu p q))) w):Oper.wp Try.prog o a w K Q:=by
 obtain ⟨k,n,⟨i,A⟩,⟨j,v⟩,m,s⟩:=p
 obtain ⟨k',g,⟨c,d⟩,⟨b,f⟩,u,l⟩:=q
 simp only[Jn,Tu] at h r t
 unfold Oper.wp execOp
 simp only[B,r,t]
 go_simp
 have e:∀z:Bool,z=(decide (k=k')&&(decide (n.toList=g.toList)&&(decide (i.toList=c.toList)&&(decide (A=d)&&(decide (j.toList=b.toList)&&(decide (v=f)&&(decide (m=u)&&decide (s=l))))))))->
   (if k=k' then if n.toList=g.toList then if i.toList=c.toList then if A=d then if j.toList=b.toList then if v=f then if m=u then if s=l then Result.ok (Next.value (Value.bool false)) w else Result.ok (Next.value (Value.bool true)) w else Result.ok (Next.value (Value.bool true)) w else Result.ok (Next.value (Value.bool true)) w else Result.ok (Next.value (Value.bool true)) w else Result.ok (Next.value (Value.bool true)) w else Result.ok (Next.value (Value.bool true)) w else Result.ok (Next.value (Value.bool true)) w else Result.ok (Next.value (Value.bool true)) w)=Result.ok (Next.value (Value.bool (!z))) w:=by
  rintro z rfl
  repeat' split
  all_goals simp[*]
 rw[e _ rfl]
 exact h
def GZ:List Pl->List Pl->Bool
 |[],_=>true
 |_::_,[]=>true
 |p::r,q::s=>Tu p q&&GZ r s
def NR(x y:An):Bool:=(decide ((Ck x).length=(Ck y).length)&&GZ (Ck x) (Ck y))&&(decide ((Cv x).length=(Cv y).length)&&KM (Cv x) (Cv y))
theorem Kx:∀a b:List Pl,a.length=b.length->(GZ a b=true↔a=b)
 |[],b,h=>by
  obtain rfl:b=[]:=z6.1 h.symm
  simp[GZ]
 |e::r,[],h=>by simp at h
 |e::r,e'::r',h=>by
  rw[GZ,yt,SJ,Kx r r' (by simpa using h)]
  simp
theorem Qq(x y:An):NR x y=true↔Ck x=Ck y∧Cv x=Cv y:=by
 unfold NR
 simp only[yt,yW]
 constructor
 ·rintro ⟨⟨h1,h2⟩,h3,h4⟩
  exact ⟨(Kx _ _ h1).1 h2,(Iw _ _ h3).1 h4⟩
 ·rintro ⟨h1,h2⟩
  rw[h1,h2]
  exact ⟨⟨rfl,(Kx _ _ rfl).2 rfl⟩,rfl,(Iw _ _ rfl).2 rfl⟩
theorem RN{B:Nat}{W:World}{ty sz:Nat}{v:Value}{rows:List LV}(h:W.ownsRow B ty sz v rows.length rows.flatten)(d:∀r∈rows,r.length=sz):∃a c,v=.slice a rows.length c∧∀i (hi:i < rows.length),∃g,a=some ⟨g,0,none⟩∧g < W.heap.size∧W.rangeAt g (i*sz) rows[i]:=by
 rcases h.2 with ⟨rfl,k⟩|⟨g,cap,l,rfl,h4,h5,h6,o,n,m⟩
 ·exact ⟨none,0,by rw[k],fun i hi=>by omega⟩
 ·refine ⟨some (aV g 0),cap,rfl,fun i hi=>⟨g,rfl,(yf.1 h5).1,?_⟩⟩
  intro j u f
  have e:j < sz:=by rw[<-d _ (yy hi)];exact (yD.1 f).1
  have b:=(FT rows sz d).2 i hi j e
  rw[f,<-m] at b
  rw[zH] at b
  split at b
  ·simp only[World.cell?,h5]
   simpa using b
  ·cases b
theorem RO{B:Nat}{W:World}{v:Value}{l:List Pl}(h:EA B W v l):∃a c,v=.slice a l.length c∧∀i (hi:i < l.length),∃g,a=some ⟨g,0,none⟩∧g < W.heap.size∧W.rangeAt g (i*8) (Jn l[i]):=by
 have e:W.ownsRow B 125 8 v (l.map Jn).length (l.map Jn).flatten:=by
  rw[yP,<-List.flatMap_def];exact h
 obtain ⟨a,c,d,b⟩:=RN e (fun r b=>by obtain ⟨p,_,rfl⟩:=zw.1 b;rfl)
 refine ⟨a,c,by rw[d,yP],fun i hi=>?_⟩
 obtain ⟨g,h1,h2,h3⟩:=b i (by simpa using hi)
 exact ⟨g,h1,h2,by simpa using h3⟩
theorem RP{B:Nat}{N:NP}{e W:World}{v:Value}{es:List Ex}(h:Je B N e es W v):∃a c,v=.slice a es.length c∧∀i (hi:i < es.length),∃g cs,a=some ⟨g,0,none⟩∧g < W.heap.size∧W.rangeAt g (i*6) cs∧AP N e es[i] cs:=by
 obtain ⟨rows,j,b⟩:=h.own
 have hl:rows.length=es.length:=b.length
 obtain ⟨a,c,f,d⟩:=RN j (fun r d=>by
  obtain ⟨i,hi,rfl⟩:=xV d
  exact (b.get i hi (by omega)).len)
 refine ⟨a,c,by rw[f,hl],fun i hi=>?_⟩
 obtain ⟨g,h1,h2,h3⟩:=d i (by omega)
 exact ⟨g,_,h1,h2,h3,b.get i (by omega) hi⟩
theorem NS{x:An}(h:Fw x):(Cv x).length<=140737488355328:=by
 have h1:=h.top.t7;have h2:=h.duties
 have h3:(x.duties.flatMap fun d=> [d.due]).length<=x.duties.length*1:=AH fun _ _=>by simp
 unfold Cv
 rw[ym]
 omega
theorem RQ{N:NP}{w:World}{cs ds:LV}{x y:An}{L M:Bh}(hv:B8 N w L cs x)(hu:B8 N w M ds y)(hN:∀b,N b->b < w.heap.size)(a7:Fw x)(a8:Fw y):
  Calls Try.prog 13 #[.agg cs.toArray,.agg ds.toArray] w fun e w'=>e=.returned (.bool (NR x y))∧Below w.heap.size w w':=by
 have HV:=yb hv;have HU:=yb hu;have HN:=yb hN;have bv:=yb a7;have b8:=yb a8
 have bg:=yb (DT.len ⟨L,hv⟩);have bj:=yb (DT.len ⟨M,hu⟩)
 have af:=yb (Gs a7).p8;have aj:=yb (Gs a8).p8
 have bm:=yb (NS a7);have c7:=yb (NS a8)
 clear hv hu hN a7 a8
 go_enter Try.func13,Try.ntmps13
 refine Ag fun K f=>?_
 go_wp2_with (first|(refine F8 rfl 35 _ rfl cs.toArray rfl ?_)|(refine F8 rfl 35 _ rfl ds.toArray rfl ?_))
 refine f.o _ _ ?_
 clear f K
 obtain ⟨w1,A⟩:∃z:World,z=(w.alloc (.cells cs.toArray 35)).alloc (.cells ds.toArray 35):=⟨_,rfl⟩
 rw[<-A]
 have D:Hid (Below w.heap.size w w1):=yb (by rw[A];exact ((yg _ _).alloc (ye _) _).alloc (by simp) _)
 have av:Hid (w1.heap[w.heap.size]?=some (.cells cs.toArray 35 (0,0))∧w1.heap[w.heap.size+1]?=some (.cells ds.toArray 35 (0,0))∧w1.heap.size=w.heap.size+2):=yb (by
  refine ⟨?_,?_,by rw[A];simp⟩
  ·rw[A,yQ _ _ _ (by simp)];exact World.alloc_heap_new _ _
  ·have:=World.alloc_heap_new (w.alloc (.cells cs.toArray 35)) (.cells ds.toArray 35)
   rw[A];simpa using this)
 clear A
 have HR:Hid (∀W,Below w1.heap.size w1 W->W.rangeAt w.heap.size 0 cs∧W.rangeAt (w.heap.size+1) 0 ds∧B8 N W L cs x∧B8 N W M ds y∧∀b,N b->b < W.heap.size):=yb (fun W hb=>by
  have hz:=av.o.2.2
  have hw:=D.o.trans (hb.mono D.o.size)
  exact ⟨Ay ((hb.block _ (by omega)).trans av.o.1),Ay ((hb.block _ (by omega)).trans av.o.2.1),HV.o.same (fun _ h=>h) (fun b hb=>hw.block b (HN.o b hb)),HU.o.same (fun _ h=>h) (fun b hb=>hw.block b (HN.o b hb)),fun b h=>yp (HN.o b h) hw.size⟩)
 have ah:=yb (HR.o w1 (yg _ _))
 refine Ag fun K f=>?_
 go_wp2_with (first
  |(refine yj rfl 35 _ rfl w.heap.size 0 rfl cs _ ah.o.1 qB rfl (BW (n:=26) (by kernel_rfl) bg.o) ?_)
  |(go_at_call 62;refine (LK ah.o.2.2.1 ah.o.2.2.2.2 bv.o).mono ?_;rintro e w2 ⟨p,rfl,hp,bs⟩;have HP:=yb hp;have ar:=yb bs;clear hp bs))
 refine f.o _ _ ?_
 clear f K
 have aq:=yb (HR.o w2 ar.o)
 refine Ag fun K f=>?_
 go_wp2_with (first
  |(refine yj rfl 35 _ rfl (w.heap.size+1) 0 rfl ds _ aq.o.2.1 qB rfl (BW (n:=26) (by kernel_rfl) bj.o) ?_)
  |(go_at_call 62;refine (LK aq.o.2.2.2.1 aq.o.2.2.2.2 b8.o).mono ?_;rintro e w3 ⟨q,rfl,hq,bt⟩;have HQ:=yb hq;have bb:=yb bt;clear hq bt))
 refine f.o _ _ ?_
 clear f K
 have Z:Hid (Below w1.heap.size w1 w3):=yb (ar.o.trans (bb.o.mono ar.o.size))
 have I:Hid (Below w.heap.size w w3):=yb (D.o.trans (Z.o.mono D.o.size))
 have az:=yb (HP.o.up bb.o)
 obtain ⟨pa,pc,rfl,bq⟩:=RO az.o
 obtain ⟨qa,qc,rfl,bu⟩:=RO HQ.o
 have an:=yb bq;have ap:=yb bu
 have l:Hid (NR x y=((decide ((Ck x).length=(Ck y).length)&&GZ (Ck x) (Ck y))&&(decide ((Cv x).length=(Cv y).length)&&KM (Cv x) (Cv y)))):=yb rfl
 generalize NR x y=S at l ⊢
 generalize am:Ck x=v at an l af
 generalize ae:Ck y=B at ap l aj
 have bp:=yb af.o;have cd:=yb aj.o
 generalize hm:v.length=m at l bp ⊢
 generalize hn:B.length=n at l cd ⊢
 have HM:=yb hm;have cc:=yb hn
 clear bq bu am ae hm hn HP az HQ af aj
 refine Ag fun K f=>?_
 obtain h1|rfl:((m:Int) !=(n:Int))=true∨m=n:=by
  by_cases h:m=n
  ·exact .inr h
  ·exact .inl (by simp only[qe,ne_eq];omega)
 ·have hS:S=false:=by
   rw[l.o]
   have:decide (m=n)=false:=by simp only[qe,ne_eq] at h1;simp only[xu];omega
   rw[this];simp
  subst hS
  clear f
  go_wp2
  go_ret
  exact ⟨rfl,I.o⟩
 have au:((m:Int) !=(m:Int))=false:=by simp
 go_wp2
 refine f.o _ _ ?_
 clear f K au
 have bn:m<=140737488355328:=by have:=bp.o;omega
 have F:Hid (GZ (v.drop 0) (B.drop 0)=GZ v B):=yb rfl
 have ac:=yb (yg w3.heap.size w3)
 refine Ag fun K f=>?_
 go_wp2
 go_loopw [7] (fun iv wr=>∃i:Nat,iv=iV i∧i<=m∧Hid (GZ (v.drop i) (B.drop i)=GZ v B)∧Hid (Below w3.heap.size w3 wr)) (fun iv _=>m - (intOf iv).toNat)
 case atStart=>exact ⟨0,rfl,yz _,F,ac⟩
 case round=>
  clear F ac
  obtain ⟨i,rfl,hi,HE,d⟩:=hrel
  by_cases bd:i < m
  ·have ai:i < v.length:=by rw[HM.o];exact bd
   have a2:i < B.length:=by rw[cc.o];exact bd
   have a6:(i:Int) < (m:Int):=by omega
   obtain ⟨g,rfl,hg,hr⟩:=an.o i ai
   obtain ⟨g',rfl,U,V⟩:=ap.o i a2
   have c8:=yb (A2 hr (d.o.block g hg))
   have c6:=yb (A2 V (d.o.block g' U))
   have C:Hid ((Tu v[i] B[i]&&GZ (v.drop (i+1)) (B.drop (i+1)))=GZ v B):=yb (by
    have h:=HE.o
    rw[D5 ai,D5 a2,GZ] at h
    exact h)
   generalize v[i]=P at*
   generalize B[i]=R at*
   have pr:=c8.o
   have qr:=c6.o
   have p0:wr.cell? (aV g (i*8))=some (iV P.kind):=by have h:=pr 0 _ rfl;simpa using h
   have p1:wr.cell? (aV g (i*8+1))=some (.string P.name):=by have h:=pr 1 _ rfl;simpa using h
   have p2:wr.cell? (aV g (i*8+2))=some (.string P.a.name):=by have h:=pr 2 _ rfl;simpa using h
   have p3:wr.cell? (aV g (i*8+3))=some (iV P.a.n):=by have h:=pr 3 _ rfl;simpa using h
   have p4:wr.cell? (aV g (i*8+4))=some (.string P.b.name):=by have h:=pr 4 _ rfl;simpa using h
   have p5:wr.cell? (aV g (i*8+5))=some (iV P.b.n):=by have h:=pr 5 _ rfl;simpa using h
   have p6:wr.cell? (aV g (i*8+6))=some (iV P.n):=by have h:=pr 6 _ rfl;simpa using h
   have p7:wr.cell? (aV g (i*8+7))=some (.bool P.is):=by have h:=pr 7 _ rfl;simpa using h
   have q0:wr.cell? (aV g' (i*8))=some (iV R.kind):=by have h:=qr 0 _ rfl;simpa using h
   have q1:wr.cell? (aV g' (i*8+1))=some (.string R.name):=by have h:=qr 1 _ rfl;simpa using h
   have q2:wr.cell? (aV g' (i*8+2))=some (.string R.a.name):=by have h:=qr 2 _ rfl;simpa using h
   have q3:wr.cell? (aV g' (i*8+3))=some (iV R.a.n):=by have h:=qr 3 _ rfl;simpa using h
   have q4:wr.cell? (aV g' (i*8+4))=some (.string R.b.name):=by have h:=qr 4 _ rfl;simpa using h
   have q5:wr.cell? (aV g' (i*8+5))=some (iV R.b.n):=by have h:=qr 5 _ rfl;simpa using h
   have q6:wr.cell? (aV g' (i*8+6))=some (iV R.n):=by have h:=qr 6 _ rfl;simpa using h
   have q7:wr.cell? (aV g' (i*8+7))=some (.bool R.is):=by have h:=qr 7 _ rfl;simpa using h
   clear pr qr hr V hg U ai a2
   go_upto_region 8 with fail
   go_still_tail 8,(by kernel_rfl)
   change wpList _ _ _ _ _ wr.drew
   clear p0 p1 p2 p3 p4 p5 p6 p7 q0 q1 q2 q3 q4 q5 q6 q7
   cases hs:Tu P R
   ·have HF:Hid (false=S):=yb (by
     rw[l.o,<-C.o,hs];simp)
    clear f
    go_wp2_with (first|(refine yF rfl fun _ al=>NQ _ _ rfl P R rfl rfl (al _ _ ?_);rw[hs]))
    go_ret
    exact ⟨yH (fun b=>Ending.returned (Value.bool b)) HF.o,I.o.trans (d.o.drew.mono I.o.size)⟩
   ·have H:Hid (GZ (v.drop (i+1)) (B.drop (i+1))=GZ v B):=yb (by
     rw[<-C.o,hs,qi])
    go_wp2_with (first|(refine yF rfl fun _ al=>NQ _ _ rfl P R rfl rfl (al _ _ ?_);rw[hs]))
    exact ⟨⟨i+1,by push_cast;rfl,by omega,H,yb d.o.drew⟩,by simp[intOf];omega⟩
  ·obtain rfl:i=m:=by omega
   have a6:decide ((i:Int) < (i:Int))=false:=by simp
   have bk:Hid (GZ v B=true):=yb (by
    have h:=HE.o
    rw[<-HM.o,zk,GZ] at h
    exact h.symm)
   go_wp2
   refine f.o _ _ ?_
   clear f a6 HE
   have a1:Hid (Below w1.heap.size w1 wr):=yb (Z.o.trans (d.o.mono Z.o.size))
   have J:=yb (HR.o wr a1.o)
   refine Ag fun K f=>?_
   go_wp2_with (first
    |(refine yj rfl 35 _ rfl w.heap.size 0 rfl cs _ J.o.1 qB rfl (BW (n:=26) (by kernel_rfl) bg.o) ?_)
    |(go_at_call 22;refine (Mr J.o.2.2.1 J.o.2.2.2.2 bv.o).mono ?_;rintro e w4 ⟨s,rfl,b9⟩;have HS:=yb b9;clear b9))
   refine f.o _ _ ?_
   clear f K
   have O:Hid (Below w1.heap.size w1 w4):=yb (a1.o.trans (HS.o.below.mono a1.o.size))
   have E:=yb (HR.o w4 O.o)
   refine Ag fun K f=>?_
   go_wp2_with (first
    |(refine yj rfl 35 _ rfl (w.heap.size+1) 0 rfl ds _ E.o.2.1 qB rfl (BW (n:=26) (by kernel_rfl) bj.o) ?_)
    |(go_at_call 22;refine (Mr E.o.2.2.2.1 E.o.2.2.2.2 b8.o).mono ?_;rintro e u ⟨r,rfl,bh⟩;have H:=yb bh;clear bh))
   refine f.o _ _ ?_
   clear f K
   have ad:Hid (Below w1.heap.size w1 u):=yb (O.o.trans (H.o.below.mono O.o.size))
   have t:Hid (Below w.heap.size w u):=yb (D.o.trans (ad.o.mono D.o.size))
   obtain ⟨sa,sc,rfl,b4⟩:=RP HS.o
   obtain ⟨ra,rc,rfl,bz⟩:=RP H.o
   have b7:Hid (∀i (hi:i < (Cv x).length),∃g cs,sa=some (aV g 0)∧g < u.heap.size∧u.rangeAt g (i*6) cs∧AP N u (Cv x)[i] cs):=yb (fun i hi=>by
    obtain ⟨g,c,h1,h2,h3,h4⟩:=b4 i hi
    refine ⟨g,c,h1,yp h2 H.o.below.size,A2 h3 (H.o.below.block g h2),h4.same (fun _ h=>h) (fun b hb=>?_)⟩
    have bo:=J.o.2.2.2.2 b hb
    exact (H.o.below.block b (yp bo HS.o.below.size)).trans (HS.o.below.block b bo))
   have be:Hid (∀i (hi:i < (Cv y).length),∃g cs,ra=some (aV g 0)∧g < u.heap.size∧u.rangeAt g (i*6) cs∧AP N u (Cv y)[i] cs):=yb (fun i hi=>by
    obtain ⟨g,c,h1,h2,h3,h4⟩:=bz i hi
    exact ⟨g,c,h1,h2,h3,h4.same (fun _ h=>h) (fun b hb=>H.o.below.block b (E.o.2.2.2.2 b hb))⟩)
   have k:Hid (S=(decide ((Cv x).length=(Cv y).length)&&KM (Cv x) (Cv y))):=yb (by rw[l.o,bk.o];simp)
   have ao:Hid (∀b,N b->b < u.heap.size):=yb (HR.o u ad.o).2.2.2.2
   have a0:=yb bm.o
   generalize am:Cv x=lx at b7 k a0
   generalize ae:Cv y=ly at be k
   generalize ba:lx.length=mx at k a0 ⊢
   generalize bi:ly.length=my at k ⊢
   have b3:=yb ba;have c9:=yb bi
   clear b4 bz am ae ba bi HS H J E bm c7 l an ap bk
   refine Ag fun K f=>?_
   obtain h1|rfl:((mx:Int) !=(my:Int))=true∨mx=my:=by
    by_cases h:mx=my
    ·exact .inr h
    ·exact .inl (by simp only[qe,ne_eq];omega)
   ·have hS:S=false:=by
     rw[k.o]
     have:decide (mx=my)=false:=by simp only[qe,ne_eq] at h1;simp only[xu];omega
     rw[this];simp
    subst hS
    clear f
    go_wp2
    go_ret
    exact ⟨rfl,t.o⟩
   have au:((mx:Int) !=(mx:Int))=false:=by simp
   go_wp2
   refine f.o _ _ ?_
   clear f K au
   have bn:mx<=140737488355328:=a0.o
   have ce:Hid (S=KM lx ly):=yb (by rw[k.o];simp)
   have F:Hid (KM (lx.drop 0) (ly.drop 0)=S):=yb ce.o.symm
   have aa:=yb (yg u.heap.size u)
   clear k
   refine Ag fun K f=>?_
   go_wp2
   go_loopw [10] (fun jv wr=>∃j:Nat,jv=iV j∧j<=mx∧Hid (KM (lx.drop j) (ly.drop j)=S)∧Hid (Below u.heap.size u wr)) (fun jv _=>mx - (intOf jv).toNat)
   case atStart=>exact ⟨0,rfl,yz _,F,aa⟩
   case round=>
    clear F aa
    obtain ⟨j,rfl,hj,HE,d⟩:=hrel
    by_cases bw:j < mx
    ·have ak:j < lx.length:=by rw[b3.o];exact bw
     have Q:j < ly.length:=by rw[c9.o];exact bw
     have a6:(j:Int) < (mx:Int):=by omega
     obtain ⟨g,ca,rfl,hg,hr,aw⟩:=b7.o j ak
     obtain ⟨g',cb,rfl,U,V,T⟩:=be.o j Q
     have b5:=A2 hr (d.o.block g hg)
     have ab:=A2 V (d.o.block g' U)
     have HC:=yb (Mv lx[j] (e':=ly[j]) (w:=wr.drew) (AP.same (fun b h=>h) (fun b hb=>d.o.drew.block b (ao.o b hb)) aw) (AP.same (fun b h=>h) (fun b hb=>d.o.drew.block b (ao.o b hb)) T) (fun b h=>yp (ao.o b h) d.o.drew.size))
     have C:Hid ((SH lx[j] ly[j]&&KM (lx.drop (j+1)) (ly.drop (j+1)))=S):=yb (by
      have h:=HE.o
      rw[D5 ak,D5 Q,KM] at h
      exact h)
     generalize lx[j]=X at*
     generalize ly[j]=Y at*
     obtain ⟨ax,cx,rfl,_⟩:=aw.cells
     obtain ⟨ay,cy,rfl,_⟩:=T.cells
     obtain ⟨c0,c1,c2,c3,c4,c5⟩:=Br b5
     obtain ⟨d0,d1,d2,d3,d4,d5⟩:=Br ab
     generalize SH X Y=z at HC C
     clear aw T hr V b5 ab hg U ak Q
     go_upto_region 17 with fail
     go_still_tail 8,(by kernel_rfl)
     change wpList _ _ _ _ _ wr.drew
     clear c0 c1 c2 c3 c4 c5 d0 d1 d2 d3 d4 d5
     cases z
     ·have HF:Hid (false=S):=yb C.o
      clear f
      go_wp2_with (first|(go_at_call 63;refine HC.o.mono ?_;rintro e w6 ⟨rfl,G⟩;have ag:=yb (d.o.drew.trans (G.mono d.o.drew.size));clear G))
      go_ret
      exact ⟨yH (fun b=>Ending.returned (Value.bool b)) HF.o,t.o.trans (ag.o.mono t.o.size)⟩
     ·have H:Hid (KM (lx.drop (j+1)) (ly.drop (j+1))=S):=yb C.o
      go_wp2_with (first|(go_at_call 63;refine HC.o.mono ?_;rintro e w6 ⟨rfl,G⟩;have ag:=yb (d.o.drew.trans (G.mono d.o.drew.size));clear G))
      exact ⟨⟨j+1,by push_cast;rfl,by omega,H,ag⟩,by simp[intOf];omega⟩
    ·obtain rfl:j=mx:=by omega
     have a6:decide ((j:Int) < (j:Int))=false:=by simp
     have HF:Hid (true=S):=yb (by
      have h:=HE.o
      rw[<-b3.o,zk,KM] at h
      exact h)
     go_wp2
     refine f.o _ _ ?_
     go_wp2
     go_ret
     exact ⟨yH (fun b=>Ending.returned (Value.bool b)) HF.o,t.o.trans (d.o.mono t.o.size)⟩
set_option linter.unusedSimpArgs false
theorem Uw{id:Nat}{caps:Array Value}{F G:NP}{J:Bool->World->Prop}{g:Int->Rf->Rf}{q:Int->Rf->Bool}{b:Bool}{w W:World}{cs:LV}{u:Nat->Value}{x y:An}{L:Bh}{c0 c1 c2:LV}{h0 h1 h2 h3:Av}(hc:Jo id caps F g q J)(hv:B8 (GF G w) w L cs x)(db:Sh x)(dd:∀k,F k->G k)(hG:∀k,G k->k < w.heap.size)(hu:UF id caps w u)
 (hS:MS F w cs (.string y.name::(c0++(c1++(c2++[h0.v,h1.v,h2.v,h3.v,.slice none 0 0,.slice none 0 0,.slice none 0 0])))) W)(hY:Dl 4 (GF (FL G [w.heap.size,w.heap.size+1,w.heap.size+2]) W) W c0 c1 c2 h0 h1 h2 h3 ⟨none,0,0⟩ ⟨none,0,0⟩ ⟨none,0,0⟩ y)(hJ:J b W):
  Code.wp Try.prog (CP 8 (Try.f17.body.getD .skip)) (bodyPost Try.prog Try.f17 (MP F G J (((b&&x.rots.all (I8 q))&&x.rights.all (Dn q))&&x.duties.all (ED q)) (⟨y.name,y.season,y.cap,y.start,y.lets,y.crops,y.reaches,y.farms,(x.rots.map (Ge g)),(x.rights.map (Cx g)),(x.duties.map (Du g))⟩:An) w)) {tmps:=J0 u,defers:=[]} W:=by
 have dp:∀k,F k->k < w.heap.size:=fun k d=>hG k (dd k d)
 obtain ⟨⟨a,n,c⟩,hL⟩:∃h:Av,L.rots=h:=⟨_,rfl⟩
 obtain ⟨s0,s1,s2,e3,g0,g1,g2⟩:=hv.cells
 have d5:W.cell? (aV w.heap.size 23)=some (.slice a n c):=by
  refine hS.cell (p:=.string x.name::(s0++(s1++(s2++[L.lets.v,L.crops.v,L.reaches.v,L.farms.v])))) (q:=[L.rights.v,L.duties.v]) ?_ (by simp[g0.len,g1.len,g2.len])
  rw[e3,hL]
  simp[yl,Av.v]
 have co:Az (GF G w) w 23 (KW (GF G w) w) ⟨a,n,c⟩ x.rots:=hL▸Qu hv
 have ev:=yb co.2.2
 have bp:Hid (n=x.rots.length):=yb co.1
 have d6:Hid (x.rots.length<=100000):=yb db.slim.rots
 have HN:Hid (n<=140737488355328):=yb (by have:=bp.o;have:=d6.o;omega)
 obtain ⟨P,hP⟩:∃P:LV,P=.string y.name::(c0++(c1++(c2++[h0.v,h1.v,h2.v,h3.v]))):=⟨_,rfl⟩
 have eg:Hid (P.length=23):=yb (by rw[hP];simp[hY.e0.len,hY.e1.len,hY.e2.len])
 have ei:MS F w cs (P++(.slice none 0 0:: qY)) W:=by rw[hP];simpa[yl] using hS
 obtain ⟨I,hI⟩:∃I:Nat->World->Prop,I=fun i W=>∃v,MI KW 64 23 F G J b w cs P qY (fun N W=>Dl 4 N W c0 c1 c2 h0 h1 h2 h3 ⟨none,0,0⟩ ⟨none,0,0⟩ ⟨none,0,0⟩ y) (fun i=>(x.rots.take i).all (I8 q)) (fun i=>(x.rots.take i).map (Ge g)) i v W:=⟨_,rfl⟩
 have dm:Hid (I 0 W):=yb (by
  rw[hI]
  exact ⟨_,ei,by simpa using hJ,by simpa[ob,Value.ownBlock] using hY,by simpa using DQ⟩)
 have HI:=yb hI;have HV:=yb hv;have HC:=yb hc;have dl:=yb db;have R:=yb dd;have HG:=yb hG;have a2:=yb dp;have eo:=yb hP;have HU:=yb hu;have fi:=yb hY.name
 rw[FB,hu.u1,hu.u2,hu.u4,hu.u5]
 clear hv db hc dd hG dp hS hY hJ hP hL e3 g0 g1 g2 co ei hI hu
 refine Ag fun K hK=>?_
 go_wp2
 go_loopw [178] (fun iv wr=>∃i:Nat,iv=iV i∧i<=n∧Hid (I i wr)) (fun iv _=>n - (intOf iv).toNat)
 case atStart=>exact ⟨0,rfl,yz _,dm⟩
 case round=>
  clear dm d5
  obtain ⟨i,rfl,hi,bw⟩:=hrel
  obtain ⟨v,hM⟩:∃v,MI KW 64 23 F G J b w cs P qY (fun N W=>Dl 4 N W c0 c1 c2 h0 h1 h2 h3 ⟨none,0,0⟩ ⟨none,0,0⟩ ⟨none,0,0⟩ y) (fun i=>(x.rots.take i).all (I8 q)) (fun i=>(x.rots.take i).map (Ge g)) i v wr:=by have h:=bw.o;rw[HI.o] at h;exact h
  obtain ⟨va,M,H,rfl⟩:=hM.grow.slice
  have HM:=yb hM
  clear bw hM
  have fc:n<=140737488355328:=HN.o
  by_cases er:i < n
  ·have c4:i < x.rots.length:=by rw[<-bp.o];exact er
   have ep:(i:Int) < (n:Int):=by omega
   obtain ⟨bq,oq,ct,he,c5,ca,bh,de⟩:=ev.o i c4
   obtain rfl:a=some (aV bq oq):=he
   have bz:Hid ((b&&(x.rots.take (i+1)).all (I8 q))=((b&&(x.rots.take i).all (I8 q))&&I8 q x.rots[i])):=yb (by
    rw[yq c4,zh,ze,zu,yT,<-zc])
   have cn:Hid ((x.rots.take (i+1)).map (Ge g)=(x.rots.take i).map (Ge g)++[Ge g x.rots[i]]):=yb (by rw[yq c4,zb];rfl)
   have f1:Hid (i+1<=1000000):=yb (by have:=bp.o;have:=d6.o;omega)
   have aj:=yb (dl.o.rots _ (yy c4))
   have f3:Hid (((x.rots.take i).map (Ge g)).length=i):=yb (by simp;omega)
   generalize hD:x.rots[i]=D at de bz cn aj
   clear hD
   generalize eh:(b&&(x.rots.take i).all (I8 q))=bb at bz
   have HJ:Hid (J bb wr):=yb (by rw[<-eh];exact HM.o.j)
   clear eh
   have c6:=yb (JI de).2
   have ai:=yb ca
   obtain ⟨nm,U,rk,e0,e1,e2,ts⟩:=D
   obtain ⟨⟨ta,tn,tc⟩,cq,d9,c0,c1,c2,rfl,x0,x1,x2,cr⟩:=de
   simp only[Av.v] at bh ai c6
   simp only at bh ai c6 bz cn aj cq d9 x0 x1 x2
   obtain ⟨ct,aw⟩:∃ct:LV,ct=(.string nm::(Ah U++(iV rk::(c0++(c1++(c2++[.slice ta tn tc])))))):=⟨_,rfl⟩
   rw[<-aw] at bh ai c6
   have em:=yb aw
   have ez:=yb cr.2.2;have bi:Hid (tn=ts.length):=yb cr.1
   clear cr
   have eq:=yb cq
   have e7:=yb d9
   have dr:Hid (wr.rangeAt bq (oq+i*23) ct):=yb (A2 bh (HM.o.ms.bx.block bq c5.2 (fun k=>c5.1 (R.o _ k))))
   have ff:Hid (bq < wr.heap.size):=yb (yp c5.2 HM.o.ms.bx.size)
   have dt:Hid (At (fun c e=>AP (GF G w) w e c) [c0,c1,c2] [e0,e1,e2]):=yb ⟨x0,x1,x2,trivial⟩
   have ap:Hid (∀k∈(([w.heap.size,w.heap.size+1,w.heap.size+2]++ob (.slice va M H))++[wr.heap.size]),w.heap.size<=k∧k<=wr.heap.size):=yb (by
    have h1:=HM.o.ms.lt
    intro k d
    rcases yo.1 d with d|d
    ·rcases yo.1 d with d|d
     ·simp at d;omega
     ·have:=HM.o.grow.lt k d;omega
    ·simp at d;omega)
   have B:=yb HM.o.ms.lt
   have f4:Hid (¬ F wr.heap.size):=yb (fun h=>by have:=a2.o _ h;have:=B.o;omega)
   clear aw bh c5 ca cq d9 x0 x1 x2
   go_upto_block 11 with fail
   refine wp_block ?_
   refine Ag fun K1 bu=>?_
   go_wp2_with (first
    |(with_reducible refine yj rfl 64 _ rfl bq (oq+i*23) (by kernel_rfl) ct _ dr.o qL (by kernel_rfl) (BW (n:=23) (by kernel_rfl) ai.o) ?_)
    |(with_reducible refine Aj rfl 64 _ _ rfl wr.heap.size (by kernel_rfl) ct (by kernel_rfl) (World.alloc_heap_new _ _) (by rw[yB,ai.o];kernel_rfl) (BW (n:=23) (by kernel_rfl) ai.o) c6.o ?_;intro X1 dv;have ah:=yb dv;clear dv))
   refine bu.o _ _ ?_
   clear bu
   have A:Hid (TB F wr 64 (.string nm::(Ah U++(iV rk::(c0++(c1++(c2++[.slice ta tn tc])))))) X1):=yb (by rw[<-em.o];exact EE ah.o)
   have s:Hid (J bb X1):=yb (HC.o.stab _ _ _ HJ.o (fun k d=>(AB ah.o).block k (by have:=a2.o k d;have:=B.o;omega)) (AB ah.o).size)
   have f:Hid (VE G (([w.heap.size,w.heap.size+1,w.heap.size+2]++ob (.slice va M H))++[wr.heap.size]) X1 [c0,c1,c2] [e0,e1,e2]):=yb (At.mono (fun _ _ h=>h.flux ((HM.o.ms.bx.trans (A.o.bx.mono HM.o.ms.bx.size)).flux (ye _) R.o) (fun k d=>d.imp (fun h=>h) (fun h=>(ap.o k h).1))) dt.o)
   clear ah dr dt
   have ax:=yb (HC.o.call (bb) X1 2 wr.heap.size 1 (.string nm::([]:LV)) U (iV rk::(c0++(c1++(c2++[.slice ta tn tc])))) 64 s.o (by have h:=A.o.row;simpa[yl] using h) (by simp) f4.o e7.o (by decide) (by decide))
   refine Ag fun K1 bu=>?_
   go_wp2
   rw[HC.o.enter,zR]
   refine ax.o.mono ?_
   rintro e X2 ⟨rfl,hj,hx⟩
   have au:WX F X1 X2 wr.heap.size (.string nm::(Ah (g 2 U)++(iV rk::(c0++(c1++(c2++[.slice ta tn tc])))))) 64:=by simpa[yl] using hx
   have S:=A.o.cb au;have hE:=f.o.cb au R.o (by simp)
   clear A s f ax hx
   have A:=yb S;have f:=yb hE;have s:=yb hj
   clear S hE hj au
   go_wp2
   refine bu.o _ _ ?_
   clear bu
   refine Ag fun K3 ey=>?_
   obtain ⟨RW,d3⟩:∃r:LV,r=(.string nm::(Ah (g 2 U)++(iV rk::(c0++(c1++(c2++[.slice ta tn tc])))))):=⟨_,rfl⟩
   have ba:=yb d3
   rw[<-d3] at A
   clear d3
   obtain ⟨w0,w1,w2,_⟩:=f.o
   have a8:=yb w0.len
   have aa:=yb w1.len
   have a7:=yb w2.len
   clear w0 w1 w2
   have S:=A.o.drew;have hE:=f.o.drew;have hj:=HC.o.stab _ _ X2.drew s.o (fun _ _=>rfl) (ye _)
   clear A f s
   have A:=yb S;have f:=yb hE;have s:=yb hj
   clear S hE hj
   have T:Hid (∀k,F k->k < wr.heap.size):=yb (fun k d=>by have:=a2.o k d;have:=B.o;omega)
   refine wp_region_noPanic ?_
   refine BT (by kernel_rfl) (fun W=>W.heap[wr.heap.size]?=some (.cells RW.toArray 64 (0,0))) 13 ?_
   refine A0 (i:=0) (v:=pV wr.heap.size 4) rfl (by kernel_rfl) (by kernel_rfl) (by kernel_rfl) (fun _ _ _ h=>h) (by kernel_rfl) (Or.inl ⟨by rfl,?_⟩) (fun _=>A.o.row) ?_
   ·intro w _;go_simp
   refine Ae (i:=1) (v:=.agg (c0).toArray) rfl (by kernel_rfl) (by kernel_rfl) (by kernel_rfl) (fun _ _ _ h=>h) (by kernel_rfl) (yK (by rfl) 26 _ rfl (wr.heap.size) 4 (by kernel_rfl) (c0) _ (fun W hW=>BE hW (p:=(.string nm::(Ah (g 2 U)++(iV rk::([]:LV))))) (q:=(c1++(c2++[.slice ta tn tc]))) (by rw[ba.o];simp) (by simp[A7,a8.o,aa.o,a7.o])) qq rfl (BV a8.o)) A.o.row ?_
   refine A0 (i:=2) (v:=.func (.func id) #[] caps) rfl (by kernel_rfl) (by kernel_rfl) (by kernel_rfl) (fun _ _ _ h=>h) (by kernel_rfl) (Or.inl ⟨by rfl,?_⟩) (fun _=>A.o.row) ?_
   ·intro w _;go_simp
   refine A0 (i:=4) (v:=pV wr.heap.size 10) rfl (by kernel_rfl) (by kernel_rfl) (by kernel_rfl) (fun _ _ _ h=>h) (by kernel_rfl) (Or.inl ⟨by rfl,?_⟩) (fun _=>A.o.row) ?_
   ·intro w _;go_simp
   refine Ae (i:=5) (v:=.agg (c1).toArray) rfl (by kernel_rfl) (by kernel_rfl) (by kernel_rfl) (fun _ _ _ h=>h) (by kernel_rfl) (yK (by rfl) 26 _ rfl (wr.heap.size) 10 (by kernel_rfl) (c1) _ (fun W hW=>BE hW (p:=(.string nm::(Ah (g 2 U)++(iV rk::(c0++([]:LV)))))) (q:=(c2++[.slice ta tn tc])) (by rw[ba.o];simp) (by simp[A7,a8.o,aa.o,a7.o])) qq rfl (BV aa.o)) A.o.row ?_
   refine A0 (i:=6) (v:=.func (.func id) #[] caps) rfl (by kernel_rfl) (by kernel_rfl) (by kernel_rfl) (fun _ _ _ h=>h) (by kernel_rfl) (Or.inl ⟨by rfl,?_⟩) (fun _=>A.o.row) ?_
   ·intro w _;go_simp
   refine A0 (i:=8) (v:=pV wr.heap.size 16) rfl (by kernel_rfl) (by kernel_rfl) (by kernel_rfl) (fun _ _ _ h=>h) (by kernel_rfl) (Or.inl ⟨by rfl,?_⟩) (fun _=>A.o.row) ?_
   ·intro w _;go_simp
   refine Ae (i:=9) (v:=.agg (c2).toArray) rfl (by kernel_rfl) (by kernel_rfl) (by kernel_rfl) (fun _ _ _ h=>h) (by kernel_rfl) (yK (by rfl) 26 _ rfl (wr.heap.size) 16 (by kernel_rfl) (c2) _ (fun W hW=>BE hW (p:=(.string nm::(Ah (g 2 U)++(iV rk::(c0++(c1++([]:LV))))))) (q:=[.slice ta tn tc]) (by rw[ba.o];simp) (by simp[A7,a8.o,aa.o,a7.o])) qq rfl (BV a7.o)) A.o.row ?_
   refine A0 (i:=10) (v:=.func (.func id) #[] caps) rfl (by kernel_rfl) (by kernel_rfl) (by kernel_rfl) (fun _ _ _ h=>h) (by kernel_rfl) (Or.inl ⟨by rfl,?_⟩) (fun _=>A.o.row) ?_
   ·intro w _;go_simp
   refine A3 (i:=3) (by kernel_rfl) rfl (fun K hK=>?_)
   go_simp
   have Q:=yb (B6 HC.o e0 (FL G (([w.heap.size,w.heap.size+1,w.heap.size+2]++ob (.slice va M H))++[wr.heap.size])) ((bb&&q 2 U)) X2.drew c0 aj.o.1.1 s.o (by obtain ⟨w0,w1,w2,_⟩:=f.o;exact w0) (fun k d=>.inl (R.o k d)) (fun k d=>by
    have h1:=A.o.lt;have h2:=B.o
    rcases d with d|d
    ·have:=HG.o k d;omega
    ·have:=(ap.o k d).2;omega))
   refine Q.o.mono ?_
   rintro e Z0 ⟨z,rfl,a1,Z,V⟩
   have S:=A.o.call T.o V
   have hE:VE G (([w.heap.size,w.heap.size+1,w.heap.size+2]++ob (.slice va M H))++[wr.heap.size]) Z0 [z,c1,c2] [AM g e0,e1,e2]:=by
    obtain ⟨w0,w1,w2,_⟩:=f.o.bcall V R.o
    exact ⟨a1,w1,w2,trivial⟩
   have ad:=yb a1.len
   refine hK.o _ _ (fun _=>S.row) ?_
   clear hK K A f s Q a1 V
   have A:=yb S;have f:=yb hE;have s:=yb Z
   clear S hE Z
   refine A3 (i:=7) (by kernel_rfl) rfl (fun K hK=>?_)
   go_simp
   have Q:=yb (B6 HC.o e1 (FL G (([w.heap.size,w.heap.size+1,w.heap.size+2]++ob (.slice va M H))++[wr.heap.size])) (((bb&&q 2 U)&&AV q e0)) Z0 c1 aj.o.1.2.1 s.o (by obtain ⟨w0,w1,w2,_⟩:=f.o;exact w1) (fun k d=>.inl (R.o k d)) (fun k d=>by
    have h1:=A.o.lt;have h2:=B.o
    rcases d with d|d
    ·have:=HG.o k d;omega
    ·have:=(ap.o k d).2;omega))
   refine Q.o.mono ?_
   rintro e Z1 ⟨C,rfl,a1,Z,V⟩
   have S:=A.o.call T.o V
   have hE:VE G (([w.heap.size,w.heap.size+1,w.heap.size+2]++ob (.slice va M H))++[wr.heap.size]) Z1 [z,C,c2] [AM g e0,AM g e1,e2]:=by
    obtain ⟨w0,w1,w2,_⟩:=f.o.bcall V R.o
    exact ⟨w0,a1,w2,trivial⟩
   have af:=yb a1.len
   refine hK.o _ _ (fun _=>S.row) ?_
   clear hK K A f s Q a1 V
   have A:=yb S;have f:=yb hE;have s:=yb Z
   clear S hE Z
   refine A3 (i:=11) (by kernel_rfl) rfl (fun K hK=>?_)
   go_simp
   have Q:=yb (B6 HC.o e2 (FL G (([w.heap.size,w.heap.size+1,w.heap.size+2]++ob (.slice va M H))++[wr.heap.size])) ((((bb&&q 2 U)&&AV q e0)&&AV q e1)) Z1 c2 aj.o.1.2.2 s.o (by obtain ⟨w0,w1,w2,_⟩:=f.o;exact w2) (fun k d=>.inl (R.o k d)) (fun k d=>by
    have h1:=A.o.lt;have h2:=B.o
    rcases d with d|d
    ·have:=HG.o k d;omega
    ·have:=(ap.o k d).2;omega))
   refine Q.o.mono ?_
   rintro e Z2 ⟨E,rfl,a1,Z,V⟩
   have S:=A.o.call T.o V
   have hE:VE G (([w.heap.size,w.heap.size+1,w.heap.size+2]++ob (.slice va M H))++[wr.heap.size]) Z2 [z,C,E] [AM g e0,AM g e1,AM g e2]:=by
    obtain ⟨w0,w1,w2,_⟩:=f.o.bcall V R.o
    exact ⟨w0,w1,a1,trivial⟩
   have ag:=yb a1.len
   refine hK.o _ _ (fun _=>S.row) ?_
   clear hK K A f s Q a1 V
   have A:=yb S;have f:=yb hE;have s:=yb Z
   clear S hE Z
   rw[ba.o] at A
   refine A3 (i:=12) (by kernel_rfl) rfl (fun K hK=>?_)
   go_simp
   refine hK.o _ _ (fun _=>by rw[ba.o];exact A.o.row) ?_
   clear hK K
   refine A3 (i:=13) (by kernel_rfl) rfl (fun K hK=>?_)
   rw[yx (by rfl)]
   refine AE 26 _ _ rfl wr.heap.size 4 (by kernel_rfl) z (by kernel_rfl) (p:=(.string nm::(Ah (g 2 U)++(iV rk::([]:LV))))) (m:=c0) (q:=(c1++(c2++[.slice ta tn tc]))) (t:=64) (by have h:=A.o.row;simpa using h) (by simp[A7,a8.o,aa.o,a7.o,ad.o,af.o,ag.o]) (by rw[a8.o,ad.o]) (BV ad.o) (Ai (by obtain ⟨w0,w1,w2,_⟩:=f.o;exact w0)) ?_
   intro S0 ae
   have O:AF Z2 S0 wr.heap.size (.string nm::(Ah (g 2 U)++(iV rk::(z++(c1++(c2++[.slice ta tn tc])))))) 64:=by simpa using ae
   refine hK.o _ _ (by intro h;cases h) ?_
   have S:=A.o.wrote O;have hE:=f.o.wrt O (by simp);have hj:=HC.o.stab _ _ _ s.o (fun k d=>O.block k (by have:=T.o k d;omega)) (by rw[O.size];exact ye _)
   clear hK K A f s ae O
   have A:=yb S;have f:=yb hE;have s:=yb hj
   clear S hE hj
   refine A3 (i:=14) (by kernel_rfl) rfl (fun K hK=>?_)
   go_simp
   refine hK.o _ _ (by intro h;cases h) ?_
   clear hK K
   refine A3 (i:=15) (by kernel_rfl) rfl (fun K hK=>?_)
   rw[yx (by rfl)]
   refine AE 26 _ _ rfl wr.heap.size 10 (by kernel_rfl) C (by kernel_rfl) (p:=(.string nm::(Ah (g 2 U)++(iV rk::(z++([]:LV)))))) (m:=c1) (q:=(c2++[.slice ta tn tc])) (t:=64) (by have h:=A.o.row;simpa using h) (by simp[A7,a8.o,aa.o,a7.o,ad.o,af.o,ag.o]) (by rw[aa.o,af.o]) (BV af.o) (Ai (by obtain ⟨w0,w1,w2,_⟩:=f.o;exact w1)) ?_
   intro S1 ae
   have O:AF S0 S1 wr.heap.size (.string nm::(Ah (g 2 U)++(iV rk::(z++(C++(c2++[.slice ta tn tc])))))) 64:=by simpa using ae
   refine hK.o _ _ (by intro h;cases h) ?_
   have S:=A.o.wrote O;have hE:=f.o.wrt O (by simp);have hj:=HC.o.stab _ _ _ s.o (fun k d=>O.block k (by have:=T.o k d;omega)) (by rw[O.size];exact ye _)
   clear hK K A f s ae O
   have A:=yb S;have f:=yb hE;have s:=yb hj
   clear S hE hj
   refine A3 (i:=16) (by kernel_rfl) rfl (fun K hK=>?_)
   go_simp
   refine hK.o _ _ (by intro h;cases h) ?_
   clear hK K
   refine A3 (i:=17) (by kernel_rfl) rfl (fun K hK=>?_)
   rw[yx (by rfl)]
   refine AE 26 _ _ rfl wr.heap.size 16 (by kernel_rfl) E (by kernel_rfl) (p:=(.string nm::(Ah (g 2 U)++(iV rk::(z++(C++([]:LV))))))) (m:=c2) (q:=[.slice ta tn tc]) (t:=64) (by have h:=A.o.row;simpa using h) (by simp[A7,a8.o,aa.o,a7.o,ad.o,af.o,ag.o]) (by rw[a7.o,ag.o]) (BV ag.o) (Ai (by obtain ⟨w0,w1,w2,_⟩:=f.o;exact w2)) ?_
   intro S2 ae
   have O:AF S1 S2 wr.heap.size (.string nm::(Ah (g 2 U)++(iV rk::(z++(C++(E++[.slice ta tn tc])))))) 64:=by simpa using ae
   refine hK.o _ _ (by intro h;cases h) ?_
   have S:=A.o.wrote O;have hE:=f.o.wrt O (by simp);have hj:=HC.o.stab _ _ _ s.o (fun k d=>O.block k (by have:=T.o k d;omega)) (by rw[O.size];exact ye _)
   clear hK K A f s ae O
   have A:=yb S;have f:=yb hE;have s:=yb hj
   clear S hE hj
   refine BS (by kernel_rfl) ?_
   refine NoPanic.normal ?_
   refine ey.o _ _ ?_
   refine Ag fun K4 dy=>?_
   go_wp2
   refine dy.o _ _ ?_
   clear dy
   have ca:S2.cell? (aV wr.heap.size 22)=some (.slice ta tn tc):=Cp (A.o.part (p:=(.string nm::(Ah (g 2 U)++(iV rk::(z++(C++(E++([]:LV)))))))) (m:=[.slice ta tn tc]) (q:=([]:LV)) (by simp) (by simp[A7,ad.o,af.o,ag.o]))
   obtain ⟨I2,cv⟩:∃I2:Nat->Value->World->Prop,I2=fun j v Y=>TB F wr 64 (.string nm::(Ah (g 2 U)++(iV rk::(z++(C++(E++[.slice ta tn tc])))))) Y∧VE G ((([w.heap.size,w.heap.size+1,w.heap.size+2]++ob (.slice va M H))++[wr.heap.size])++ob v) Y [z,C,E] [AM g e0,AM g e1,AM g e2]∧J (((((bb&&q 2 U)&&AV q e0)&&AV q e1)&&AV q e2)&&(ts.take j).all (H3 q)) Y∧DA Dm 66 8 (wr.heap.size+1) G (([w.heap.size,w.heap.size+1,w.heap.size+2]++ob (.slice va M H))++[wr.heap.size]) Y v ((ts.take j).map (FE g)):=⟨_,rfl⟩
   have ch:Hid (I2 0 (.slice none 0 0) S2):=yb (by rw[cv];exact ⟨A.o,by simpa[ob,Value.ownBlock] using f.o,by simpa using s.o,by simpa using DQ⟩)
   have e4:=yb cv
   have f8:Hid (tn<=140737488355328):=yb (by have:=bi.o;have:=aj.o.2.1;omega)
   clear A f s cv
   refine Ag fun K5 ek=>?_
   obtain ⟨wo,rfl⟩:∃wo:World,wo=wr:=⟨_,rfl⟩
   go_wp2
   go_loopw [17,203] (fun f7 jv X=>∃j:Nat,jv=iV j∧j<=tn∧Hid (I2 j f7 X)) (fun _ jv _=>tn - (intOf jv).toNat)
   case atStart=>exact ⟨0,rfl,yz _,ch⟩
   case round=>
    clear ch ca
    obtain ⟨j,rfl,hj,bw⟩:=hrel
    obtain ⟨S,hE,hJ,bj⟩:TB F wo 64 (.string nm::(Ah (g 2 U)++(iV rk::(z++(C++(E++[.slice ta tn tc])))))) wr∧VE G ((([w.heap.size,w.heap.size+1,w.heap.size+2]++ob (.slice va M H))++[wo.heap.size])++ob u17) wr [z,C,E] [AM g e0,AM g e1,AM g e2]∧J (((((bb&&q 2 U)&&AV q e0)&&AV q e1)&&AV q e2)&&(ts.take j).all (H3 q)) wr∧DA Dm 66 8 (wo.heap.size+1) G (([w.heap.size,w.heap.size+1,w.heap.size+2]++ob (.slice va M H))++[wo.heap.size]) wr u17 ((ts.take j).map (FE g)):=by have h:=bw.o;rw[e4.o] at h;exact h
    obtain ⟨ya,yn,yc,rfl⟩:=bj.slice
    have bm:=yb S;have ec:=yb hE;have b7:=yb bj
    have fd:tn<=140737488355328:=f8.o
    have bk:=yb S.lt
    have c9:Hid (∀k∈(([w.heap.size,w.heap.size+1,w.heap.size+2]++ob (.slice va M H))++[wo.heap.size])++ob (.slice ya yn yc),w.heap.size<=k∧k < wr.heap.size):=yb (by
     have h1:=S.lt
     have h2:=B.o
     intro k d
     rcases yo.1 d with d|d
     ·have:=ap.o k d;omega
     ·have:=bj.lt k d;omega)
    by_cases e9:j < tn
    ·have b9:j < ts.length:=by rw[<-bi.o];exact e9
     have en:(j:Int) < (tn:Int):=by omega
     obtain ⟨bt,ot,cu,fb,ao,dk,c8,cm⟩:=ez.o j b9
     obtain rfl:ta=some (aV bt ot):=fb
     have c3:Hid ((((((bb&&q 2 U)&&AV q e0)&&AV q e1)&&AV q e2)&&(ts.take (j+1)).all (H3 q))=((((((bb&&q 2 U)&&AV q e0)&&AV q e1)&&AV q e2)&&(ts.take j).all (H3 q))&&H3 q ts[j])):=yb (by
      rw[yq b9,zh,ze,zu,yT,<-zc])
     have ci:Hid ((ts.take (j+1)).map (FE g)=(ts.take j).map (FE g)++[FE g ts[j]]):=yb (by rw[yq b9,zb];rfl)
     have ed:Hid (j+1<=1000000):=yb (by have:=bi.o;have:=aj.o.2.1;omega)
     have dj:Hid (Ba ts[j].len):=yb (aj.o.2.2 _ (yy b9))
     have eu:Hid (((ts.take j).map (FE g)).length=j):=yb (by simp;omega)
     generalize ew:ts[j]=D2 at cm c3 ci dj
     clear ew
     generalize dq:(((((bb&&q 2 U)&&AV q e0)&&AV q e1)&&AV q e2)&&(ts.take j).all (H3 q))=bn at hJ c3
     clear dq
     have b4:=yb dk;have d4:=yb (KC cm).2
     obtain ⟨tf,te⟩:=D2
     obtain ⟨df,cl,rfl,xl⟩:=cm
     simp only at c8 b4 d4 c3 ci dj df xl
     obtain ⟨cz,d8⟩:∃cz:LV,cz=(Ah tf++cl):=⟨_,rfl⟩
     rw[<-d8] at c8 b4 d4
     have f9:=yb d8
     have ef:=yb df
     have el:Hid (wr.rangeAt bt (ot+j*8) cz):=yb (A2 (A2 c8 (HM.o.ms.bx.block bt ao.2 (fun k=>ao.1 (R.o _ k)))) (S.bx.block bt (yp ao.2 HM.o.ms.bx.size) (fun k=>ao.1 (R.o _ k))))
     have fg:Hid (bt < wr.heap.size):=yb (yp (yp ao.2 HM.o.ms.bx.size) S.bx.size)
     have f0:Hid (AP (GF (FL G (((([w.heap.size,w.heap.size+1,w.heap.size+2]++ob (.slice va M H))++[wo.heap.size])++ob (.slice ya yn yc))++[wr.heap.size])) wr) wr te cl):=yb (xl.flux ((HM.o.ms.bx.trans (S.bx.mono HM.o.ms.bx.size)).flux (ye _) R.o) (fun k d=>d.imp (fun h=>h) (fun h=>by
      rcases yo.1 h with h|h
      ·exact (c9.o k h).1
      ·have:=B.o;have:=bk.o;simp at h;omega)))
     have T:Hid (∀k,F k->k < wr.heap.size):=yb (fun k d=>by have:=a2.o k d;have:=B.o;have:=bk.o;omega)
     have f2:=yb hJ
     clear d8 c8 ao dk df xl S hE hJ bj b9
     go_upto_region 47 with (first
      |(with_reducible refine yj rfl 66 _ rfl bt (ot+j*8) (by kernel_rfl) cz _ el.o qM (by kernel_rfl) (BW (n:=8) (by kernel_rfl) b4.o) ?_)
      |(with_reducible refine Aj rfl 66 _ _ rfl wr.heap.size (by kernel_rfl) cz (by kernel_rfl) (World.alloc_heap_new _ _) (by rw[yB,b4.o];kernel_rfl) (BW (n:=8) (by kernel_rfl) b4.o) d4.o ?_;intro Y1 e8;have ah:=yb e8;clear e8))
     have cp:Hid (TB F wr 66 (Ah tf++cl) Y1):=yb (by rw[<-f9.o];exact EE ah.o)
     have eb:Hid (J bn Y1):=yb (HC.o.stab _ _ _ f2.o (fun k d=>(AB ah.o).block k (T.o k d)) (AB ah.o).size)
     have e6:Hid (AP (GF (FL G (((([w.heap.size,w.heap.size+1,w.heap.size+2]++ob (.slice va M H))++[wo.heap.size])++ob (.slice ya yn yc))++[wr.heap.size])) Y1) Y1 te cl):=yb (f0.o.flux' (Bj.below (AB ah.o)))
     have ax:=yb (HC.o.call bn Y1 3 wr.heap.size 0 ([]:LV) tf cl 66 eb.o (by have h:=cp.o.row;simpa using h) rfl (fun h=>xA _ (T.o _ h)) ef.o (by decide) (by decide))
     go_upto_region 48 with fail
     rw[HC.o.enter,zR]
     refine ax.o.mono ?_
     rintro e Y2 ⟨rfl,Z,au⟩
     have cw:WX F Y1 Y2 wr.heap.size (Ah (g 3 tf)++cl) 66:=by simpa using au
     have c7:=yb (cp.o.cb cw)
     have di:Hid (AP (GF (FL G (((([w.heap.size,w.heap.size+1,w.heap.size+2]++ob (.slice va M H))++[wo.heap.size])++ob (.slice ya yn yc))++[wr.heap.size])) Y2) Y2 te cl):=yb (e6.o.flux' (cw.flux (fun k d=>.inl (R.o k d)) (.inr (by simp))))
     have dz:=yb Z
     clear cp e6 eb ax au cw Z ah
     have dx:=yb (c7.o.part (p:=Ah (g 3 tf)) (m:=cl) (q:=([]:LV)) (off:=2) (by simp) (by simp[A7]))
     have Q:=yb (B6 HC.o te (FL G (((([w.heap.size,w.heap.size+1,w.heap.size+2]++ob (.slice va M H))++[wo.heap.size])++ob (.slice ya yn yc))++[wr.heap.size])) (bn&&q 3 tf) Y2 cl dj.o dz.o di.o (fun k d=>.inl (R.o k d)) (fun k d=>by
      have h1:=c7.o.lt;have h2:=bk.o;have h3:=B.o
      rcases d with d|d
      ·have:=HG.o k d;omega
      ·rcases yo.1 d with d|d
       ·have:=(c9.o k d).2;omega
       ·simp at d;omega))
     have cx:=yb di.o.len
     go_upto_region 49 with (first
      |(with_reducible refine yj rfl 26 _ rfl wr.heap.size 2 (by kernel_rfl) cl _ dx.o qq (by kernel_rfl) (BV cx.o) ?_)
      |(go_at_call 65;refine Q.o.mono ?_;rintro e Y3 ⟨dh,rfl,a1,Z,V⟩;have bs:=yb a1;have ee:=yb Z;have d2:=yb (c7.o.call T.o V);clear a1 Z V)
      |(with_reducible refine Cy rfl 26 _ _ rfl wr.heap.size 2 (by kernel_rfl) dh (by kernel_rfl) (p:=Ah (g 3 tf)) (m:=cl) (q:=([]:LV)) (t:=66) (by have h:=d2.o.row;simpa using h) (by simp[A7]) (by rw[cx.o,bs.o.len]) (BV bs.o.len) (Ai bs.o) ?_;intro Y4 ae;have ay:Hid (AF Y3 Y4 wr.heap.size (Ah (g 3 tf)++dh) 66):=yb (by simpa using ae);clear ae))
     have ar:=yb (d2.o.wrote ay.o)
     have f5:=yb (HC.o.stab _ _ _ ee.o (fun k d=>ay.o.block k (by have:=T.o k d;omega)) (by rw[ay.o.size];exact ye _))
     obtain ⟨rz,da⟩:∃r:LV,r=(Ah (g 3 tf)++dh):=⟨_,rfl⟩
     rw[<-da] at ar
     have an:Hid (Dm (GF (FL G ((([w.heap.size,w.heap.size+1,w.heap.size+2]++ob (.slice va M H))++[wo.heap.size])++ob (.slice ya yn yc))) Y4) Y4 rz (FE g ⟨tf,te⟩)):=yb (by
      rw[da]
      exact ⟨HC.o.name _ _ ef.o,_,rfl,bs.o.fl (ay.o.flux (.inr (by simp))) (fun k d=>.inl (yo.2 (.inl d)))⟩)
     clear da c7 d2 di dz ee ay bs dx cx Q
     have ak:=yb (KC an.o).1;have d0:=yb (KC an.o).2
     have bv:Hid (Bj (FL G ((([w.heap.size,w.heap.size+1,w.heap.size+2]++ob (.slice va M H))++[wo.heap.size])++ob (.slice ya yn yc))) wr Y4):=yb (ar.o.bx.flux (ye _) (fun k d=>.inl (R.o k d)))
     have b3:=b7.o.up (l':=(([w.heap.size,w.heap.size+1,w.heap.size+2]++ob (.slice va M H))++[wo.heap.size])) Hi bv.o (fun k d=>ar.o.bx.block k (b7.o.lt k d).2 (fun h=>by have:=a2.o k h;have:=(b7.o.lt k d).1;have:=B.o;omega)) (fun _ h=>.inl h)
     obtain ⟨rows,al,az,ac⟩:=b3.own
     have dc:=yb al;have d7:=yb az;have bd:=yb ac
     have am:Hid (wo.heap.size+1<=Y4.heap.size):=yb (by have:=bk.o;have:=ar.o.bx.size;omega)
     have bo:Hid ((Y4.alloc (.cells rz.toArray 66)).ownsRow (wo.heap.size+1) 66 8 (.slice ya yn yc) rows.length rows.flatten):=yb (BA al fun k d=>((yg _ _).alloc (ye _) _).block k (F9 al k d).2)
     have be:Hid (rows.length+1<=1000000):=yb (by rw[At.length ac,eu.o];exact ed.o)
     have cy:Hid (wo.heap.size+1<=(Y4.alloc (.cells rz.toArray 66)).heap.size):=yb (by have:=am.o;simp;omega)
     clear al az ac b3
     go_upto_region 50 with (first
      |(with_reducible refine yj rfl 66 _ rfl wr.heap.size 0 (by kernel_rfl) rz _ (Ay ar.o.row) qM (by kernel_rfl) (BW (n:=8) (by kernel_rfl) ak.o) ?_)
      |(with_reducible refine BN rfl 62 66 _ rfl rz (by kernel_rfl) 8 qK (by kernel_rfl) ak.o (by omega) (by omega) ?_)
      |(at_builtin;refine Bd qK rfl _ _ rfl 8 (by kernel_rfl) (by omega) (wo.heap.size+1) (.slice ya yn yc) rows.length rows.flatten (by kernel_rfl) bo.o Y4.heap.size 1 rz (by kernel_rfl) (World.alloc_heap_new _ _) ak.o d0.o be.o cy.o ?_;intro vx y8 ab av b8;obtain ⟨xa,xn,xc,rfl⟩:=Cz ab;have a0:=yb (CD Hi bd.o d7.o dc.o an.o ak.o ab av b8 am.o);clear ab av b8))
     go_wp2
     have e5:Hid (BX F (wo.heap.size+1) wr y8):=yb ((ar.o.bx.mono bk.o).trans (.of a0.o.below))
     have cj:Hid (I2 (j+1) (.slice xa xn xc) y8):=yb (by
      rw[e4.o]
      refine ⟨⟨bm.o.bx.trans (e5.o.mono (by omega)),(e5.o.block _ (by omega) (fun h=>by have:=a2.o _ h;have:=B.o;omega)).trans bm.o.row⟩,(ec.o.up bv.o (fun _ h=>.inl h)).up a0.o.flux a0.o.obs,?_,?_⟩
      ·rw[c3.o,show (bn&&H3 q ⟨tf,te⟩)=((bn&&q 3 tf)&&AV q te) by simp[H3,zc]]
       exact HC.o.stab _ _ _ f5.o (fun k d=>a0.o.below.block k (by have:=a2.o k d;have:=B.o;omega)) a0.o.flux.1
      ·rw[ci.o];exact a0.o.grow)
     exact ⟨⟨j+1,by push_cast;rfl,by omega,cj⟩,by simp[intOf];omega⟩
    ·obtain rfl:j=tn:=by omega
     have en:decide ((j:Int) < (j:Int))=false:=by simp
     have s:Hid (J (((((bb&&q 2 U)&&AV q e0)&&AV q e1)&&AV q e2)&&ts.all (H3 q)) wr):=yb (by have h:=hJ;simp only[bi.o,yw] at h;exact h)
     have bg:DA Dm 66 8 (wo.heap.size+1) G (([w.heap.size,w.heap.size+1,w.heap.size+2]++ob (.slice va M H))++[wo.heap.size]) wr (.slice ya yn yc) (ts.map (FE g)):=by have h:=b7.o;simp only[bi.o,yw] at h;exact h
     obtain ⟨ck,cg,cd⟩:=bg.done Hi (fun k d=>by have:=HG.o k d;have:=B.o;omega) (fun k d=>by have:=(ap.o k d).2;omega) (by have:=aj.o.2.1;simp;omega)
     have du:Hid (VE G (([w.heap.size,w.heap.size+1,w.heap.size+2]++ob (.slice va M H))++[wo.heap.size]) wr [z,C,E] [AM g e0,AM g e1,AM g e2]):=yb (hE.up (Bj.refl _ _) (fun k d=>.inl (yo.2 (.inl d))))
     have cf:=yb cd;have cc:=yb cg
     have fe:Hid (∀k∈(([w.heap.size,w.heap.size+1,w.heap.size+2]++ob (.slice va M H))++[wo.heap.size]),w.heap.size<=k∧k < wr.heap.size):=yb (fun k d=>c9.o k (yo.2 (.inl d)))
     clear S hE hJ bj bg cg cd b7 ec c9
     go_wp2
     refine ek.o _ _ ?_
     go_upto_region 52 with (first
      |(with_reducible refine Ao rfl 62 _ _ rfl wo.heap.size 22 (by kernel_rfl) (.slice ya yn yc) (by kernel_rfl) (by kernel_rfl) (p:=(.string nm::(Ah (g 2 U)++(iV rk::(z++(C++(E++([]:LV)))))))) (m:=.slice ta j tc) (q:=([]:LV)) (t:=64) (by have h:=bm.o.row;simpa using h) (by simp[A7,ad.o,af.o,ag.o]) (by kernel_rfl) (by kernel_rfl) ?_;intro S9 b5;have a6:Hid (AF wr S9 wo.heap.size (.string nm::(Ah (g 2 U)++(iV rk::(z++(C++(E++[.slice ya yn yc])))))) 64):=yb (by simpa using b5);clear b5))
     have A:=yb (bm.o.wrote a6.o)
     have f:=yb (du.o.wrt a6.o (by simp))
     have ea:=yb (HC.o.stab _ _ _ s.o (fun k d=>a6.o.block k (by have:=a2.o k d;have:=B.o;omega)) (by rw[a6.o.size];exact ye _))
     have et:Hid (Az (GF (FL G ([w.heap.size,w.heap.size+1,w.heap.size+2]++ob (.slice va M H))) S9) S9 8 (Dm (GF (FL G ([w.heap.size,w.heap.size+1,w.heap.size+2]++ob (.slice va M H))) S9) S9) ⟨ya,yn,yc⟩ (ts.map (FE g))):=yb (by
      have h:Az (GF (FL G (([w.heap.size,w.heap.size+1,w.heap.size+2]++ob (.slice va M H))++[wo.heap.size])) wr) wr 8 (Dm (GF (FL G (([w.heap.size,w.heap.size+1,w.heap.size+2]++ob (.slice va M H))++[wo.heap.size])) wr) wr) ck (ts.map (FE g)):=cf.o
      have e:ck=⟨ya,yn,yc⟩:=by
       have h2:=cc.o
       obtain ⟨p1,p2,p3⟩:=ck
       simp only[Av.v,zX] at h2
       obtain ⟨rfl,rfl,rfl⟩:=h2
       rfl
      rw[e] at h
      exact h.flux Hi (a6.o.flux (.inr (by simp))) (fun k d=>.inl (d.imp (fun h=>h) (fun h=>yo.2 (.inl h)))))
     clear bm du s cf cc a6
     have s:=yb ea.o
     clear ea
     obtain ⟨aq,dg⟩:∃r:LV,r=(.string nm::(Ah (g 2 U)++(iV rk::(z++(C++(E++[.slice ya yn yc])))))):=⟨_,rfl⟩
     rw[<-dg] at A
     have an:Hid (KW (GF (FL G ([w.heap.size,w.heap.size+1,w.heap.size+2]++ob (.slice va M H))) S9) S9 aq (Ge g ⟨nm,U,rk,e0,e1,e2,ts⟩)):=yb (by
      rw[dg]
      obtain ⟨x0,x1,x2,_⟩:=f.o.up (l':=[w.heap.size,w.heap.size+1,w.heap.size+2]++ob (.slice va M H)) (Bj.refl _ _) (fun k d=>.inl (yo.2 (.inl d)))
      exact ⟨_,eq.o,HC.o.name _ _ e7.o,_,_,_,rfl,x0,x1,x2,et.o⟩)
     clear dg f
     have ak:=yb (JI an.o).1;have d0:=yb (JI an.o).2
     have d1:Hid (MS F w cs (P++(.slice va M H:: qY)) S9):=yb (HM.o.ms.up a2.o B.o A.o.bx)
     have fh:S9.cell? (aV (w.heap.size+2) 23)=some (.slice va M H):=d1.o.cellx rfl eg.o
     have bv:Hid (Bj (FL G ([w.heap.size,w.heap.size+1,w.heap.size+2]++ob (.slice va M H))) wo S9):=yb (A.o.bx.flux (ye _) (fun k d=>.inl (R.o k d)))
     have b3:=HM.o.grow.up (l':=[w.heap.size,w.heap.size+1,w.heap.size+2]) G6 bv.o (fun k d=>A.o.bx.block k (HM.o.grow.lt k d).2 (fun h=>by have:=a2.o k h;have:=(HM.o.grow.lt k d).1;omega)) (fun _ h=>.inl h)
     obtain ⟨rows,al,az,ac⟩:=b3.own
     have dc:=yb al;have d7:=yb az;have bd:=yb ac
     have am:Hid (w.heap.size+3<=S9.heap.size):=yb d1.o.lt
     have bo:Hid ((S9.alloc (.cells aq.toArray 64)).ownsRow (w.heap.size+3) 64 23 (.slice va M H) rows.length rows.flatten):=yb (BA al fun k d=>((yg _ _).alloc (ye _) _).block k (F9 al k d).2)
     have be:Hid (rows.length+1<=1000000):=yb (by rw[At.length ac,f3.o];exact f1.o)
     have cy:Hid (w.heap.size+3<=(S9.alloc (.cells aq.toArray 64)).heap.size):=yb (by have:=am.o;simp;omega)
     clear al az ac b3
     go_upto_region 53 with (first
      |(with_reducible refine yj rfl 64 _ rfl wo.heap.size 0 (by kernel_rfl) aq _ (Ay A.o.row) qL (by kernel_rfl) (BW (n:=23) (by kernel_rfl) ak.o) ?_)
      |(with_reducible refine BN rfl 31 64 _ rfl aq (by kernel_rfl) 23 qy (by kernel_rfl) ak.o (by omega) (by omega) ?_)
      |(at_builtin;refine Bd qy rfl _ _ rfl 23 (by kernel_rfl) (by omega) (w.heap.size+3) (.slice va M H) rows.length rows.flatten (by kernel_rfl) bo.o S9.heap.size 1 aq (by kernel_rfl) (World.alloc_heap_new _ _) ak.o d0.o be.o cy.o ?_;intro vx x8 ab av b8;obtain ⟨xa,xn,xc,rfl⟩:=Cz ab;have a0:=yb (CD G6 bd.o d7.o dc.o an.o ak.o ab av b8 am.o);have ce:=yb (d1.o.up a2.o (ye _) (.of a0.o.below));clear ab av b8)
      |(with_reducible refine Ao rfl 31 _ _ rfl (w.heap.size+2) 23 (by kernel_rfl) (.slice xa xn xc) (by kernel_rfl) (by kernel_rfl) (p:=P) (m:=.slice va M H) (q:= qY) (t:=35) ce.o.x eg.o (by kernel_rfl) (by kernel_rfl) ?_;intro x9 b5;have a6:=yb b5;clear b5))
     go_wp2
     have cj:Hid (I (i+1) x9):=yb (by
      rw[HI.o]
      refine ⟨.slice xa xn xc,ce.o.wrote a6.o,?_,?_,?_⟩
      ·rw[show (b&&(x.rots.take (i+1)).all (I8 q))=(((((bb&&q 2 U)&&AV q e0)&&AV q e1)&&AV q e2)&&ts.all (H3 q)) by rw[bz.o];simp[I8,zc]]
       exact HC.o.stab _ _ _ s.o (fun k d=>(a6.o.block k (by have:=a2.o k d;omega)).trans (a0.o.below.block k (by have:=a2.o k d;omega))) (by rw[a6.o.size];exact a0.o.flux.1)
      ·exact ((HM.o.got.flux bv.o (fun _ h=>.inl h)).flux a0.o.flux (Im a0.o.obs)).flux (a6.o.flux (.inr (by simp))) (fun _ h=>.inl h)
      ·have h:=a0.o.grow.up (l':=[w.heap.size,w.heap.size+1,w.heap.size+2]) G6 (a6.o.flux (.inr (by simp))) (fun k d=>a6.o.block k (by have:=(a0.o.grow.lt k d).1;omega)) (fun _ h=>.inl h)
       rw[<-cn.o] at h
       exact h)
     exact ⟨⟨i+1,by push_cast;rfl,by omega,cj⟩,by simp[intOf];omega⟩
  ·obtain rfl:i=n:=by omega
   have ep:decide ((i:Int) < (i:Int))=false:=by simp
   have HQ:Hid (J (b&&x.rots.all (I8 q)) wr):=yb (by have h:=HM.o.j;simp only[bp.o,yw] at h;exact h)
   have bg:DA KW 64 23 (w.heap.size+3) G [w.heap.size,w.heap.size+1,w.heap.size+2] wr (.slice va M H) (x.rots.map (Ge g)):=by have h:=HM.o.grow;simp only[bp.o,yw] at h;exact h
   obtain ⟨hd,ej,dw⟩:=bg.done G6 (fun k d=>by have:=HG.o k d;omega) (fun k d=>by simp at d;omega) (by have:=d6.o;simp;omega)
   have fa:Hid (Dl 5 (GF (FL G [w.heap.size,w.heap.size+1,w.heap.size+2]) wr) wr c0 c1 c2 h0 h1 h2 h3 hd ⟨none,0,0⟩ ⟨none,0,0⟩ (⟨y.name,y.season,y.cap,y.start,y.lets,y.crops,y.reaches,y.farms,(x.rots.map (Ge g)),y.rights,y.duties⟩:An)):=yb (by
    have h:=HM.o.got.flux (F':=FL G [w.heap.size,w.heap.size+1,w.heap.size+2]) (Bj.refl _ _) (fun k d=>.inl (d.imp (fun h=>h) (fun h=>yo.2 (.inl h))))
    exact ⟨h.name,h.e0,h.e1,h.e2,fun d=>h.lets (by omega),fun d=>h.crops (by omega),fun d=>h.reaches (by omega),fun d=>h.farms (by omega),fun _=>dw,fun d=>absurd d (by omega),fun d=>absurd d (by omega)⟩)
   rw[ej] at HM
   have f6:=yb HM.o.ms
   clear bg ej dw HM
   go_wp2
   refine hK.o _ _ ?_
   refine FC (P:=fun l=>Code.wp Try.prog _ _ ⟨l,[]⟩ wr) rfl ?_
   refine TE (y:=(⟨y.name,y.season,y.cap,y.start,y.lets,y.crops,y.reaches,y.farms,(x.rots.map (Ge g)),y.rights,y.duties⟩:An)) HC.o HV.o dl.o R.o HG.o ?_ (by have h:=f6.o;rw[eo.o] at h;simpa[yl] using h) fa.o HQ.o
   exact ⟨rfl,rfl,rfl,rfl⟩
end Go.Proofs.Ytghepahgkcigpaa
