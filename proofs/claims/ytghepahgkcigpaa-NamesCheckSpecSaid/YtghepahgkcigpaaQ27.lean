/- The reference's plain: farms, reaches (printed by gen_zq.py). -/
import Derived.Test.YtghepahgkcigpaaQ0
import Derived.Test.YtghepahgkcigpaaQ25
import Derived.StillTailTactics
import Derived.Deep.CutBlock
set_option maxRecDepth 100000
set_option maxHeartbeats 32000000
set_option linter.unusedSimpArgs false
namespace Go.Proofs.Ytghepahgkcigpaa
open Go.RowKit
theorem OR{o:Oper}{a:Act}{K:Act->World->Prop}{Q:QT}{W:World}(B:Nat)(s x:Operand)(C:o.op=.call {callee:=.builtin .append,args:=#[s,x],argTypes:=#[122,122]})
 (v:Value)(l:List Pl)(hs:a.eval s=v)(p:FX B W v l)(g m c:Nat)(d:List Pl)(E:a.eval x=.slice (some ⟨g,0,none⟩) m c)(y:m=d.length)(F:W.heap[g]?=some (.cells (d.flatMap Li).toArray 125 (0,0)))
 (t:l.length+d.length<=1000000)(e:B<=W.heap.size)
 (h:∀(w:Option Addr) (n c:Nat) w',FX B w' (.slice w n c) (l++d)->W.grownBy w' v.ownBlock->K (a.put o.dst (.slice w n c)) w'):Oper.wp Try.prog o a W K Q:=by
 subst y
 have h0:((Try.prog.info? 125).bind fun i=>i.zero.map fun z=>(i.size,z.cells.size,i.bytes))=some (8,8,88):=by kernel_rfl
 cases k:Try.prog.info? 125 with
 |none=>rw[k] at h0;cases h0
 |some i0=>
  rw[k] at h0
  cases r:i0.zero with
  |none=>simp[r] at h0
  |some z=>
  simp only[r,xC,xK,yZ,zo] at h0
  obtain ⟨I,D,H⟩:=h0
  have f:∀j u,(d.flatMap Li)[j]?=some u->W.cell? (((aV g 0):Addr).add j)=some u:=fun j u J=>by
   rw[zx]
   simp only[World.cell?,F]
   simpa using J
  refine qt W s x 122 C B 125 i0 z 8 88 qy k r I H D (by decide) v l.length _ hs p (aV g 0) d.length c (d.flatMap Li) E (Ki d).1 f (Ki d).2 (by unfold maxLen;omega) (by omega) e ?_
  intro v' w' b q _
  obtain ⟨va,G,A,rfl⟩:=EH b
  exact (h va G A w' (by unfold FX;rw[yi,zD];exact b) q)
theorem Wl{N:NP}{w W:World}{cs:LV}{x:AA}{L:BL}{v u0 u2 u4 u5 u6 u7 u8 u9 en e7 fk gi fm fl dw fe ga f3 eo e9 g4 gq g5 gu ep f2 dy gj fy gl fu e8 g9 dm dp el f1 gn e3 ea du g7 eb ee dk go dl ff f7 ek fo ed e5 ei g8 fb ev et fv fg gb er fz f8 em f5 eu f9 dv eq eg g3 fc gc ge gs fj fp f4 eh fa gg ej fd ef gp dt e4 gr fq g6 ft ez fi fw e6 f6 dq ao c8 bt cv da bg cu co ar cx df a2 R bs cd dc ba Q ap Z cw d0 a6 dg di cn dh c9 cy ce az cl b3 ak bw bd db cb b4 cz bm b5 al V cf ay bz be aq cm c3 c6 bh bp ae d3 aa am cc d6 ck a7 S X av d7 cg d9 ch ax a8 bo c4 au bu b8 d1 bk dj ca d8 bv b9 af bb cj U aw ad cq:Value}(hv:Ba N w L cs x)(hN:∀b,N b->b < w.heap.size)(y:Fw x)(hP:Ps w cs W v (RC x)):
  Code.wp Try.prog (DM 5 (Try.f62.body.getD .skip)) (bodyPost Try.prog Try.f62 (Ir w (Co x))) {tmps:=#[u0,.pointer (some ⟨w.heap.size,0,none⟩),u2,v,u4,u5,u6,u7,u8,u9,en,e7,fk,gi,fm,fl,dw,fe,ga,f3,eo,e9,g4,gq,g5,gu,ep,f2,dy,gj,fy,gl,fu,e8,g9,dm,dp,el,f1,gn,e3,ea,du,g7,eb,ee,dk,go,dl,ff,f7,ek,fo,ed,e5,ei,g8,fb,ev,et,fv,fg,gb,er,fz,f8,em,f5,eu,f9,dv,eq,eg,g3,fc,gc,ge,gs,fj,fp,f4,eh,fa,gg,ej,fd,ef,gp,dt,e4,gr,fq,g6,ft,ez,fi,fw,e6,f6,dq,ao,c8,bt,cv,da,bg,cu,co,ar,cx,df,a2,R,bs,cd,dc,ba,Q,ap,Z,cw,d0,a6,dg,di,cn,dh,c9,cy,ce,az,cl,b3,ak,bw,bd,db,cb,b4,cz,bm,b5,al,V,cf,ay,bz,be,aq,cm,c3,c6,bh,bp,ae,d3,aa,am,cc,d6,ck,a7,S,X,av,d7,cg,d9,ch,ax,a8,bo,c4,au,bu,b8,d1,bk,dj,ca,d8,bv,b9,af,bb,cj,U,aw,ad,cq],defers:=[]} W:=by
 obtain ⟨⟨a,n,c⟩,hL⟩:∃h:AF,L.farms=h:=⟨_,rfl⟩
 obtain ⟨s0,s1,s2,d2,g0,g1,g2⟩:=hv.cells
 have H:Hid (∀(W:World) (v:Value) (l:List Pl),Ps w cs W v l->W.cell? (aV w.heap.size 22)=some (.slice a n c)):=ya (by
  intro W v l h
  refine h.cell (p:=.string x.name::(s0++(s1++(s2++[L.lets.v,L.crops.v,L.reaches.v])))) (q:=[L.rots.v,L.rights.v,L.duties.v]) ?_ (by simp[g0.len,g1.len,g2.len])
  rw[d2,hL]
  simp[yg,AF.v])
 have J:B7 N w 12 (E9 N w) ⟨a,n,c⟩ x.farms:=hL▸hv.farms
 have gt:=ya J.2.2
 have O:Hid (n=x.farms.length):=ya J.1
 clear J
 have gk:Hid (x.farms.length<=1000):=ya (by have:=y.farms;omega)
 have ci:Hid (n<=140737488355328):=ya (by have:=O.o;have:=gk.o;omega)
 have HV:=ya hv
 have HN:=ya hN
 have d5:=ya y
 have ew:=ya (Iq y)
 obtain ⟨I,hI⟩:∃I:Nat->Value->World->Prop,I=fun i v wr=>Ps w cs wr v (RC x++(x.farms.take i).flatMap FV):=⟨_,rfl⟩
 have HI:=ya hI
 have T:Hid (I 0 v W):=ya (by rw[hI];simpa using hP)
 clear hv hN y hP hL d2 g0 g1 g2 hI
 refine AH fun K hK=>?_
 go_wp2
 go_loopw [3,7] (fun v3 iv wr=>∃i:Nat,iv=iV i∧i<=n∧Hid (I i v3 wr)) (fun _ iv _=>n - (intOf iv).toNat)
 case atStart=>exact ⟨0,rfl,yv _,T⟩
 case round=>
  clear T
  obtain ⟨i,rfl,hi,ab⟩:=hrel
  have d:Hid (Ps w cs wr u3 (RC x++(x.farms.take i).flatMap FV)):=ya (by have h:=ab.o;rw[HI.o] at h;exact h)
  clear ab
  have hf:=H.o _ _ _ d.o
  have gw:n<=140737488355328:=ci.o
  by_cases fh:i < n
  ·have G:i < x.farms.length:=by rw[<-O.o];exact fh
   have ag:(i:Int) < (n:Int):=by omega
   obtain ⟨bq,oq,A,he,d4,ey,ah,C⟩:=gt.o i G
   obtain rfl:a=some (aV bq oq):=he
   have b7:(RC x++(x.farms.take i).flatMap FV).length<=10000:=by
    have h1:=CO (l:=x.farms) (f:=FV) (c:=1) (i:=i) (fun _ _=>by simp[FV])
    have h2:=ew.o.p4;have h3:=d5.o.farms
    rw[yi]
    omega
   have F:Hid (RC x++(x.farms.take (i+1)).flatMap FV=(RC x++(x.farms.take i).flatMap FV)++FV x.farms[i]):=ya (by rw[Ck G,yg])
   generalize hD:x.farms[i]=D at C F
   clear hD
   generalize a0:RC x++(x.farms.take i).flatMap FV=cr at F d b7
   clear a0
   have aj:=A1 ah (d.o.below.block bq (HN.o bq d4))
   have M:=Gr C
   obtain ⟨s,⟨g,k⟩,r,de,⟨e,m⟩⟩:=D
   obtain ⟨h1,h2,h3,c,rfl,hx⟩:=C
   obtain ⟨A,j⟩:∃A:LV,A=.string s::(.string g::iV k::(.bool r::(c++([.string e,iV m])))):=⟨_,rfl⟩
   have gh:Hid (wr.rangeAt bq (oq+i*12) A):=ya (by rw[j];simpa[Ad] using aj)
   have E:Hid (A.length=12):=ya (by rw[j];simpa[Ad] using M.1)
   have gv:Hid (∀v∈A,v.oneCell'=true):=ya (by rw[j];simpa[Ad] using M.2)
   have gf:=ya hx.len
   have z:=ya j
   clear ah ey d4 G aj M j hx h1 h2 h3
   go_upto_region 18 with (first
    |(refine yf rfl 59 _ rfl bq (oq+i*12) rfl A _ gh.o qV rfl (AX (n:=12) (by kernel_rfl) E.o) ?_)
    |(refine A2 rfl 59 _ _ rfl wr.heap.size rfl A rfl (World.alloc_heap_new _ _) (by rw[E.o];rfl) (AX (n:=12) (by kernel_rfl) E.o) gv.o ?_;intro x1 a1;have t:=ya a1;clear a1))
   clear hf ag
   have Y:=ya (FN t.o)
   have gx:x1.cell? (aV wr.heap.size 0)=some (.string s):=Ew (row:=.string s::(.string g::iV k::(.bool r::(c++([.string e,iV m]))))) (by have h:=t.o.row;rw[z.o] at h;exact h) (p:=[]) (q:=.string g::iV k::(.bool r::(c++([.string e,iV m])))) (by first|rfl|simp) (by simp)
   have fx:=ya (Gz (c:=[Value.string g,iV k]) (o:=1) (row:=.string s::(.string g::iV k::(.bool r::(c++([.string e,iV m]))))) (by have h:=t.o.row;rw[z.o] at h;exact h) (p:=[.string s]) (q:=.bool r::(c++([.string e,iV m]))) (by first|rfl|simp) (by simp))
   have gy:x1.cell? (aV wr.heap.size 3)=some (.bool r):=Ew (row:=.string s::(.string g::iV k::(.bool r::(c++([.string e,iV m]))))) (by have h:=t.o.row;rw[z.o] at h;exact h) (p:=.string s::([.string g,iV k])) (q:=c++([.string e,iV m])) (by first|rfl|simp) (by simp)
   have ac:=ya (Gz (c:=[Value.string e,iV m]) (o:=10) (row:=.string s::(.string g::iV k::(.bool r::(c++([.string e,iV m]))))) (by have h:=t.o.row;rw[z.o] at h;exact h) (p:=.string s::(.string g::iV k::(.bool r::(c)))) (q:=[]) (by first|rfl|simp) (by simp[gf.o]))
   have f0:Hid (Below x1.heap.size x1 (x1.alloc (.cells #[iV 5,.string s,.string g,iV k,.string e,iV m,iV 0,.bool r] 125))):=ya ((yc _ _).alloc (ye _) _)
   have P:Hid (Below wr.heap.size wr (x1.alloc (.cells #[iV 5,.string s,.string g,iV k,.string e,iV m,iV 0,.bool r] 125))):=ya ((Y.o).trans (f0.o.mono (Y.o).size))
   have bj:=ya (d.o.own.up P.o)
   have cp:Hid ((x1.alloc (.cells #[iV 5,.string s,.string g,iV k,.string e,iV m,iV 0,.bool r] 125)).heap[x1.heap.size]?=some (.cells (([(⟨5,s,⟨g,k⟩,⟨e,m⟩,0,r⟩:Pl)]:List Pl).flatMap Li).toArray 125 (0,0))):=ya (World.alloc_heap_new x1 (.cells #[iV 5,.string s,.string g,iV k,.string e,iV m,iV 0,.bool r] 125))
   have u:Hid ((w.heap.size+1)<=(x1.alloc (.cells #[iV 5,.string s,.string g,iV k,.string e,iV m,iV 0,.bool r] 125)).heap.size):=ya (yo d.o.size P.o.size)
   have dd:Hid (cr.length+1<=1000000):=ya (by omega)
   clear b7
   go_wp2_with (first|(refine yf rfl 23 _ rfl wr.heap.size 1 rfl [.string g,iV k] _ fx.o qD rfl (by kernel_rfl) ?_)|(refine yf rfl 23 _ rfl wr.heap.size 10 rfl [.string e,iV m] _ ac.o qD rfl (by kernel_rfl) ?_)|(at_builtin;refine Cr (w.heap.size+1) rfl _ _ rfl u3 cr rfl bj.o (x1.heap.size) 1 1 [(⟨5,s,⟨g,k⟩,⟨e,m⟩,0,r⟩:Pl)] rfl rfl cp.o dd.o u.o ?_;intro gm n5 c5 w5 B c7;have gd:=ya B;have fs:Hid (Below (w.heap.size+1) wr w5):=ya (FY (P.o.mono d.o.size) u.o bj.o c7);clear B c7))
   have ec:Hid (I (i+1) (.slice gm n5 c5) w5):=ya (by rw[HI.o];show Ps w cs w5 _ (RC x++(x.farms.take (i+1)).flatMap FV);rw[F.o];exact d.o.next fs.o gd.o)
   exact ⟨⟨i+1,by push_cast;rfl,by omega,ec⟩,by simp[intOf];omega⟩
  ·obtain rfl:i=n:=by omega
   have ag:decide ((i:Int) < (i:Int))=false:=by simp
   have dx:Hid (Ps w cs wr u3 (RC x++x.farms.flatMap FV)):=ya (by
    have h:=d.o
    rw[O.o,yx] at h
    exact h)
   clear d
   go_wp2
   exact hK.o _ _ (Wk HV.o HN.o d5.o dx.o)
theorem Wm{N:NP}{w W:World}{cs:LV}{x:AA}{L:BL}{v u0 u2 u4 u5 u6 u7 u8 u9 eq e8 fo gh fq fp dq fh gb f6 er ea g5 gq g6 gu et f5 du gi fz gk fw e9 ga di dj eo f4 gn dv eb dm g8 ec ef dg go dh fi fa em fs ee dx ej g9 fe ez ew fx fj gc ev g3 fb ep f8 ey fc dp eu eh g4 ff gd gf gs fm ft f7 ei fd gg el fg eg gp dl dw gr fu g7 fv f2 fl fy dy f9 dk af bv bi cq d7 b7 cp cl aj cu db X M bh ca d8 b3 J ag T cr cx Y dc de ck dd bw cv cb ar ci aq ac bm b5 d9 bz au cw bd av ad R cc ap bn b8 ah cj bo bs b9 bg a8 d0 a1 ae c9 d3 ch Z P S am d4 cd d6 ce ao a0 be bp ak bj ax cy bb df c8 d5 bk ay aa b4 cg Q al a7 cn:Value}(hv:Ba N w L cs x)(hN:∀b,N b->b < w.heap.size)(y:Fw x)(hP:Ps w cs W v (Rz x)):
  Code.wp Try.prog (DM 4 (Try.f62.body.getD .skip)) (bodyPost Try.prog Try.f62 (Ir w (Co x))) {tmps:=#[u0,.pointer (some ⟨w.heap.size,0,none⟩),u2,v,u4,u5,u6,u7,u8,u9,eq,e8,fo,gh,fq,fp,dq,fh,gb,f6,er,ea,g5,gq,g6,gu,et,f5,du,gi,fz,gk,fw,e9,ga,di,dj,eo,f4,gn,dv,eb,dm,g8,ec,ef,dg,go,dh,fi,fa,em,fs,ee,dx,ej,g9,fe,ez,ew,fx,fj,gc,ev,g3,fb,ep,f8,ey,fc,dp,eu,eh,g4,ff,gd,gf,gs,fm,ft,f7,ei,fd,gg,el,fg,eg,gp,dl,dw,gr,fu,g7,fv,f2,fl,fy,dy,f9,dk,af,bv,bi,cq,d7,b7,cp,cl,aj,cu,db,X,M,bh,ca,d8,b3,J,ag,T,cr,cx,Y,dc,de,ck,dd,bw,cv,cb,ar,ci,aq,ac,bm,b5,d9,bz,au,cw,bd,av,ad,R,cc,ap,bn,b8,ah,cj,bo,bs,b9,bg,a8,d0,a1,ae,c9,d3,ch,Z,P,S,am,d4,cd,d6,ce,ao,a0,be,bp,ak,bj,ax,cy,bb,df,c8,d5,bk,ay,aa,b4,cg,Q,al,a7,cn],defers:=[]} W:=by
 obtain ⟨⟨a,n,c⟩,hL⟩:∃h:AF,L.reaches=h:=⟨_,rfl⟩
 obtain ⟨s0,s1,s2,cz,g0,g1,g2⟩:=hv.cells
 have F:Hid (∀(W:World) (v:Value) (l:List Pl),Ps w cs W v l->W.cell? (aV w.heap.size 21)=some (.slice a n c)):=ya (by
  intro W v l h
  refine h.cell (p:=.string x.name::(s0++(s1++(s2++[L.lets.v,L.crops.v])))) (q:=[L.farms.v,L.rots.v,L.rights.v,L.duties.v]) ?_ (by simp[g0.len,g1.len,g2.len])
  rw[cz,hL]
  simp[yg,AF.v])
 have G:B7 N w 51 (CY N w) ⟨a,n,c⟩ x.reaches:=hL▸hv.reaches
 have gt:=ya G.2.2
 have H:Hid (n=x.reaches.length):=ya G.1
 clear G
 have gj:Hid (x.reaches.length<=1000):=ya (by have:=y.reaches;omega)
 have cf:Hid (n<=140737488355328):=ya (by have:=H.o;have:=gj.o;omega)
 have HV:=ya hv
 have HN:=ya hN
 have d2:=ya y
 have f0:=ya (Iq y)
 obtain ⟨I,hI⟩:∃I:Nat->Value->World->Prop,I=fun i v wr=>Ps w cs wr v (Rz x++(x.reaches.take i).flatMap Dy):=⟨_,rfl⟩
 have HI:=ya hI
 have O:Hid (I 0 v W):=ya (by rw[hI];simpa using hP)
 clear hv hN y hP hL cz g0 g1 g2 hI
 refine AH fun K u=>?_
 go_wp2
 go_loopw [3,6] (fun v3 iv wr=>∃i:Nat,iv=iV i∧i<=n∧Hid (I i v3 wr)) (fun _ iv _=>n - (intOf iv).toNat)
 case atStart=>exact ⟨0,rfl,yv _,O⟩
 case round=>
  clear O
  obtain ⟨i,rfl,hi,a2⟩:=hrel
  have e:Hid (Ps w cs wr u3 (Rz x++(x.reaches.take i).flatMap Dy)):=ya (by have h:=a2.o;rw[HI.o] at h;exact h)
  clear a2
  have hf:=F.o _ _ _ e.o
  have gv:n<=140737488355328:=cf.o
  by_cases fk:i < n
  ·have E:i < x.reaches.length:=by rw[<-H.o];exact fk
   have ek:(i:Int) < (n:Int):=by omega
   obtain ⟨g,j,ct,he,d1,f1,ab,a6⟩:=gt.o i E
   obtain rfl:a=some (aV g j):=he
   have aw:(Rz x++(x.reaches.take i).flatMap Dy).length<=10000:=by
    have h1:=CO (l:=x.reaches) (f:=Dy) (c:=1) (i:=i) (fun _ _=>by simp[Dy])
    have h2:=f0.o.p3;have h3:=d2.o.reaches
    rw[yi]
    omega
   have C:Hid (Rz x++(x.reaches.take (i+1)).flatMap Dy=(Rz x++(x.reaches.take i).flatMap Dy)++Dy x.reaches[i]):=ya (by rw[Ck E,yg])
   generalize hD:x.reaches[i]=D at a6 C
   clear hD
   generalize U:Rz x++(x.reaches.take i).flatMap Dy=co at C e aw
   clear U
   have B:=A1 ab (e.o.below.block g (HN.o g d1))
   obtain ⟨r,⟨k,m⟩,e0,e1,e2,e3,e4,e5,e6,e7⟩:=D
   obtain ⟨gw,hdr,c0,c1,c2,c3,c4,c5,c6,c7,rfl,_⟩:=a6
   have en:wr.cell? (aV g (j+i*51))=some (.string r):=by simpa using OQ (p:=[]) B
   have gm:Hid (wr.rangeAt g (j+i*51+1) (Ad ⟨k,m⟩)):=ya (Bn (p:=[Value.string r]) (c:=Ad ⟨k,m⟩) B)
   clear ab f1 E B
   go_upto_region 13 with fail
   have d:Hid (Below (w.heap.size+1) wr wr.drew):=ya ((yc _ _).drew)
   have az:Hid (g < w.heap.size):=ya (HN.o g d1)
   refine wp_region_noPanic ?_
   refine Bz (by kernel_rfl) (fun V=>Below (w.heap.size+1) wr V) 16 ?_
   have f3:Hid (Below wr.drew.heap.size wr.drew (wr.drew.alloc (.cells #[iV 4,.string r,.string k,iV m,.string {data:=#[]},iV 0,iV 0,.bool false] 125))):=ya ((yc _ _).alloc (ye _) _)
   have z:Hid (Below wr.heap.size wr (wr.drew.alloc (.cells #[iV 4,.string r,.string k,iV m,.string {data:=#[]},iV 0,iV 0,.bool false] 125))):=ya (((yc wr.heap.size wr).drew).trans (f3.o.mono ((yc wr.heap.size wr).drew).size))
   have ba:=ya (e.o.own.up z.o)
   have cm:Hid ((wr.drew.alloc (.cells #[iV 4,.string r,.string k,iV m,.string {data:=#[]},iV 0,iV 0,.bool false] 125)).heap[wr.drew.heap.size]?=some (.cells (([(⟨4,r,⟨k,m⟩,He,0,false⟩:Pl)]:List Pl).flatMap Li).toArray 125 (0,0))):=ya (World.alloc_heap_new wr.drew (.cells #[iV 4,.string r,.string k,iV m,.string {data:=#[]},iV 0,iV 0,.bool false] 125))
   have s:Hid ((w.heap.size+1)<=(wr.drew.alloc (.cells #[iV 4,.string r,.string k,iV m,.string {data:=#[]},iV 0,iV 0,.bool false] 125)).heap.size):=ya (yo e.o.size z.o.size)
   have da:Hid (co.length+1<=1000000):=ya (by omega)
   clear aw
   refine A0 (i:=0) (v:=u3) rfl (by kernel_rfl) (by kernel_rfl) (by kernel_rfl) (fun _ _ _ h=>h) (by kernel_rfl) (Or.inl ⟨by rfl,?_⟩) (fun _=>d.o) ?_
   ·intro w _;go_simp
   refine A0 (i:=1) (v:=pV w.heap.size 21) rfl (by kernel_rfl) (by kernel_rfl) (by kernel_rfl) (fun _ _ _ h=>h) (by kernel_rfl) (Or.inl ⟨by rfl,?_⟩) (fun _=>d.o) ?_
   ·intro w _;go_simp
   refine Ag (i:=2) (v:=.slice (some (aV g j)) n c) rfl (by kernel_rfl) (by kernel_rfl) (by kernel_rfl) (fun _ _ _ h=>h) (by kernel_rfl) (Or.inl ⟨by rfl,?_⟩) d.o ?_
   ·intro W t
    have hc:W.cell? (aV w.heap.size 21)=some (.slice (some (aV g j)) n c):=(t.cell (p:=(aV w.heap.size 21)) (by simp)).trans hf
    clear t
    go_simp
   refine A0 (i:=3) (v:=iV i) rfl (by kernel_rfl) (by kernel_rfl) (by kernel_rfl) (fun _ _ _ h=>h) (by kernel_rfl) (Or.inl ⟨by rfl,?_⟩) (fun _=>d.o) ?_
   ·intro w _;go_simp
   refine A0 (i:=4) (v:=pV g (j+i*51)) rfl (by kernel_rfl) (by kernel_rfl) (by kernel_rfl) (fun _ _ _ h=>h) (by kernel_rfl) (Or.inl ⟨by rfl,?_⟩) (fun _=>d.o) ?_
   ·intro w _;go_simp
   refine A0 (i:=5) (v:=pV g (j+i*51)) rfl (by kernel_rfl) (by kernel_rfl) (by kernel_rfl) (fun _ _ _ h=>h) (by kernel_rfl) (Or.inl ⟨by rfl,?_⟩) (fun _=>d.o) ?_
   ·intro w _;go_simp
   refine Ag (i:=6) (v:=.string r) rfl (by kernel_rfl) (by kernel_rfl) (by kernel_rfl) (fun _ _ _ h=>h) (by kernel_rfl) (Or.inl ⟨by rfl,?_⟩) d.o ?_
   ·intro W t
    have hc:W.cell? (aV g (j+i*51))=some (.string r):=(t.cell (p:=(aV g (j+i*51))) (by have:=az.o;simp only;omega)).trans en
    clear t
    go_simp
   refine A0 (i:=7) (v:=pV w.heap.size 21) rfl (by kernel_rfl) (by kernel_rfl) (by kernel_rfl) (fun _ _ _ h=>h) (by kernel_rfl) (Or.inl ⟨by rfl,?_⟩) (fun _=>d.o) ?_
   ·intro w _;go_simp
   refine Ag (i:=8) (v:=.slice (some (aV g j)) n c) rfl (by kernel_rfl) (by kernel_rfl) (by kernel_rfl) (fun _ _ _ h=>h) (by kernel_rfl) (Or.inl ⟨by rfl,?_⟩) d.o ?_
   ·intro W t
    have hc:W.cell? (aV w.heap.size 21)=some (.slice (some (aV g j)) n c):=(t.cell (p:=(aV w.heap.size 21)) (by simp)).trans hf
    clear t
    go_simp
   refine A0 (i:=9) (v:=iV i) rfl (by kernel_rfl) (by kernel_rfl) (by kernel_rfl) (fun _ _ _ h=>h) (by kernel_rfl) (Or.inl ⟨by rfl,?_⟩) (fun _=>d.o) ?_
   ·intro w _;go_simp
   refine A0 (i:=10) (v:=pV g (j+i*51)) rfl (by kernel_rfl) (by kernel_rfl) (by kernel_rfl) (fun _ _ _ h=>h) (by kernel_rfl) (Or.inl ⟨by rfl,?_⟩) (fun _=>d.o) ?_
   ·intro w _;go_simp
   refine A0 (i:=11) (v:=pV g (j+i*51+1)) rfl (by kernel_rfl) (by kernel_rfl) (by kernel_rfl) (fun _ _ _ h=>h) (by kernel_rfl) (Or.inl ⟨by rfl,?_⟩) (fun _=>d.o) ?_
   ·intro w _;go_simp
   refine Ag (i:=12) (v:=.agg (Ad ⟨k,m⟩).toArray) rfl (by kernel_rfl) (by kernel_rfl) (by kernel_rfl) (fun _ _ _ h=>h) (by kernel_rfl) (yS (by rfl) 23 _ rfl (g) (j+i*51+1) (by kernel_rfl) (Ad ⟨k,m⟩) _ (fun W t=>A1 gm.o (t.block g (Nat.lt_succ_of_lt az.o))) qD rfl (CK _)) d.o ?_
   refine A0 (i:=13) (v:=.agg #[iV 4,.string r,.string k,iV m,.string {data:=#[]},iV 0,iV 0,.bool false]) rfl (by kernel_rfl) (by kernel_rfl) (by kernel_rfl) (fun _ _ _ h=>h) (by kernel_rfl) (Or.inl ⟨by rfl,?_⟩) (fun _=>d.o) ?_
   ·intro w _;simp only[Ad];go_simp
   refine A4 (i:=14) (by kernel_rfl) rfl (fun K u=>?_)
   go_simp
   refine u.o _ _ (fun _=>z.o.mono e.o.size) ?_
   clear u K
   refine A4 (i:=15) (by kernel_rfl) rfl (fun K u=>?_)
   rw[yu (by rfl)]
   refine OR (w.heap.size+1) _ _ rfl u3 co rfl ba.o wr.drew.heap.size 1 1 [(⟨4,r,⟨k,m⟩,He,0,false⟩:Pl)] rfl rfl cm.o da.o s.o ?_
   intro gl n5 c5 w5 A bu
   have ge:=ya A
   have bt:Hid (Below (w.heap.size+1) wr w5):=ya (FY (z.o.mono e.o.size) s.o ba.o bu)
   refine u.o _ _ (fun _=>bt.o) ?_
   clear u K A bu
   refine A4 (i:=16) (by kernel_rfl) rfl (fun K u=>?_)
   go_simp
   refine u.o _ _ (by intro h;cases h) ?_
   clear u K
   refine AG (by kernel_rfl) ?_
   refine NoPanic.normal ?_
   go_wp2
   have ed:Hid (I (i+1) (.slice gl n5 c5) w5):=ya (by rw[HI.o];show Ps w cs w5 _ (Rz x++(x.reaches.take (i+1)).flatMap Dy);rw[C.o];exact e.o.next bt.o ge.o)
   exact ⟨⟨i+1,by push_cast;rfl,by omega,ed⟩,by simp[intOf];omega⟩
  ·obtain rfl:i=n:=by omega
   have ek:decide ((i:Int) < (i:Int))=false:=by simp
   have dt:Hid (Ps w cs wr u3 (Rz x++x.reaches.flatMap Dy)):=ya (by
    have h:=e.o
    rw[H.o,yx] at h
    exact h)
   clear e
   go_wp2
   exact u.o _ _ (Wl HV.o HN.o d2.o dt.o)
end Go.Proofs.Ytghepahgkcigpaa
