/- Parts of the proof, in short words: Zh Zi Yt Vc Za Zb Zc Zd Zp -/
import Derived.Test.YtghepahgkcigpaaQ0
import Derived.Test.YtghepahgkcigpaaQ11
import Derived.Test.YtghepahgkcigpaaQ13
import Derived.Test.YtghepahgkcigpaaQ17
import Derived.Test.YtghepahgkcigpaaQ18
import Derived.Test.YtghepahgkcigpaaQ8
import Derived.Test.YtghepahgkcigpaaQ3
set_option maxRecDepth 100000
set_option maxHeartbeats 64000000
set_option linter.unusedSimpArgs false
namespace Go.Proofs.Ytghepahgkcigpaa
open Go.RowKit
structure Rs (w:World) (cs ls row:List Value) (S4 X5:Nat) (V0 W:World):Prop where
 below:Below w.heap.size w W
 s:W.heap[w.heap.size]?=some (.cells cs.toArray 35 (0,0))
 z:∃zr:List Value,zr.length=26∧W.heap[w.heap.size+1]?=some (.cells zr.toArray 35 (0,0))
 l:W.heap[S4]?=some (.cells ls.toArray 109 (0,0))
 x:W.heap[X5]?=some (.cells row.toArray 35 (0,0))
 b0:w.heap.size+2<=S4
 b1:S4 < V0.heap.size
 b2:V0.heap.size<=X5
 v0:Below V0.heap.size V0 W
section
variable{w V0 W W':World}{cs ls row row':LV}{S4 X5 B:Nat}
theorem Rs.lt(h:Rs w cs ls row S4 X5 V0 W):X5 < W.heap.size:=(yd.1 h.x).1
theorem Rs.up(h:Rs w cs ls row S4 X5 V0 W)(hb:Below B W W')(b:X5 < B):Rs w cs ls row S4 X5 V0 W':=by
 have h0:=h.b0;have h1:=h.b1;have h2:=h.b2
 obtain ⟨c,d,a⟩:=h.z
 exact ⟨h.below.trans (hb.mono (by omega)),(hb.block _ (by omega)).trans h.s,⟨c,d,(hb.block _ (by omega)).trans a⟩,(hb.block _ (by omega)).trans h.l,(hb.block _ b).trans h.x,h0,h1,h2,h.v0.trans (hb.mono (by omega))⟩
theorem Rs.call(h:Rs w cs ls row S4 X5 V0 W)(hb:Below W.heap.size W W'):Rs w cs ls row S4 X5 V0 W':=h.up hb h.lt
theorem Rs.wrote(h:Rs w cs ls row S4 X5 V0 W)(a:AB W W' X5 row' 35):Rs w cs ls row' S4 X5 V0 W':=by
 have h0:=h.b0;have h1:=h.b1;have h2:=h.b2
 obtain ⟨c,d,b⟩:=h.z
 exact ⟨a.below h.below (by omega),(a.block _ (by omega)).trans h.s,⟨c,d,(a.block _ (by omega)).trans b⟩,(a.block _ (by omega)).trans h.l,a.row,h0,h1,h2,a.below h.v0 h2⟩
theorem Rs.cell{p q:LV}{v:Value}(h:Rs w cs ls row S4 X5 V0 W)(hc:cs=p++(v::q)){o:Nat}(a:p.length=o):W.cell? ⟨w.heap.size,o,none⟩=some v:=by
 have h1:=A6 h.s
 rw[hc] at h1
 have h2:=Bn (p:=p) (c:=[v]) (q:=q) h1
 rw[a,yD] at h2
 exact CL h2
theorem Rs.Xp{p q:LV}{v:Value}(h:Rs w cs ls row S4 X5 V0 W)(hc:row=p++(v::q)){o:Nat}(a:p.length=o):W.cell? ⟨X5,o,none⟩=some v:=by
 have h1:=A6 h.x
 rw[hc] at h1
 have h2:=Bn (p:=p) (c:=[v]) (q:=q) h1
 rw[a,yD] at h2
 exact CL h2
theorem Rs.Xu{h0 h1 h2 h3:AF}{t:Tb}(h:Rs w cs ls row S4 X5 V0 W)(hs:MN V0 ls h0 h1 h2 h3 t):MN W ls h0 h1 h2 h3 t:=hs.up h.v0
theorem Rs.blocks(h:Rs w cs ls row S4 X5 V0 W):∀k∈[w.heap.size,w.heap.size+1,S4,X5],w.heap.size<=k∧k<=X5:=by
 have h0:=h.b0;have h1:=h.b1;have h2:=h.b2
 intro k a
 simp at a
 omega
end
structure EE (k:Nat) (N:Nat->Prop) (W:World) (c0 c1 c2:List Value) (hl hc h2 h3 h4 h5 h6:AF) (y:AA):Prop where
 name:y.name.size<=maxLen
 e0:Bh N W y.season c0
 e1:Bh N W y.cap c1
 e2:Bh N W y.start c2
 lets:B7 N W 7 (Hf N W) hl y.lets
 crops:B7 N W 7 (F6 N W) hc y.crops
 reaches:0 < k->B7 N W 51 (CY N W) h2 y.reaches
 farms:1 < k->B7 N W 12 (E9 N W) h3 y.farms
 rots:2 < k->B7 N W 23 (N4 N W) h4 y.rots
 rights:3 < k->B7 N W 37 (CQ N W) h5 y.rights
 duties:4 < k->B7 N W 11 (Er N W) h6 y.duties
section
variable{k:Nat}{F F':NP}{W W':World}{c0 c1 c2:LV}{hl hc h2 h3 h4 h5 h6:AF}{y:AA}
theorem EE.flux(h:EE k (GF F W) W c0 c1 c2 hl hc h2 h3 h4 h5 h6 y)(c:AP F W W')(a:∀b,F' b->F b∨W.heap.size<=b):EE k (GF F' W') W' c0 c1 c2 hl hc h2 h3 h4 h5 h6 y:=
 ⟨h.name,h.e0.flux c a,h.e1.flux c a,h.e2.flux c a,h.lets.flux DP c a,h.crops.flux Fj c a,fun k=>(h.reaches k).flux DI c a,fun k=>(h.farms k).flux Ej c a,fun k=>(h.rots k).flux EW c a,fun k=>(h.rights k).flux DJ c a,fun k=>(h.duties k).flux Ek c a⟩
theorem Hy{F:NP}{B:Nat}:KW F B (fun l W=>EE k (GF (FL F l) W) W c0 c1 c2 hl hc h2 h3 h4 h5 h6 y):=fun _ _ _ _ h a _ hl=>h.flux a (Sg hl)
end
section
variable{δ:Type}{V:NP->World->LV->δ->Prop}{ty sz B:Nat}{F:NP}{l:List Nat}{Xt:List Nat->World->Prop}{okP:Nat->Bool}{mpP:Nat->List δ}{i:Nat}{b:Bool}{v:Value}{W W':World}{X:Nat}{c:LV}{tx:TypeId}
theorem DQ.put(d:DQ V ty sz B F l Xt okP mpP i b v W)(hs:ID V)(j:Xt (l++ob v) W')(f:AB W W' X c tx)(e:X∈l)(h:X < B):DQ V ty sz B F l Xt okP mpP i b v W':=by
 obtain ⟨ds,g,h1,h2⟩:=d.grow
 exact ⟨j,⟨ds,g.up hs (f.flux (.inr (yn.2 (.inl e)))) (fun k a=>f.block k (by have:=(g.lt k a).1;omega)) (fun k a=>.inl a),h1,h2⟩,d.b,by rw[f.size];exact d.size⟩
end
theorem G8{N:NP}{w:World}{cs:LV}{d:AI}(h:CY N w cs d):cs.length=51∧∀v∈cs,v.oneCell'=true:=by
 obtain ⟨_,_,c0,c1,c2,l,n,k,j,m,rfl,i,g1,g,a,b,f,e,c⟩:=h
 exact ⟨by simp[A9,i.len,g1.len,g.len,a.len,b.len,f.len,e.len,c.len],An rfl (Ai (AO _) (Ai (A8 i) (Ai (A8 g1) (Ai (A8 g) (Ai (A8 a) (Ai (A8 b) (Ai (A8 f) (Ai (A8 e) (A8 c)))))))))⟩
theorem Gr{N:NP}{w:World}{cs:LV}{d:BN}(h:E9 N w cs d):cs.length=12∧∀v∈cs,v.oneCell'=true:=by
 obtain ⟨_,_,_,c,rfl,g⟩:=h
 exact ⟨by simp[A9,g.len],An rfl (Ai (AO _) (An rfl (Ai (A8 g) (AO _))))⟩
theorem Io{N:NP}{w:World}{cs:LV}{d:AS}(h:N4 N w cs d):cs.length=23∧∀v∈cs,v.oneCell'=true:=by
 obtain ⟨_,_,_,c0,c1,c2,rfl,b,g1,a,_⟩:=h
 exact ⟨by simp[A9,b.len,g1.len,a.len],An rfl (Ai (AO _) (An rfl (Ai (A8 b) (Ai (A8 g1) (Ai (A8 a) (An rfl (fun _ h=>nomatch h)))))))⟩
theorem Fk{N:NP}{w:World}{cs:LV}{d:AJ}(h:CQ N w cs d):cs.length=37∧∀v∈cs,v.oneCell'=true:=by
 obtain ⟨_,_,_,c0,c1,c2,g,f,rfl,e,g1,b,a,c⟩:=h
 exact ⟨by simp[A9,e.len,g1.len,b.len,a.len,c.len],An rfl (An rfl (Ai (AO _) (Ai (AO _) (An rfl (Ai (A8 e) (Ai (A8 g1) (Ai (A8 b) (Ai (A8 a) (A8 c)))))))))⟩
theorem Gs{N:NP}{w:World}{cs:LV}{d:BV}(h:Er N w cs d):cs.length=11∧∀v∈cs,v.oneCell'=true:=by
 obtain ⟨_,_,_,c,rfl,g⟩:=h
 exact ⟨by simp[A9,g.len],An rfl (Ai (AO _) (Ai (AO _) (A8 g)))⟩
def NL(t:Tb)(x:AA):AA:={x with season:=BR t.lets x.season,cap:=BR t.lets x.cap,start:=BR t.lets x.start,lets:=x.lets.zipIdx.map fun p=>EU t p.1 p.2,crops:=x.crops.map (Eu t)}
def OJ(t:Tb)(x:AA):AA:={NL t x with reaches:=x.reaches.zipIdx.map fun p=>Bt t p.1 p.2,farms:=x.farms.map (BQ t),rots:=x.rots.map (Cu t),rights:=x.rights.map (Bg t),duties:=x.duties.map (BP t)}
def IZ(b:Bool):Int:=if b=true then 0 else 170
def Q9:Ex:=.mk 0 0 0 ⟨#[]⟩ 0 []
def J0:AA:=⟨⟨#[]⟩,Q9,Q9,Q9,[],[],[],[],[],[],[]⟩
def Fl(N:NP)(w:World)(cs:LV)(y:AA):Prop:=∃L,Ba N w L cs y
def JR(F:NP)(w:World)(c:Int)(y1:AA)(e:Ending)(w':World):Prop:=
 ∃(a:LV) (y:AA),e=.returned (.tuple #[.agg a.toArray,.int .i64 c])∧Fl (GF F w') w' a y∧(if c=0 then y=y1 else y=J0)∧Below w.heap.size w w'
theorem J1(N:NP)(w:World):Fl N w Bp J0:=by
 have a:∀ {α:Type} (sz:Nat) (P:LV->α->Prop),B7 N w sz P ⟨none,0,0⟩ []:=fun _ _=>⟨rfl,by simp,fun i hi=>by simp at hi⟩
 have b:Bh N w Q9 [iV 0,iV 0,iV 0,.string {data:=#[]},iV 0,.slice none 0 0]:=by
  unfold Q9
  rw[Bh]
  exact ⟨none,0,rfl,by simp,(by decide:(0:Nat)<=maxLen),by rw[E6];trivial⟩
 refine ⟨⟨0,⟨none,0,0⟩,⟨none,0,0⟩,⟨none,0,0⟩,⟨none,0,0⟩,⟨none,0,0⟩,⟨none,0,0⟩,⟨none,0,0⟩,[]⟩,?_⟩
 exact ⟨(by decide:(0:Nat)<=maxLen),⟨_,_,_,rfl,b,b,b⟩,a _ _,a _ _,a _ _,a _ _,⟨rfl,by simp[J0],fun i hi=>by simp[J0] at hi⟩,a _ _,a _ _⟩
theorem Vw{N:NP}{W:World}{c0 c1 c2:LV}{hl hc h2 h3 h4 h5 h6:AF}{y:AA}(h:EE 5 N W c0 c1 c2 hl hc h2 h3 h4 h5 h6 y):Fl N W (.string y.name::(c0++(c1++(c2++[hl.v,hc.v,h2.v,h3.v,h4.v,h5.v,h6.v])))) y:=by
 obtain ⟨m,k,l⟩:=h.rots (by omega)
 have c:∀i:Nat,∃t:AF,∀(hi:i < y.rots.length),∃b o cs,h4.a=some (aV b o)∧N b∧cs.length=23∧W.rangeAt b (o+i*23) cs∧I6 N W t cs y.rots[i]:=fun i=>by
  by_cases hi:i < y.rots.length
  ·obtain ⟨b,o,cs,g1,p,d,j,t,n⟩:=l i hi
   exact ⟨t,fun _=>⟨b,o,cs,g1,p,d,j,n⟩⟩
  ·exact ⟨⟨none,0,0⟩,fun h=>absurd h hi⟩
 obtain ⟨f,g⟩:=Classical.axiomOfChoice c
 refine ⟨⟨0,hl,hc,h2,h3,h4,h5,h6,(List.range y.rots.length).map f⟩,h.name,⟨c0,c1,c2,rfl,h.e0,h.e1,h.e2⟩,h.lets,h.crops,h.reaches (by omega),h.farms (by omega),⟨m,k,fun i hi=>?_⟩,h.rights (by omega),h.duties (by omega)⟩
 have e:A5 ⟨0,hl,hc,h2,h3,h4,h5,h6,(List.range y.rots.length).map f⟩ i=f i:=by
  unfold A5
  simp[zW,hi]
 rw[e]
 exact g i hi
theorem Fl.len{N:NP}{w:World}{cs:LV}{y:AA}(h:Fl N w cs y):cs.length=26:=by
 obtain ⟨L,c⟩:=h
 obtain ⟨c0,c1,c2,rfl,b,g1,a⟩:=c.cells
 simp[b.len,g1.len,a.len]
theorem Fl.one{N:NP}{w:World}{cs:LV}{y:AA}(h:Fl N w cs y):∀v∈cs,v.oneCell'=true:=by
 obtain ⟨L,c⟩:=h
 obtain ⟨c0,c1,c2,rfl,b,g1,a⟩:=c.cells
 exact An rfl (Ai (A8 b) (Ai (A8 g1) (Ai (A8 a) (An rfl (An rfl (An rfl (An rfl (An rfl (An rfl (An rfl (fun _ h=>nomatch h)))))))))))
theorem Fl.flux{F F':NP}{W W':World}{cs:LV}{y:AA}(h:Fl (GF F W) W cs y)(a:AP F W W')(hl:∀b,F' b->F b∨W.heap.size<=b):Fl (GF F' W') W' cs y:=by
 obtain ⟨L,c⟩:=h
 exact ⟨L,c.same (fun _ hb=>hb.up a.1 hl) (fun b hb=>a.2 b hb.2 hb.1)⟩
theorem WX{F:NP}{w V0 W:World}{cs ls row:LV}{S4 X5:Nat}{y y1:AA}{b:Bool}{u0 u7 u8 u9 cz cj dt el dv du cd dl eg da d0 cl ea er eb ev d1 d9 ce em e7 en e4 ck ef c7 c8 cx d8 eo cg cm cb ed co cq c5 eq c6 dm de cw dw cp ch cu ee di d6 d4 e5 dn eh d3 e8 df cy dc d5 dg cc d2 cr e9 dj ei ej eu dq dx db ct dh ek cv dk cn ep ca cf et dy ec e3 d7 dp e6 ci dd c9 G al ad ba bq a2 b9 b7 J bd bu m e ac ar bt Y d H l bb bh q bw c3 b5 bv am be au R b3 Q C ag a0 bs ao S bg a8 T D i av P ah a1 I b4 ai ak a6 ab A bj s E ap bn az r f j N bm aw bp ax O p aa aj K ae V bi a7 c4 an bo af U B Z ay g M u b8 v bz:Value}(hR:Rs w cs ls row S4 X5 V0 W)(hY:Fl (GF (FL F [w.heap.size,w.heap.size+1,S4,X5]) W) W row y)(hm:b=true->y=y1):
  Code.wp Try.prog (DM 16 (Try.f12.body.getD .skip)) (bodyPost Try.prog Try.f12 (JR F w (IZ b) y1)) {tmps:=#[u0,.pointer (some ⟨w.heap.size,0,none⟩),.pointer (some ⟨w.heap.size+1,0,none⟩),.int .i64 0,.pointer (some ⟨S4,0,none⟩),.pointer (some ⟨X5,0,none⟩),.bool b,u7,u8,u9,cz,cj,dt,el,dv,du,cd,dl,eg,da,d0,cl,ea,er,eb,ev,d1,d9,ce,em,e7,en,e4,ck,ef,c7,c8,cx,d8,eo,cg,cm,cb,ed,co,cq,c5,eq,c6,dm,de,cw,dw,cp,ch,cu,ee,di,d6,d4,e5,dn,eh,d3,e8,df,cy,dc,d5,dg,cc,d2,cr,e9,dj,ei,ej,eu,dq,dx,db,ct,dh,ek,cv,dk,cn,ep,ca,cf,et,dy,ec,e3,d7,dp,e6,ci,dd,c9,G,al,ad,ba,bq,a2,b9,b7,J,bd,bu,m,e,ac,ar,bt,Y,d,H,l,bb,bh,q,bw,c3,b5,bv,am,be,au,R,b3,Q,C,ag,a0,bs,ao,S,bg,a8,T,D,i,av,P,ah,a1,I,b4,ai,ak,a6,ab,A,bj,s,E,ap,bn,az,r,f,j,N,bm,aw,bp,ax,O,p,aa,aj,K,ae,V,bi,a7,c4,an,bo,af,U,B,Z,ay,g,M,u,b8,v,bz],defers:=[]} W:=by
 have HR:=ya hR
 have HY:=ya hY
 have HM:=ya hm
 obtain ⟨zr,X,aq⟩:=hR.z
 have bk:=ya X;have t:=ya aq
 have HL:=ya hY.len
 have H1:=ya hY.one
 clear hR hY hm X aq
 refine wp_seq ?_
 cases b
 ·go_wp2_with (first
   |(refine A2 rfl 35 _ _ rfl (w.heap.size+1) rfl Bp rfl t.o (by rw[yp,bk.o];rfl) (by kernel_rfl) (by simp[Bp,Value.oneCell']) ?_;intro w9 c;have a:=ya c;clear c))
  refine At rfl rfl a.o.row qO rfl (by kernel_rfl) ?_
  exact ⟨Bp,J0,rfl,J1 _ _,by simp[IZ],a.o.below HR.o.below (by omega)⟩
 ·go_wp2_with (first
   |(refine yf rfl 35 _ rfl X5 0 rfl row _ (A6 HR.o.x) qO rfl (AX (n:=26) (by kernel_rfl) HL.o) ?_)
   |(refine A2 rfl 35 _ _ rfl (w.heap.size+1) rfl row rfl t.o (by rw[yp,bk.o,HL.o]) (AX (n:=26) (by kernel_rfl) HL.o) H1.o ?_;intro w9 c;have a:=ya c;clear c))
  refine At rfl rfl a.o.row qO rfl (AX (n:=26) (by kernel_rfl) HL.o) ?_
  refine ⟨row,y,rfl,?_,by simpa[IZ] using HM.o,a.o.below HR.o.below (by omega)⟩
  have h:=HY.o.flux (F':=FL F [w.heap.size,w.heap.size+1,S4,X5]) (a.o.flux (.inr (by simp))) (fun _ h=>.inl h)
  obtain ⟨L,hv⟩:=h
  exact ⟨L,hv.same (fun b hb=>⟨fun k=>hb.1 (.inl k),hb.2⟩) (fun _ _=>rfl)⟩
theorem NO{d:AI}{F:NP}{w:World}{cs ls:LV}{h0 h1 h2 h3:AF}{t:Tb}{i:Nat}(hv:CY (GF F w) w cs d)(hs:MN w ls h0 h1 h2 h3 t)(hF:∀b,F b->b < w.heap.size)(hi:i < t.reaches.length)(T:h2.n<=h2.c):
  Calls Try.prog 57 #[.agg cs.toArray,.agg ls.toArray,.int .i64 (i:Int)] w (ES CY F w (BI t d i) (Bt t d i)):=by
 obtain ⟨I,dr,e0,e1,e2,e3,e4,e5,e6,e7⟩:=d
 obtain ⟨ai,aj,c0,c1,c2,J,L,E,H,G,rfl,Y,X,aa,U,r,ae,a0,a2⟩:=hv
 have ad:Hid (I.size<=maxLen):=ya ai
 have ac:Hid (dr.name.size<=maxLen):=ya aj
 have Z:=ya hs
 have HF:=ya hF
 have a6:=ya hi
 have ag:=ya T
 simp only at Y X aa U r ae a0 a2 ⊢
 clear ai aj hs hF hi T
 go_enter Try.func57,Try.ntmps57
 refine AH fun K l=>?_
 go_wp2_with (first|(refine AR rfl 51 _ rfl (.string I::(Ad dr++(c0++(c1++(c2++(J++(L++(E++(H++(G)))))))))).toArray rfl ?_)|(refine AR rfl 109 _ rfl ls.toArray rfl ?_))
 refine l.o _ _ ?_
 clear l K
 obtain ⟨w1,ab⟩:∃z:World,z=((w.alloc (.cells (.string I::(Ad dr++(c0++(c1++(c2++(J++(L++(E++(H++(G)))))))))).toArray 51)).alloc (.cells ls.toArray 109)).alloc (.cells #[.string {data:=#[]},.string {data:=#[]},iV 0,iV 0,iV 0,iV 0,.string {data:=#[]},iV 0,.slice none 0 0,iV 0,iV 0,iV 0,.string {data:=#[]},iV 0,.slice none 0 0,iV 0,iV 0,iV 0,.string {data:=#[]},iV 0,.slice none 0 0,iV 0,iV 0,iV 0,.string {data:=#[]},iV 0,.slice none 0 0,iV 0,iV 0,iV 0,.string {data:=#[]},iV 0,.slice none 0 0,iV 0,iV 0,iV 0,.string {data:=#[]},iV 0,.slice none 0 0,iV 0,iV 0,iV 0,.string {data:=#[]},iV 0,.slice none 0 0,iV 0,iV 0,iV 0,.string {data:=#[]},iV 0,.slice none 0 0] 51):=⟨_,rfl⟩
 rw[<-ab]
 have C:=ya (FF (n:=51) (row:=.string I::(Ad dr++(c0++(c1++(c2++(J++(L++(E++(H++(G)))))))))) ab rfl rfl)
 clear ab
 have HV:Hid (VE F [w.heap.size,w.heap.size+2] w1 [c0,c1,c2,J,L,E,H,G] [e0,e1,e2,e3,e4,e5,e6,e7]):=ya (FH ⟨Y,X,aa,U,r,ae,a0,a2,trivial⟩ C.o.below (by intro k Q;simp at Q;omega))
 clear Y X aa U r ae a0 a2
 refine AH fun K l=>?_
 go_wp2
 refine l.o _ _ ?_
 clear l K
 refine AH fun K l=>?_
 have HP:Hid (.string I::(Ad dr++(c0++(c1++(c2++(J++(L++(E++(H++(G)))))))))=([.string I])++((Ad dr)++(c0++(c1++(c2++(J++(L++(E++(H++(G)))))))))):=ya (by first|rfl|simp[yg])
 have R:=ya (C.o.part HP.o (off:=1) (by simp))
 rcases Nat.eq_zero_or_pos i with a7|a7
 ·subst a7
  have af:(((0:Nat):Int)==0)=true:=rfl
  go_wp2_with (first
   |(refine yf rfl 23 _ rfl w.heap.size 1 rfl (Ad dr) _ R.o qD rfl (CK _) ?_)
   |(refine Qc rfl rfl dr rfl rfl ?_))
  exact l.o _ _ (JS (dz:=dr) (q0:=Hs dr) ad.o ac.o C.o HV.o Z.o HF.o rfl (fun _=>rfl))
 have af:((i:Int)==0)=false:=by simp only[xb,ne_eq];omega
 have P:Hid (¬ i=0):=ya (by omega)
 obtain ⟨l0,l1,l2,l3⟩:=C.o.scope Z.o.cells
 have al:(i:Int)<=(h2.c:Int):=by have h1:=a6.o;have h2:=ag.o;have h3:=Z.o.reaches.1;omega
 clear a7
 go_upto_region 4 with fail
 clear af
 generalize hq:Dh (t.reaches.take i) dr=q0
 have ak:=ya hq
 have D:Hid (Below w1.heap.size w1 w1.drew):=ya (yc _ _).drew
 refine Bz (by kernel_rfl) (fun W=>Below w1.heap.size w1 W) 11 ?_
 refine A0 (i:=0) (v:=pV w.heap.size 1) rfl (by kernel_rfl) (by kernel_rfl) (by kernel_rfl) (fun _ _ _ h=>h) (by kernel_rfl) (Or.inl ⟨by rfl,?_⟩) (fun _=>D.o) ?_
 ·intro w _;go_simp
 refine Ag (i:=1) (v:=.agg (Ad dr).toArray) rfl (by kernel_rfl) (by kernel_rfl) (by kernel_rfl) (fun _ _ _ h=>h) (by kernel_rfl) (yS (by rfl) 23 _ rfl (w.heap.size) (1) rfl (Ad dr) _ (fun W hW=>A1 R.o (hW.block _ (by have:=C.o.size;omega))) qD rfl (CK _)) D.o ?_
 refine A0 (i:=2) (v:=pV (w.heap.size+1) 2) rfl (by kernel_rfl) (by kernel_rfl) (by kernel_rfl) (fun _ _ _ h=>h) (by kernel_rfl) (Or.inl ⟨by rfl,?_⟩) (fun _=>D.o) ?_
 ·intro w _;go_simp
 refine Ag (i:=3) (v:=.slice h2.a h2.n h2.c) rfl (by kernel_rfl) (by kernel_rfl) (by kernel_rfl) (fun _ _ _ h=>h) (by kernel_rfl) (Or.inl ⟨by rfl,?_⟩) D.o ?_
 ·intro W hW
  have hc:W.cell? (aV (w.heap.size+1) 2)=some (.slice h2.a h2.n h2.c):=(hW.cell (p:=(aV (w.heap.size+1) 2)) (by have:=C.o.size;simp only;omega)).trans l2
  clear hW
  go_simp
 refine A0 (i:=4) (v:=iV i) rfl (by kernel_rfl) (by kernel_rfl) (by kernel_rfl) (fun _ _ _ h=>h) (by kernel_rfl) (Or.inl ⟨by rfl,?_⟩) (fun _=>D.o) ?_
 ·intro w _;go_simp
 refine A0 (i:=5) (v:=.slice h2.a i h2.c) rfl (by kernel_rfl) (by kernel_rfl) (by kernel_rfl) (fun _ _ _ h=>h) (by kernel_rfl) (Or.inl ⟨by rfl,?_⟩) (fun _=>D.o) ?_
 ·intro w _;go_simp
 refine D4 (i:=6) (j:=10) (by kernel_rfl) rfl rfl (fun K l=>?_) (fun K l=>?_)
 ·go_simp
  refine (DN (Ly (Z.o.reaches.up (C.o.below.trans ((yc _ _).drew.mono C.o.below.size))) (Nat.le_of_lt a6.o)) dr).mono ?_
  rintro e x2 ⟨rfl,A⟩
  rw[hq]
  have f:Hid (Below w1.heap.size w1 x2):=ya ((yc _ _).drew.trans A)
  refine l.o _ _ (fun _=>f.o) ?_
  clear l K
  refine A0 (i:=7) (v:=.tuple #[.agg (Ad (Rf.mk dr.name (Aj (t.reaches.take i) dr))).toArray,.bool q0]) rfl (by kernel_rfl) (by kernel_rfl) (by kernel_rfl) (fun _ _ _ h=>h) (by kernel_rfl) (Or.inl ⟨by rfl,?_⟩) (fun _=>f.o) ?_
  ·intro w _;go_simp
  refine A0 (i:=8) (v:=.agg (Ad (Rf.mk dr.name (Aj (t.reaches.take i) dr))).toArray) rfl (by kernel_rfl) (by kernel_rfl) (by kernel_rfl) (fun _ _ _ h=>h) (by kernel_rfl) (Or.inl ⟨by rfl,?_⟩) (fun _=>f.o) ?_
  ·intro w _;go_simp
  refine A0 (i:=9) (v:=.bool q0) rfl (by kernel_rfl) (by kernel_rfl) (by kernel_rfl) (fun _ _ _ h=>h) (by kernel_rfl) (Or.inl ⟨by rfl,?_⟩) (fun _=>f.o) ?_
  ·intro w _;go_simp
  refine A4 (i:=10) (by kernel_rfl) rfl (fun K l=>?_)
  go_simp
  have s:Hid (Below x2.heap.size x2 (x2.alloc (.cells jd.toArray 23))):=ya ((yc _ _).alloc (ye _) _)
  have y:Hid ((x2.alloc (.cells jd.toArray 23)).heap[x2.heap.size]?=some (.cells ([]++(jd++[])).toArray 23 (0,0))):=ya (by simpa using World.alloc_heap_new x2 (.cells jd.toArray 23))
  refine l.o _ _ (fun _=>f.o.trans (s.o.mono f.o.size)) ?_
  clear l K
  refine A4 (i:=11) (by kernel_rfl) rfl (fun K l=>?_)
  rw[yu (by rfl)]
  refine zh 23 _ _ rfl (x2.heap.size) 0 (Ad (Rf.mk dr.name (Aj (t.reaches.take i) dr))).toArray rfl rfl (Be y.o (by simp[A9])) (by rw[yp];exact (CK _)) (yy (AO _)) ?_
  have g:=ya (Aw (x2.heap.size) 23 (Ad (Rf.mk dr.name (Aj (t.reaches.take i) dr))) 0 (x2.alloc (.cells jd.toArray 23)) [] jd [] y.o rfl (by rw[A9];rfl))
  rw[yE,yG] at g
  refine l.o _ _ (by intro h;cases h) ?_
  clear l K
  obtain ⟨x4,r⟩:∃z:World,z=(x2.alloc (.cells jd.toArray 23)).setCells (x2.heap.size) 0 (Ad (Rf.mk dr.name (Aj (t.reaches.take i) dr))):=⟨_,rfl⟩
  rw[yN,<-r]
  rw[<-r] at g
  clear r
  have S:Hid (Below x2.heap.size x2 x4):=ya (g.o.below s.o (ye _))
  have B:Hid (Below w1.heap.size w1 x4):=ya (f.o.trans (S.o.mono f.o.size))
  have M:=ya g.o.row
  have N:Hid (w1.heap.size<=x2.heap.size):=ya f.o.size
  clear A f S s y g hq
  refine A4 (i:=12) (by kernel_rfl) rfl (fun K l=>?_)
  go_simp
  refine l.o _ _ (by intro h;cases h) ?_
  clear l K
  refine AG (by kernel_rfl) ?_
  clear l0 l1 l2 l3 al
  have u:=ya (C.o.call B.o)
  have a8:=ya (HV.o.up (AP.below B.o) (fun k Q=>.inl Q))
  have a1:Hid (x4.heap[w.heap.size]?=some (.cells (([.string I])++((Ad dr)++(c0++(c1++(c2++(J++(L++(E++(H++(G))))))))):LV).toArray 51 (0,0))):=ya (by have h:=u.o.x;rw[HP.o] at h;exact h)
  clear C HV B N R
  go_wp2_with (first
   |(refine yf rfl 23 _ rfl _ 0 rfl (Ad (Rf.mk dr.name (Aj (t.reaches.take i) dr))) _ (A6 M.o) qD rfl (CK _) ?_)
   |(refine A7 rfl 23 _ _ rfl w.heap.size 1 rfl (Ad (Rf.mk dr.name (Aj (t.reaches.take i) dr))) rfl (p:=[.string I]) (m:=Ad dr) (q:=c0++(c1++(c2++(J++(L++(E++(H++(G)))))))) (t:=51) a1.o rfl rfl (CK _) (AO _) ?_;intro x5 O;have g:Hid (AB x4 x5 w.heap.size (.string I::(Ad (Rf.mk dr.name (Aj (t.reaches.take i) dr))++(c0++(c1++(c2++(J++(L++(E++(H++(G)))))))))) 51):=ya (by simpa[yg] using O);clear O))
  exact l.o _ _ (JS (dr:=dr) (dz:=(Rf.mk dr.name (Aj (t.reaches.take i) dr))) (q0:=q0) ad.o ac.o (u.o.wrote g.o) (a8.o.up (g.o.flux (.inr (by simp))) (fun k Q=>.inl Q)) Z.o HF.o (by simp only[BI,yq P.o,ak.o]) (fun _=>by simp only[Bt,yq P.o,H6]))
 ·go_simp
  have s:Hid (Below w1.heap.size w1 (w1.drew.alloc (.cells jd.toArray 23))):=ya ((yc _ _).drew.alloc (ye _) _)
  refine l.o _ _ (fun _=>s.o) ?_
  clear l K
  refine A4 (i:=6) (by kernel_rfl) rfl (fun K l=>?_)
  go_simp
  have V:Hid ((w1.drew.alloc (.cells jd.toArray 23)).heap[w1.heap.size]?=some (.cells jd.toArray 23 (0,0))):=ya (World.alloc_heap_new w1.drew (.cells jd.toArray 23))
  refine (DN (Ly (Z.o.reaches.up (C.o.below.trans (s.o.mono C.o.below.size))) (Nat.le_of_lt a6.o)) dr).mono ?_
  rintro e x2 ⟨rfl,A⟩
  rw[hq]
  have ah:=ya A
  have f:Hid (Below w1.heap.size w1 x2):=ya (s.o.trans (A.mono s.o.size))
  have y:Hid (x2.heap[w1.heap.size]?=some (.cells ([]++(jd++[])).toArray 23 (0,0))):=ya (by
   have h:=(A.block w1.heap.size (yd.1 V.o).1).trans V.o
   simpa using h)
  refine l.o _ _ (fun _=>f.o) ?_
  clear l K
  refine A0 (i:=7) (v:=.tuple #[.agg (Ad (Rf.mk dr.name (Aj (t.reaches.take i) dr))).toArray,.bool q0]) rfl (by kernel_rfl) (by kernel_rfl) (by kernel_rfl) (fun _ _ _ h=>h) (by kernel_rfl) (Or.inl ⟨by rfl,?_⟩) (fun _=>f.o) ?_
  ·intro w _;go_simp
  refine A0 (i:=8) (v:=.agg (Ad (Rf.mk dr.name (Aj (t.reaches.take i) dr))).toArray) rfl (by kernel_rfl) (by kernel_rfl) (by kernel_rfl) (fun _ _ _ h=>h) (by kernel_rfl) (Or.inl ⟨by rfl,?_⟩) (fun _=>f.o) ?_
  ·intro w _;go_simp
  refine A0 (i:=9) (v:=.bool q0) rfl (by kernel_rfl) (by kernel_rfl) (by kernel_rfl) (fun _ _ _ h=>h) (by kernel_rfl) (Or.inl ⟨by rfl,?_⟩) (fun _=>f.o) ?_
  ·intro w _;go_simp
  refine A4 (i:=11) (by kernel_rfl) rfl (fun K l=>?_)
  rw[yu (by rfl)]
  refine zh 23 _ _ rfl (w1.heap.size) 0 (Ad (Rf.mk dr.name (Aj (t.reaches.take i) dr))).toArray rfl rfl (Be y.o (by simp[A9])) (by rw[yp];exact (CK _)) (yy (AO _)) ?_
  have g:=ya (Aw (w1.heap.size) 23 (Ad (Rf.mk dr.name (Aj (t.reaches.take i) dr))) 0 (x2) [] jd [] y.o rfl (by rw[A9];rfl))
  rw[yE,yG] at g
  refine l.o _ _ (by intro h;cases h) ?_
  clear l K
  obtain ⟨x4,r⟩:∃z:World,z=(x2).setCells (w1.heap.size) 0 (Ad (Rf.mk dr.name (Aj (t.reaches.take i) dr))):=⟨_,rfl⟩
  rw[yN,<-r]
  rw[<-r] at g
  clear r
  have B:Hid (Below w1.heap.size w1 x4):=ya (g.o.below f.o (ye _))
  have M:=ya g.o.row
  have N:Hid (w1.heap.size<=w1.heap.size):=ya (ye _)
  clear A f ah s V y g hq
  refine A4 (i:=12) (by kernel_rfl) rfl (fun K l=>?_)
  go_simp
  refine l.o _ _ (by intro h;cases h) ?_
  clear l K
  refine AG (by kernel_rfl) ?_
  clear l0 l1 l2 l3 al
  have u:=ya (C.o.call B.o)
  have a8:=ya (HV.o.up (AP.below B.o) (fun k Q=>.inl Q))
  have a1:Hid (x4.heap[w.heap.size]?=some (.cells (([.string I])++((Ad dr)++(c0++(c1++(c2++(J++(L++(E++(H++(G))))))))):LV).toArray 51 (0,0))):=ya (by have h:=u.o.x;rw[HP.o] at h;exact h)
  clear C HV B N R
  go_wp2_with (first
   |(refine yf rfl 23 _ rfl _ 0 rfl (Ad (Rf.mk dr.name (Aj (t.reaches.take i) dr))) _ (A6 M.o) qD rfl (CK _) ?_)
   |(refine A7 rfl 23 _ _ rfl w.heap.size 1 rfl (Ad (Rf.mk dr.name (Aj (t.reaches.take i) dr))) rfl (p:=[.string I]) (m:=Ad dr) (q:=c0++(c1++(c2++(J++(L++(E++(H++(G)))))))) (t:=51) a1.o rfl rfl (CK _) (AO _) ?_;intro x5 O;have g:Hid (AB x4 x5 w.heap.size (.string I::(Ad (Rf.mk dr.name (Aj (t.reaches.take i) dr))++(c0++(c1++(c2++(J++(L++(E++(H++(G)))))))))) 51):=ya (by simpa[yg] using O);clear O))
  exact l.o _ _ (JS (dr:=dr) (dz:=(Rf.mk dr.name (Aj (t.reaches.take i) dr))) (q0:=q0) ad.o ac.o (u.o.wrote g.o) (a8.o.up (g.o.flux (.inr (by simp))) (fun k Q=>.inl Q)) Z.o HF.o (by simp only[BI,yq P.o,ak.o]) (fun _=>by simp only[Bt,yq P.o,H6]))
def JT:List Ex->Int->Int
 |[],n=>n
 |e::r,n=>if n<=5000 then JT r (n+Lr e 5001) else n
def Iy(x:AA):Bool:=decide (x.lets.length<=100)&&(decide (x.crops.length<=100)&&(decide (x.reaches.length<=100)&&(decide (x.farms.length<=100)&&(decide (x.rots.length<=70)&&(decide (x.rights.length<=300)&&decide (x.duties.length<=300))))))
def Gt(l:List AS):Bool:=l.all fun d=>decide (d.turns.length<=70)
def EJ(x:AA):Bool:=Iy x&&(Gt x.rots&&decide (JT (BJ x) 0<=5000))
theorem Sq:∀(l:List Ex) (n:Int),n<=JT l n
 |[],n=>by rw[JT];omega
 |e::r,n=>by
  rw[JT]
  split
  ·have h1:=(JL e 5001).1
   have h2:=Sq r (n+Lr e 5001)
   omega
  ·omega
theorem Mx:∀(l:List Ex) (n:Int),0<=n->JT l n<=5000->∀e∈l,Lr e 5001 < 5001
 |[],n,_,_=>by simp
 |e::r,n,hn,h=>by
  rw[JT] at h
  split at h
  ·have h1:=(JL e 5001).1
   have h2:=Sq r (n+Lr e 5001)
   intro d hd
   rcases yO.1 hd with rfl|hd
   ·omega
   ·exact Mx r _ (by omega) h d hd
  ·omega
theorem Sr(x:AA):∀p∈Bb x,p.1∈BJ x:=by
 intro p e
 unfold BJ Jy Jw Ha Jv Ju IY OI
 unfold Bb JB Gb Eb Gc Iv DY EM EN at e
 have c:∀ {α:Type} {l:List α} {a:α} {i:Nat},(a,i)∈l.zipIdx->a∈l:=fun h=>by
  obtain ⟨_,h2,h3⟩:=List.mem_zipIdx h
  exact h3▸yw _
 simp only[yn,yQ,yO,zs,xD,Prod.exists] at e ⊢
 rcases e with (rfl|rfl|rfl)|⟨d,i,b,rfl⟩|⟨d,i,b,rfl⟩|⟨d,i,b,h⟩|⟨d,i,b,rfl⟩|⟨d,i,b,h⟩|⟨d,i,b,h⟩|⟨d,i,b,rfl⟩
 ·simp
 ·simp
 ·simp
 ·exact .inl (.inl (.inl (.inl (.inl (.inl (.inl ⟨d,c b,rfl⟩))))))
 ·exact .inl (.inl (.inl (.inl (.inl (.inr ⟨d,c b,rfl⟩)))))
 ·refine .inl (.inl (.inl (.inl (.inr ⟨d,c b,?_⟩))))
  unfold DZ
  rcases h with rfl|rfl|rfl|rfl|rfl|rfl|rfl|rfl<;>simp
 ·exact .inl (.inl (.inl (.inr ⟨d,c b,rfl⟩)))
 ·refine .inl (.inl (.inr ⟨d,c b,?_⟩))
  unfold FT
  simp only[yn,yQ,yO,zs,xD]
  rcases h with (rfl|rfl|rfl)|⟨k,j,f,rfl⟩
  ·simp
  ·simp
  ·simp
  ·exact .inr ⟨k,c f,rfl⟩
 ·refine .inl (.inr ⟨d,c b,?_⟩)
  unfold E0
  rcases h with rfl|rfl|rfl|rfl|rfl<;>simp
 ·exact .inr ⟨d,c b,rfl⟩
theorem OM{x:AA}(h:Iy x=true)(a:Gt x.rots=true):Fw x:=by
 unfold Iy at h
 simp only[ym,yR] at h
 unfold Gt at a
 rw[yM] at a
 obtain ⟨h1,h2,h3,h4,h5,h6,b⟩:=h
 exact ⟨h1,h2,h3,h4,h5,h6,b,fun d hd=>by simpa using a d hd⟩
theorem Qd{x:AA}(h:EJ x=true):MU x∧∀e∈Bb x,AV e.1<=1000000:=by
 unfold EJ at h
 simp only[ym,yR] at h
 obtain ⟨h1,h2,h3⟩:=h
 have a:=OM h1 h2
 have c:=Mx (BJ x) 0 (by omega) h3
 refine ⟨⟨by have:=a.lets;omega,by have:=a.crops;omega,by have:=a.reaches;omega,by have:=a.farms;omega,by have:=a.rots;omega,by have:=a.rights;omega,by have:=a.duties;omega,fun d hd=>by have:=a.turns d hd;omega,fun e b=>?_⟩,fun e b=>?_⟩
 ·exact Pm e.1 5001 (by omega) (c _ (Sr x e b))
 ·have h1:=c _ (Sr x e b)
  have h2:=LQ e.1 5001 h1
  omega
theorem ON{N:NP}{w:World}{L:BL}{cs:LV}{x:AA}(h:Ba N w L cs x)(hN:∀b,N b->b < w.heap.size):
  Calls Try.prog 10 #[.agg cs.toArray] w fun e w'=>e=.returned (.bool (EJ x))∧Below w.heap.size w w':=by
 have f:Hid (Vv L x):=ya ⟨h.lets.1,h.crops.1,h.reaches.1,h.farms.1,h.rots.1,h.rights.1,h.duties.1⟩
 have z:=h.ok
 have D:=h.at
 obtain ⟨C,K⟩:∃C,C=w.alloc (.cells cs.toArray 35):=⟨_,rfl⟩
 have ai:Below w.heap.size w C:=by rw[K];exact (yc _ _).alloc (ye _) _
 have aw:C.heap.size=w.heap.size+1:=by rw[K];simp
 have aa:C.heap[w.heap.size]?=some (.cells cs.toArray 35 (0,0)):=by rw[K];exact World.alloc_heap_new _ _
 have h0:Ba N C L cs x:=h.same (fun _ h=>h) (fun b hb=>ai.block b (hN b hb))
 have a7:=ya h0
 have y:=ya ai;have M:=ya aw;have ac:=ya hN;have cp:=ya z
 have al:Hid (C.rangeAt w.heap.size 0 cs):=ya (by
  have:=yV aa 0 cs.length
  simpa using this)
 have d:∀q v,cs[q]?=some v->C.cell? (aV w.heap.size q)=some v:=fun q v hq=>by
  simp only[World.cell?,aa];simpa using hq
 have ay:Hid ((Try.prog.info? 35).map (·.size)=some cs.length):=ya (by
  obtain ⟨c0,c1,c2,rfl,g0,g1,g2⟩:=h.cells
  obtain ⟨a0,p0,rfl,e0⟩:=g0.cells
  obtain ⟨a1,p1,rfl,e1⟩:=g1.cells
  obtain ⟨a2,p2,rfl,e2⟩:=g2.cells
  kernel_rfl)
 have c4:C.cell? (aV w.heap.size 19)=some (.slice L.lets.a L.lets.n L.lets.c):=d _ _ D.lets
 have c5:C.cell? (aV w.heap.size 20)=some (.slice L.crops.a L.crops.n L.crops.c):=d _ _ D.crops
 have c6:C.cell? (aV w.heap.size 21)=some (.slice L.reaches.a L.reaches.n L.reaches.c):=d _ _ D.reaches
 have c7:C.cell? (aV w.heap.size 22)=some (.slice L.farms.a L.farms.n L.farms.c):=d _ _ D.farms
 have c8:C.cell? (aV w.heap.size 23)=some (.slice L.rots.a L.rots.n L.rots.c):=d _ _ D.rots
 have c9:C.cell? (aV w.heap.size 24)=some (.slice L.rights.a L.rights.n L.rights.c):=d _ _ D.rights
 have ca:C.cell? (aV w.heap.size 25)=some (.slice L.duties.a L.duties.n L.duties.c):=d _ _ D.duties
 have ch:=ya c8
 have l4:L.lets.n<=140737488355328:=z.lets.1
 have l5:L.crops.n<=140737488355328:=z.crops.1
 have l6:L.reaches.n<=140737488355328:=z.reaches.1
 have l7:L.farms.n<=140737488355328:=z.farms.1
 have l8:L.rots.n<=140737488355328:=z.rots.1
 have l9:L.rights.n<=140737488355328:=z.rights.1
 have cn:L.duties.n<=140737488355328:=z.duties.1
 have b9:=ya K
 clear ai aw aa h0 hN K D z d
 obtain ⟨ks,ae⟩:∃ks,ks=cs:=⟨_,rfl⟩
 rw[<-ae] at a7 al ay
 have HK:=ya ae
 obtain ⟨q0,q1,q2,rfl,g0,g1,g2⟩:=h.cells
 obtain ⟨a0,p0,rfl,e0⟩:=g0.cells
 obtain ⟨a1,p1,rfl,e1⟩:=g1.cells
 obtain ⟨a2,p2,rfl,e2⟩:=g2.cells
 clear h g0 g1 g2 e0 e1 e2 ae
 unfold AF.v at*
 simp only[yL,yE] at b9 HK ⊢
 go_enter Try.func10,Try.ntmps10
 go_upto_region 1 with fail
 rw[<-b9.o]
 by_cases am:L.lets.n<=100
 ·have an:decide ((L.lets.n:Int)>100)=false:=by simp;omega
  by_cases aq:L.crops.n<=100
  ·have b7:decide ((L.crops.n:Int)>100)=false:=by simp;omega
   by_cases ba:L.reaches.n<=100
   ·have be:decide ((L.reaches.n:Int)>100)=false:=by simp;omega
    by_cases ax:L.farms.n<=100
    ·have bo:decide ((L.farms.n:Int)>100)=false:=by simp;omega
     by_cases b5:L.rots.n<=70
     ·have ar:decide ((L.rots.n:Int)>70)=false:=by simp;omega
      by_cases b4:L.rights.n<=300
      ·have bq:decide ((L.rights.n:Int)>300)=false:=by simp;omega
       by_cases bp:L.duties.n<=300
       ·have av:decide ((L.duties.n:Int)>300)=false:=by simp;omega
        have a8:Hid (Iy x=true):=ya (by
         have h1:=f.o.lets;have h2:=f.o.crops;have h3:=f.o.reaches;have h4:=f.o.farms;have h5:=f.o.rots;have h6:=f.o.rights;have h7:=f.o.duties
         unfold Iy
         simp only[ym,yR]
         omega)
        clear am aq ba ax b5 b4 bp
        go_upto_region 3 with fail
        clear an b7 be bo ar bq av c4 c5 c6 c7 c8 c9 ca
        go_wp2
        have ao:Hid (Gt (x.rots.take 0)=true):=ya (by simp[Gt])
        have Y:=ya (yc C.heap.size C)
        go_loopw [3] (fun iv wr=>∃i:Nat,i<=L.rots.n∧iv=iV i∧Hid (Gt (x.rots.take i)=true)∧Hid (Below C.heap.size C wr)) (fun iv _=>L.rots.n - (intOf iv).toNat)
        case atStart=>exact ⟨0,yv _,rfl,ao,Y⟩
        case round=>
         clear ao Y
         obtain ⟨i,hi,rfl,HT,A⟩:=hrel
         have hf:wr.cell? (aV w.heap.size 23)=some (.slice L.rots.a L.rots.n L.rots.c):=(A.o.cell (p:=(aV w.heap.size 23)) (by rw[M.o];exact zK _)).trans ch.o
         by_cases O:i < L.rots.n
         ·have F:i < x.rots.length:=by rw[<-f.o.rots];exact O
          have T:(i:Int) < (L.rots.n:Int):=by omega
          obtain ⟨b,o,R,he,ag,bj,I,hv⟩:=a7.o.rots.2.2 i F
          have J:=A1 I (A.o.block b (by have:=ac.o b ag;have:=M.o;omega))
          have hz:R[22]?=some (A5 L i).v∧(A5 L i).n=x.rots[i].turns.length∧x.rots[i].turns.length<=140737488355328:=by
           obtain ⟨_,_,d0,d1,d2,rfl,k0,k1,k2,ht⟩:=hv
           have l0:=k0.len;have l1:=k1.len;have l2:=k2.len
           refine ⟨?_,ht.1,ht.2.1⟩
           have e:(Value.string x.rots[i].name::(Ad x.rots[i].on++(iV x.rots[i].rank::(d0++(d1++(d2++[(A5 L i).v]))))))=(Value.string x.rots[i].name::(Ad x.rots[i].on++(iV x.rots[i].rank::(d0++(d1++d2)))))++[(A5 L i).v]:=by simp
           rw[e,yJ (by simp[A9,l0,l1,l2])]
           simp[A9,l0,l1,l2]
          have ct:wr.cell? (aV b (o+i*23+22))=some (.slice (A5 L i).a (A5 L i).n (A5 L i).c):=J 22 _ hz.1
          have lt:(A5 L i).n<=140737488355328:=by rw[hz.2.1];exact hz.2.2
          rw[he] at hf
          by_cases P:(A5 L i).n<=70
          ·have bz:decide (((A5 L i).n:Int)>70)=false:=by simp;omega
           have ci:Hid (Gt (x.rots.take (i+1))=true):=ya (by
            have h:=HT.o
            unfold Gt at h ⊢
            rw[yr F,z8,h]
            have:x.rots[i].turns.length<=70:=by rw[<-hz.2.1];exact P
            simp[this])
           clear P I J hz he hv bj ag
           go_wp2
           exact ⟨⟨i+1,by omega,by push_cast;rfl,ci,A⟩,by simp[intOf];omega⟩
          ·have bz:decide (((A5 L i).n:Int)>70)=true:=by simp;omega
           have B:Hid (EJ x=false):=ya (by
            have e:Gt x.rots=false:=by
             unfold Gt
             rw[zZ]
             exact ⟨x.rots[i],yw F,by rw[<-hz.2.1];simpa using P⟩
            unfold EJ
            rw[e];simp)
           clear P I J hz he hv bj ag
           go_wp2
           go_ret
           exact ⟨Au B.o.symm,y.o.trans (A.o.mono y.o.size)⟩
         ·obtain rfl:i=L.rots.n:=by omega
          have T:decide ((L.rots.n:Int) < (L.rots.n:Int))=false:=by simp
          have ah:Hid (Gt x.rots=true):=ya (by
           have h:=HT.o
           rw[f.o.rots,yx] at h
           exact h)
          have bs:=ya (A1 al.o (A.o.block w.heap.size (by rw[M.o];exact zK _)))
          have c3:Hid (Ba N wr L ks x):=ya (a7.o.same (fun _ h=>h) (fun b hb=>A.o.block b (by have:=ac.o b hb;have:=M.o;omega)))
          have bg:Hid (∀b,N b->b < wr.heap.size):=ya (fun b hb=>by have:=ac.o b hb;have:=M.o;have:=A.o.size;omega)
          go_wp2_with (first|(refine yf rfl 35 _ rfl w.heap.size 0 rfl ks _ bs.o qO rfl ay.o ?_)|(go_at_call 22;refine (Lx c3.o bg.o (OM a8.o ah.o)).mono ?_;rintro e w2 ⟨v2,rfl,ap⟩;have Q:=ya ap;clear ap))
          obtain ⟨rows,bb,H⟩:=Q.o.own
          have au:rows.length=(BJ x).length:=H.length
          have bu:=(OM a8.o ah.o).top.tE
          have ak:3<=(BJ x).length:=by
           unfold BJ Jy Jw Ha Jv Ju IY
           simp only[yi,yC,yK]
           omega
          rcases bb with ⟨cf,⟨_,h3⟩|⟨g,cap,co,rfl,bv,af,ck,cd,ce,bk⟩⟩
          ·omega
          have d:∀j u,rows.flatten[j]?=some u->w2.cell? (aV g j)=some u:=fun j u hj=>by
           rw[<-bk] at hj
           have O:=(yA.1 hj).1
           rw[yP] at O
           rw[zJ,yu (by omega)] at hj
           simp only[World.cell?,af]
           simpa using hj
          have b3:Hid (∀i (hi:i < (BJ x).length),∃c,w2.rangeAt g (i*6) c∧Bh N wr (BJ x)[i] c):=ya (fun i hi=>by
           have az:i < rows.length:=by omega
           refine ⟨rows[i],fun j u hj=>d _ _ ?_,H.get i az hi⟩
           have bn:∀(l:List LV) (k:Nat) (P:k < l.length),(∀r∈l,r.length=6)->∀j u,(l[k])[j]?=some u->l.flatten[k*6+j]?=some u:=by
            intro l
            induction l with
            |nil=>intro k P;simp at P
            |cons r t ih=>
             intro k P h6 j u hu
             have cg:=h6 r (by simp)
             cases k with
             |zero=>
              have bi:r[j]?=some u:=hu
              have bw:=(yA.1 bi).1
              simp only[xx,qj,yD]
              rw[zp bw]
              exact bi
             |succ k=>
              simp only[xx]
              rw[yJ (by omega),cg,show (k+1)*6+j - 6=k*6+j by omega]
              exact ih k (by simpa using P) (fun r hr=>h6 r (by simp[hr])) j u (by simpa using hu)
           refine bn rows i az (fun r hr=>?_) j u hj
           obtain ⟨k,P,rfl⟩:=zc.1 hr
           exact (H.get k P (by omega)).len)
          have a6:Hid (rows.length=(BJ x).length):=ya au
          have bd:rows.length<=140737488355328:=by omega
          have V:Hid (Below w.heap.size w w2):=ya ((y.o.trans (A.o.mono y.o.size)).trans (Q.o.below.mono (yo y.o.size A.o.size)))
          have cj:Hid (g < w2.heap.size):=ya (yd.1 af).1
          have bm:Hid (∀W,Below w2.heap.size w2 W->∀b,N b->W.heap[b]?=wr.heap[b]?∧b < W.heap.size):=ya (fun W hW b hb=>by
           have h1:=bg.o b hb
           have h2:=Q.o.below.size
           have h3:=hW.size
           exact ⟨(hW.block b (by omega)).trans (Q.o.below.block b h1),by omega⟩)
          have B:Hid (EJ x=decide (JT (BJ x) 0<=5000)):=ya (by unfold EJ;rw[a8.o,ah.o];rfl)
          generalize hS:JT (BJ x) 0=S at B
          have bh:Hid (JT ((BJ x).drop 0) 0=S):=ya hS
          have Z:=ya (yc w2.heap.size w2)
          generalize bt:rows.length=m at a6 bd
          clear hS cf af ck cd ce bk d H au ak bu hf T bv bt HT
          go_wp2
          go_loopw [4,6] (fun nv iv wr=>∃(i:Nat) (n:Int),nv=iV n∧iv=iV i∧i<=m∧0<=n∧n<=10001∧Hid (JT ((BJ x).drop i) n=S)∧Hid (Below w2.heap.size w2 wr)) (fun _ iv _=>m - (intOf iv).toNat)
          case atStart=>exact ⟨0,0,rfl,rfl,yv _,by omega,by omega,bh,Z⟩
          case round=>
           clear bh Z
           obtain ⟨i,n,rfl,rfl,hi,cq,cm,HS,G⟩:=hrel
           by_cases O:i < m
           ·have F:i < (BJ x).length:=by rw[<-a6.o];exact O
            have T:(i:Int) < (m:Int):=by omega
            by_cases aj:n<=5000
            ·obtain ⟨c,I,X⟩:=b3.o i F
             have cc:=ya (A1 I (G.o.block g cj.o))
             have HC:=ya (TR (BJ x)[i] (w:=wr) (most:=5001) (Bh.same (fun b h=>h) (fun b hb=>(bm.o wr G.o b hb).1) X) (fun b hb=>(bm.o wr G.o b hb).2) (by omega) (by omega))
             have ad:Hid (JT ((BJ x).drop (i+1)) (n+Lr (BJ x)[i] 5001)=S):=ya (by
              have h:=HS.o
              rw[DW F,JT,yu aj] at h
              exact h)
             have U:=JL (BJ x)[i] 5001
             generalize (BJ x)[i]=E at X HC ad U
             generalize Lr E 5001=s at HC ad U
             have cl:1<=s:=U.1
             have cr:s<=5001:=by omega
             obtain ⟨a',p',rfl,_⟩:=X.cells
             clear I X U
             go_wp2_with (first|(refine yf rfl 26 _ rfl g (i*6) (by simp[Act.eval]) [iV E.op,iV E.n,iV E.u,.string E.rn,iV E.ri,.slice a' E.args.length p'] _ cc.o qF rfl (by kernel_rfl) ?_)|(go_at_call 23;refine HC.o.mono ?_;rintro e w3 ⟨rfl,b8⟩;have cb:=ya (G.o.trans (b8.mono G.o.size));clear b8))
             exact ⟨⟨i+1,n+s,rfl,by go_num,by omega,by omega,by omega,ad,cb⟩,by simp[intOf];omega⟩
            ·have ab:Hid (n=S):=ya (by
              have h:=HS.o
              rw[DW F,JT,yq aj] at h
              exact h)
             go_wp2
             go_ret
             exact ⟨Au (by rw[B.o,<-ab.o];exact (zH (by omega)).symm),V.o.trans (G.o.mono V.o.size)⟩
           ·obtain rfl:i=m:=by omega
            have ab:Hid (n=S):=ya (by
             have h:=HS.o
             rw[a6.o,zl,JT] at h
             exact h)
            have T:decide ((i:Int) < (i:Int))=false:=by simp
            go_wp2
            go_ret
            exact ⟨Au (by rw[B.o,<-ab.o]),V.o.trans (G.o.mono V.o.size)⟩
       ·have av:decide ((L.duties.n:Int)>300)=true:=by simp;omega
        have B:Hid (EJ x=false):=ya (by
         have h:=f.o.duties
         have e:decide (x.duties.length<=300)=false:=by simp;omega
         unfold EJ Iy
         rw[e];simp)
        clear bp
        go_wp2
        go_ret
        exact ⟨Au B.o.symm,y.o⟩
      ·have bq:decide ((L.rights.n:Int)>300)=true:=by simp;omega
       have B:Hid (EJ x=false):=ya (by
        have h:=f.o.rights
        have e:decide (x.rights.length<=300)=false:=by simp;omega
        unfold EJ Iy
        rw[e];simp)
       clear b4
       go_wp2
       go_ret
       exact ⟨Au B.o.symm,y.o⟩
     ·have ar:decide ((L.rots.n:Int)>70)=true:=by simp;omega
      have B:Hid (EJ x=false):=ya (by
       have h:=f.o.rots
       have e:decide (x.rots.length<=70)=false:=by simp;omega
       unfold EJ Iy
       rw[e];simp)
      clear b5
      go_wp2
      go_ret
      exact ⟨Au B.o.symm,y.o⟩
    ·have bo:decide ((L.farms.n:Int)>100)=true:=by simp;omega
     have B:Hid (EJ x=false):=ya (by
      have h:=f.o.farms
      have e:decide (x.farms.length<=100)=false:=by simp;omega
      unfold EJ Iy
      rw[e];simp)
     clear ax
     go_wp2
     go_ret
     exact ⟨Au B.o.symm,y.o⟩
   ·have be:decide ((L.reaches.n:Int)>100)=true:=by simp;omega
    have B:Hid (EJ x=false):=ya (by
     have h:=f.o.reaches
     have e:decide (x.reaches.length<=100)=false:=by simp;omega
     unfold EJ Iy
     rw[e];simp)
    clear ba
    go_wp2
    go_ret
    exact ⟨Au B.o.symm,y.o⟩
  ·have b7:decide ((L.crops.n:Int)>100)=true:=by simp;omega
   have B:Hid (EJ x=false):=ya (by
    have h:=f.o.crops
    have e:decide (x.crops.length<=100)=false:=by simp;omega
    unfold EJ Iy
    rw[e];simp)
   clear aq
   go_wp2
   go_ret
   exact ⟨Au B.o.symm,y.o⟩
 ·have an:decide ((L.lets.n:Int)>100)=true:=by simp;omega
  have B:Hid (EJ x=false):=ya (by
   have h:=f.o.lets
   have e:decide (x.lets.length<=100)=false:=by simp;omega
   unfold EJ Iy
   rw[e];simp)
  clear am
  go_wp2
  go_ret
  exact ⟨Au B.o.symm,y.o⟩
theorem UE{B:Nat}{w:World}{v:Value}{l:LB}(h:E5 B w v l)(hl:l.length<=140737488355328):∃h:AF,v=h.v∧AZ w h 1 0 l∧h.n<=h.c:=by
 obtain ⟨hd,a,d⟩:=h.nm hl
 refine ⟨hd,a,d,?_⟩
 rcases h.1.2 with ⟨h1,h2⟩|⟨g,cap,b,h1,h4,h5,h6,_⟩
 ·rw[h1] at a;unfold AF.v at a;simp only[xN] at a;omega
 ·rw[h1] at a;unfold AF.v at a;simp only[xN] at a;omega
def GW(w:World)(l:LB)(e:Ending)(w':World):Prop:=∃hd:AF,e=.returned hd.v∧AZ w' hd 1 0 l∧hd.n<=hd.c∧Below w.heap.size w w'
def Qe(cat off sz:Nat):Prop:=∀ {w:World} {cs:LV} {hd:AF} {a:LB},cs[off]?=some hd.v->AZ w hd sz 0 a->a.length<=300->Calls Try.prog 55 #[.agg cs.toArray,.int .i64 (cat:Int)] w (GW w a)
theorem I0:Qe 0 19 7∧Qe 1 20 7∧Qe 2 21 51∧Qe 3 22 12∧Qe 5 25 11:=by
 refine ⟨?_,?_,?_,?_,?_⟩
 all_goals
  intro w cs hd a f c x
  obtain ⟨ha,j,hc⟩:=hd
  have HR:=ya c.2.2;have V:Hid (j=a.length):=ya c.1;have u:=ya x
  have a1:j<=140737488355328:=by have:=V.o;omega
  unfold AF.v at f
  simp only at f
  have m:=ya f
  clear c x f
  go_enter Try.func55,Try.ntmps55
  go_upto_region 1 with (refine AR rfl 35 _ rfl cs.toArray rfl ?_)
  obtain ⟨w1,k⟩:∃w1,w1=w.alloc (.cells cs.toArray 35):=⟨_,rfl⟩
  rw[<-k]
  have E:Hid (Below w.heap.size w w1):=ya (by rw[k];exact (yc _ _).alloc (ye _) _)
  have HZ:Hid (w1.heap.size=w.heap.size+1):=ya (by rw[k];simp)
  have D:w1.heap[w.heap.size]?=some (.cells cs.toArray 35 (0,0)):=by rw[k];exact World.alloc_heap_new _ _
  have Z:Hid (∀wr,Below (w.heap.size+1) w1 wr->∀q v,cs[q]?=some v->wr.cell? (aV w.heap.size q)=some v):=ya (fun wr Y q v hq=>by
   have e:=Y.block w.heap.size (by omega)
   simp only[World.cell?,e,D]
   simpa using hq)
  obtain ⟨I,N⟩:∃I:Nat->Value->World->Prop,I=fun i v wr=>E5 (w.heap.size+1) wr v (a.take i)∧Below (w.heap.size+1) w1 wr:=⟨_,rfl⟩
  have HI:=ya N
  have s:Hid (I 0 (.slice none 0 0) w1):=ya (by rw[N];exact ⟨by simpa using Kx _ _,yc _ _⟩)
  clear k D N
  go_wp2
  first|go_loopw [5,6] (fun v5 d wr=>∃i:Nat,i<=j∧d=iV i∧Hid (I i v5 wr)) (fun _ d _=>j - (intOf d).toNat)|go_loopw [5,7] (fun v5 d wr=>∃i:Nat,i<=j∧d=iV i∧Hid (I i v5 wr)) (fun _ d _=>j - (intOf d).toNat)|go_loopw [5,8] (fun v5 d wr=>∃i:Nat,i<=j∧d=iV i∧Hid (I i v5 wr)) (fun _ d _=>j - (intOf d).toNat)|go_loopw [5,9] (fun v5 d wr=>∃i:Nat,i<=j∧d=iV i∧Hid (I i v5 wr)) (fun _ d _=>j - (intOf d).toNat)|go_loopw [5,12] (fun v5 d wr=>∃i:Nat,i<=j∧d=iV i∧Hid (I i v5 wr)) (fun _ d _=>j - (intOf d).toNat)
  case atStart=>exact ⟨0,yv _,rfl,s⟩
  case round=>
   clear s
   obtain ⟨i,hi,rfl,HJ⟩:=hrel
   obtain ⟨hO,O⟩:E5 (w.heap.size+1) wr u5 (a.take i)∧Below (w.heap.size+1) w1 wr:=by have h:=HJ.o;rw[HI.o] at h;exact h
   have R:=ya hO;have M:=ya O
   have hf:=Z.o wr O _ _ m.o
   clear hO O HJ
   by_cases Q:i < j
   ·have r:i < a.length:=by rw[<-V.o];exact Q
    have a0:(i:Int) < (j:Int):=by omega
    obtain ⟨b,o,a2,rfl,C,F,G,B,c,p⟩:=HR.o i r
    have g:Hid (a.take (i+1)=a.take i++[a[i]]):=ya (yr r)
    have z:Hid ((a.take i).length+1<=1000000):=ya (by have:=u.o;rw[yP];omega)
    generalize a[i]=K at c p g
    generalize X:a.take i=l0 at R z g
    clear X
    have hc:=A1 G ((M.o.block b (by omega)).trans (E.o.block b C)) 0 _ c
    simp only[xG] at hc
    have L:Hid ((wr.alloc (.cells #[.string K] 9)).heap[wr.heap.size]?=some (.cells #[.string K] 9 (0,0))):=ya (World.alloc_heap_new _ _)
    have n:Hid (Below wr.heap.size wr (wr.alloc (.cells #[.string K] 9))):=ya ((yc _ _).alloc (ye _) _)
    have H:=ya (R.o.up n.o)
    have y:Hid (w.heap.size+1<=wr.heap.size):=ya (by have:=M.o.size;have:=HZ.o;omega)
    have W:=ya (M.o.trans (n.o.mono y.o))
    have l:Hid (w.heap.size+1<=(wr.alloc (.cells #[.string K] 9)).heap.size):=ya (yo y.o n.o.size)
    have S:=ya p
    clear G B c p C F r
    go_wp2_with (first
     |(at_builtin;refine Dx (w.heap.size+1) rfl _ _ rfl u5 l0 rfl H.o wr.heap.size 1 K rfl L.o S.o z.o l.o ?_;intro a6 c5 w5 J t;have P:=ya J;have T:Hid (Below (w.heap.size+1) w1 w5):=ya (IS W.o l.o H.o t);clear J t))
    exact ⟨⟨i+1,by omega,by push_cast;rfl,ya (by rw[HI.o];exact ⟨by rw[g.o];exact P.o,T.o⟩)⟩,by simp[intOf];omega⟩
   ·obtain rfl:i=j:=by omega
    have a0:decide ((i:Int) < (i:Int))=false:=by simp
    have U:Hid (E5 (w.heap.size+1) wr u5 a):=ya (by
     have h:=R.o
     rw[V.o,yx] at h
     exact h)
    go_wp2
    go_ret
    obtain ⟨hd,rfl,c,A⟩:=UE U.o (by have:=u.o;omega)
    exact ⟨hd,rfl,c,A,E.o.trans (M.o.mono (by omega))⟩
theorem J3{N:NP}{w:World}{L:BL}{cs:LV}{x:AA}(h:Ba N w L cs x)(j:Nat){v:Value}(c:[L.lets.v,L.crops.v,L.reaches.v,L.farms.v,L.rots.v,L.rights.v,L.duties.v][j]?=some v:=by rfl):cs[19+j]?=some v:=by
 obtain ⟨c0,c1,c2,rfl,b,g1,a⟩:=h.cells
 rw[show 19+j=(((j+6)+6)+6)+1 by omega,List.getElem?_cons_succ,yJ (by rw[b.len];omega),b.len,yJ (by rw[g1.len];omega),g1.len,yJ (by rw[a.len];omega),a.len]
 simpa using c
theorem JU{N:NP}{w:World}{L:BL}{cs:LV}{x:AA}(h:Ba N w L cs x)(hN:∀b,N b->b < w.heap.size)(a:Fw x):
  Calls Try.prog 55 #[.agg cs.toArray,.int .i64 0] w (GW w (x.lets.map (fun d:E8=>d.name))):=
 I0.1 (J3 h 0) (h.Xs hN).lets (by have:=a.lets;simp;omega)
theorem Ip{N:NP}{w:World}{L:BL}{cs:LV}{x:AA}(h:Ba N w L cs x)(hN:∀b,N b->b < w.heap.size)(a:Fw x):
  Calls Try.prog 55 #[.agg cs.toArray,.int .i64 1] w (GW w (x.crops.map (fun d:Cp=>d.name))):=
 I0.2.1 (J3 h 1) (h.Xs hN).crops (by have:=a.crops;simp;omega)
theorem Gu{N:NP}{w:World}{L:BL}{cs:LV}{x:AA}(h:Ba N w L cs x)(hN:∀b,N b->b < w.heap.size)(a:Fw x):
  Calls Try.prog 55 #[.agg cs.toArray,.int .i64 2] w (GW w (x.reaches.map (fun d:AI=>d.name))):=
 I0.2.2.1 (J3 h 2) (h.Xs hN).reaches (by have:=a.reaches;simp;omega)
theorem Fm{N:NP}{w:World}{L:BL}{cs:LV}{x:AA}(h:Ba N w L cs x)(hN:∀b,N b->b < w.heap.size)(a:Fw x):
  Calls Try.prog 55 #[.agg cs.toArray,.int .i64 3] w (GW w (x.farms.map (fun d:BN=>d.name))):=
 I0.2.2.2.1 (J3 h 3) (h.Xs hN).farms (by have:=a.farms;simp;omega)
theorem Rr{N:NP}{w:World}{L:BL}{cs:LV}{x:AA}(h:Ba N w L cs x)(hN:∀b,N b->b < w.heap.size)(a:Fw x):
  Calls Try.prog 55 #[.agg cs.toArray,.int .i64 5] w (GW w (x.duties.map (fun d:BV=>d.name))):=
 I0.2.2.2.2 (J3 h 6) (h.Xs hN).duties (by have:=a.duties;simp;omega)
theorem Rt{N:NP}{w:World}{L:BL}{cs:LV}{x:AA}(h:Ba N w L cs x)(hN:∀b,N b->b < w.heap.size)(a7:Fw x):
  Calls Try.prog 55 #[.agg cs.toArray,.int .i64 4] w (GW w (D0 x)):=by
 have Q:=ya (h.Xs hN)
 have M:Hid (Vv L x):=ya ⟨h.lets.1,h.crops.1,h.reaches.1,h.farms.1,h.rots.1,h.rights.1,h.duties.1⟩
 have a8:=ya h.ok
 have r:=ya a7
 have P:=ya h.at
 obtain ⟨w1,G⟩:∃w1,w1=w.alloc (.cells cs.toArray 35):=⟨_,rfl⟩
 have ad:Hid (Below w.heap.size w w1):=ya (by rw[G];exact (yc _ _).alloc (ye _) _)
 have HZ:Hid (w1.heap.size=w.heap.size+1):=ya (by rw[G];simp)
 have a6:w1.heap[w.heap.size]?=some (.cells cs.toArray 35 (0,0)):=by rw[G];exact World.alloc_heap_new _ _
 have Y:Hid (∀wr,Below (w.heap.size+1) w1 wr->∀q v,cs[q]?=some v->wr.cell? (aV w.heap.size q)=some v):=ya (fun wr ag q v hq=>by
  have e:=ag.block w.heap.size (by omega)
  simp only[World.cell?,e,a6]
  simpa using hq)
 have Q:Hid (VL w1 L x):=ya ((h.same (fun _ h=>h) (fun b hb=>ad.o.block b (hN b hb))).Xs (fun b hb=>by have:=hN b hb;have:=HZ.o;omega))
 have ac:Hid (∀b,b < w1.heap.size->b < w.heap.size+1):=ya (fun b hb=>by have:=HZ.o;omega)
 have B:Hid (E5 (w.heap.size+1) w1 (.slice none 0 0) (([]:LB)++(x.rots.map (fun d:AS=>d.name)).take 0)):=ya (by simpa using Kx _ _)
 have y:Hid (Below (w.heap.size+1) w1 w1):=ya (yc _ _)
 have ab:=ya G
 obtain ⟨ks,aa⟩:∃ks,ks=cs:=⟨_,rfl⟩
 rw[<-aa] at P Y
 obtain ⟨c0,c1,c2,rfl,g0,g1,g2⟩:=h.cells
 obtain ⟨a0,p0,rfl,e0⟩:=g0.cells
 obtain ⟨a1,p1,rfl,e1⟩:=g1.cells
 obtain ⟨a2,p2,rfl,e2⟩:=g2.cells
 clear h g0 g1 g2 e0 e1 e2 aa hN a7 a6 G
 unfold AF.v at*
 simp only[yL,yE] at ab ⊢
 go_enter Try.func55,Try.ntmps55
 go_upto_region 1 with fail
 rw[<-ab.o]
 go_wp2
 go_loopw [5,10] (fun v5 U wr=>∃i:Nat,i<=L.rots.n∧U=iV i∧Hid (E5 (w.heap.size+1) wr v5 (([]:LB)++(x.rots.map (fun d:AS=>d.name)).take i))∧Hid (Below (w.heap.size+1) w1 wr)) (fun _ U _=>L.rots.n - (intOf U).toNat)
 case atStart=>exact ⟨0,yv _,rfl,B,y⟩
 case round=>
  clear B y
  obtain ⟨i,hi,rfl,O,s⟩:=hrel
  have hf:wr.cell? (aV w.heap.size 23)=some (.slice L.rots.a L.rots.n L.rots.c):=Y.o wr s.o 23 _ P.o.rots
  have Z:L.rots.n<=140737488355328:=a8.o.rots.1
  by_cases S:i < L.rots.n
  ·have k:i < (x.rots.map (fun d:AS=>d.name)).length:=by rw[yI,<-M.o.rots];exact S
   have J:(i:Int) < (L.rots.n:Int):=by omega
   obtain ⟨b,o,af,he,H,I,A,z,j,m⟩:=Q.o.rots.2.2 i k
   rw[he] at hf
   have f:Hid ((([]:LB)++(x.rots.map (fun d:AS=>d.name)).take i)++[(x.rots.map (fun d:AS=>d.name))[i]]=([]:LB)++(x.rots.map (fun d:AS=>d.name)).take (i+1)):=ya (by rw[yg,Fp k])
   have t:Hid ((([]:LB)++(x.rots.map (fun d:AS=>d.name)).take i).length+1<=1000000):=ya (by
    have h1:=r.o.rots;have h2:=r.o.rots
    rw[yI] at k
    simp only[yi,yP,yI,yK]
    omega)
   generalize (x.rots.map (fun d:AS=>d.name))[i]=p at j m f
   generalize X:([]:LB)++(x.rots.map (fun d:AS=>d.name)).take i=l0 at O t f
   clear X
   have hc:wr.cell? (aV b (o+i*23))=some (.string p):=by
    have:=A1 A (s.o.block b (by have:=ac.o b H;omega)) 0 _ j
    simpa using this
   have E:Hid ((wr.alloc (.cells #[.string p] 9)).heap[wr.heap.size]?=some (.cells #[.string p] 9 (0,0))):=ya (World.alloc_heap_new _ _)
   have l:Hid (Below wr.heap.size wr (wr.alloc (.cells #[.string p] 9))):=ya ((yc _ _).alloc (ye _) _)
   have C:=ya (O.o.up l.o)
   have u:Hid (w.heap.size+1<=wr.heap.size):=ya (by have:=s.o.size;have:=HZ.o;omega)
   have R:=ya (s.o.trans (l.o.mono u.o))
   have g:Hid (w.heap.size+1<=(wr.alloc (.cells #[.string p] 9)).heap.size):=ya (yo u.o l.o.size)
   have W:=ya m
   clear A z j m H I he k
   go_wp2_with (first
    |(at_builtin;refine Dx (w.heap.size+1) rfl _ _ rfl u5 l0 rfl C.o wr.heap.size 1 p rfl E.o W.o t.o g.o ?_;intro ah c5 w5 D F;have V:=ya D;have T:Hid (Below (w.heap.size+1) w1 w5):=ya (IS R.o g.o C.o F);clear D F))
   exact ⟨⟨i+1,by omega,by push_cast;rfl,ya (by rw[<-f.o];exact V.o),T⟩,by simp[intOf];omega⟩
  ·obtain rfl:i=L.rots.n:=by omega
   have J:decide ((L.rots.n:Int) < (L.rots.n:Int))=false:=by simp
   have K:Hid (E5 (w.heap.size+1) wr u5 (([]:LB)++(x.rots.map (fun d:AS=>d.name)))):=ya (by
    have h:=O.o
    rw[M.o.rots,zX (by simp)] at h
    exact h)
   have B:Hid (E5 (w.heap.size+1) wr u5 ((x.rots.map (fun d:AS=>d.name))++(x.rights.map (fun d:AJ=>d.name)).take 0)):=ya (by simpa using K.o)
   have y:=s
   go_wp2
   clear hf J O K s
   go_loopw [5,11] (fun v5 U wr=>∃i:Nat,i<=L.rights.n∧U=iV i∧Hid (E5 (w.heap.size+1) wr v5 ((x.rots.map (fun d:AS=>d.name))++(x.rights.map (fun d:AJ=>d.name)).take i))∧Hid (Below (w.heap.size+1) w1 wr)) (fun _ U _=>L.rights.n - (intOf U).toNat)
   case atStart=>exact ⟨0,yv _,rfl,B,y⟩
   case round=>
    clear B y
    obtain ⟨i,hi,rfl,O,s⟩:=hrel
    have hf:wr.cell? (aV w.heap.size 24)=some (.slice L.rights.a L.rights.n L.rights.c):=Y.o wr s.o 24 _ P.o.rights
    have Z:L.rights.n<=140737488355328:=a8.o.rights.1
    by_cases S:i < L.rights.n
    ·have k:i < (x.rights.map (fun d:AJ=>d.name)).length:=by rw[yI,<-M.o.rights];exact S
     have J:(i:Int) < (L.rights.n:Int):=by omega
     obtain ⟨b,o,af,he,H,I,A,z,j,m⟩:=Q.o.rights.2.2 i k
     rw[he] at hf
     have f:Hid (((x.rots.map (fun d:AS=>d.name))++(x.rights.map (fun d:AJ=>d.name)).take i)++[(x.rights.map (fun d:AJ=>d.name))[i]]=(x.rots.map (fun d:AS=>d.name))++(x.rights.map (fun d:AJ=>d.name)).take (i+1)):=ya (by rw[yg,Fp k])
     have t:Hid (((x.rots.map (fun d:AS=>d.name))++(x.rights.map (fun d:AJ=>d.name)).take i).length+1<=1000000):=ya (by
      have h1:=r.o.rights;have h2:=r.o.rots
      rw[yI] at k
      simp only[yi,yP,yI]
      omega)
     generalize (x.rights.map (fun d:AJ=>d.name))[i]=p at j m f
     generalize X:(x.rots.map (fun d:AS=>d.name))++(x.rights.map (fun d:AJ=>d.name)).take i=l0 at O t f
     clear X
     have hc:wr.cell? (aV b (o+i*37+1))=some (.string p):=by
      have:=A1 A (s.o.block b (by have:=ac.o b H;omega)) 1 _ j
      simpa using this
     have E:Hid ((wr.alloc (.cells #[.string p] 9)).heap[wr.heap.size]?=some (.cells #[.string p] 9 (0,0))):=ya (World.alloc_heap_new _ _)
     have l:Hid (Below wr.heap.size wr (wr.alloc (.cells #[.string p] 9))):=ya ((yc _ _).alloc (ye _) _)
     have C:=ya (O.o.up l.o)
     have u:Hid (w.heap.size+1<=wr.heap.size):=ya (by have:=s.o.size;have:=HZ.o;omega)
     have R:=ya (s.o.trans (l.o.mono u.o))
     have g:Hid (w.heap.size+1<=(wr.alloc (.cells #[.string p] 9)).heap.size):=ya (yo u.o l.o.size)
     have W:=ya m
     clear A z j m H I he k
     go_wp2_with (first
      |(at_builtin;refine Dx (w.heap.size+1) rfl _ _ rfl u5 l0 rfl C.o wr.heap.size 1 p rfl E.o W.o t.o g.o ?_;intro ah c5 w5 D F;have V:=ya D;have T:Hid (Below (w.heap.size+1) w1 w5):=ya (IS R.o g.o C.o F);clear D F))
     exact ⟨⟨i+1,by omega,by push_cast;rfl,ya (by rw[<-f.o];exact V.o),T⟩,by simp[intOf];omega⟩
    ·obtain rfl:i=L.rights.n:=by omega
     have J:decide ((L.rights.n:Int) < (L.rights.n:Int))=false:=by simp
     have K:Hid (E5 (w.heap.size+1) wr u5 ((x.rots.map (fun d:AS=>d.name))++(x.rights.map (fun d:AJ=>d.name)))):=ya (by
      have h:=O.o
      rw[M.o.rights,zX (by simp)] at h
      exact h)
     go_wp2
     go_ret
     obtain ⟨hd,rfl,j,ae⟩:=UE K.o (by
      have h1:=r.o.rights;have h2:=r.o.rots
      simp only[yi,yI]
      omega)
     exact ⟨hd,rfl,j,ae,ad.o.trans (s.o.mono (by omega))⟩
theorem Ba.len{N:NP}{w:World}{L:BL}{cs:LV}{x:AA}(h:Ba N w L cs x):cs.length=26:=by
 obtain ⟨c0,c1,c2,rfl,b,g1,a⟩:=h.cells
 simp[b.len,g1.len,a.len]
def Cv(s:ByteArray):Bool:=E2 s.data.toList&&!IL s
def Bj(x:AA):Nat->LB
 |0=>x.lets.map fun d=>d.name
 |1=>x.crops.map fun d=>d.name
 |2=>x.reaches.map fun d=>d.name
 |3=>x.farms.map fun d=>d.name
 |4=>D0 x
 |_=>x.duties.map fun d=>d.name
theorem Kf{N:NP}{w:World}{L:BL}{cs:LV}{x:AA}(h:Ba N w L cs x)(hN:∀b,N b->b < w.heap.size)(a:Fw x){c:Nat}(hc:c < 6):
  Calls Try.prog 55 #[.agg cs.toArray,.int .i64 (c:Int)] w (GW w (Bj x c)):=by
 match c,hc with
 |0,_=>exact JU h hN a
 |1,_=>exact Ip h hN a
 |2,_=>exact Gu h hN a
 |3,_=>exact Fm h hN a
 |4,_=>exact Rt h hN a
 |5,_=>exact Rr h hN a
theorem Fo{s:ByteArray}{b:Bool}(h:E2 s.data.toList=b)(w:World)(hs:s.size<=maxLen):Calls Try.prog 85 #[.string s] w fun e w'=>e=.returned (.bool b)∧w=w':=by
 rw[<-h];exact Pb s w hs
theorem Kg{s:ByteArray}{b:Bool}(h:IL s=b)(w:World):Calls Try.prog 86 #[.string s] w fun e w'=>e=.returned (.bool b)∧w=w':=by
 rw[<-h];exact TL s w
theorem Kh{s:ByteArray}(h:Cv s=true):E2 s.data.toList=true∧IL s=false:=by
 unfold Cv at h;simpa using h
theorem JH{s:ByteArray}(h:¬ Cv s=true):E2 s.data.toList=false∨E2 s.data.toList=true∧IL s=true:=by
 unfold Cv at h
 cases h1:E2 s.data.toList with
 |false=>exact .inl rfl
 |true=>rw[h1] at h;cases h2:IL s with
  |false=>rw[h2] at h;simp at h
  |true=>exact .inr ⟨rfl,rfl⟩
def Gv(x:AA):Bool:=Cv x.name&&(List.range 6).all fun c=>(Bj x c).all Cv
theorem Qf{x:AA}(h:¬ Cv x.name=true):Gv x=false:=by
 unfold Gv;rw[yj.2 h];rfl
theorem Ru{x:AA}{c j:Nat}(hc:c < 6)(b:j < (Bj x c).length)(h:¬ Cv (Bj x c)[j]=true):Gv x=false:=by
 rw[yj]
 intro a
 unfold Gv at a
 simp only[ym,yM,yW] at a
 exact h (a.2 c hc _ (yw b))
theorem Qg{x:AA}(h:Cv x.name=true)(a:∀c,c < 6->(Bj x c).all Cv=true):Gv x=true:=by
 unfold Gv
 rw[h,Bool.true_and,yM]
 intro c hc
 exact a c (yW.1 hc)
theorem Tg{α:Type}{l:List α}{p:α->Bool}{i:Nat}(h:i < l.length)(h1:(l.take i).all p=true)(h2:p l[i]=true):(l.take (i+1)).all p=true:=by
 rw[yr h,z8,h1,zb,h2];rfl
theorem NQ{N:NP}{w:World}{L:BL}{cs:LV}{x:AA}(h:Ba N w L cs x)(hN:∀b,N b->b < w.heap.size)(Q:Fw x):
  Calls Try.prog 53 #[.agg cs.toArray] w fun e w'=>e=.returned (.bool (Gv x))∧Below w.heap.size w w':=by
 have ae:=ya Q
 have F:=ya h.name
 have X:=h.at.name
 have Y:=h.len
 have HS:Hid (∀wr,Below w.heap.size w wr->Ba N wr L cs x):=ya (fun wr m=>h.same (fun _ h=>h) (fun b hb=>m.block b (hN b hb)))
 have a2:Hid (∀wr,Below w.heap.size w wr->∀b,N b->b < wr.heap.size):=ya (fun wr m b hb=>yk (hN b hb) m.size)
 have T:Hid ((Try.prog.info? 35).map (·.size)=some cs.length):=ya (by rw[Y];kernel_rfl)
 clear h hN Q Y
 go_enter Try.func53,Try.ntmps53
 go_upto_region 1 with (refine AR rfl 35 _ rfl cs.toArray rfl ?_)
 obtain ⟨w1,p⟩:∃w1,w1=w.alloc (.cells cs.toArray 35):=⟨_,rfl⟩
 rw[<-p]
 have s:Hid (Below w.heap.size w w1):=ya (by rw[p];exact (yc _ _).alloc (ye _) _)
 have HZ:Hid (w1.heap.size=w.heap.size+1):=ya (by rw[p];simp)
 have A:w1.heap[w.heap.size]?=some (.cells cs.toArray 35 (0,0)):=by rw[p];exact World.alloc_heap_new _ _
 have U:Hid (∀wr,Below (w.heap.size+1) w1 wr->wr.rangeAt w.heap.size 0 cs):=ya (fun wr m=>A1 (A6 A) (m.block _ (zK _)))
 have ad:w1.cell? (aV w.heap.size 0)=some (.string x.name):=by simp only[World.cell?,A];simpa using X
 clear p A X
 by_cases a:Cv x.name=true
 ·have a1:=ya a
  have Z:=ya (Kh a)
  clear a
  go_wp2_with (first
   |(go_at_call 85;refine (Fo Z.o.1 w1 F.o).mono ?_;rintro e w2 ⟨rfl,rfl⟩)
   |(go_at_call 86;refine (Kg Z.o.2 w1).mono ?_;rintro e w2 ⟨rfl,rfl⟩))
  have S:Hid (∀c,c < 0->(Bj x c).all Cv=true):=ya (fun c hc=>absurd hc (Nat.not_lt_zero _))
  have O:Hid (Below (w.heap.size+1) w1 w1):=ya (yc _ _)
  clear ad
  go_loopw [3] (fun iv wr=>∃c:Nat,c<=6∧iv=iV c∧Hid (∀d,d < c->(Bj x d).all Cv=true)∧Hid (Below (w.heap.size+1) w1 wr)) (fun iv _=>6 - (intOf iv).toNat)
  case atStart=>exact ⟨0,by omega,rfl,S,O⟩
  case round=>
   clear S O
   obtain ⟨c,hc,rfl,HA,HB⟩:=hrel
   have E:Hid (Below w.heap.size w wr):=ya (s.o.trans (HB.o.mono (by omega)))
   by_cases ac:c < 6
   ·have ah:(c:Int) < 6:=by omega
    have HC:=ya ac
    go_upto_region 8 with (first
     |(refine yf rfl 35 _ rfl w.heap.size 0 rfl cs _ (U.o wr HB.o) qO rfl T.o ?_)
     |(go_at_call 55;refine (Kf (HS.o wr E.o) (a2.o wr E.o) ae.o HC.o).mono ?_;rintro e w2 ⟨hd,rfl,a0,_,R⟩;have I:=ya a0;have r:Hid (Below (w.heap.size+1) w1 w2):=ya (HB.o.trans (R.mono (by have:=HB.o.size;have:=HZ.o;omega)));clear a0 R))
    obtain ⟨ha,G,aj⟩:=hd
    unfold AF.v
    have J:Hid (G=(Bj x c).length):=ya I.o.1
    have V:Hid (G<=140737488355328):=ya (by have:=I.o.2.1;have:=J.o;omega)
    have P:Hid (((Bj x c).take 0).all Cv=true):=ya rfl
    simp only
    obtain ⟨wz,ai⟩:∃z:World,z=wr:=⟨_,rfl⟩
    go_loopw [5] (fun jv wr=>∃j:Nat,j<=G∧jv=iV j∧Hid (((Bj x c).take j).all Cv=true)∧Hid (Below w2.heap.size w2 wr)) (fun jv _=>G - (intOf jv).toNat)
    case atStart=>exact ⟨0,yv _,rfl,P,ya (yc _ _)⟩
    case round=>
     clear P
     obtain ⟨j,hj,rfl,HJ,t⟩:=hrel
     have af:=V.o
     by_cases ab:j < G
     ·have q:j < (Bj x c).length:=by rw[<-J.o];exact ab
      have a7:(j:Int) < (G:Int):=by omega
      obtain ⟨b,o,ag,he,hb,y,B,u,a,C⟩:=I.o.2.2 j q
      obtain rfl:ha=some (aV b o):=he
      have M:wr.cell? (aV b (o+j))=some (.string (Bj x c)[j]):=by
       have:=A1 B (t.o.block b hb) 0 _ a
       simpa using this
      have n:=ya C
      by_cases k:Cv (Bj x c)[j]=true
      ·have aa:Hid (((Bj x c).take (j+1)).all Cv=true):=ya (Tg q HJ.o k)
       have g:=ya (Kh k)
       generalize (Bj x c)[j]=nm at M n g
       clear k B u a C y hb q
       go_wp2_with (first
        |(go_at_call 85;refine (Fo g.o.1 wr n.o).mono ?_;rintro e K ⟨rfl,rfl⟩)
        |(go_at_call 86;refine (Kg g.o.2 wr).mono ?_;rintro e K ⟨rfl,rfl⟩))
       exact ⟨⟨j+1,by omega,by push_cast;rfl,aa,t⟩,by simp[intOf];omega⟩
      ·have i:=ya (Ru HC.o q k)
       have W:Hid (Below w.heap.size w wr):=ya (s.o.trans ((r.o.trans (t.o.mono (by have:=r.o.size;have:=HZ.o;omega))).mono (by omega)))
       generalize (Bj x c)[j]=nm at M n k
       clear B u a C y hb q
       rcases JH k with f|⟨f,l⟩
       ·have g:=ya f
        clear k f
        go_wp2_with (first
         |(go_at_call 85;refine (Fo g.o wr n.o).mono ?_;rintro e K ⟨rfl,rfl⟩))
        go_ret
        exact ⟨Au i.o.symm,W.o⟩
       ·have g:=ya f;have D:=ya l
        clear k f l
        go_wp2_with (first
         |(go_at_call 85;refine (Fo g.o wr n.o).mono ?_;rintro e K ⟨rfl,rfl⟩)
         |(go_at_call 86;refine (Kg D.o wr).mono ?_;rintro e K ⟨rfl,rfl⟩))
        go_ret
        exact ⟨Au i.o.symm,W.o⟩
     ·obtain rfl:j=G:=by omega
      have a7:decide ((j:Int) < (j:Int))=false:=by simp
      have a6:Hid (∀d,d < c+1->(Bj x d).all Cv=true):=ya (fun d hd=>by
       rcases qo.1 hd with hd|rfl
       ·exact HA.o d hd
       ·have:=HJ.o
        rw[J.o,yx] at this
        exact this)
      have a8:Hid (Below (w.heap.size+1) w1 wr):=ya (r.o.trans (t.o.mono (by have:=r.o.size;have:=HZ.o;omega)))
      go_wp2
      exact ⟨⟨c+1,by omega,by push_cast;rfl,a6,a8⟩,by simp[intOf];omega⟩
   ·obtain rfl:c=6:=by omega
    have H:=ya (Qg a1.o HA.o)
    go_wp2
    go_ret
    exact ⟨Au H.o.symm,E.o⟩
 ·have i:=ya (Qf a)
  rcases JH a with f|⟨f,l⟩
  ·have g:=ya f
   clear a f
   go_wp2_with (first
    |(go_at_call 85;refine (Fo g.o w1 F.o).mono ?_;rintro e K ⟨rfl,rfl⟩))
   go_ret
   exact ⟨Au i.o.symm,s.o⟩
  ·have g:=ya f;have D:=ya l
   clear a f l
   go_wp2_with (first
    |(go_at_call 85;refine (Fo g.o w1 F.o).mono ?_;rintro e K ⟨rfl,rfl⟩)
    |(go_at_call 86;refine (Kg D.o w1).mono ?_;rintro e K ⟨rfl,rfl⟩))
   go_ret
   exact ⟨Au i.o.symm,s.o⟩
def Iz(x:AA):Bool:=(List.range 6).all fun c=>decide (Bj x c).Nodup
theorem Th{x:AA}{c:Nat}(hc:c < 6)(h:¬ (Bj x c).Nodup):Iz x=false:=by
 rw[yj]
 intro a
 unfold Iz at a
 rw[yM] at a
 exact h (yt (a c (yW.2 hc)))
theorem Rv{x:AA}(a:∀c,c < 6->(Bj x c).Nodup):Iz x=true:=by
 unfold Iz
 rw[yM]
 intro c hc
 exact xS (a c (yW.1 hc))
theorem NR(x:AA):Iz x=true↔Gi x:=by
 unfold Iz Gi
 rw[yM]
 simp only[yR]
 constructor
 ·intro h
  exact ⟨h 0 (by decide),h 1 (by decide),h 2 (by decide),h 3 (by decide),h 4 (by decide),h 5 (by decide)⟩
 ·rintro ⟨h0,h1,h2,h3,h4,h5⟩ c hc
  have hc:=yW.1 hc
  match c,hc with
  |0,_=>exact h0
  |1,_=>exact h1
  |2,_=>exact h2
  |3,_=>exact h3
  |4,_=>exact h4
  |5,_=>exact h5
theorem Qh{α:Type}{l:List α}{i:Nat}(h:i < l.length)(h1:(l.take i).Nodup)(h2:∀k (c:k < i),l[i]≠l[k]):(l.take (i+1)).Nodup:=by
 rw[yr h]
 refine List.nodup_append.2 ⟨h1,by simp,?_⟩
 intro a d b hb
 rw[zg.1 hb]
 obtain ⟨k,c,rfl⟩:=zc.1 d
 rw[yP] at c
 rw[List.getElem_take]
 exact fun e=>h2 k (by omega) e.symm
theorem Ti{α:Type}{l:List α}{i k:Nat}(h:i < l.length)(b:k < i)(e:l[i]=l[k]):¬ l.Nodup:=fun a=>(List.pairwise_iff_getElem.1 a) k i (by omega) h b e.symm
def nA(l:LB)(i:Nat):ByteArray:=l.getD i ByteArray.empty
theorem NS{l:LB}{i:Nat}(h:i < l.length):nA l i=l[i]:=by
 unfold nA
 simp[zW,h]
theorem NT{N:NP}{w:World}{L:BL}{cs:LV}{x:AA}(h:Ba N w L cs x)(hN:∀b,N b->b < w.heap.size)(U:Fw x):
  Calls Try.prog 54 #[.agg cs.toArray] w fun e w'=>e=.returned (.bool (!Iz x))∧Below w.heap.size w w':=by
 have ar:=ya U
 have ac:=h.len
 have HS:Hid (∀wr,Below w.heap.size w wr->Ba N wr L cs x):=ya (fun wr l=>h.same (fun _ h=>h) (fun b hb=>l.block b (hN b hb)))
 have ag:Hid (∀wr,Below w.heap.size w wr->∀b,N b->b < wr.heap.size):=ya (fun wr l b hb=>yk (hN b hb) l.size)
 have a0:Hid ((Try.prog.info? 35).map (·.size)=some cs.length):=ya (by rw[ac];kernel_rfl)
 clear h hN U ac
 go_enter Try.func54,Try.ntmps54
 go_upto_region 1 with (refine AR rfl 35 _ rfl cs.toArray rfl ?_)
 obtain ⟨w1,t⟩:∃w1,w1=w.alloc (.cells cs.toArray 35):=⟨_,rfl⟩
 rw[<-t]
 have ab:Hid (Below w.heap.size w w1):=ya (by rw[t];exact (yc _ _).alloc (ye _) _)
 have HZ:Hid (w1.heap.size=w.heap.size+1):=ya (by rw[t];simp)
 have S:w1.heap[w.heap.size]?=some (.cells cs.toArray 35 (0,0)):=by rw[t];exact World.alloc_heap_new _ _
 have a6:Hid (∀wr,Below (w.heap.size+1) w1 wr->wr.rangeAt w.heap.size 0 cs):=ya (fun wr l=>A1 (A6 S) (l.block _ (zK _)))
 clear t S
 go_wp2
 have Y:Hid (∀c,c < 0->(Bj x c).Nodup):=ya (fun c hc=>absurd hc (Nat.not_lt_zero _))
 have P:Hid (Below (w.heap.size+1) w1 w1):=ya (yc _ _)
 go_loopw [3] (fun iv wr=>∃c:Nat,c<=6∧iv=iV c∧Hid (∀d,d < c->(Bj x d).Nodup)∧Hid (Below (w.heap.size+1) w1 wr)) (fun iv _=>6 - (intOf iv).toNat)
 case atStart=>exact ⟨0,by omega,rfl,Y,P⟩
 case round=>
  clear Y P
  obtain ⟨c,hc,rfl,HA,HB⟩:=hrel
  have H:Hid (Below w.heap.size w wr):=ya (ab.o.trans (HB.o.mono (by omega)))
  by_cases ap:c < 6
  ·have ax:(c:Int) < 6:=by omega
   have HC:=ya ap
   go_upto_region 6 with (first
    |(refine yf rfl 35 _ rfl w.heap.size 0 rfl cs _ (a6.o wr HB.o) qO rfl a0.o ?_)
    |(go_at_call 55;refine (Kf (HS.o wr H.o) (ag.o wr H.o) ar.o HC.o).mono ?_;rintro e w2 ⟨hd,rfl,ad,_,V⟩;have u:=ya ad;have G:Hid (Below (w.heap.size+1) w1 w2):=ya (HB.o.trans (V.mono (by have:=HB.o.size;have:=HZ.o;omega)));clear ad V))
   obtain ⟨ha,B,b3⟩:=hd
   unfold AF.v
   have O:Hid (B=(Bj x c).length):=ya u.o.1
   have aa:Hid (B<=140737488355328):=ya (by have:=u.o.2.1;have:=O.o;omega)
   have Q:Hid (w.heap.size+1<=w2.heap.size):=ya (by have:=G.o.size;have:=HZ.o;omega)
   have R:Hid (((Bj x c).take 0).Nodup):=ya (by simp)
   simp only
   obtain ⟨wz,ao⟩:∃z:World,z=wr:=⟨_,rfl⟩
   clear ao
   go_loopw [5] (fun jv wr=>∃j:Nat,j<=B∧jv=iV j∧Hid (((Bj x c).take j).Nodup)∧Hid (Below w2.heap.size w2 wr)) (fun jv _=>B - (intOf jv).toNat)
   case atStart=>exact ⟨0,yv _,rfl,R,ya (yc _ _)⟩
   case round=>
    clear R
    obtain ⟨j,hj,rfl,HJ,M⟩:=hrel
    have au:=aa.o
    obtain ⟨wo,X⟩:∃z:World,z=wr:=⟨_,rfl⟩
    rw[<-X] at M ⊢
    clear X
    by_cases an:j < B
    ·have f:j < (Bj x c).length:=by rw[<-O.o];exact an
     have K:=ya f
     have ai:(j:Int) < (B:Int):=by omega
     have a7:Hid (∀q (D:q < j) (g:q < 0),nA (Bj x c) j≠nA (Bj x c) q):=ya (fun q D g=>absurd g (Nat.not_lt_zero _))
     go_wp2
     go_loopw [6] (fun kv wr=>∃k:Nat,k<=j∧kv=iV k∧Hid (∀q (D:q < j) (g:q < k),nA (Bj x c) j≠nA (Bj x c) q)∧Hid (Below w2.heap.size w2 wr)) (fun kv _=>j - (intOf kv).toNat)
     case atStart=>exact ⟨0,yv _,rfl,a7,M⟩
     case round=>
      clear a7
      obtain ⟨k,hk,rfl,HK,p⟩:=hrel
      by_cases aj:k < j
      ·have am:(k:Int) < (j:Int):=by omega
       have m:k < (Bj x c).length:=by omega
       have aw:(k:Int) < (B:Int):=by omega
       obtain ⟨b,o,av,he,hb,C,F,y,E,Z⟩:=u.o.2.2 j f
       obtain rfl:ha=some (aV b o):=he
       obtain ⟨b',o',az,he,a8,s,r,n,i,A⟩:=u.o.2.2 k m
       obtain ⟨rfl,rfl⟩:b=b'∧o=o':=by simpa using he
       have J:wr.cell? (aV b (o+j))=some (.string (nA (Bj x c) j)):=by
        have:=A1 F (p.o.block b hb) 0 _ E
        rw[NS f]
        rw[Nat.mul_one,xG] at this
        exact this
       have W:wr.cell? (aV b (o+k))=some (.string (nA (Bj x c) k)):=by
        have:=A1 r (p.o.block b hb) 0 _ i
        rw[NS m]
        rw[Nat.mul_one,xG] at this
        exact this
       by_cases a:nA (Bj x c) j=nA (Bj x c) k
       ·have T:Hid ((!Iz x)=true):=ya (by rw[Th HC.o (Ti f aj (by rw[<-NS f,<-NS m];exact a))];rfl)
        have aq:Hid (Below w.heap.size w wr):=ya (ab.o.trans ((G.o.trans (p.o.mono Q.o)).mono (by omega)))
        rw[a] at J
        generalize nA (Bj x c) k=sk at J W
        clear F y E Z C hb f r n i A s a8 a he m
        go_wp2_with fail
        go_region
        go_wp2
        go_ret
        exact ⟨Au T.o.symm,aq.o.drew⟩
       ·have ae:Hid (∀q (D:q < j) (g:q < k+1),nA (Bj x c) j≠nA (Bj x c) q):=ya (fun q D g=>by
         rcases qo.1 g with af|rfl
         ·exact HK.o q D af
         ·exact a)
        obtain ⟨sj,a2⟩:∃z,z=nA (Bj x c) j:=⟨_,rfl⟩
        rw[<-a2] at J a
        clear a2
        obtain ⟨sk,a1⟩:∃z,z=nA (Bj x c) k:=⟨_,rfl⟩
        rw[<-a1] at W a
        clear a1
        have ay:(sj.toList==sk.toList)=false:=by
         rw[xb];exact fun h=>a (JE.1 h)
        clear F y E Z C hb f r n i A s a8 a he m
        go_wp2_with fail
        go_region
        go_wp2
        exact ⟨⟨k+1,by omega,by push_cast;rfl,ae,ya p.o.drew⟩,by simp[intOf];omega⟩
      ·obtain rfl:k=j:=by omega
       have am:decide ((k:Int) < (k:Int))=false:=by simp
       have al:Hid (((Bj x c).take (k+1)).Nodup):=ya (Qh K.o HJ.o fun q D=>by have:=HK.o q D D;rwa [NS K.o,NS (by have:=K.o;omega)] at this)
       go_wp2
       exact ⟨⟨k+1,by omega,by push_cast;rfl,al,p⟩,by simp[intOf];omega⟩
    ·obtain rfl:j=B:=by omega
     have ai:decide ((j:Int) < (j:Int))=false:=by simp
     have ah:Hid (∀d,d < c+1->(Bj x d).Nodup):=ya (fun d hd=>by
      rcases qo.1 hd with hd|rfl
      ·exact HA.o d hd
      ·have:=HJ.o
       rw[O.o,yx] at this
       exact this)
     have ak:Hid (Below (w.heap.size+1) w1 wo):=ya (G.o.trans (M.o.mono Q.o))
     go_wp2
     exact ⟨⟨c+1,by omega,by push_cast;rfl,ah,ak⟩,by simp[intOf];omega⟩
  ·obtain rfl:c=6:=by omega
   have I:Hid ((!Iz x)=false):=ya (by rw[Rv HA.o];rfl)
   go_wp2
   go_ret
   exact ⟨Au I.o.symm,H.o⟩
def DU(x:AA):Bool:=FD x&&(En x.rots&&(BJ x).all fun e=>decide (AV e<=8))
theorem EI{α:Type}{l:List α}{f:α × Nat->List Kp}{p:Ex->Bool}{q:α->Bool}(h:∀a,((f a).all fun e=>p e.1)=q a.1):((l.zipIdx.flatMap f).all fun e=>p e.1)=l.all q:=by
 rw[List.all_flatMap,<-GP (q:=q) 0]
 congr 1
 funext a
 exact h a
theorem NU{α:Type}{l:List α}{f:α->List Ex}{p:Ex->Bool}:((l.flatMap f).all p)=l.all fun a=>(f a).all p:=List.all_flatMap
theorem Ss(x:AA)(p:Ex->Bool):(BJ x).all p=(Bb x).all fun e=>p e.1:=by
 unfold BJ Jy Jw Ha Jv Ju IY OI Bb JB Gb Eb Gc Iv EM EN
 simp only[z8,zb,zn,zj,NU]
 rw[EI (q:=fun d:E8=>p d.value) (fun a=>by simp),EI (q:=fun d:Cp=>p d.need) (fun a=>by simp),EI (q:=fun d:AI=>(DZ d).all p) (fun a=>by simp[DZ]),EI (q:=fun d:BN=>p d.area) (fun a=>by simp),EI (q:=fun d:AS=>(FT d).all p) (fun a=>by
  unfold FT DY
  simp only[z8,zb,zn,zj,NU]
  rw[EI (q:=fun d:BM=>p d.len) (fun a=>by simp)]),EI (q:=fun d:AJ=>(E0 d).all p) (fun a=>by simp[E0]),EI (q:=fun d:BV=>p d.due) (fun a=>by simp)]
 generalize (x.lets.all fun d=>p d.value)=c
 generalize (x.crops.all fun d=>p d.need)=f
 generalize (x.reaches.all fun d=>(DZ d).all p)=a3
 generalize (x.farms.all fun d=>p d.area)=a4
 generalize (x.rots.all fun d=>(FT d).all p)=a5
 generalize (x.rights.all fun d=>(E0 d).all p)=g
 generalize (x.duties.all fun d=>p d.due)=b
 rw[zu]
 simp only[ym,and_assoc,qw,and_comm]
theorem Tj(x:AA):DU x=BX x:=by
 unfold DU BX Fe
 rw[Ss]
theorem UF{x:AA}(h:EJ x=true):∀e∈BJ x,AV e<=1000000:=by
 unfold EJ at h
 simp only[ym,yR] at h
 intro e a
 have h1:=Mx (BJ x) 0 (by omega) h.2.2 e a
 have h2:=LQ e 5001 h1
 omega
theorem OO{x:AA}(h:EJ x=true):Fw x:=by
 unfold EJ at h
 simp only[ym] at h
 exact OM h.1 h.2.1
theorem Qi{N:NP}{w:World}{L:BL}{cs:LV}{x:AA}(h:Ba N w L cs x)(hN:∀b,N b->b < w.heap.size)(ao:Fw x)(bd:∀e∈BJ x,AV e<=1000000):
  Calls Try.prog 52 #[.agg cs.toArray] w fun e w'=>e=.returned (.bool (!DU x))∧Below w.heap.size w w':=by
 have f:Hid (Vv L x):=ya ⟨h.lets.1,h.crops.1,h.reaches.1,h.farms.1,h.rots.1,h.rights.1,h.duties.1⟩
 have y:=h.ok
 have bp:=ya ao;have bo:=ya bd
 clear ao bd
 have D:=h.at
 obtain ⟨B,J⟩:∃B,B=w.alloc (.cells cs.toArray 35):=⟨_,rfl⟩
 have ag:Below w.heap.size w B:=by rw[J];exact (yc _ _).alloc (ye _) _
 have aw:B.heap.size=w.heap.size+1:=by rw[J];simp
 have a6:B.heap[w.heap.size]?=some (.cells cs.toArray 35 (0,0)):=by rw[J];exact World.alloc_heap_new _ _
 have h0:Ba N B L cs x:=h.same (fun _ h=>h) (fun b hb=>ag.block b (hN b hb))
 have Z:=ya h0
 have s:=ya ag;have K:=ya aw;have a7:=ya hN;have cu:=ya y
 have aj:Hid (B.rangeAt w.heap.size 0 cs):=ya (by
  have:=yV a6 0 cs.length
  simpa using this)
 have d:∀q v,cs[q]?=some v->B.cell? (aV w.heap.size q)=some v:=fun q v hq=>by
  simp only[World.cell?,a6];simpa using hq
 have ay:Hid ((Try.prog.info? 35).map (·.size)=some cs.length):=ya (by
  obtain ⟨c0,c1,c2,rfl,g0,g1,g2⟩:=h.cells
  obtain ⟨a0,p0,rfl,e0⟩:=g0.cells
  obtain ⟨a1,p1,rfl,e1⟩:=g1.cells
  obtain ⟨a2,p2,rfl,e2⟩:=g2.cells
  kernel_rfl)
 have c4:B.cell? (aV w.heap.size 19)=some (.slice L.lets.a L.lets.n L.lets.c):=d _ _ D.lets
 have c5:B.cell? (aV w.heap.size 20)=some (.slice L.crops.a L.crops.n L.crops.c):=d _ _ D.crops
 have c6:B.cell? (aV w.heap.size 21)=some (.slice L.reaches.a L.reaches.n L.reaches.c):=d _ _ D.reaches
 have c7:B.cell? (aV w.heap.size 22)=some (.slice L.farms.a L.farms.n L.farms.c):=d _ _ D.farms
 have c8:B.cell? (aV w.heap.size 23)=some (.slice L.rots.a L.rots.n L.rots.c):=d _ _ D.rots
 have c9:B.cell? (aV w.heap.size 24)=some (.slice L.rights.a L.rights.n L.rights.c):=d _ _ D.rights
 have cf:B.cell? (aV w.heap.size 25)=some (.slice L.duties.a L.duties.n L.duties.c):=d _ _ D.duties
 have cl:=ya c8
 have l4:L.lets.n<=140737488355328:=y.lets.1
 have l5:L.crops.n<=140737488355328:=y.crops.1
 have l6:L.reaches.n<=140737488355328:=y.reaches.1
 have l7:L.farms.n<=140737488355328:=y.farms.1
 have l8:L.rots.n<=140737488355328:=y.rots.1
 have l9:L.rights.n<=140737488355328:=y.rights.1
 have cq:L.duties.n<=140737488355328:=y.duties.1
 have b8:=ya J
 clear ag aw a6 h0 hN J D y d
 obtain ⟨ks,aa⟩:∃ks,ks=cs:=⟨_,rfl⟩
 rw[<-aa] at Z aj ay
 have HK:=ya aa
 obtain ⟨q0,q1,q2,rfl,g0,g1,g2⟩:=h.cells
 obtain ⟨a0,p0,rfl,e0⟩:=g0.cells
 obtain ⟨a1,p1,rfl,e1⟩:=g1.cells
 obtain ⟨a2,p2,rfl,e2⟩:=g2.cells
 clear h g0 g1 g2 e0 e1 e2 aa
 unfold AF.v at*
 simp only[yL,yE] at b8 HK ⊢
 go_enter Try.func52,Try.ntmps52
 go_upto_region 1 with fail
 rw[<-b8.o]
 by_cases ak:L.lets.n<=64
 ·have al:decide ((L.lets.n:Int)>64)=false:=by simp;omega
  by_cases aq:L.crops.n<=32
  ·have b7:decide ((L.crops.n:Int)>32)=false:=by simp;omega
   by_cases b9:L.reaches.n<=64
   ·have bg:decide ((L.reaches.n:Int)>64)=false:=by simp;omega
    by_cases ax:L.farms.n<=600
    ·have bt:decide ((L.farms.n:Int)>600)=false:=by simp;omega
     by_cases b5:L.rots.n<=64
     ·have ar:decide ((L.rots.n:Int)>64)=false:=by simp;omega
      by_cases b4:L.rights.n<=256
      ·have bv:decide ((L.rights.n:Int)>256)=false:=by simp;omega
       by_cases bu:L.duties.n<=256
       ·have av:decide ((L.duties.n:Int)>256)=false:=by simp;omega
        have bz:Hid (FD x=true):=ya (by
         have h1:=f.o.lets;have h2:=f.o.crops;have h3:=f.o.reaches;have h4:=f.o.farms;have h5:=f.o.rots;have h6:=f.o.rights;have h7:=f.o.duties
         unfold FD
         simp only[ym,yR]
         omega)
        clear ak aq b9 ax b5 b4 bu
        go_upto_region 3 with fail
        clear al b7 bg bt ar bv av c4 c5 c6 c7 c8 c9 cf
        go_wp2
        have am:Hid (En (x.rots.take 0)=true):=ya (by simp[En])
        have V:=ya (yc B.heap.size B)
        go_loopw [3] (fun iv wr=>∃i:Nat,i<=L.rots.n∧iv=iV i∧Hid (En (x.rots.take i)=true)∧Hid (Below B.heap.size B wr)) (fun iv _=>L.rots.n - (intOf iv).toNat)
        case atStart=>exact ⟨0,yv _,rfl,am,V⟩
        case round=>
         clear am V
         obtain ⟨i,hi,rfl,HT,z⟩:=hrel
         have hf:wr.cell? (aV w.heap.size 23)=some (.slice L.rots.a L.rots.n L.rots.c):=(z.o.cell (p:=(aV w.heap.size 23)) (by rw[K.o];exact zK _)).trans cl.o
         by_cases M:i < L.rots.n
         ·have A:i < x.rots.length:=by rw[<-f.o.rots];exact M
          have S:(i:Int) < (L.rots.n:Int):=by omega
          obtain ⟨b,o,R,he,ae,bj,H,hv⟩:=Z.o.rots.2.2 i A
          have I:=A1 H (z.o.block b (by have:=a7.o b ae;have:=K.o;omega))
          have hz:R[22]?=some (A5 L i).v∧(A5 L i).n=x.rots[i].turns.length∧x.rots[i].turns.length<=140737488355328:=by
           obtain ⟨_,_,d0,d1,d2,rfl,k0,k1,k2,ht⟩:=hv
           have l0:=k0.len;have l1:=k1.len;have l2:=k2.len
           refine ⟨?_,ht.1,ht.2.1⟩
           have e:(Value.string x.rots[i].name::(Ad x.rots[i].on++(iV x.rots[i].rank::(d0++(d1++(d2++[(A5 L i).v]))))))=(Value.string x.rots[i].name::(Ad x.rots[i].on++(iV x.rots[i].rank::(d0++(d1++d2)))))++[(A5 L i).v]:=by simp
           rw[e,yJ (by simp[A9,l0,l1,l2])]
           simp[A9,l0,l1,l2]
          have ct:wr.cell? (aV b (o+i*23+22))=some (.slice (A5 L i).a (A5 L i).n (A5 L i).c):=I 22 _ hz.1
          have lt:(A5 L i).n<=140737488355328:=by rw[hz.2.1];exact hz.2.2
          rw[he] at hf
          by_cases P:(A5 L i).n<=64
          ·have cd:decide (((A5 L i).n:Int)>64)=false:=by simp;omega
           have cn:Hid (En (x.rots.take (i+1))=true):=ya (by
            have h:=HT.o
            unfold En at h ⊢
            rw[yr A,z8,h]
            have:x.rots[i].turns.length<=64:=by rw[<-hz.2.1];exact P
            simp[this])
           clear P H I hz he hv bj ae
           go_wp2
           exact ⟨⟨i+1,by omega,by push_cast;rfl,cn,z⟩,by simp[intOf];omega⟩
          ·have cd:decide (((A5 L i).n:Int)>64)=true:=by simp;omega
           have C:Hid ((!DU x)=true):=ya (by
            have e:En x.rots=false:=by
             unfold En
             rw[zZ]
             exact ⟨x.rots[i],yw A,by rw[<-hz.2.1];simpa using P⟩
            unfold DU
            rw[e];simp)
           clear P H I hz he hv bj ae
           go_wp2
           go_ret
           exact ⟨Au C.o.symm,s.o.trans (z.o.mono s.o.size)⟩
         ·obtain rfl:i=L.rots.n:=by omega
          have S:decide ((L.rots.n:Int) < (L.rots.n:Int))=false:=by simp
          have cm:Hid (En x.rots=true):=ya (by
           have h:=HT.o
           rw[f.o.rots,yx] at h
           exact h)
          have bw:=ya (A1 aj.o (z.o.block w.heap.size (by rw[K.o];exact zK _)))
          have ce:Hid (Ba N wr L ks x):=ya (Z.o.same (fun _ h=>h) (fun b hb=>z.o.block b (by have:=a7.o b hb;have:=K.o;omega)))
          have bh:Hid (∀b,N b->b < wr.heap.size):=ya (fun b hb=>by have:=a7.o b hb;have:=K.o;have:=z.o.size;omega)
          go_wp2_with (first|(refine yf rfl 35 _ rfl w.heap.size 0 rfl ks _ bw.o qO rfl ay.o ?_)|(go_at_call 22;refine (Lx ce.o bh.o bp.o).mono ?_;rintro e w2 ⟨v2,rfl,ap⟩;have Q:=ya ap;clear ap))
          obtain ⟨rows,ba,G⟩:=Q.o.own
          have au:rows.length=(BJ x).length:=G.length
          have ca:=bp.o.top.tE
          have ai:3<=(BJ x).length:=by
           unfold BJ Jy Jw Ha Jv Ju IY
           simp only[yi,yC,yK]
           omega
          rcases ba with ⟨cj,⟨_,h3⟩|⟨g,cap,cr,rfl,cb,ac,cp,ch,ci,bn⟩⟩
          ·omega
          have d:∀j u,rows.flatten[j]?=some u->w2.cell? (aV g j)=some u:=fun j u hj=>by
           rw[<-bn] at hj
           have M:=(yA.1 hj).1
           rw[yP] at M
           rw[zJ,yu (by omega)] at hj
           simp only[World.cell?,ac]
           simpa using hj
          have b3:Hid (∀i (hi:i < (BJ x).length),∃c,w2.rangeAt g (i*6) c∧Bh N wr (BJ x)[i] c):=ya (fun i hi=>by
           have az:i < rows.length:=by omega
           refine ⟨rows[i],fun j u hj=>d _ _ ?_,G.get i az hi⟩
           have bs:∀(l:List LV) (k:Nat) (P:k < l.length),(∀r∈l,r.length=6)->∀j u,(l[k])[j]?=some u->l.flatten[k*6+j]?=some u:=by
            intro l
            induction l with
            |nil=>intro k P;simp at P
            |cons r t ih=>
             intro k P h6 j u hu
             have ck:=h6 r (by simp)
             cases k with
             |zero=>
              have bi:r[j]?=some u:=hu
              have cc:=(yA.1 bi).1
              simp only[xx,qj,yD]
              rw[zp cc]
              exact bi
             |succ k=>
              simp only[xx]
              rw[yJ (by omega),ck,show (k+1)*6+j - 6=k*6+j by omega]
              exact ih k (by simpa using P) (fun r hr=>h6 r (by simp[hr])) j u (by simpa using hu)
           refine bs rows i az (fun r hr=>?_) j u hj
           obtain ⟨k,P,rfl⟩:=zc.1 hr
           exact (G.get k P (by omega)).len)
          have Y:Hid (rows.length=(BJ x).length):=ya au
          have be:rows.length<=140737488355328:=by omega
          have T:Hid (Below w.heap.size w w2):=ya ((s.o.trans (z.o.mono s.o.size)).trans (Q.o.below.mono (yo s.o.size z.o.size)))
          have co:Hid (g < w2.heap.size):=ya (yd.1 ac).1
          have bq:Hid (∀W,Below w2.heap.size w2 W->∀b,N b->W.heap[b]?=wr.heap[b]?∧b < W.heap.size):=ya (fun W hW b hb=>by
           have h1:=bh.o b hb
           have h2:=Q.o.below.size
           have h3:=hW.size
           exact ⟨(hW.block b (by omega)).trans (Q.o.below.block b h1),by omega⟩)
          have C:Hid (DU x=(BJ x).all fun e=>decide (AV e<=8)):=ya (by unfold DU;rw[bz.o,cm.o];rfl)
          have an:Hid (((BJ x).take 0).all (fun e=>decide (AV e<=8))=true):=ya rfl
          have X:=ya (yc w2.heap.size w2)
          generalize c3:rows.length=m at Y be
          clear cj ac cp ch ci bn d G au ai ca hf S cb c3 HT
          go_wp2
          go_loopw [5] (fun iv wr=>∃(i:Nat),iv=iV i∧i<=m∧Hid (((BJ x).take i).all (fun e=>decide (AV e<=8))=true)∧Hid (Below w2.heap.size w2 wr)) (fun iv _=>m - (intOf iv).toNat)
          case atStart=>exact ⟨0,rfl,yv _,an,X⟩
          case round=>
           clear an X
           obtain ⟨i,rfl,hi,HA,F⟩:=hrel
           by_cases M:i < m
           ·have A:i < (BJ x).length:=by rw[<-Y.o];exact M
            have S:(i:Int) < (m:Int):=by omega
            obtain ⟨c,H,U⟩:=b3.o i A
            have bm:=ya (A1 H (F.o.block g co.o))
            have HC:=ya (Oh (BJ x)[i] (w:=wr) (Bh.same (fun b h=>h) (fun b hb=>(bq.o wr F.o b hb).1) U) (fun b hb=>(bq.o wr F.o b hb).2) (bo.o _ (yw A)))
            have a8:Hid (AV (BJ x)[i]<=8->((BJ x).take (i+1)).all (fun e=>decide (AV e<=8))=true):=ya (fun h=>by
             have h1:=HA.o
             rw[yr A,z8,h1]
             simp[h])
            have af:Hid (¬ AV (BJ x)[i]<=8->(!DU x)=true):=ya (fun h=>by
             rw[C.o]
             have e:((BJ x).all fun e=>decide (AV e<=8))=false:=by
              rw[zZ]
              exact ⟨(BJ x)[i],yw A,by simpa using h⟩
             rw[e];rfl)
            have bk:Hid (AV (BJ x)[i]<=1000000):=ya (bo.o _ (yw A))
            generalize (BJ x)[i]=E at U HC a8 af bk
            generalize AV E=dp at HC a8 af bk
            obtain ⟨a',p',rfl,_⟩:=U.cells
            clear H U
            by_cases h8:dp<=8
            ·have cg:decide ((dp:Int)>8)=false:=by simp;omega
             have bb:=ya (a8.o h8)
             clear h8
             go_wp2_with (first|(refine yf rfl 26 _ rfl g (i*6) (by simp[Act.eval]) [iV E.op,iV E.n,iV E.u,.string E.rn,iV E.ri,.slice a' E.args.length p'] _ bm.o qF rfl (by kernel_rfl) ?_)|(go_at_call 84;refine HC.o.mono ?_;rintro e w3 ⟨rfl,O⟩;have ad:Hid (Below w2.heap.size w2 w3):=ya (F.o.trans (O.mono F.o.size));clear O))
             exact ⟨⟨i+1,by go_num,by omega,bb,ad⟩,by simp[intOf];omega⟩
            ·have cg:decide ((dp:Int)>8)=true:=by simp;omega
             have ah:=ya (af.o h8)
             clear h8
             go_wp2_with (first|(refine yf rfl 26 _ rfl g (i*6) (by simp[Act.eval]) [iV E.op,iV E.n,iV E.u,.string E.rn,iV E.ri,.slice a' E.args.length p'] _ bm.o qF rfl (by kernel_rfl) ?_)|(go_at_call 84;refine HC.o.mono ?_;rintro e w3 ⟨rfl,O⟩;have ad:Hid (Below w2.heap.size w2 w3):=ya (F.o.trans (O.mono F.o.size));clear O))
             go_ret
             exact ⟨Au ah.o.symm,T.o.trans (ad.o.mono T.o.size)⟩
           ·obtain rfl:i=m:=by omega
            have ab:Hid ((!DU x)=false):=ya (by
             rw[C.o]
             have h:=HA.o
             rw[Y.o,yx] at h
             rw[h];rfl)
            have S:decide ((i:Int) < (i:Int))=false:=by simp
            go_wp2
            go_ret
            exact ⟨Au ab.o.symm,T.o.trans (F.o.mono T.o.size)⟩
       ·have av:decide ((L.duties.n:Int)>256)=true:=by simp;omega
        have C:Hid ((!DU x)=true):=ya (by
         have h:=f.o.duties
         have e:decide (x.duties.length<=256)=false:=by simp;omega
         unfold DU FD
         rw[e];simp)
        clear bu
        go_wp2
        go_ret
        exact ⟨Au C.o.symm,s.o⟩
      ·have bv:decide ((L.rights.n:Int)>256)=true:=by simp;omega
       have C:Hid ((!DU x)=true):=ya (by
        have h:=f.o.rights
        have e:decide (x.rights.length<=256)=false:=by simp;omega
        unfold DU FD
        rw[e];simp)
       clear b4
       go_wp2
       go_ret
       exact ⟨Au C.o.symm,s.o⟩
     ·have ar:decide ((L.rots.n:Int)>64)=true:=by simp;omega
      have C:Hid ((!DU x)=true):=ya (by
       have h:=f.o.rots
       have e:decide (x.rots.length<=64)=false:=by simp;omega
       unfold DU FD
       rw[e];simp)
      clear b5
      go_wp2
      go_ret
      exact ⟨Au C.o.symm,s.o⟩
    ·have bt:decide ((L.farms.n:Int)>600)=true:=by simp;omega
     have C:Hid ((!DU x)=true):=ya (by
      have h:=f.o.farms
      have e:decide (x.farms.length<=600)=false:=by simp;omega
      unfold DU FD
      rw[e];simp)
     clear ax
     go_wp2
     go_ret
     exact ⟨Au C.o.symm,s.o⟩
   ·have bg:decide ((L.reaches.n:Int)>64)=true:=by simp;omega
    have C:Hid ((!DU x)=true):=ya (by
     have h:=f.o.reaches
     have e:decide (x.reaches.length<=64)=false:=by simp;omega
     unfold DU FD
     rw[e];simp)
    clear b9
    go_wp2
    go_ret
    exact ⟨Au C.o.symm,s.o⟩
  ·have b7:decide ((L.crops.n:Int)>32)=true:=by simp;omega
   have C:Hid ((!DU x)=true):=ya (by
    have h:=f.o.crops
    have e:decide (x.crops.length<=32)=false:=by simp;omega
    unfold DU FD
    rw[e];simp)
   clear aq
   go_wp2
   go_ret
   exact ⟨Au C.o.symm,s.o⟩
 ·have al:decide ((L.lets.n:Int)>64)=true:=by simp;omega
  have C:Hid ((!DU x)=true):=ya (by
   have h:=f.o.lets
   have e:decide (x.lets.length<=64)=false:=by simp;omega
   unfold DU FD
   rw[e];simp)
  clear ak
  go_wp2
  go_ret
  exact ⟨Au C.o.symm,s.o⟩
structure Pl where
 kind:Int
 name:ByteArray
 a:Rf
 b:Rf
 n:Int
 is:Bool
def Li(p:Pl):LV:=[.int .i64 p.kind,.string p.name,.string p.a.name,.int .i64 p.a.n,.string p.b.name,.int .i64 p.b.n,.int .i64 p.n,.bool p.is]
def He:Rf:=⟨⟨#[]⟩,0⟩
def J4(d:E8):List Pl:=[⟨2,d.name,He,He,0,false⟩]
def FU(d:Cp):List Pl:=[⟨3,d.name,He,He,0,false⟩]
def Dy(d:AI):List Pl:=[⟨4,d.name,d.frm,He,0,false⟩]
def FV(d:BN):List Pl:=[⟨5,d.name,d.on,d.crop,0,d.river⟩]
def Gx(k:BM):List Pl:=[⟨7,⟨#[]⟩,k.farm,He,0,false⟩]
def Gy(d:AS):List Pl:=[⟨6,d.name,d.on,He,d.rank,false⟩]++d.turns.flatMap Gx
def Ef(d:AJ):List Pl:=[⟨8,d.name,d.farm,d.reach,d.rank,false⟩,⟨9,⟨#[]⟩,He,He,d.kind,false⟩]
def FW(d:BV):List Pl:=[⟨10,d.name,d.farm,d.reach,0,false⟩]
def Rx(x:AA):List Pl:=[⟨1,x.name,He,He,0,false⟩]
def Ry(x:AA):List Pl:=Rx x++x.lets.flatMap J4
def Rz(x:AA):List Pl:=Ry x++x.crops.flatMap FU
def RC(x:AA):List Pl:=Rz x++x.reaches.flatMap Dy
def RD(x:AA):List Pl:=RC x++x.farms.flatMap FV
def RE(x:AA):List Pl:=RD x++x.rots.flatMap Gy
def RF(x:AA):List Pl:=RE x++x.rights.flatMap Ef
def Co(x:AA):List Pl:=RF x++x.duties.flatMap FW
structure Xi (x:AA):Prop where
 p1:(Rx x).length<=1
 p2:(Ry x).length<=101
 p3:(Rz x).length<=201
 p4:(RC x).length<=301
 p5:(RD x).length<=401
 p6:(RE x).length<=5371
 p7:(RF x).length<=5971
 p8:(Co x).length<=6271
theorem Qj{d:AS}(h:d.turns.length<=70):(Gy d).length<=71:=by
 have h1:(d.turns.flatMap Gx).length<=d.turns.length*1:=B6 fun _ _=>by simp[Gx]
 simp only[Gy,yi,yC,yK]
 omega
theorem Iq{x:AA}(h:Fw x):Xi x:=by
 have h1:=h.lets;have h2:=h.crops;have h3:=h.reaches;have h4:=h.farms;have h5:=h.rots;have h6:=h.rights;have e:=h.duties
 have e1:(x.lets.flatMap J4).length<=x.lets.length*1:=B6 fun _ _=>by simp[J4]
 have e2:(x.crops.flatMap FU).length<=x.crops.length*1:=B6 fun _ _=>by simp[FU]
 have g:(x.reaches.flatMap Dy).length<=x.reaches.length*1:=B6 fun _ _=>by simp[Dy]
 have f:(x.farms.flatMap FV).length<=x.farms.length*1:=B6 fun _ _=>by simp[FV]
 have a:(x.rots.flatMap Gy).length<=x.rots.length*71:=B6 fun d hd=>Qj (h.turns d hd)
 have b:(x.rights.flatMap Ef).length<=x.rights.length*2:=B6 fun _ _=>by simp[Ef]
 have c:(x.duties.flatMap FW).length<=x.duties.length*1:=B6 fun _ _=>by simp[FW]
 refine ⟨?_,?_,?_,?_,?_,?_,?_,?_⟩<;>simp only[Co,RF,RE,RD,RC,Rz,Ry,Rx,yi,yC,yK]<;>omega
def FX(B:Nat)(w:World)(v:Value)(l:List Pl):Prop:=w.ownsRow B 125 8 v l.length (l.flatMap Li)
theorem FX.up{B:Nat}{w w':World}{v:Value}{l:List Pl}(h:FX B w v l)(hb:Below w.heap.size w w'):FX B w' v l:=by
 obtain ⟨h1,h2⟩:=h
 refine ⟨h1,h2.imp id ?_⟩
 rintro ⟨g,cap,a,h3,h4,h5,h6⟩
 exact ⟨g,cap,a,h3,h4,(hb.block g (yd.1 h5).1).trans h5,h6⟩
theorem FY{B:Nat}{c w w':World}{v:Value}{l:List Pl}(d:Below B c w)(i:B<=w.heap.size)(f:FX B w v l)(a:w.grownBy w' v.ownBlock):Below B c w':=by
 refine d.trans ⟨a.os,a.tape,a.output,a.size,fun b hb=>a.block b (by omega) (fun e=>?_)⟩
 rcases f.2 with ⟨rfl,_⟩|⟨g,cap,h,rfl,h4,_⟩
 ·cases e
 ·simp only[Value.ownBlock,yZ] at e
  omega
theorem Ki(l:List Pl):(l.flatMap Li).length=l.length*8∧∀u∈l.flatMap Li,u.oneCell'=true:=by
 induction l with
 |nil=>simp
 |cons p r ih=>
  refine ⟨by simp only[yY,yi,ih.1,yC];simp[Li];omega,fun u a=>?_⟩
  rw[yY] at a
  rcases yn.1 a with a|a
  ·simp[Li] at a
   rcases a with h|h|h|h|h|h|h|h<;>rw[h]<;>rfl
  ·exact ih.2 u a
theorem Cr{ops:Array Oper}{rest:List Oper}{o:Oper}{a:Act}{Q:QT}{W:World}(B:Nat)(t:o.guard=none)(s x:Operand)(D:o.op=.call {callee:=.builtin .append,args:=#[s,x],argTypes:=#[122,122]})
 (v:Value)(l:List Pl)(hs:a.eval s=v)(p:FX B W v l)(g m c:Nat)(d:List Pl)(G:a.eval x=.slice (some ⟨g,0,none⟩) m c)(A:m=d.length)(H:W.heap[g]?=some (.cells (d.flatMap Li).toArray 125 (0,0)))
 (w:l.length+d.length<=1000000)(e:B<=W.heap.size)
 (h:∀(y:Option Addr) (n c:Nat) w',FX B w' (.slice y n c) (l++d)->W.grownBy w' v.ownBlock->wpList Try.prog ops Q rest (a.put o.dst (.slice y n c)) w'):wpList Try.prog ops Q (o::rest) a W:=by
 subst A
 refine yF t fun K E=>?_
 have h0:((Try.prog.info? 125).bind fun i=>i.zero.map fun z=>(i.size,z.cells.size,i.bytes))=some (8,8,88):=by kernel_rfl
 cases k:Try.prog.info? 125 with
 |none=>rw[k] at h0;cases h0
 |some i0=>
  rw[k] at h0
  cases r:i0.zero with
  |none=>simp[r] at h0
  |some z=>
  simp only[r,xC,xK,yZ,zo] at h0
  obtain ⟨L,F,J⟩:=h0
  have f:∀j u,(d.flatMap Li)[j]?=some u->W.cell? (((aV g 0):Addr).add j)=some u:=fun j u M=>by
   rw[zx]
   simp only[World.cell?,H]
   simpa using M
  refine qt W s x 122 D B 125 i0 z 8 88 qy k r L J F (by decide) v l.length _ hs p (aV g 0) d.length c (d.flatMap Li) G (Ki d).1 f (Ki d).2 (by unfold maxLen;omega) (by omega) e ?_
  intro v' w' b q _
  obtain ⟨va,I,C,rfl⟩:=EH b
  exact E _ _ (h va I C w' (by unfold FX;rw[yi,zD];exact b) q)
structure Ps (w:World) (cs:List Value) (W:World) (v:Value) (l:List Pl):Prop where
 below:Below w.heap.size w W
 box:W.heap[w.heap.size]?=some (.cells cs.toArray 35 (0,0))
 own:FX (w.heap.size+1) W v l
 size:w.heap.size+1<=W.heap.size
theorem Ps.cell{w W:World}{cs:LV}{v:Value}{l:List Pl}{p q:LV}{u:Value}(h:Ps w cs W v l)(hc:cs=p++(u::q)){o:Nat}(a:p.length=o):W.cell? ⟨w.heap.size,o,none⟩=some u:=by
 have h1:=A6 h.box
 rw[hc] at h1
 have h2:=Bn (p:=p) (c:=[u]) (q:=q) h1
 rw[a,yD] at h2
 exact CL h2
theorem Ps.next{w W W':World}{cs:LV}{v v':Value}{l a:List Pl}(h:Ps w cs W v l)(hb:Below (w.heap.size+1) W W')(b:FX (w.heap.size+1) W' v' (l++a)):Ps w cs W' v' (l++a):=
 ⟨h.below.trans (hb.mono (by omega)),(hb.block _ (by omega)).trans h.box,b,yo h.size hb.size⟩
def Ir(w:World)(l:List Pl)(e:Ending)(w':World):Prop:=∃v,e=.returned v∧FX w.heap.size w' v l∧Below w.heap.size w w'
theorem OQ{W:World}{b o:Nat}{p q:LV}{u:Value}(h:W.rangeAt b o (p++(u::q))):W.cell? ⟨b,o+p.length,none⟩=some u:=CL (Bn (p:=p) (c:=[u]) (q:=q) h)
end Go.Proofs.Ytghepahgkcigpaa
