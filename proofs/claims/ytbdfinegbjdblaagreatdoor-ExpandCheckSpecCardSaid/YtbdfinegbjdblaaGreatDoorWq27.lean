/- expand.build: the loops over crops and constants (printed by gen_cc.py). -/
import Derived.Test.YtbdfinegbjdblaaGreatDoorWq0
import Derived.Test.YtbdfinegbjdblaaGreatDoorWq26
import Derived.Deep.CutRange
set_option maxRecDepth 100000
set_option maxHeartbeats 64000000
set_option linter.unusedSimpArgs false
namespace Go.Proofs.YtbdfinegbjdblaaGreatDoor
open Go.RowKit
set_option linter.unusedVariables false
theorem bD{w W:World}{Cb Rb:Nat}{N:NP}{L:BQ}{ss:LV}{x:AM}{o:Option (Bk × List Rt)}{u:Nat->Value}{vs:List Rt}{d:Bk}{v:Nat->Value}(hc:BC w Cb N L ss x)(hu:UB w Cb u)(hS:N3 w Cb Rb vs ss d v W)(y:o=V0 x d vs){hrs:Int}(hd:(((d.hours=hrs/\d.duties.length=0/\d.rights.length=0)/\d.farms.length=0)/\d.reaches.length=0)/\d.crops.length=0)(hb: -4611686018427387904<=hrs/\hrs<=4611686018427387904)(hl:vs.length=x.crops.length+(x.reaches.length*8+(x.farms.length+((x.rots.flatMap F8).length+(x.rights.length*5+x.duties.length)))))(a7:∀v∈vs, -1073741824<=v.n/\v.n<=1073741824):BT 5 o w Cb Rb u W:=by
 unfold BT
 obtain ⟨⟨a,n,c⟩,hL⟩:∃h:AA,L.crops=h:=⟨_,rfl⟩
 have q:=(hc.cells hS).2.2.1
 have ad:Hid (Bg N w 7 (K4 N w) ⟨a,n,c⟩ x.crops):=yb (by have h:=hc.v.crops;rw[hL] at h;exact h)
 rw[hL] at q
 unfold AA.v at q
 dsimp only at q
 have M:Hid (n=x.crops.length):=yb ad.o.1
 have al:Hid (x.crops.length<=100000):=yb hc.slim.crops
 have b4:n<=140737488355328:=by have:=M.o;have:=al.o;omega
 obtain ⟨I,hI⟩:∃I:Nat->World->Prop,I=λi W=>∃d v vs,N3 w Cb Rb vs ss d v W/\Js Sp Lq (UZ x) x.crops o i d vs/\vs.length=(x.crops.drop i).length+(x.reaches.length*8+(x.farms.length+((x.rots.flatMap F8).length+(x.rights.length*5+x.duties.length))))/\(∀v∈vs, -1073741824<=v.n/\v.n<=1073741824)/\d.crops.length=i/\((d.hours=hrs/\d.duties.length=0/\d.rights.length=0)/\d.farms.length=0)/\d.reaches.length=0:=⟨_,rfl⟩
 have af:Hid (I 0 W):=yb (by rw[hI];exact ⟨d,v,vs,hS,Js.start y,by rw[xA];exact hl,a7,hd.2,hd.1⟩)
 have HI:=yb hI;have HC:=yb hc;have HU:=yb hu
 have b8:=yb hl
 have au:=yb hb
 have b5:=yb hd
 have b3:=yb a7
 rw[I6,hu.u1,hu.u2,hu.u4,hu.u5]
 clear hc hS y hL hI hu hl hb hd a7
 refine Ai λK A=>?_
 go_wp2
 go_loopw [47] (λiv wr=>∃i:Nat,iv=iV i/\i<=n/\Hid (I i wr)) (λiv _=>n - (intOf iv).toNat)
 case atStart=>exact ⟨0,rfl,yC _,af⟩
 clear af q
 obtain ⟨i,rfl,hi,a8⟩:=hrel
 obtain ⟨d,v,vs,HS,a6,m⟩:∃d v vs,Hid (N3 w Cb Rb vs ss d v wr)/\Hid (Js Sp Lq (UZ x) x.crops o i d vs)/\Hid (vs.length=(x.crops.drop i).length+(x.reaches.length*8+(x.farms.length+((x.rots.flatMap F8).length+(x.rights.length*5+x.duties.length))))/\(∀v∈vs, -1073741824<=v.n/\v.n<=1073741824)/\d.crops.length=i/\((d.hours=hrs/\d.duties.length=0/\d.rights.length=0)/\d.farms.length=0)/\d.reaches.length=0):=by
  have h:=a8.o
  rw[HI.o] at h
  obtain ⟨d,v,vs,h1,h2,h3⟩:=h
  exact ⟨d,v,vs,yb h1,yb h2,yb h3⟩
 clear a8
 by_cases ao:i < n
 ·have R:i < x.crops.length:=by rw[<-M.o];exact ao
  have aq:(i:Int) < (n:Int):=by omega
  have E:Hid (i < x.crops.length):=yb R
  obtain ⟨b,oo,ct,av,Y,ag,aa,Z⟩:=ad.o.2.2 i R
  obtain rfl:a=some (aV b oo):=av
  have ai:Hid (wr.rangeAt b (oo+i*7) ct):=yb (A8 aa (HS.o.cu.bel.block _ (HC.o.n b Y).1 (HC.o.n b Y).2))
  have S:=yb ag
  obtain ⟨D,hD⟩:∃D,x.crops[i]'R=D:=⟨_,rfl⟩
  rw[hD] at Z
  have HD:Hid (x.crops[i]'E.o=D):=yb hD
  have b7:=yb Z
  obtain ⟨-,ce,H,am⟩:=Z
  obtain ⟨ae,pe,rfl, -⟩:=am.cells
  clear am
  have ah:=yb H
  have ac:Hid (∀v∈ct,v.oneCell'=true):=yb (by rw[H];simp[B6,AA.v,Value.oneCell'])
  clear aa Y ag hD H
  go_upto_region 11 with (first
   |(with_reducible refine yj rfl 120 _ rfl b (oo+i*7) (by kernel_rfl) ct _ ai.o qX (by kernel_rfl) (by rw[S.o];kernel_rfl) ?_)
   |(with_reducible refine yt rfl 120 _ _ rfl wr.heap.size ct.toArray (by kernel_rfl) (by kernel_rfl) 120 _ (World.alloc_heap_new _ _) (by rw[yA,S.o];kernel_rfl) (by simp[S.o]) (yL ac.o) ?_;rw[World.setRow_alloc_new]))
  have f:=yb (Iw.mk' HS.o ct 120)
  generalize az:wr.heap.size=bx at f |-
  clear az HS ai
  generalize wr.alloc _=wr at f |-
  obtain ⟨z,r,ax⟩:∃z r,vs=z::r:=by
   have h:=m.o.1
   cases vs with
   |nil=>simp at h;omega
   |cons a b=>exact ⟨a,b,rfl⟩
  subst ax
  obtain ⟨T,hT⟩:∃T:World->Prop,T=λV=>V.cell? (aV (w.heap.size+1) 6)=some (v 2)/\V.cell? (aV bx 0)=some (.string D.name)/\True/\True:=⟨_,rfl⟩
  have X:=yb hT
  have F:Hid (∀V,V.heap[w.heap.size]?=some (.cells ss.toArray 49 (0,0))->V.heap[w.heap.size+1]?=some (.cells (Dc d v).toArray 31 (0,0))->V.heap[bx]?=some (.cells ct.toArray 120 (0,0))->T V):=yb (λV h0 h1 h2=>by
   rw[hT]
   have h3:=BV h1
   rw[ah.o] at h2
   exact ⟨h3.2.2.2.2.2.2.1,by simp[World.cell?,h2],trivial,trivial⟩)
  clear hT
  have C:=yb f.o.drew
  refine Cu (by kernel_rfl) T 10 [(0,51,pV (w.heap.size+1) 6),(1,52,v 2),(2,53,pV bx 0),(3,54,.string D.name),(4,55,Lo Cb)] 6 (by kernel_rfl) (by kernel_rfl) (λ_ _ _ _ _ h=>h) (F.o _ C.o.st.s C.o.st.b C.o.x) (by kernel_rfl) ?_ ?_
  ·simp only[Ct]
   refine ⟨?_,?_,?_,?_,?_,trivial⟩
   ·intro o y V p
    obtain rfl:=yf y
    rw[X.o] at p
    obtain ⟨y0,y1,y2,y3⟩:=p
    go_simp
   ·intro o y V p
    obtain rfl:=yf y
    rw[X.o] at p
    obtain ⟨y0,y1,y2,y3⟩:=p
    go_simp
   ·intro o y V p
    obtain rfl:=yf y
    rw[X.o] at p
    obtain ⟨y0,y1,y2,y3⟩:=p
    go_simp
   ·intro o y V p
    obtain rfl:=yf y
    rw[X.o] at p
    obtain ⟨y0,y1,y2,y3⟩:=p
    go_simp
   intro o y V p
   obtain rfl:=yf y
   rw[X.o] at p
   obtain ⟨y0,y1,y2,y3⟩:=p
   go_simp
  generalize wr.drew=wr at C |-
  clear f
  have f:=C
  clear C
  simp only[Cs]
  refine Aq (i:=5) (by kernel_rfl) rfl rfl (λK A=>?_)
  go_simp
  rcases (by omega:z.d<=1\/1 < z.d) with U|U
  rotate_left 1
  ·have hr:o=none:=a6.o.bad E.o (by simp[Sp,BE,Int.not_le.2 U])
   refine (f.o.st.cu.no U).mono ?_
   rintro e w2 ⟨rfl,J⟩
   exact E8 hr rfl J
  refine (f.o.st.cu.yes U).mono ?_
  rintro e w2 ⟨rfl,aj,J⟩
  have B:=yb (f.o.call aj J)
  clear aj J f
  have f:=B
  clear B
  refine A.o _ _ (λ_=>F.o _ f.o.st.s f.o.st.b f.o.x) ?_
  clear A K
  refine BN (T:=T) (k:=10) (by kernel_rfl) (λ_ _ _ _ _ h=>h) (F.o _ f.o.st.s f.o.st.b f.o.x) [(6,57,.agg #[.string D.name,iV z.n])] 4 _ _ (by kernel_rfl) ?_ ?_
  ·simp only[Ct]
   refine ⟨?_,trivial⟩
   intro o y V p
   obtain rfl:=yf y
   rw[X.o] at p
   obtain ⟨y0,y1,y2,y3⟩:=p
   go_simp
  simp only[Cs]
  refine Aq (i:=7) (by kernel_rfl) rfl rfl (λK A=>?_)
  obtain ⟨w3,O⟩:∃w3,w3=w2.alloc (.cells #[.string D.name,iV z.n] 77):=⟨_,rfl⟩
  have B:=yb (f.o.up ((yg _ _).alloc (yi _) (.cells #[.string D.name,iV z.n] 77)))
  have HG:Hid (w3.heap[w2.heap.size]?=some (.cells #[.string D.name,iV z.n] 77 (0,0))):=yb (by rw[O];exact World.alloc_heap_new _ _)
  rw[<-O] at B
  refine E5 26 77 _ [[.string D.name,iV z.n]] 1 rfl [.string D.name,iV z.n] (by simp) rfl (by kernel_rfl) 2 jb (by kernel_rfl) (by simp) (by omega) (by omega) ?_
  rw[show w2.alloc _=w3 from O.symm]
  clear f O
  have f:=B
  clear B
  refine A.o _ _ (λ_=>F.o _ f.o.st.s f.o.st.b f.o.x) ?_
  clear A K
  generalize w2.heap.size=g at HG |-
  refine Aq (i:=8) (by kernel_rfl) rfl rfl (λK A=>?_)
  obtain ⟨va,vm,vk,aw⟩:=AR (f.o.st.own 2 (by decide))
  have ab:=yb (f.o.st.own 2 (by decide))
  refine Dn jb (.tmp 52) (.tmp 58) rfl 2 (by kernel_rfl) (by decide) (w.heap.size+2) (v 2) (EN d 2) (Lv d 2) (by kernel_rfl) ab.o g 1 (JS ⟨D.name,z.n⟩) (by kernel_rfl) HG.o rfl (by simp[Value.oneCell',JS,Jr,AZ,IS,Ft]) (by have h:=m.o.2.2.1;have:=al.o;have:=E.o;show (d.crops.length+1)*128<=_;omega) (by have:=f.o.st.lt;omega) ?_
  intro v9 w9 G a1 b0
  have t:=yb (f.o.st.app (d':=Lq d ⟨D.name,z.n⟩) (k:=2) (by decide) (x:=v9) (by simpa[EN,Lv,Pv,Rk,Lq] using G) a1 (λj hj ay=>by
   match j,hj with
   |0,_=>exact ⟨rfl,rfl⟩
   |1,_=>exact ⟨rfl,rfl⟩
   |2,_=>exact absurd rfl ay
   |3,_=>exact ⟨rfl,rfl⟩
   |4,_=>exact ⟨rfl,rfl⟩))
  have ap:Hid (w9.heap[bx]?=some (.cells ct.toArray 120 (0,0))):=yb ((a1.block bx (yd.1 f.o.x).1 (λe=>f.o.ne 2 (by decide) e.symm)).trans f.o.x)
  obtain ⟨za,zm,zk,rfl⟩:=AR G
  clear G a1 b0 f ab HG aw
  have ak:Hid (T w9):=yb (F.o _ t.o.s t.o.b ap.o)
  refine A.o _ _ (λ_=>ak.o) ?_
  clear A K
  refine BN (T:=T) (k:=10) (by kernel_rfl) (λ_ _ _ _ _ h=>h) (ak.o) [(9,60,pV (w.heap.size+1) 6)] 1 _ _ (by kernel_rfl) ?_ ?_
  ·simp only[Ct]
   refine ⟨?_,trivial⟩
   intro o y V p
   obtain rfl:=yf y
   rw[X.o] at p
   obtain ⟨y0,y1,y2,y3⟩:=p
   go_simp
  simp only[Cs]
  refine Aq (i:=10) (by kernel_rfl) rfl rfl (λK A=>?_)
  have a2:=t.o.b
  have c9:=(BV a2).2.2.2.2.2.2.1
  have f9:w9.frozen? (aV (w.heap.size+1) 6)=false:=by simp[World.frozen?,a2]
  go_simp
  refine A.o _ _ (by intro h;cases h) ?_
  clear A K c9 f9 a2
  refine AP (by kernel_rfl) ?_
  have Q:=yb (t.o.set (k:=6) (x:=.slice za zm zk) rfl)
  clear t
  have t:=Q
  clear Q
  generalize w9.setCell _ _=wr at t |-
  have an:Hid (I (i+1) wr):=yb (by
   rw[HI.o]
   exact ⟨Lq d ⟨D.name,z.n⟩,_,r,t.o,a6.o.step E.o (by rw[HD.o];simp[Sp,BE,U]),by have h:=m.o.1;have h2:=E.o;simp at h |-;omega,λv U=>m.o.2.1 v (by simp[U]),by have h:=m.o.2.2.1;simp[Lq];omega,m.o.2.2.2⟩)
  go_wp2
  exact ⟨⟨i+1,by push_cast;rfl,by omega,an⟩,by simp[intOf];omega⟩
 obtain rfl:i=n:=by omega
 have aq:decide ((i:Int) < (i:Int))=false:=by simp
 have HE:Hid (o=(UZ x) d vs):=yb (by have h:=a6.o;rw[M.o] at h;exact h.done)
 go_wp2
 refine A.o _ _ ?_
 refine I7 (P:=λl=>Code.wp Tryz.prog _ _ ⟨l,[]⟩ _) rfl ?_
 exact bC HC.o ⟨rfl,rfl,rfl,rfl⟩ HS.o HE.o m.o.2.2.2 au.o (by have h:=m.o.1;rw[M.o,xE] at h;simpa using h) m.o.2.1
theorem bE{w W:World}{Cb Rb:Nat}{N:NP}{L:BQ}{ss:LV}{x:AM}{o:Option (Bk × List Rt)}{u:Nat->Value}{vs:List Rt}{d:Bk}{v:Nat->Value}(hc:BC w Cb N L ss x)(k:UB w Cb u)(S:N3 w Cb Rb vs ss d v W)(Y:o=Zb x d vs){hrs:Int}(hd:(((d.hours=hrs/\d.duties.length=0/\d.rights.length=0)/\d.farms.length=0)/\d.reaches.length=0)/\d.crops.length=0)(hb: -4611686018427387904<=hrs/\hrs<=4611686018427387904)(M:vs.length=x.lets.length+(x.crops.length+(x.reaches.length*8+(x.farms.length+((x.rots.flatMap F8).length+(x.rights.length*5+x.duties.length))))))(j:∀v∈vs, -1073741824<=v.n/\v.n<=1073741824):BT 4 o w Cb Rb u W:=by
 unfold BT
 obtain ⟨⟨a,n,c⟩,O⟩:∃h:AA,L.lets=h:=⟨_,rfl⟩
 have f:=(hc.cells S).2.1
 have G:Hid (Bg N w 7 (Np N w) ⟨a,n,c⟩ x.lets):=yb (by have h:=hc.v.lets;rw[O] at h;exact h)
 rw[O] at f
 unfold AA.v at f
 dsimp only at f
 have g:Hid (n=x.lets.length):=yb G.o.1
 have Q:Hid (x.lets.length<=100000):=yb hc.slim.lets
 have Z:n<=140737488355328:=by have:=g.o;have:=Q.o;omega
 obtain ⟨I,B⟩:∃I:Nat->World->Prop,I=λi W=>∃d v vs,N3 w Cb Rb vs ss d v W/\Js QK (λd _=>d) (V0 x) x.lets o i d vs/\vs.length=(x.lets.drop i).length+(x.crops.length+(x.reaches.length*8+(x.farms.length+((x.rots.flatMap F8).length+(x.rights.length*5+x.duties.length)))))/\(∀v∈vs, -1073741824<=v.n/\v.n<=1073741824)/\(((d.hours=hrs/\d.duties.length=0/\d.rights.length=0)/\d.farms.length=0)/\d.reaches.length=0)/\d.crops.length=0:=⟨_,rfl⟩
 have m:Hid (I 0 W):=yb (by rw[B];exact ⟨d,v,vs,S,Js.start Y,by rw[xA];exact M,j,hd⟩)
 have U:=yb B;have HC:=yb hc;have HU:=yb k
 have a1:=yb M
 have J:=yb hb
 have a2:=yb hd
 have X:=yb j
 rw[I6,k.u1,k.u2,k.u4,k.u5]
 clear hc S Y O B k M hb hd j
 refine Ai λK hK=>?_
 go_wp2
 go_loopw [39] (λR wr=>∃i:Nat,R=iV i/\i<=n/\Hid (I i wr)) (λR _=>n - (intOf R).toNat)
 case atStart=>exact ⟨0,rfl,yC _,m⟩
 clear m f
 obtain ⟨i,rfl,hi,q⟩:=hrel
 obtain ⟨d,v,vs,A,p,e⟩:∃d v vs,Hid (N3 w Cb Rb vs ss d v wr)/\Hid (Js QK (λd _=>d) (V0 x) x.lets o i d vs)/\Hid (vs.length=(x.lets.drop i).length+(x.crops.length+(x.reaches.length*8+(x.farms.length+((x.rots.flatMap F8).length+(x.rights.length*5+x.duties.length)))))/\(∀v∈vs, -1073741824<=v.n/\v.n<=1073741824)/\(((d.hours=hrs/\d.duties.length=0/\d.rights.length=0)/\d.farms.length=0)/\d.reaches.length=0)/\d.crops.length=0):=by
  have h:=q.o
  rw[U.o] at h
  obtain ⟨d,v,vs,h1,h2,h3⟩:=h
  exact ⟨d,v,vs,yb h1,yb h2,yb h3⟩
 clear q
 by_cases C:i < n
 ·have D:i < x.lets.length:=by rw[<-g.o];exact C
  have F:(i:Int) < (n:Int):=by omega
  have y:Hid (i < x.lets.length):=yb D
  obtain ⟨V,r,H⟩:∃V r,vs=V::r:=by
   have h:=e.o.1
   cases vs with
   |nil=>simp at h;omega
   |cons a b=>exact ⟨a,b,rfl⟩
  subst H
  have E:=yb A.o.cu.rat
  go_upto_region 7 with (go_at_call 60;refine E.o.mono ?_;rintro e1 w2 ⟨rfl,s,z⟩;have t:=yb (A.o.call s z);clear s z)
  generalize w2=wr at t |-
  have T:Hid (I (i+1) wr):=yb (by
   rw[U.o]
   exact ⟨d,_,r,t.o,p.o.step (b:=()) y.o rfl,by have h:=e.o.1;have h2:=y.o;simp at h |-;omega,λv hv=>e.o.2.1 v (by simp[hv]),e.o.2.2⟩)
  go_wp2
  exact ⟨⟨i+1,by push_cast;rfl,by omega,T⟩,by simp[intOf];omega⟩
 obtain rfl:i=n:=by omega
 have F:decide ((i:Int) < (i:Int))=false:=by simp
 have HE:Hid (o=(V0 x) d vs):=yb (by have h:=p.o;rw[g.o] at h;exact h.done)
 go_wp2
 refine hK.o _ _ ?_
 refine I7 (P:=λl=>Code.wp Tryz.prog _ _ ⟨l,[]⟩ _) rfl ?_
 exact bD HC.o ⟨rfl,rfl,rfl,rfl⟩ A.o HE.o e.o.2.2 J.o (by have h:=e.o.1;rw[g.o,xE] at h;simpa using h) e.o.2.1
end Go.Proofs.YtbdfinegbjdblaaGreatDoor
