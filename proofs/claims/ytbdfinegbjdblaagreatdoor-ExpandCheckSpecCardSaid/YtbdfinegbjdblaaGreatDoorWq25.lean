/- expand.build: the loop over duties, the end (printed by gen_cc.py). -/
import Derived.Test.YtbdfinegbjdblaaGreatDoorWq0
import Derived.Test.YtbdfinegbjdblaaGreatDoorWq24
import Derived.Deep.CutRange
set_option maxRecDepth 100000
set_option maxHeartbeats 64000000
set_option linter.unusedSimpArgs false
namespace Go.Proofs.YtbdfinegbjdblaaGreatDoor
open Go.RowKit
set_option linter.unusedVariables false
theorem aX{w W:World}{Cb Rb:Nat}{N:NP}{L:BQ}{ss:LV}{x:AM}{o:Option (Bk × List Rt)}{u:Nat->Value}{vs:List Rt}{d:Bk}{v:Nat->Value}(hc:BC w Cb N L ss x)(hu:UB w Cb u)(hS:N3 w Cb Rb vs ss d v W)(m:o=UU x d vs)(hl:vs.length=x.duties.length/\d.duties.length=0):BT 10 o w Cb Rb u W:=by
 unfold BT
 obtain ⟨⟨a,n,c⟩,hL⟩:∃h:AA,L.duties=h:=⟨_,rfl⟩
 have p:=(hc.cells hS).2.2.2.2.2.2.2
 have ag:Hid (Bg N w 11 (K6 N w) ⟨a,n,c⟩ x.duties):=yb (by have h:=hc.v.duties;rw[hL] at h;exact h)
 rw[hL] at p
 unfold AA.v at p
 dsimp only at p
 have aa:Hid (n=x.duties.length):=yb ag.o.1
 have an:Hid (x.duties.length<=100000):=yb hc.slim.duties
 have b4:n<=140737488355328:=by have:=aa.o;have:=an.o;omega
 obtain ⟨I,hI⟩:∃I:Nat->World->Prop,I=λi W=>∃d v vs,N3 w Cb Rb vs ss d v W/\Js Sr Lu X0 x.duties o i d vs/\vs.length=(x.duties.drop i).length/\d.duties.length=i:=⟨_,rfl⟩
 have ah:Hid (I 0 W):=yb (by rw[hI];exact ⟨d,v,vs,hS,Js.start m,by rw[xA];exact hl.1,hl.2⟩)
 have HI:=yb hI;have HC:=yb hc;have HU:=yb hu
 have b7:=yb hl
 rw[I6,hu.u1,hu.u2,hu.u4,hu.u5]
 clear hc hS m hL hI hu hl
 refine Ai λK A=>?_
 go_wp2
 go_loopw [184] (λiv wr=>∃i:Nat,iv=iV i/\i<=n/\Hid (I i wr)) (λiv _=>n - (intOf iv).toNat)
 case atStart=>exact ⟨0,rfl,yC _,ah⟩
 clear ah p
 obtain ⟨i,rfl,hi,ab⟩:=hrel
 obtain ⟨d,v,vs,R,a7,t⟩:∃d v vs,Hid (N3 w Cb Rb vs ss d v wr)/\Hid (Js Sr Lu X0 x.duties o i d vs)/\Hid (vs.length=(x.duties.drop i).length/\d.duties.length=i):=by
  have h:=ab.o
  rw[HI.o] at h
  obtain ⟨d,v,vs,h1,h2,h3⟩:=h
  exact ⟨d,v,vs,yb h1,yb h2,yb h3⟩
 clear ab
 by_cases aq:i < n
 ·have X:i < x.duties.length:=by rw[<-aa.o];exact aq
  have av:(i:Int) < (n:Int):=by omega
  have J:Hid (i < x.duties.length):=yb X
  obtain ⟨b,oo,ct,aw,Z,ai,ac,a1⟩:=ag.o.2.2 i X
  obtain rfl:a=some (aV b oo):=aw
  have ak:Hid (wr.rangeAt b (oo+i*11) ct):=yb (A8 ac (R.o.cu.bel.block _ (HC.o.n b Z).1 (HC.o.n b Z).2))
  have Y:=yb ai
  obtain ⟨D,hD⟩:∃D,x.duties[i]'X=D:=⟨_,rfl⟩
  rw[hD] at a1
  have HD:Hid (x.duties[i]'J.o=D):=yb hD
  have b5:=yb a1
  obtain ⟨-, -, -,ce,P,ao⟩:=a1
  obtain ⟨ae,pe,rfl, -⟩:=ao.cells
  clear ao
  have aj:=yb P
  have af:Hid (∀v∈ct,v.oneCell'=true):=yb (by rw[P];simp[B6,AA.v,Value.oneCell'])
  clear ac Z ai hD P
  go_upto_region 45 with (first
   |(with_reducible refine yj rfl 129 _ rfl b (oo+i*11) (by kernel_rfl) ct _ ak.o j1 (by kernel_rfl) (by rw[Y.o];kernel_rfl) ?_)
   |(with_reducible refine yt rfl 129 _ _ rfl wr.heap.size ct.toArray (by kernel_rfl) (by kernel_rfl) 129 _ (World.alloc_heap_new _ _) (by rw[yA,Y.o];kernel_rfl) (by simp[Y.o]) (yL af.o) ?_;rw[World.setRow_alloc_new]))
  have l:=yb (Iw.mk' R.o ct 129)
  generalize b0:wr.heap.size=bx at l |-
  clear b0 R ak
  generalize wr.alloc _=wr at l |-
  obtain ⟨y,r,ay⟩:∃y r,vs=y::r:=by
   have h:=t.o.1
   cases vs with
   |nil=>simp at h;omega
   |cons a b=>exact ⟨a,b,rfl⟩
  subst ay
  obtain ⟨T,hT⟩:∃T:World->Prop,T=λV=>V.cell? (aV (w.heap.size+1) 8)=some (v 4)/\V.cell? (aV bx 0)=some (.string D.name)/\V.cell? (aV bx 2)=some (iV D.farm.n)/\V.cell? (aV bx 4)=some (iV D.reach.n):=⟨_,rfl⟩
  have z:=yb hT
  have M:Hid (∀V,V.heap[w.heap.size]?=some (.cells ss.toArray 49 (0,0))->V.heap[w.heap.size+1]?=some (.cells (Dc d v).toArray 31 (0,0))->V.heap[bx]?=some (.cells ct.toArray 129 (0,0))->T V):=yb (λV h0 h1 h2=>by
   rw[hT]
   have h3:=BV h1
   rw[aj.o] at h2
   exact ⟨h3.2.2.2.2.2.2.2.2.1,by simp[World.cell?,h2],by simp[World.cell?,h2,B6],by simp[World.cell?,h2,B6]⟩)
  clear hT
  have C:=yb l.o.drew
  refine Cu (by kernel_rfl) T 16 [(0,188,pV (w.heap.size+1) 8),(1,189,v 4),(2,190,pV bx 0),(3,191,.string D.name),(4,192,pV bx 1),(5,193,pV bx 2),(6,194,iV D.farm.n),(7,195,pV bx 3),(8,196,pV bx 4),(9,197,iV D.reach.n),(10,198,Lo Cb)] 6 (by kernel_rfl) (by kernel_rfl) (λ_ _ _ _ _ h=>h) (M.o _ C.o.st.s C.o.st.b C.o.x) (by kernel_rfl) ?_ ?_
  ·simp only[Ct]
   refine ⟨?_,?_,?_,?_,?_,?_,?_,?_,?_,?_,?_,trivial⟩
   ·intro o m V f
    obtain rfl:=yf m
    rw[z.o] at f
    obtain ⟨G,H,F,E⟩:=f
    go_simp
   ·intro o m V f
    obtain rfl:=yf m
    rw[z.o] at f
    obtain ⟨G,H,F,E⟩:=f
    go_simp
   ·intro o m V f
    obtain rfl:=yf m
    rw[z.o] at f
    obtain ⟨G,H,F,E⟩:=f
    go_simp
   ·intro o m V f
    obtain rfl:=yf m
    rw[z.o] at f
    obtain ⟨G,H,F,E⟩:=f
    go_simp
   ·intro o m V f
    obtain rfl:=yf m
    rw[z.o] at f
    obtain ⟨G,H,F,E⟩:=f
    go_simp
   ·intro o m V f
    obtain rfl:=yf m
    rw[z.o] at f
    obtain ⟨G,H,F,E⟩:=f
    go_simp
   ·intro o m V f
    obtain rfl:=yf m
    rw[z.o] at f
    obtain ⟨G,H,F,E⟩:=f
    go_simp
   ·intro o m V f
    obtain rfl:=yf m
    rw[z.o] at f
    obtain ⟨G,H,F,E⟩:=f
    go_simp
   ·intro o m V f
    obtain rfl:=yf m
    rw[z.o] at f
    obtain ⟨G,H,F,E⟩:=f
    go_simp
   ·intro o m V f
    obtain rfl:=yf m
    rw[z.o] at f
    obtain ⟨G,H,F,E⟩:=f
    go_simp
   intro o m V f
   obtain rfl:=yf m
   rw[z.o] at f
   obtain ⟨G,H,F,E⟩:=f
   go_simp
  generalize wr.drew=wr at C |-
  clear l
  have l:=C
  clear C
  simp only[Cs]
  refine Aq (i:=11) (by kernel_rfl) rfl rfl (λK A=>?_)
  go_simp
  rcases (by omega:y.d<=1\/1 < y.d) with hv|hv
  rotate_left 1
  ·have hr:o=none:=a7.o.bad J.o (by simp[Sr,BE,Int.not_le.2 hv])
   refine (l.o.st.cu.no hv).mono ?_
   rintro e w2 ⟨rfl,Q⟩
   exact E8 hr rfl Q
  refine (l.o.st.cu.yes hv).mono ?_
  rintro e w2 ⟨rfl,al,Q⟩
  have B:=yb (l.o.call al Q)
  clear al Q l
  have l:=B
  clear B
  refine A.o _ _ (λ_=>M.o _ l.o.st.s l.o.st.b l.o.x) ?_
  clear A K
  refine BN (T:=T) (k:=16) (by kernel_rfl) (λ_ _ _ _ _ h=>h) (M.o _ l.o.st.s l.o.st.b l.o.x) [(12,200,.agg #[.string D.name,iV D.farm.n,iV D.reach.n,iV y.n])] 4 _ _ (by kernel_rfl) ?_ ?_
  ·simp only[Ct]
   refine ⟨?_,trivial⟩
   intro o m V f
   obtain rfl:=yf m
   rw[z.o] at f
   obtain ⟨G,H,F,E⟩:=f
   go_simp
  simp only[Cs]
  refine Aq (i:=13) (by kernel_rfl) rfl rfl (λK A=>?_)
  obtain ⟨w3,S⟩:∃w3,w3=w2.alloc (.cells #[.string D.name,iV D.farm.n,iV D.reach.n,iV y.n] 140):=⟨_,rfl⟩
  have B:=yb (l.o.up ((yg _ _).alloc (yi _) (.cells #[.string D.name,iV D.farm.n,iV D.reach.n,iV y.n] 140)))
  have HG:Hid (w3.heap[w2.heap.size]?=some (.cells #[.string D.name,iV D.farm.n,iV D.reach.n,iV y.n] 140 (0,0))):=yb (by rw[S];exact World.alloc_heap_new _ _)
  rw[<-S] at B
  refine E5 28 140 _ [[.string D.name,iV D.farm.n,iV D.reach.n,iV y.n]] 1 rfl [.string D.name,iV D.farm.n,iV D.reach.n,iV y.n] (by simp) rfl (by kernel_rfl) 4 jd (by kernel_rfl) (by simp) (by omega) (by omega) ?_
  rw[show w2.alloc _=w3 from S.symm]
  clear l S
  have l:=B
  clear B
  refine A.o _ _ (λ_=>M.o _ l.o.st.s l.o.st.b l.o.x) ?_
  clear A K
  generalize w2.heap.size=g at HG |-
  refine Aq (i:=14) (by kernel_rfl) rfl rfl (λK A=>?_)
  obtain ⟨va,vm,vk,ax⟩:=AR (l.o.st.own 4 (by decide))
  have ad:=yb (l.o.st.own 4 (by decide))
  refine Dn jd (.tmp 189) (.tmp 201) rfl 4 (by kernel_rfl) (by decide) (w.heap.size+2) (v 4) (EN d 4) (Lv d 4) (by kernel_rfl) ad.o g 1 (Jr ⟨D.name,D.farm.n,D.reach.n,y.n⟩) (by kernel_rfl) HG.o rfl (by simp[Value.oneCell',JS,Jr,AZ,IS,Ft]) (by have h:=t.o.2;have:=an.o;have:=J.o;show (d.duties.length+1)*128<=_;omega) (by have:=l.o.st.lt;omega) ?_
  intro v9 w9 O a2 b3
  have q:=yb (l.o.st.app (d':=Lu d ⟨D.name,D.farm.n,D.reach.n,y.n⟩) (k:=4) (by decide) (x:=v9) (by simpa[EN,Lv,Pv,Rk,Lu] using O) a2 (λj hj az=>by
   match j,hj with
   |0,_=>exact ⟨rfl,rfl⟩
   |1,_=>exact ⟨rfl,rfl⟩
   |2,_=>exact ⟨rfl,rfl⟩
   |3,_=>exact ⟨rfl,rfl⟩
   |4,_=>exact absurd rfl az))
  have au:Hid (w9.heap[bx]?=some (.cells ct.toArray 129 (0,0))):=yb ((a2.block bx (yd.1 l.o.x).1 (λe=>l.o.ne 4 (by decide) e.symm)).trans l.o.x)
  obtain ⟨za,zm,zk,rfl⟩:=AR O
  clear O a2 b3 l ad HG ax
  have am:Hid (T w9):=yb (M.o _ q.o.s q.o.b au.o)
  refine A.o _ _ (λ_=>am.o) ?_
  clear A K
  refine BN (T:=T) (k:=16) (by kernel_rfl) (λ_ _ _ _ _ h=>h) (am.o) [(15,203,pV (w.heap.size+1) 8)] 1 _ _ (by kernel_rfl) ?_ ?_
  ·simp only[Ct]
   refine ⟨?_,trivial⟩
   intro o m V f
   obtain rfl:=yf m
   rw[z.o] at f
   obtain ⟨G,H,F,E⟩:=f
   go_simp
  simp only[Cs]
  refine Aq (i:=16) (by kernel_rfl) rfl rfl (λK A=>?_)
  have a6:=q.o.b
  have c9:=(BV a6).2.2.2.2.2.2.2.2.1
  have f9:w9.frozen? (aV (w.heap.size+1) 8)=false:=by simp[World.frozen?,a6]
  go_simp
  refine A.o _ _ (by intro h;cases h) ?_
  clear A K c9 f9 a6
  refine AP (by kernel_rfl) ?_
  have U:=yb (q.o.set (k:=8) (x:=.slice za zm zk) rfl)
  clear q
  have q:=U
  clear U
  generalize w9.setCell _ _=wr at q |-
  have ap:Hid (I (i+1) wr):=yb (by
   rw[HI.o]
   exact ⟨Lu d ⟨D.name,D.farm.n,D.reach.n,y.n⟩,_,r,q.o,a7.o.step J.o (by rw[HD.o];simp[Sr,BE,hv]),by have h:=t.o.1;have h2:=J.o;simp at h |-;omega,by have h:=t.o.2;simp[Lu];omega⟩)
  go_wp2
  exact ⟨⟨i+1,by push_cast;rfl,by omega,ap⟩,by simp[intOf];omega⟩
 obtain rfl:i=n:=by omega
 have av:decide ((i:Int) < (i:Int))=false:=by simp
 have HE:Hid (o=X0 d vs):=yb (by have h:=a7.o;rw[aa.o] at h;exact h.done)
 go_wp2
 refine A.o _ _ ?_
 have a8:=yb (X2 R.o)
 have HR:=yb (Ae R.o.b)
 go_wp2_with (first
  |(with_reducible refine yj rfl 31 (.tmp 4) rfl (w.heap.size+1) 0 (by kernel_rfl) (Dc d v) _ HR.o jf (by kernel_rfl) (by kernel_rfl) ?_)
  |(with_reducible refine yt rfl 31 (.tmp 4) (.tmp 205) rfl (w.heap.size+1) (Dc d v).toArray (by kernel_rfl) (by kernel_rfl) 31 _ R.o.b (by kernel_rfl) (by kernel_rfl) a8.o ?_))
 exact Bd (c:=Dc d v) rfl rfl (D3 R.o.b) jf rfl (by kernel_rfl) (by
  rw[HE.o]
  exact ⟨v,rfl,λk hk=>EM (R.o.own k hk) λb h1 h2=>Bh _ (by omega),R.o.cu.up2 (Bz (yg w.heap.size wr) (qn _) _)⟩)
end Go.Proofs.YtbdfinegbjdblaaGreatDoor
