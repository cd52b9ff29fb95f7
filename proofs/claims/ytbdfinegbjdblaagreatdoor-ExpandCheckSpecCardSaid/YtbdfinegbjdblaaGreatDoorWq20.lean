/- units.places$1: the walk (printed by gen_it.py P). -/
import Derived.Test.YtbdfinegbjdblaaGreatDoorWq0
import Derived.Test.YtbdfinegbjdblaaGreatDoorWq16
import Derived.Deep.RegionHeld2
import Derived.Deep.CutRange
set_option maxRecDepth 100000
set_option maxHeartbeats 16000000
set_option linter.unusedSimpArgs false
namespace Go.Proofs.YtbdfinegbjdblaaGreatDoor
open Go.RowKit Go.Proofs.Tryz
theorem Rq(n:Nat)(hn:1<=n)(l Bs:Nat)(L:BQ)(NB:NP)(w0:World)(M:WS)(hm:Re NB w0 Bs L M)(cz:GU w0/\∀b,b < 6->NB b)(J:Nat->NP->World->Prop)(Jx:NP->World->Prop)(Jp:List PanicEntry->NP->World->Prop)(W0:World)
 (hc:MY (n - 1) l (IZ M) J Jx Jp W0)(hj:∀k O W,J k O W->Xl NB w0 W)(db:∀O W,Jx O W->Xl NB w0 W)(h0:J 0 (λ_=>False) W0):
  Calls prog 66 #[.func (.yield l) #[] #[],.pointer (some ⟨Bs,0,none⟩)] W0 (YG J Jx Jp (IZ M).length):=by
 have ez:∀(fn:Fn) (first cap:Array Value) (w:World),(Instr.makeFunc fn first cap).run prog w=.ok (.func fn first cap) w:=λ_ _ _ _=>rfl
 have R:=yb hm
 have u:=yb cz
 have HC:=yb hc
 have C:Hid (∀k P W,Dh 160 J Jx W0 l (W0.heap.size+1) W0.heap.size k P W->Xl NB w0 W):=yb (λk P W h=>WR hj db h)
 have d:Hid (Dh 160 J Jx W0 l (W0.heap.size+1) W0.heap.size (0) AQ ((W0.alloc (.cells #[.func (.yield l) #[] #[]] 160)).alloc (.cells #[.bool true] 4))):=yb (by
  have hb:Below W0.heap.size W0 ((W0.alloc (.cells #[.func (.yield l) #[] #[]] 160)).alloc (.cells #[.bool true] 4)):=((yg _ _).alloc (yi _) _).alloc (by simp) _
  have h2:=World.alloc_heap_new (W0.alloc (.cells #[.func (.yield l) #[] #[]] 160)) (.cells #[.bool true] 4)
  rw[ze] at h2
  refine ⟨_,⟨λb e6=>e6.elim (λh=>h.elim) (λh=>h),hb.size,.inr ⟨by omega,by simp⟩,.inr ⟨yi _,by simp<;>omega⟩,by omega,(yp _ _ _ (by simp)).trans (World.alloc_heap_new _ _),.inl ⟨h2,CY hc.stays h0 hb⟩⟩,trivial⟩)
 obtain ⟨X,hX⟩:∃X,X=IZ M:=⟨_,rfl⟩
 have q6:∃B,X=IZ M++B:=⟨[],by rw[hX,yE]⟩
 unfold IZ at q6
 have q5:=Fb q6
 have q4:=Fb q5
 have q3:=Fb q4
 have q2:=Fb q3
 have q1:=Fb q2
 have q0:=Fb q1
 obtain ⟨A0,av⟩:∃A,A=TL M:=⟨_,rfl⟩
 rw[<-av] at q0 q1 q2 q3 q4 q5 q6
 obtain ⟨A1,b5⟩:∃A,A=A0++M.cs.flatMap JC:=⟨_,rfl⟩
 rw[<-b5] at q2 q3 q4 q5 q6
 obtain ⟨A2,bi⟩:∃A,A=A1++M.rs.flatMap CV:=⟨_,rfl⟩
 rw[<-bi] at q3 q4 q5 q6
 obtain ⟨A3,be⟩:∃A,A=A2++M.fs.flatMap IY:=⟨_,rfl⟩
 rw[<-be] at q4 q5 q6
 obtain ⟨A4,bd⟩:∃A,A=A3++M.ro.flatMap Iu:=⟨_,rfl⟩
 rw[<-bd] at q5 q6
 obtain ⟨A5,ba⟩:∃A,A=A4++M.rg.flatMap I3:=⟨_,rfl⟩
 rw[<-ba] at q6
 obtain ⟨A6,cb⟩:∃A,A=A5++M.ds.flatMap NL:=⟨_,rfl⟩
 have HE:Hid (X.length=A6.length):=yb (by rw[hX,cb,ba,bd,be,bi,b5,av];rfl)
 have du:Hid (∀i (hi:i < M.cs.length),CU X (C7 A0 JC M.cs i) (JC M.cs[i])):=yb (λi hi=>Ej q1 hi)
 have dn:Hid (A1.length=C7 A0 JC M.cs M.cs.length):=yb (by rw[Dz,b5])
 have e3:Hid (∀i (hi:i < M.rs.length),CU X (C7 A1 CV M.rs i) (CV M.rs[i])):=yb (λi hi=>Ej q2 hi)
 have dv:Hid (A2.length=C7 A1 CV M.rs M.rs.length):=yb (by rw[Dz,bi])
 have di:Hid (∀i (hi:i < M.fs.length),CU X (C7 A2 IY M.fs i) (IY M.fs[i])):=yb (λi hi=>Ej q3 hi)
 have de:Hid (A3.length=C7 A2 IY M.fs M.fs.length):=yb (by rw[Dz,be])
 have dm:Hid (∀i (hi:i < M.ro.length),CU X (C7 A3 Iu M.ro i) (Iu M.ro[i])):=yb (λi hi=>Ej q4 hi)
 have dy:Hid (A4.length=C7 A3 Iu M.ro M.ro.length):=yb (by rw[Dz,bd])
 have dj:Hid (∀i (hi:i < M.rg.length),CU X (C7 A4 I3 M.rg i) (I3 M.rg[i])):=yb (λi hi=>Ej q5 hi)
 have dk:Hid (A5.length=C7 A4 I3 M.rg M.rg.length):=yb (by rw[Dz,ba])
 have dq:Hid (∀i (hi:i < M.ds.length),CU X (C7 A5 NL M.ds i) (NL M.ds[i])):=yb (λi hi=>Ej q6 hi)
 have dr:Hid (A6.length=C7 A5 NL M.ds M.ds.length):=yb (by rw[Dz,cb])
 have cm:Hid (CU X 0 (TL M)):=yb (by obtain ⟨B,h⟩:=q0;exact ⟨[],B,by rw[h,av];rfl,rfl⟩)
 have dh:Hid (A0.length=3):=yb (by rw[av];rfl)
 rw[<-hX] at HC |-
 clear hm hc hj db h0 hX q0 q1 q2 q3 q4 q5 q6 av b5 bi be bd ba cb cz
 go_enter func66,ntmps66
 iterate 2
  refine Ai λK hK=>?_
  go_wp2
  refine hK.o _ _ ?_
  clear hK K
 generalize (W0.alloc _).alloc _=wr at d |-
 refine Ai λK hK=>?_
 go_wp2
 refine hK.o _ _ ?_
 clear hK K
 refine Ai λK hK=>?_
 have m:=yb (C.o _ _ _ d.o)
 have q:Hid (Calls prog 67 #[.agg #[iV 0,iV 1,iV 0],.bool true,.slice (some (aV wr.heap.size 0)) 1 1,pV (W0.heap.size+1) 0,pV W0.heap.size 0] (wr.alloc (.cells (M.c0).toArray 40)) (Df 160 J Jx Jp W0 l (W0.heap.size+1) W0.heap.size (0+1) AQ)):=yb (by
  have h:=BA (E0 CT true) HC.o hn (Kr _) d.o [M.c0] (by intro c hc;simp only[yq,yu,yV] at hc;rcases hc with rfl<;>first|exact R.o.h0.1) (by simp) (cm.o.split.1)
  simp only[yD,yJ,yE,yr,yK,yy,Nat.reduceAdd] at h
  exact h)
 have s:Hid (wr.rangeAt 0 0 [iV 0,iV 1,iV 0]):=yb (AI m.o (u.o.2 0 (by omega)) u.o.1.hours)
 have p:Hid (wr.rangeAt Bs 1 M.c0):=yb (AI m.o R.o.bs R.o.h0.2)
 clear m
 go_wp2_with (first
  |(with_reducible refine yj rfl 102 _ rfl 0 0 (by kernel_rfl) [iV 0,iV 1,iV 0] _ s.o qU (by kernel_rfl) (by kernel_rfl) ?_;clear s)
  |(with_reducible refine yj rfl 40 _ rfl Bs 1 (by kernel_rfl) M.c0 _ p.o ji (by kernel_rfl) (FH (R.o.h0.1).len) ?_;clear p)
  |(with_reducible refine Am rfl 38 40 _ [M.c0] 1 rfl (M.c0) (by simp only[yD,yJ,yE]) rfl (by kernel_rfl) 6 jg (by kernel_rfl) (by intro c hc;simp only[yq,yu,yV] at hc;rcases hc with rfl<;>first|exact (R.o.h0.1).len) (by omega) (by omega) ?_)
  |(go_at_call 67;refine q.o.mono ?_;rintro e w2 (⟨rfl,hr⟩|⟨ch,rfl,hp⟩);rotate_left;exact ⟨rfl,.inr ⟨ch,rfl,hp⟩⟩;have r:=yb hr;clear hr))
 clear q d
 have d:=r
 clear r
 generalize w2=wr at d |-
 refine hK.o _ _ ?_
 clear hK K
 refine Ai λK hK=>?_
 have m:=yb (C.o _ _ _ d.o)
 have q:Hid (Calls prog 67 #[.agg #[iV 1,iV 0,iV 0],.bool true,.slice (some (aV wr.heap.size 0)) 2 2,pV (W0.heap.size+1) 0,pV W0.heap.size 0] (wr.alloc (.cells ((M.c1++M.c2)).toArray 40)) (Df 160 J Jx Jp W0 l (W0.heap.size+1) W0.heap.size (0+1+2) AQ)):=yb (by
  have h:=BA (E0 Ef true) HC.o hn (Kr _) d.o [M.c1,M.c2] (by intro c hc;simp only[yq,yu,yV] at hc;rcases hc with rfl|rfl<;>first|exact R.o.h1.1|exact R.o.h2.1) (by simp) (cm.o.split.2)
  simp only[yD,yJ,yE,yr,yK,yy,Nat.reduceAdd] at h
  exact h)
 have s:Hid (wr.rangeAt 1 0 [iV 1,iV 0,iV 0]):=yb (AI m.o (u.o.2 1 (by omega)) u.o.1.litres)
 have p:Hid (wr.rangeAt Bs 7 M.c1):=yb (AI m.o R.o.bs R.o.h1.2)
 have S:Hid (wr.rangeAt Bs 13 M.c2):=yb (AI m.o R.o.bs R.o.h2.2)
 clear m
 go_wp2_with (first
  |(with_reducible refine yj rfl 102 _ rfl 1 0 (by kernel_rfl) [iV 1,iV 0,iV 0] _ s.o qU (by kernel_rfl) (by kernel_rfl) ?_;clear s)
  |(with_reducible refine yj rfl 40 _ rfl Bs 7 (by kernel_rfl) M.c1 _ p.o ji (by kernel_rfl) (FH (R.o.h1.1).len) ?_;clear p)
  |(with_reducible refine yj rfl 40 _ rfl Bs 13 (by kernel_rfl) M.c2 _ S.o ji (by kernel_rfl) (FH (R.o.h2.1).len) ?_;clear S)
  |(with_reducible refine Am rfl 38 40 _ [M.c1,M.c2] 2 rfl ((M.c1++M.c2)) (by simp only[yD,yJ,yE]) rfl (by kernel_rfl) 6 jg (by kernel_rfl) (by intro c hc;simp only[yq,yu,yV] at hc;rcases hc with rfl|rfl<;>first|exact (R.o.h1.1).len|exact (R.o.h2.1).len) (by omega) (by omega) ?_)
  |(go_at_call 67;refine q.o.mono ?_;rintro e w2 (⟨rfl,hr⟩|⟨ch,rfl,hp⟩);rotate_left;exact ⟨rfl,.inr ⟨ch,rfl,hp⟩⟩;have r:=yb hr;clear hr))
 clear q d
 have d:=r
 clear r
 generalize w2=wr at d |-
 refine hK.o _ _ ?_
 clear hK K
 replace d:Hid (Dh 160 J Jx W0 l (W0.heap.size+1) W0.heap.size (A0.length) AQ wr):=yb (by rw[dh.o];exact d.o)
 replace d:Hid (Dh 160 J Jx W0 l (W0.heap.size+1) W0.heap.size (C7 A0 JC M.cs 0) AQ wr):=yb (by rw[CK];exact d.o)
 have m:=yb (C.o _ _ _ d.o)
 have D:=E6 m.o R.o.bs R.o.k20
 obtain ⟨lh,z⟩:∃h,h=L.crops:=⟨_,rfl⟩
 rw[<-z] at D
 have a8:=yb z
 have E:Hid (lh.n=M.cs.length):=yb (by rw[z];exact R.o.crops.1)
 clear z m
 obtain ⟨la,ln,lc⟩:=lh
 unfold AA.v at D
 dsimp only at D E
 refine Ai λK hK=>?_
 go_wp2_with fail
 clear D
 go_loopw [37] (λiv wr=>∃i:Nat,i<=ln/\iv=iV i/\Hid (Dh 160 J Jx W0 l (W0.heap.size+1) W0.heap.size (C7 A0 JC M.cs i) AQ wr)) (λiv _=>ln - (intOf iv).toNat)
 case atStart=>exact ⟨0,yC _,rfl,d⟩
 clear d
 obtain ⟨i,hi,rfl,d⟩:=hrel
 by_cases ay:i < ln
 ·have Q:i < M.cs.length:=by have:=E.o;omega
  have a6:wrap64 ((i:Int)+1)=((i+1:Nat):Int):=by
   have:=R.o.small
   unfold KV at this
   rw[Ay (by omega)];push_cast;rfl
  have ah:=yb a6
  have I:=yb (du.o i Q)
  have af:=yb (CL (A:=A0) (f:=JC) Q)
  clear a6
  obtain ⟨row,⟨b,o,H,Y,T,y,x⟩,a7,h6⟩:=R.o.crops.2 i Q
  rw[<-a8.o] at H
  dsimp only at H
  subst H
  have HL:=yb y
  have a1:=yb x
  have m:=yb (C.o _ _ _ d.o)
  have Z:=yb (AI m.o Y T)
  have G:=yb (d.o.box HC.o row 120)
  have ac:(i:Int) < (ln:Int):=by omega
  clear T m Y y x
  go_upto_region 8 with (first
   |(with_reducible refine yj rfl 120 _ rfl b (o+i*7) (by kernel_rfl) row _ Z.o qX (by kernel_rfl) (by rw[HL.o];kernel_rfl) ?_)
   |(with_reducible refine yt rfl 120 _ _ rfl wr.heap.size row.toArray (by kernel_rfl) (by kernel_rfl) 120 _ (World.alloc_heap_new _ _) (by rw[yA,HL.o];kernel_rfl) (by simp[HL.o]) (yL a1.o) ?_;rw[World.setRow_alloc_new]))
  generalize ab:wr.heap.size=bx at G |-
  clear ab d Z
  have d:=G
  clear G
  generalize wr.alloc _=wr at d |-
  have H6:=yb h6
  have HSub:=yb a7
  clear h6 a7
  generalize M.cs[i]=cc at H6 HSub I
  have F:Hid (∀V:World,V.heap[bx]?=some (.cells row.toArray 120 (0,0))->V.rangeAt bx 1 cc/\True):=yb (λV h=>⟨HSub.o.range h,trivial⟩)
  have m:=yb (C.o _ _ _ d.o)
  have q:Hid (Calls prog 67 #[.agg #[iV 1,iV 0,iV (-1)],.bool true,.slice (some (aV wr.heap.size 0)) 1 1,pV (W0.heap.size+1) 0,pV W0.heap.size 0] (wr.alloc (.cells (cc).toArray 40)) (Df 160 J Jx Jp W0 l (W0.heap.size+1) W0.heap.size (C7 A0 JC M.cs i+1) (Gd (W0.heap.size+1) bx row 120))):=yb (by
   have h:=BA (E0 Wn true) HC.o hn (AX _ _ _ _) d.o [cc] (by intro c hc;simp only[yq,yu,yV] at hc;rcases hc with rfl<;>first|exact H6.o) (by simp) (I.o)
   simp only[yD,yJ,yE,yr,yK,yy,Nat.reduceAdd] at h
   exact h)
  have s:Hid (wr.rangeAt 2 0 [iV 1,iV 0,iV (-1)]):=yb (AI m.o (u.o.2 2 (by omega)) u.o.1.need)
  have p:Hid (wr.rangeAt bx 1 cc):=yb (by obtain ⟨O, -, -, -,h⟩:=d.o;exact (F.o _ h).1)
  clear m
  go_wp2_with (first
   |(with_reducible refine yj rfl 102 _ rfl 2 0 (by kernel_rfl) [iV 1,iV 0,iV (-1)] _ s.o qU (by kernel_rfl) (by kernel_rfl) ?_;clear s)
   |(with_reducible refine yj rfl 40 _ rfl bx 1 (by kernel_rfl) cc _ p.o ji (by kernel_rfl) (FH (H6.o).len) ?_;clear p)
   |(with_reducible refine Am rfl 38 40 _ [cc] 1 rfl (cc) (by simp only[yD,yJ,yE]) rfl (by kernel_rfl) 6 jg (by kernel_rfl) (by intro c hc;simp only[yq,yu,yV] at hc;rcases hc with rfl<;>first|exact (H6.o).len) (by omega) (by omega) ?_)
   |(go_at_call 67;refine q.o.mono ?_;rintro e w2 (⟨rfl,hr⟩|⟨ch,rfl,hp⟩);rotate_left;exact ⟨rfl,.inr ⟨ch,rfl,hp⟩⟩;have r:=yb hr;clear hr))
  clear q d
  have d:=r
  clear r
  rw[ah.o]
  exact ⟨⟨i+1,by omega,rfl,yb (by rw[af.o];exact d.o.no)⟩,by simp[intOf];omega⟩
 obtain rfl:i=ln:=by omega
 have ac:decide ((i:Int) < (i:Int))=false:=by simp
 have a2:Hid (Dh 160 J Jx W0 l (W0.heap.size+1) W0.heap.size (A1.length) AQ wr):=yb (by have h:=d.o;rw[E.o] at h;rw[dn.o];exact h)
 clear d a8
 go_wp2
 refine hK.o _ _ ?_
 clear hK
 have d:=a2
 clear a2 E
 replace d:Hid (Dh 160 J Jx W0 l (W0.heap.size+1) W0.heap.size (C7 A1 CV M.rs 0) AQ wr):=yb (by rw[CK];exact d.o)
 have m:=yb (C.o _ _ _ d.o)
 have D:=E6 m.o R.o.bs R.o.k21
 obtain ⟨lh,z⟩:∃h,h=L.reaches:=⟨_,rfl⟩
 rw[<-z] at D
 have a8:=yb z
 have E:Hid (lh.n=M.rs.length):=yb (by rw[z];exact R.o.reaches.1)
 clear z m
 obtain ⟨la,ln,lc⟩:=lh
 unfold AA.v at D
 dsimp only at D E
 refine Ai λK hK=>?_
 go_wp2_with fail
 clear D
 go_loopw [51] (λiv wr=>∃i:Nat,i<=ln/\iv=iV i/\Hid (Dh 160 J Jx W0 l (W0.heap.size+1) W0.heap.size (C7 A1 CV M.rs i) AQ wr)) (λiv _=>ln - (intOf iv).toNat)
 case atStart=>exact ⟨0,yC _,rfl,d⟩
 clear d
 obtain ⟨i,hi,rfl,d⟩:=hrel
 by_cases ay:i < ln
 ·have Q:i < M.rs.length:=by have:=E.o;omega
  have a6:wrap64 ((i:Int)+1)=((i+1:Nat):Int):=by
   have:=R.o.small
   unfold KV at this
   rw[Ay (by omega)];push_cast;rfl
  have ah:=yb a6
  have I:=yb (e3.o i Q)
  have af:=yb (CL (A:=A1) (f:=CV) Q)
  clear a6
  obtain ⟨row,⟨b,o,H,Y,T,y,x⟩,⟨s0,h0⟩,⟨s1,h1⟩,⟨s2,h2⟩,⟨s3,h3⟩,⟨s4,h4⟩,⟨s5,h5⟩,⟨s6,h6⟩,⟨s7,h7⟩,al⟩:=R.o.reaches.2 i Q
  rw[<-a8.o] at H
  dsimp only at H
  subst H
  have HL:=yb y
  have a1:=yb x
  have m:=yb (C.o _ _ _ d.o)
  have Z:=yb (AI m.o Y T)
  have G:=yb (d.o.box HC.o row 123)
  have ac:(i:Int) < (ln:Int):=by omega
  clear T m Y y x
  go_upto_region 13 with (first
   |(with_reducible refine yj rfl 123 _ rfl b (o+i*51) (by kernel_rfl) row _ Z.o qY (by kernel_rfl) (by rw[HL.o];kernel_rfl) ?_)
   |(with_reducible refine yt rfl 123 _ _ rfl wr.heap.size row.toArray (by kernel_rfl) (by kernel_rfl) 123 _ (World.alloc_heap_new _ _) (by rw[yA,HL.o];kernel_rfl) (by simp[HL.o]) (yL a1.o) ?_;rw[World.setRow_alloc_new]))
  generalize ab:wr.heap.size=bx at G |-
  clear ab d Z
  have d:=G
  clear G
  generalize wr.alloc _=wr at d |-
  generalize M.rs[i]=rr at s0 s1 s2 s3 s4 s5 s6 s7 h0 h1 h2 h3 h4 h5 h6 h7 al I
  obtain ⟨rs,d0,d1,d2,d3,d4,d5,d6,d7⟩:=rr
  dsimp only at s0 s1 s2 s3 s4 s5 s6 s7 h0 h1 h2 h3 h4 h5 h6 h7 al I
  have F:Hid (∀V:World,V.heap[bx]?=some (.cells row.toArray 123 (0,0))->V.rangeAt bx 3 d0/\V.rangeAt bx 9 d1/\V.rangeAt bx 15 d2/\V.rangeAt bx 21 d3/\V.rangeAt bx 27 d4/\V.rangeAt bx 33 d5/\V.rangeAt bx 39 d6/\V.rangeAt bx 45 d7):=yb (λV h=>⟨s0.range h,s1.range h,s2.range h,s3.range h,s4.range h,s5.range h,s6.range h,s7.range h⟩)
  have ag:=yb h0
  have ad:=yb h1
  have ae:=yb h2
  have b0:=yb h3
  have ao:=yb h4
  have ax:=yb h5
  have ap:=yb h6
  have bt:=yb h7
  have d9:=yb al
  clear s0 s1 s2 s3 s4 s5 s6 s7 h0 h1 h2 h3 h4 h5 h6 h7 al
  have ak:=yb I.o.split
  have au:=yb ak.o.2.split
  have d8:=yb au.o.2.split
  have cq:=yb d8.o.2.split
  have m:=yb (C.o _ _ _ d.o)
  have q:Hid (Calls prog 67 #[.agg #[iV 0,iV 1,iV 0],.bool true,.slice (some (aV wr.heap.size 0)) 1 1,pV (W0.heap.size+1) 0,pV W0.heap.size 0] (wr.alloc (.cells (d0).toArray 40)) (Df 160 J Jx Jp W0 l (W0.heap.size+1) W0.heap.size (C7 A1 CV M.rs i+1) (Gd (W0.heap.size+1) bx row 123))):=yb (by
   have h:=BA (E0 CT true) HC.o hn (AX _ _ _ _) d.o [d0] (by intro c hc;simp only[yq,yu,yV] at hc;rcases hc with rfl<;>first|exact ag.o) (by simp) (ak.o.1)
   simp only[yD,yJ,yE,yr,yK,yy,Nat.reduceAdd] at h
   exact h)
  have s:Hid (wr.rangeAt 0 0 [iV 0,iV 1,iV 0]):=yb (AI m.o (u.o.2 0 (by omega)) u.o.1.hours)
  have p:Hid (wr.rangeAt bx 3 d0):=yb (by obtain ⟨O, -, -, -,h⟩:=d.o;exact (F.o _ h).1)
  clear m
  go_upto_region 14 with (first
   |(with_reducible refine yj rfl 102 _ rfl 0 0 (by kernel_rfl) [iV 0,iV 1,iV 0] _ s.o qU (by kernel_rfl) (by kernel_rfl) ?_;clear s)
   |(with_reducible refine yj rfl 40 _ rfl bx 3 (by kernel_rfl) d0 _ p.o ji (by kernel_rfl) (FH (ag.o).len) ?_;clear p)
   |(with_reducible refine Am rfl 38 40 _ [d0] 1 rfl (d0) (by simp only[yD,yJ,yE]) rfl (by kernel_rfl) 6 jg (by kernel_rfl) (by intro c hc;simp only[yq,yu,yV] at hc;rcases hc with rfl<;>first|exact (ag.o).len) (by omega) (by omega) ?_)
   |(go_at_call 67;refine q.o.mono ?_;rintro e w2 (⟨rfl,hr⟩|⟨ch,rfl,hp⟩);rotate_left;exact ⟨rfl,.inr ⟨ch,rfl,hp⟩⟩;have r:=yb hr;clear hr))
  clear q d
  have d:=r
  clear r
  generalize w2=wr at d |-
  have m:=yb (C.o _ _ _ d.o)
  have q:Hid (Calls prog 67 #[.agg #[iV 1,iV (-1),iV 0],.bool true,.slice (some (aV wr.heap.size 0)) 1 1,pV (W0.heap.size+1) 0,pV W0.heap.size 0] (wr.alloc (.cells (d1).toArray 40)) (Df 160 J Jx Jp W0 l (W0.heap.size+1) W0.heap.size (C7 A1 CV M.rs i+1+1) (Gd (W0.heap.size+1) bx row 123))):=yb (by
   have h:=BA (E0 Kj true) HC.o hn (AX _ _ _ _) d.o [d1] (by intro c hc;simp only[yq,yu,yV] at hc;rcases hc with rfl<;>first|exact ad.o) (by simp) (au.o.1)
   simp only[yD,yJ,yE,yr,yK,yy,Nat.reduceAdd] at h
   exact h)
  have s:Hid (wr.rangeAt 3 0 [iV 1,iV (-1),iV 0]):=yb (AI m.o (u.o.2 3 (by omega)) u.o.1.flow)
  have p:Hid (wr.rangeAt bx 9 d1):=yb (by obtain ⟨O, -, -, -,h⟩:=d.o;exact (F.o _ h).2.1)
  clear m
  go_upto_region 15 with (first
   |(with_reducible refine yj rfl 102 _ rfl 3 0 (by kernel_rfl) [iV 1,iV (-1),iV 0] _ s.o qU (by kernel_rfl) (by kernel_rfl) ?_;clear s)
   |(with_reducible refine yj rfl 40 _ rfl bx 9 (by kernel_rfl) d1 _ p.o ji (by kernel_rfl) (FH (ad.o).len) ?_;clear p)
   |(with_reducible refine Am rfl 38 40 _ [d1] 1 rfl (d1) (by simp only[yD,yJ,yE]) rfl (by kernel_rfl) 6 jg (by kernel_rfl) (by intro c hc;simp only[yq,yu,yV] at hc;rcases hc with rfl<;>first|exact (ad.o).len) (by omega) (by omega) ?_)
   |(go_at_call 67;refine q.o.mono ?_;rintro e w2 (⟨rfl,hr⟩|⟨ch,rfl,hp⟩);rotate_left;exact ⟨rfl,.inr ⟨ch,rfl,hp⟩⟩;have r:=yb hr;clear hr))
  clear q d
  have d:=r
  clear r
  generalize w2=wr at d |-
  have m:=yb (C.o _ _ _ d.o)
  have q:Hid (Calls prog 67 #[.agg #[iV 1,iV 0,iV 0],.bool true,.slice (some (aV wr.heap.size 0)) 3 3,pV (W0.heap.size+1) 0,pV W0.heap.size 0] (wr.alloc (.cells ((d2++(d4++d5))).toArray 40)) (Df 160 J Jx Jp W0 l (W0.heap.size+1) W0.heap.size (C7 A1 CV M.rs i+1+1+3) (Gd (W0.heap.size+1) bx row 123))):=yb (by
   have h:=BA (E0 Ef true) HC.o hn (AX _ _ _ _) d.o [d2,d4,d5] (by intro c hc;simp only[yq,yu,yV] at hc;rcases hc with rfl|rfl|rfl<;>first|exact ae.o|exact ao.o|exact ax.o) (by simp) (d8.o.1)
   simp only[yD,yJ,yE,yr,yK,yy,Nat.reduceAdd] at h
   exact h)
  have s:Hid (wr.rangeAt 1 0 [iV 1,iV 0,iV 0]):=yb (AI m.o (u.o.2 1 (by omega)) u.o.1.litres)
  have p:Hid (wr.rangeAt bx 15 d2):=yb (by obtain ⟨O, -, -, -,h⟩:=d.o;exact (F.o _ h).2.2.1)
  have S:Hid (wr.rangeAt bx 27 d4):=yb (by obtain ⟨O, -, -, -,h⟩:=d.o;exact (F.o _ h).2.2.2.2.1)
  have bk:Hid (wr.rangeAt bx 33 d5):=yb (by obtain ⟨O, -, -, -,h⟩:=d.o;exact (F.o _ h).2.2.2.2.2.1)
  clear m
  go_upto_region 16 with (first
   |(with_reducible refine yj rfl 102 _ rfl 1 0 (by kernel_rfl) [iV 1,iV 0,iV 0] _ s.o qU (by kernel_rfl) (by kernel_rfl) ?_;clear s)
   |(with_reducible refine yj rfl 40 _ rfl bx 15 (by kernel_rfl) d2 _ p.o ji (by kernel_rfl) (FH (ae.o).len) ?_;clear p)
   |(with_reducible refine yj rfl 40 _ rfl bx 27 (by kernel_rfl) d4 _ S.o ji (by kernel_rfl) (FH (ao.o).len) ?_;clear S)
   |(with_reducible refine yj rfl 40 _ rfl bx 33 (by kernel_rfl) d5 _ bk.o ji (by kernel_rfl) (FH (ax.o).len) ?_;clear bk)
   |(with_reducible refine Am rfl 38 40 _ [d2,d4,d5] 3 rfl ((d2++(d4++d5))) (by simp only[yD,yJ,yE]) rfl (by kernel_rfl) 6 jg (by kernel_rfl) (by intro c hc;simp only[yq,yu,yV] at hc;rcases hc with rfl|rfl|rfl<;>first|exact (ae.o).len|exact (ao.o).len|exact (ax.o).len) (by omega) (by omega) ?_)
   |(go_at_call 67;refine q.o.mono ?_;rintro e w2 (⟨rfl,hr⟩|⟨ch,rfl,hp⟩);rotate_left;exact ⟨rfl,.inr ⟨ch,rfl,hp⟩⟩;have r:=yb hr;clear hr))
  clear q d
  have d:=r
  clear r
  generalize w2=wr at d |-
  obtain ⟨so,sn,su,ai,aj,sp,sm,sk,az⟩:=b0.o
  have al:=d9.o
  rw[az] at al
  have bn:=yb al
  clear al
  have am:Hid (∀(k:Nat) (P:NP->World->Prop) (V:World),Dh 160 J Jx W0 l (W0.heap.size+1) W0.heap.size k (λO U=>(Gd (W0.heap.size+1) bx row 123) O U/\P O U) V->V.cell? (aV 1 0)=some (iV 1)/\V.cell? (aV 1 1)=some (iV 0)/\V.cell? (aV 1 2)=some (iV 0)/\V.cell? (aV bx 21)=some (iV so)/\V.cell? (aV bx 22)=some (iV sn)/\V.cell? (aV bx 23)=some (iV su)/\V.cell? (aV bx 24)=some (.string ai)/\V.cell? (aV bx 25)=some (iV aj)/\V.cell? (aV bx 26)=some (.slice sp sm sk)):=yb (λk P V h=>by
   have hh:=C.o _ _ _ h
   obtain ⟨g0,g1,g2⟩:=MB (AI hh (u.o.2 1 (by omega)) u.o.1.litres)
   obtain ⟨O, -,⟨-, -,hb⟩, -⟩:=h
   have hr:=(F.o _ hb).2.2.2.1
   rw[az] at hr
   obtain ⟨x0,x1,x2,x3,x4,x5⟩:=BP hr
   exact ⟨g0,g1,g2,x0,x1,x2,x3,x4,x5⟩)
  have bu:Hid (ER [iV so,iV sn,iV su,.string ai,iV aj,.slice sp sm sk]):=yb (by rw[<-az];exact b0.o)
  have aw:Hid (CU X (C7 A1 CV M.rs i+5) ([[iV so,iV sn,iV su,.string ai,iV aj,.slice sp sm sk]].map (Nn Ef (!rs)))):=yb (by rw[<-az];exact cq.o.1)
  have ce:Hid (Dh 160 J Jx W0 l (W0.heap.size+1) W0.heap.size (C7 A1 CV M.rs i+5) (λO U=>(Gd (W0.heap.size+1) bx row 123) O U/\AQ O U) wr):=yb (by obtain ⟨O,h1,h2⟩:=d.o;exact ⟨O,h1,h2,trivial⟩)
  have aa:Hid (IV (W0.heap.size+1) (λO U=>(Gd (W0.heap.size+1) bx row 123) O U/\AQ O U)):=yb (KT (AX _ _ _ _) (Kr _))
  have cl:Hid (∀V:World,Dh 160 J Jx W0 l (W0.heap.size+1) W0.heap.size (C7 A1 CV M.rs i+5) (λO U=>(Gd (W0.heap.size+1) bx row 123) O U/\AQ O U) V->Calls prog 67 #[.agg #[iV 1,iV 0,iV 0],.bool (!rs),.slice (some (aV V.heap.size 0)) 1 1,pV (W0.heap.size+1) 0,pV W0.heap.size 0] (V.alloc (.cells #[iV so,iV sn,iV su,.string ai,iV aj,.slice sp sm sk] 40)) (Df 160 J Jx Jp W0 l (W0.heap.size+1) W0.heap.size (C7 A1 CV M.rs i+6) (λO U=>(Gd (W0.heap.size+1) bx row 123) O U/\AQ O U))):=yb (λV hV=>by
   have h:=BA (E0 Ef (!rs)) HC.o hn aa.o hV [[iV so,iV sn,iV su,.string ai,iV aj,.slice sp sm sk]] (by intro c hc;rw[zu.1 hc];exact bu.o) (by simp) aw.o
   simp only[yD,yJ,yE,yr,yK,yy,Nat.reduceAdd] at h
   exact h)
  have da:Hid (∀(V:World) (g:Nat),Dh 160 J Jx W0 l (W0.heap.size+1) W0.heap.size (C7 A1 CV M.rs i+5) (λO U=>((Gd (W0.heap.size+1) bx row 123) O U/\AQ O U)/\Gd (W0.heap.size+1) g [iV so,iV sn,iV su,.string ai,iV aj,.slice sp sm sk] 40 O U) V->Calls prog 67 #[.agg #[iV 1,iV 0,iV 0],.bool (!rs),.slice (some (aV g 0)) 1 1,pV (W0.heap.size+1) 0,pV W0.heap.size 0] V (Df 160 J Jx Jp W0 l (W0.heap.size+1) W0.heap.size (C7 A1 CV M.rs i+6) (λO U=>(Gd (W0.heap.size+1) bx row 123) O U/\AQ O U))):=yb (λV g hV=>by
   have h:=KU (E0 Ef (!rs)) HC.o hn aa.o [[iV so,iV sn,iV su,.string ai,iV aj,.slice sp sm sk]] (g:=g) (by simpa using hV) (by intro c hc;rw[zu.1 hc];exact bu.o) (by simp) aw.o
   simp only[yr,yK,yy,Nat.reduceAdd] at h
   exact h)
  have ca:Hid (Dh 160 J Jx W0 l (W0.heap.size+1) W0.heap.size (C7 A1 CV M.rs i+5) (λO U=>(Gd (W0.heap.size+1) bx row 123) O U/\AQ O U) wr.drew):=yb (ce.o.below HC.o aa.o (yg _ _).drew)
  have bp:=yb (ce.o.box2 HC.o aa.o [iV so,iV sn,iV su,.string ai,iV aj,.slice sp sm sk] 40)
  clear d ce az d9
  go_cut [] from 79 to 88 (λwx=>Hid (Dh 160 J Jx W0 l (W0.heap.size+1) W0.heap.size (C7 A1 CV M.rs i+6) (Gd (W0.heap.size+1) bx row 123) wx))
  case first=>
   have cr:=yb (KT aa.o (AX (W0.heap.size+1) wr.heap.size [iV so,iV sn,iV su,.string ai,iV aj,.slice sp sm sk] 40))
   have bm:=yb (bp.o.below HC.o cr.o (yg _ _).drew)
   have cf:Hid (∀(k:Nat) (P:NP->World->Prop) (V:World),Dh 160 J Jx W0 l (W0.heap.size+1) W0.heap.size k (λO U=>((Gd (W0.heap.size+1) bx row 123) O U/\AQ O U)/\P O U) V->Dh 160 J Jx W0 l (W0.heap.size+1) W0.heap.size k (λO U=>(Gd (W0.heap.size+1) bx row 123) O U/\AQ O U) V):=yb (λk P V h=>by obtain ⟨O,h1,h2⟩:=h;exact ⟨O,h1,h2.1⟩)
   have e2:=yb (am.o _ _ _ ca.o)
   have cn:=yb (am.o _ _ _ (cf.o _ _ _ bm.o))
   have dx:=yb (am.o _ _ _ (cf.o _ _ _ bp.o))
   go_region_held2 (λV=>V.cell? (aV 1 0)=some (iV 1)/\V.cell? (aV 1 1)=some (iV 0)/\V.cell? (aV 1 2)=some (iV 0)/\V.cell? (aV bx 21)=some (iV so)/\V.cell? (aV bx 22)=some (iV sn)/\V.cell? (aV bx 23)=some (iV su)/\V.cell? (aV bx 24)=some (.string ai)/\V.cell? (aV bx 25)=some (iV aj)/\V.cell? (aV bx 26)=some (.slice sp sm sk)) (first|with_reducible exact e2.o|with_reducible exact ax.o|with_reducible exact ap.o|with_reducible exact cp.o _|with_reducible exact cn.o|with_reducible exact dx.o) (first
    |(go_at_call 40;refine (bn.o _).mono ?_;rintro e w5 ⟨rfl,hb⟩;(first|(have b7:=yb (ca.o.below HC.o aa.o hb))|(have ck:=yb (bm.o.below HC.o cr.o hb);have b7:=yb (cf.o _ _ _ ck.o)));have cx:Hid (∀o:Obj,Dh 160 J Jx W0 l (W0.heap.size+1) W0.heap.size _ (λO U=>(Gd (W0.heap.size+1) bx row 123) O U/\AQ O U) (w5.alloc o)):=yb (λo=>b7.o.below HC.o aa.o ((yg _ _).alloc (yi _) o));have ax:=yb (am.o _ _ _ b7.o);have cp:=yb (λo:Obj=>am.o _ _ _ (cx.o o));clear hb)
    |(go_at_call 67;refine (da.o _ _ ck.o).mono ?_;rintro e w6 (⟨rfl,hr⟩|⟨ch,rfl,hp⟩);rotate_left;exact ⟨rfl,.inr ⟨ch,rfl,hp⟩⟩;have b9:=yb hr;have ap:=yb (am.o _ _ _ b9.o);clear hr)
    |(go_at_call 67;refine (cl.o _ b7.o).mono ?_;rintro e w6 (⟨rfl,hr⟩|⟨ch,rfl,hp⟩);rotate_left;exact ⟨rfl,.inr ⟨ch,rfl,hp⟩⟩;have b9:=yb hr;have ap:=yb (am.o _ _ _ b9.o);clear hr))
   all_goals
    go_wp2
    go_meet
    exact yb (by obtain ⟨O,h1,h2⟩:=b9.o;exact ⟨O,h1,h2.1⟩)
  clear ca bp da cl aa aw bu am bn
  have d:=hcut
  clear hcut
  generalize wc=wr at d |-
  go_upto_region 17 with fail
  have m:=yb (C.o _ _ _ d.o)
  have q:Hid (Calls prog 67 #[.agg jH,.bool true,.slice (some (aV wr.heap.size 0)) 2 2,pV (W0.heap.size+1) 0,pV W0.heap.size 0] (wr.alloc (.cells ((d6++d7)).toArray 40)) (Df 160 J Jx Jp W0 l (W0.heap.size+1) W0.heap.size (C7 A1 CV M.rs i+6+2) (Gd (W0.heap.size+1) bx row 123))):=yb (by
   have h:=BA (E0 VZ true) HC.o hn (AX _ _ _ _) d.o [d6,d7] (by intro c hc;simp only[yq,yu,yV] at hc;rcases hc with rfl|rfl<;>first|exact ap.o|exact bt.o) (by simp) (cq.o.2)
   simp only[yD,yJ,yE,yr,yK,yy,Nat.reduceAdd] at h
   exact h)
  have s:Hid (wr.rangeAt 4 0 jI):=yb (AI m.o (u.o.2 4 (by omega)) u.o.1.none)
  have p:Hid (wr.rangeAt bx 39 d6):=yb (by obtain ⟨O, -, -, -,h⟩:=d.o;exact (F.o _ h).2.2.2.2.2.2.1)
  have S:Hid (wr.rangeAt bx 45 d7):=yb (by obtain ⟨O, -, -, -,h⟩:=d.o;exact (F.o _ h).2.2.2.2.2.2.2)
  clear m
  go_wp2_with (first
   |(with_reducible refine yj rfl 102 _ rfl 4 0 (by kernel_rfl) jI _ s.o qU (by kernel_rfl) (by kernel_rfl) ?_;clear s)
   |(with_reducible refine yj rfl 40 _ rfl bx 39 (by kernel_rfl) d6 _ p.o ji (by kernel_rfl) (FH (ap.o).len) ?_;clear p)
   |(with_reducible refine yj rfl 40 _ rfl bx 45 (by kernel_rfl) d7 _ S.o ji (by kernel_rfl) (FH (bt.o).len) ?_;clear S)
   |(with_reducible refine Am rfl 38 40 _ [d6,d7] 2 rfl ((d6++d7)) (by simp only[yD,yJ,yE]) rfl (by kernel_rfl) 6 jg (by kernel_rfl) (by intro c hc;simp only[yq,yu,yV] at hc;rcases hc with rfl|rfl<;>first|exact (ap.o).len|exact (bt.o).len) (by omega) (by omega) ?_)
   |(go_at_call 67;refine q.o.mono ?_;rintro e w2 (⟨rfl,hr⟩|⟨ch,rfl,hp⟩);rotate_left;exact ⟨rfl,.inr ⟨ch,rfl,hp⟩⟩;have r:=yb hr;clear hr))
  clear q d
  have d:=r
  clear r
  rw[ah.o]
  exact ⟨⟨i+1,by omega,rfl,yb (by rw[af.o];exact d.o.no)⟩,by simp[intOf];omega⟩
 obtain rfl:i=ln:=by omega
 have ac:decide ((i:Int) < (i:Int))=false:=by simp
 have a2:Hid (Dh 160 J Jx W0 l (W0.heap.size+1) W0.heap.size (A2.length) AQ wr):=yb (by have h:=d.o;rw[E.o] at h;rw[dv.o];exact h)
 clear d a8
 go_wp2
 refine hK.o _ _ ?_
 clear hK
 have d:=a2
 clear a2 E
 replace d:Hid (Dh 160 J Jx W0 l (W0.heap.size+1) W0.heap.size (C7 A2 IY M.fs 0) AQ wr):=yb (by rw[CK];exact d.o)
 have m:=yb (C.o _ _ _ d.o)
 have D:=E6 m.o R.o.bs R.o.k22
 obtain ⟨lh,z⟩:∃h,h=L.farms:=⟨_,rfl⟩
 rw[<-z] at D
 have a8:=yb z
 have E:Hid (lh.n=M.fs.length):=yb (by rw[z];exact R.o.farms.1)
 clear z m
 obtain ⟨la,ln,lc⟩:=lh
 unfold AA.v at D
 dsimp only at D E
 refine Ai λK hK=>?_
 go_wp2_with fail
 clear D
 go_loopw [103] (λiv wr=>∃i:Nat,i<=ln/\iv=iV i/\Hid (Dh 160 J Jx W0 l (W0.heap.size+1) W0.heap.size (C7 A2 IY M.fs i) AQ wr)) (λiv _=>ln - (intOf iv).toNat)
 case atStart=>exact ⟨0,yC _,rfl,d⟩
 clear d
 obtain ⟨i,hi,rfl,d⟩:=hrel
 by_cases ay:i < ln
 ·have Q:i < M.fs.length:=by have:=E.o;omega
  have a6:wrap64 ((i:Int)+1)=((i+1:Nat):Int):=by
   have:=R.o.small
   unfold KV at this
   rw[Ay (by omega)];push_cast;rfl
  have ah:=yb a6
  have I:=yb (di.o i Q)
  have af:=yb (CL (A:=A2) (f:=IY) Q)
  clear a6
  obtain ⟨row,⟨b,o,H,Y,T,y,x⟩,cv,a7,h6⟩:=R.o.farms.2 i Q
  rw[<-a8.o] at H
  dsimp only at H
  subst H
  have HL:=yb y
  have a1:=yb x
  have m:=yb (C.o _ _ _ d.o)
  have Z:=yb (AI m.o Y T)
  have G:=yb (d.o.box HC.o row 125)
  have ac:(i:Int) < (ln:Int):=by omega
  clear T m Y y x
  go_upto_region 22 with (first
   |(with_reducible refine yj rfl 125 _ rfl b (o+i*12) (by kernel_rfl) row _ Z.o qZ (by kernel_rfl) (by rw[HL.o];kernel_rfl) ?_)
   |(with_reducible refine yt rfl 125 _ _ rfl wr.heap.size row.toArray (by kernel_rfl) (by kernel_rfl) 125 _ (World.alloc_heap_new _ _) (by rw[yA,HL.o];kernel_rfl) (by simp[HL.o]) (yL a1.o) ?_;rw[World.setRow_alloc_new]))
  generalize ab:wr.heap.size=bx at G |-
  clear ab d Z
  have d:=G
  clear G
  generalize wr.alloc _=wr at d |-
  have H6:=yb h6
  have HSub:=yb a7
  have bo:=yb cv
  clear h6 a7 cv
  generalize M.fs[i]=rr at H6 HSub bo I
  obtain ⟨rv,cc⟩:=rr
  dsimp only at H6 HSub bo I
  have F:Hid (∀V:World,V.heap[bx]?=some (.cells row.toArray 125 (0,0))->V.rangeAt bx 4 cc/\True):=yb (λV h=>⟨HSub.o.range h,trivial⟩)
  have f1:wr.cell? (aV bx 3)=some (.bool rv):=by
   obtain ⟨O, -, -, -,h⟩:=d.o
   exact bo.o.range h 0 _ rfl
  have m:=yb (C.o _ _ _ d.o)
  have q:Hid (Calls prog 67 #[.agg #[iV 0,iV 0,iV 1],.bool (!rv),.slice (some (aV wr.heap.size 0)) 1 1,pV (W0.heap.size+1) 0,pV W0.heap.size 0] (wr.alloc (.cells (cc).toArray 40)) (Df 160 J Jx Jp W0 l (W0.heap.size+1) W0.heap.size (C7 A2 IY M.fs i+1) (Gd (W0.heap.size+1) bx row 125))):=yb (by
   have h:=BA (E0 Wm (!rv)) HC.o hn (AX _ _ _ _) d.o [cc] (by intro c hc;simp only[yq,yu,yV] at hc;rcases hc with rfl<;>first|exact H6.o) (by simp) (I.o)
   simp only[yD,yJ,yE,yr,yK,yy,Nat.reduceAdd] at h
   exact h)
  have s:Hid (wr.rangeAt 5 0 [iV 0,iV 0,iV 1]):=yb (AI m.o (u.o.2 5 (by omega)) u.o.1.ares)
  have p:Hid (wr.rangeAt bx 4 cc):=yb (by obtain ⟨O, -, -, -,h⟩:=d.o;exact (F.o _ h).1)
  clear m
  go_wp2_with (first
   |(with_reducible refine yj rfl 102 _ rfl 5 0 (by kernel_rfl) [iV 0,iV 0,iV 1] _ s.o qU (by kernel_rfl) (by kernel_rfl) ?_;clear s)
   |(with_reducible refine yj rfl 40 _ rfl bx 4 (by kernel_rfl) cc _ p.o ji (by kernel_rfl) (FH (H6.o).len) ?_;clear p)
   |(with_reducible refine Am rfl 38 40 _ [cc] 1 rfl (cc) (by simp only[yD,yJ,yE]) rfl (by kernel_rfl) 6 jg (by kernel_rfl) (by intro c hc;simp only[yq,yu,yV] at hc;rcases hc with rfl<;>first|exact (H6.o).len) (by omega) (by omega) ?_)
   |(go_at_call 67;refine q.o.mono ?_;rintro e w2 (⟨rfl,hr⟩|⟨ch,rfl,hp⟩);rotate_left;exact ⟨rfl,.inr ⟨ch,rfl,hp⟩⟩;have r:=yb hr;clear hr))
  clear q d
  have d:=r
  clear r
  rw[ah.o]
  exact ⟨⟨i+1,by omega,rfl,yb (by rw[af.o];exact d.o.no)⟩,by simp[intOf];omega⟩
 obtain rfl:i=ln:=by omega
 have ac:decide ((i:Int) < (i:Int))=false:=by simp
 have a2:Hid (Dh 160 J Jx W0 l (W0.heap.size+1) W0.heap.size (A3.length) AQ wr):=yb (by have h:=d.o;rw[E.o] at h;rw[de.o];exact h)
 clear d a8
 go_wp2
 refine hK.o _ _ ?_
 clear hK
 have d:=a2
 clear a2 E
 replace d:Hid (Dh 160 J Jx W0 l (W0.heap.size+1) W0.heap.size (C7 A3 Iu M.ro 0) AQ wr):=yb (by rw[CK];exact d.o)
 have m:=yb (C.o _ _ _ d.o)
 have D:=E6 m.o R.o.bs R.o.k23
 obtain ⟨lh,z⟩:∃h,h=L.rots:=⟨_,rfl⟩
 rw[<-z] at D
 have a8:=yb z
 have E:Hid (lh.n=M.ro.length):=yb (by rw[z];exact R.o.rots.1)
 clear z m
 obtain ⟨la,ln,lc⟩:=lh
 unfold AA.v at D
 dsimp only at D E
 refine Ai λK hK=>?_
 go_wp2_with fail
 clear D
 go_loopw [120] (λiv wr=>∃i:Nat,i<=ln/\iv=iV i/\Hid (Dh 160 J Jx W0 l (W0.heap.size+1) W0.heap.size (C7 A3 Iu M.ro i) AQ wr)) (λiv _=>ln - (intOf iv).toNat)
 case atStart=>exact ⟨0,yC _,rfl,d⟩
 clear d
 obtain ⟨i,hi,rfl,d⟩:=hrel
 by_cases ay:i < ln
 ·have Q:i < M.ro.length:=by have:=E.o;omega
  have a6:wrap64 ((i:Int)+1)=((i+1:Nat):Int):=by
   have:=R.o.small
   unfold KV at this
   rw[Ay (by omega)];push_cast;rfl
  have ah:=yb a6
  have I:=yb (dm.o i Q)
  have af:=yb (CL (A:=A3) (f:=Iu) Q)
  clear a6
  obtain ⟨row,⟨b,o,H,Y,T,y,x⟩,⟨s0,h0⟩,⟨s1,h1⟩,⟨s2,h2⟩,bh,bb,b4,b3⟩:=R.o.rots.2 i Q
  rw[<-a8.o] at H
  dsimp only at H
  subst H
  have HL:=yb y
  have a1:=yb x
  have m:=yb (C.o _ _ _ d.o)
  have Z:=yb (AI m.o Y T)
  have G:=yb (d.o.box HC.o row 56)
  have ac:(i:Int) < (ln:Int):=by omega
  clear T m Y y x
  go_upto_region 27 with (first
   |(with_reducible refine yj rfl 56 _ rfl b (o+i*23) (by kernel_rfl) row _ Z.o jt (by kernel_rfl) (by rw[HL.o];kernel_rfl) ?_)
   |(with_reducible refine yt rfl 56 _ _ rfl wr.heap.size row.toArray (by kernel_rfl) (by kernel_rfl) 56 _ (World.alloc_heap_new _ _) (by rw[yA,HL.o];kernel_rfl) (by simp[HL.o]) (yL a1.o) ?_;rw[World.setRow_alloc_new]))
  generalize ab:wr.heap.size=bx at G |-
  clear ab d Z
  have d:=G
  clear G
  generalize wr.alloc _=wr at d |-
  generalize M.ro[i]=rr at s0 s1 s2 h0 h1 h2 bh bb b4 b3 I af
  obtain ⟨d0,d1,d2,t,ts⟩:=rr
  dsimp only at s0 s1 s2 h0 h1 h2 bh bb b4 b3
  have F:Hid (∀V:World,V.heap[bx]?=some (.cells row.toArray 56 (0,0))->V.rangeAt bx 4 d0/\V.rangeAt bx 10 d1/\V.rangeAt bx 16 d2/\V.rangeAt bx 22 [t.v]):=yb (λV h=>⟨s0.range h,s1.range h,s2.range h,bh.range h⟩)
  have ag:=yb h0
  have ad:=yb h1
  have ae:=yb h2
  have c9:=yb bb
  have dl:=yb b4
  have cj:=yb b3
  clear s0 s1 s2 h0 h1 h2 bh bb b4 b3
  have bv:=yb I.o.split
  have ak:=yb bv.o.1.split
  have m:=yb (C.o _ _ _ d.o)
  have q:Hid (Calls prog 67 #[.agg #[iV 1,iV (-1),iV 0],.bool true,.slice (some (aV wr.heap.size 0)) 1 1,pV (W0.heap.size+1) 0,pV W0.heap.size 0] (wr.alloc (.cells (d0).toArray 40)) (Df 160 J Jx Jp W0 l (W0.heap.size+1) W0.heap.size (C7 A3 Iu M.ro i+1) (Gd (W0.heap.size+1) bx row 56))):=yb (by
   have h:=BA (E0 Kj true) HC.o hn (AX _ _ _ _) d.o [d0] (by intro c hc;simp only[yq,yu,yV] at hc;rcases hc with rfl<;>first|exact ag.o) (by simp) (ak.o.1)
   simp only[yD,yJ,yE,yr,yK,yy,Nat.reduceAdd] at h
   exact h)
  have s:Hid (wr.rangeAt 3 0 [iV 1,iV (-1),iV 0]):=yb (AI m.o (u.o.2 3 (by omega)) u.o.1.flow)
  have p:Hid (wr.rangeAt bx 4 d0):=yb (by obtain ⟨O, -, -, -,h⟩:=d.o;exact (F.o _ h).1)
  clear m
  go_upto_region 28 with (first
   |(with_reducible refine yj rfl 102 _ rfl 3 0 (by kernel_rfl) [iV 1,iV (-1),iV 0] _ s.o qU (by kernel_rfl) (by kernel_rfl) ?_;clear s)
   |(with_reducible refine yj rfl 40 _ rfl bx 4 (by kernel_rfl) d0 _ p.o ji (by kernel_rfl) (FH (ag.o).len) ?_;clear p)
   |(with_reducible refine Am rfl 38 40 _ [d0] 1 rfl (d0) (by simp only[yD,yJ,yE]) rfl (by kernel_rfl) 6 jg (by kernel_rfl) (by intro c hc;simp only[yq,yu,yV] at hc;rcases hc with rfl<;>first|exact (ag.o).len) (by omega) (by omega) ?_)
   |(go_at_call 67;refine q.o.mono ?_;rintro e w2 (⟨rfl,hr⟩|⟨ch,rfl,hp⟩);rotate_left;exact ⟨rfl,.inr ⟨ch,rfl,hp⟩⟩;have r:=yb hr;clear hr))
  clear q d
  have d:=r
  clear r
  generalize w2=wr at d |-
  have m:=yb (C.o _ _ _ d.o)
  have q:Hid (Calls prog 67 #[.agg #[iV 0,iV 1,iV 0],.bool true,.slice (some (aV wr.heap.size 0)) 2 2,pV (W0.heap.size+1) 0,pV W0.heap.size 0] (wr.alloc (.cells ((d1++d2)).toArray 40)) (Df 160 J Jx Jp W0 l (W0.heap.size+1) W0.heap.size (C7 A3 Iu M.ro i+1+2) (Gd (W0.heap.size+1) bx row 56))):=yb (by
   have h:=BA (E0 CT true) HC.o hn (AX _ _ _ _) d.o [d1,d2] (by intro c hc;simp only[yq,yu,yV] at hc;rcases hc with rfl|rfl<;>first|exact ad.o|exact ae.o) (by simp) (ak.o.2)
   simp only[yD,yJ,yE,yr,yK,yy,Nat.reduceAdd] at h
   exact h)
  have s:Hid (wr.rangeAt 0 0 [iV 0,iV 1,iV 0]):=yb (AI m.o (u.o.2 0 (by omega)) u.o.1.hours)
  have p:Hid (wr.rangeAt bx 10 d1):=yb (by obtain ⟨O, -, -, -,h⟩:=d.o;exact (F.o _ h).2.1)
  have S:Hid (wr.rangeAt bx 16 d2):=yb (by obtain ⟨O, -, -, -,h⟩:=d.o;exact (F.o _ h).2.2.1)
  clear m
  go_upto_region 29 with (first
   |(with_reducible refine yj rfl 102 _ rfl 0 0 (by kernel_rfl) [iV 0,iV 1,iV 0] _ s.o qU (by kernel_rfl) (by kernel_rfl) ?_;clear s)
   |(with_reducible refine yj rfl 40 _ rfl bx 10 (by kernel_rfl) d1 _ p.o ji (by kernel_rfl) (FH (ad.o).len) ?_;clear p)
   |(with_reducible refine yj rfl 40 _ rfl bx 16 (by kernel_rfl) d2 _ S.o ji (by kernel_rfl) (FH (ae.o).len) ?_;clear S)
   |(with_reducible refine Am rfl 38 40 _ [d1,d2] 2 rfl ((d1++d2)) (by simp only[yD,yJ,yE]) rfl (by kernel_rfl) 6 jg (by kernel_rfl) (by intro c hc;simp only[yq,yu,yV] at hc;rcases hc with rfl|rfl<;>first|exact (ad.o).len|exact (ae.o).len) (by omega) (by omega) ?_)
   |(go_at_call 67;refine q.o.mono ?_;rintro e w2 (⟨rfl,hr⟩|⟨ch,rfl,hp⟩);rotate_left;exact ⟨rfl,.inr ⟨ch,rfl,hp⟩⟩;have r:=yb hr;clear hr))
  clear q d
  have d:=r
  clear r
  generalize w2=wr at d |-
  obtain ⟨A9,bg⟩:∃A:List (Array Value),A.length=C7 A3 Iu M.ro i+3:=⟨List.replicate (C7 A3 Iu M.ro i+3) #[],List.length_replicate⟩
  have e5:Hid (∀j (hj:j < ts.length),CU X (C7 A9 Im ts j) (Im ts[j])):=yb (λj hj=>by
   obtain ⟨pre,post,hx,hp⟩:=bv.o.2
   have h:=Ej (A:=pre) (f:=Im) (X:=X) (ls:=ts) ⟨post,by rw[hx,yX]⟩ hj
   unfold C7 at h |-
   rw[yn] at h |-
   rw[bg]
   rw[hp] at h
   exact h)
  have e4:Hid (C7 A3 Iu M.ro i+(Iu ⟨d0,d1,d2,t,ts⟩).length=C7 A9 Im ts ts.length):=yb (by
   have e:(Iu ⟨d0,d1,d2,t,ts⟩).length=3+(ts.flatMap Im).length:=by
    show (WU ⟨d0,d1,d2,t,ts⟩++ts.flatMap Im).length=_
    rw[yn];rfl
   rw[e,Dz,yn,bg];omega)
  have bw:wr.cell? (aV bx 22)=some t.v:=by
   obtain ⟨O, -, -, -,h⟩:=d.o
   exact (F.o _ h).2.2.2 0 _ rfl
  replace d:Hid (Dh 160 J Jx W0 l (W0.heap.size+1) W0.heap.size (C7 A9 Im ts 0) AQ wr):=yb (by rw[CK,bg];exact d.o.no)
  clear bg I bv ak F ag ad ae
  obtain ⟨ta,tn,tc⟩:=t
  unfold AA.v at bw
  dsimp only at bw c9 cj
  have et:(i:Int) < (ln:Int):=by omega
  go_wp2_with fail
  clear bw
  go_loopw [141] (λiv wr=>∃j:Nat,j<=tn/\iv=iV j/\Hid (Dh 160 J Jx W0 l (W0.heap.size+1) W0.heap.size (C7 A9 Im ts j) AQ wr)) (λiv _=>tn - (intOf iv).toNat)
  case atStart=>exact ⟨0,yC _,rfl,d⟩
  clear d
  obtain ⟨j,hj,rfl,d⟩:=hrel
  by_cases ey:j < tn
  ·have bq:j < ts.length:=by have:=c9.o;omega
   have ci:wrap64 ((j:Int)+1)=((j+1:Nat):Int):=by
    have:=dl.o
    unfold KV at this
    rw[Ay (by omega)];push_cast;rfl
   have dp:=yb ci
   have I:=yb (e5.o j bq)
   have dz:=yb (CL (A:=A9) (f:=Im) bq)
   clear ci
   have dw:Hid ((⟨ta,tn,tc⟩:AA)=⟨ta,tn,tc⟩):=yb rfl
   obtain ⟨row,⟨b,o,H,Y,T,y,x⟩,a7,h6⟩:=cj.o j bq
   dsimp only at H
   subst H
   have HL:=yb y
   have a1:=yb x
   have m:=yb (C.o _ _ _ d.o)
   have Z:=yb (AI m.o Y T)
   have G:=yb (d.o.box HC.o row 65)
   have ac:(j:Int) < (tn:Int):=by omega
   clear T m Y y x
   go_upto_region 32 with (first
    |(with_reducible refine yj rfl 65 _ rfl b (o+j*8) (by kernel_rfl) row _ Z.o jx (by kernel_rfl) (by rw[HL.o];kernel_rfl) ?_)
    |(with_reducible refine yt rfl 65 _ _ rfl wr.heap.size row.toArray (by kernel_rfl) (by kernel_rfl) 65 _ (World.alloc_heap_new _ _) (by rw[yA,HL.o];kernel_rfl) (by simp[HL.o]) (yL a1.o) ?_;rw[World.setRow_alloc_new]))
   generalize ab:wr.heap.size=bx at G |-
   clear ab d Z
   have d:=G
   clear G
   generalize wr.alloc _=wr at d |-
   have H6:=yb h6
   have HSub:=yb a7
   clear h6 a7 dw
   generalize ts[j]=cc at H6 HSub I
   have F:Hid (∀V:World,V.heap[bx]?=some (.cells row.toArray 65 (0,0))->V.rangeAt bx 2 cc/\True):=yb (λV h=>⟨HSub.o.range h,trivial⟩)
   have m:=yb (C.o _ _ _ d.o)
   have q:Hid (Calls prog 67 #[.agg #[iV 0,iV 1,iV 0],.bool true,.slice (some (aV wr.heap.size 0)) 1 1,pV (W0.heap.size+1) 0,pV W0.heap.size 0] (wr.alloc (.cells (cc).toArray 40)) (Df 160 J Jx Jp W0 l (W0.heap.size+1) W0.heap.size (C7 A9 Im ts j+1) (Gd (W0.heap.size+1) bx row 65))):=yb (by
    have h:=BA (E0 CT true) HC.o hn (AX _ _ _ _) d.o [cc] (by intro c hc;simp only[yq,yu,yV] at hc;rcases hc with rfl<;>first|exact H6.o) (by simp) (I.o)
    simp only[yD,yJ,yE,yr,yK,yy,Nat.reduceAdd] at h
    exact h)
   have s:Hid (wr.rangeAt 0 0 [iV 0,iV 1,iV 0]):=yb (AI m.o (u.o.2 0 (by omega)) u.o.1.hours)
   have p:Hid (wr.rangeAt bx 2 cc):=yb (by obtain ⟨O, -, -, -,h⟩:=d.o;exact (F.o _ h).1)
   clear m
   go_wp2_with (first
    |(with_reducible refine yj rfl 102 _ rfl 0 0 (by kernel_rfl) [iV 0,iV 1,iV 0] _ s.o qU (by kernel_rfl) (by kernel_rfl) ?_;clear s)
    |(with_reducible refine yj rfl 40 _ rfl bx 2 (by kernel_rfl) cc _ p.o ji (by kernel_rfl) (FH (H6.o).len) ?_;clear p)
    |(with_reducible refine Am rfl 38 40 _ [cc] 1 rfl (cc) (by simp only[yD,yJ,yE]) rfl (by kernel_rfl) 6 jg (by kernel_rfl) (by intro c hc;simp only[yq,yu,yV] at hc;rcases hc with rfl<;>first|exact (H6.o).len) (by omega) (by omega) ?_)
    |(go_at_call 67;refine q.o.mono ?_;rintro e w2 (⟨rfl,hr⟩|⟨ch,rfl,hp⟩);rotate_left;exact ⟨rfl,.inr ⟨ch,rfl,hp⟩⟩;have r:=yb hr;clear hr))
   clear q d
   have d:=r
   clear r
   rw[dp.o]
   exact ⟨⟨j+1,by omega,rfl,yb (by rw[dz.o];exact d.o.no)⟩,by simp[intOf];omega⟩
  obtain rfl:j=tn:=by omega
  have f0:decide ((j:Int) < (j:Int))=false:=by simp
  have a2:Hid (Dh 160 J Jx W0 l (W0.heap.size+1) W0.heap.size (C7 A3 Iu M.ro (i+1)) AQ wr):=yb (by have h:=d.o;rw[c9.o] at h;rw[af.o,e4.o];exact h)
  clear d
  go_wp2
  rw[ah.o]
  exact ⟨⟨i+1,by omega,rfl,a2⟩,by simp[intOf];omega⟩
 obtain rfl:i=ln:=by omega
 have ac:decide ((i:Int) < (i:Int))=false:=by simp
 have a2:Hid (Dh 160 J Jx W0 l (W0.heap.size+1) W0.heap.size (A4.length) AQ wr):=yb (by have h:=d.o;rw[E.o] at h;rw[dy.o];exact h)
 clear d a8
 go_wp2
 refine hK.o _ _ ?_
 clear hK
 have d:=a2
 clear a2 E
 replace d:Hid (Dh 160 J Jx W0 l (W0.heap.size+1) W0.heap.size (C7 A4 I3 M.rg 0) AQ wr):=yb (by rw[CK];exact d.o)
 have m:=yb (C.o _ _ _ d.o)
 have D:=E6 m.o R.o.bs R.o.k24
 obtain ⟨lh,z⟩:∃h,h=L.rights:=⟨_,rfl⟩
 rw[<-z] at D
 have a8:=yb z
 have E:Hid (lh.n=M.rg.length):=yb (by rw[z];exact R.o.rights.1)
 clear z m
 obtain ⟨la,ln,lc⟩:=lh
 unfold AA.v at D
 dsimp only at D E
 refine Ai λK hK=>?_
 go_wp2_with fail
 clear D
 go_loopw [156] (λiv wr=>∃i:Nat,i<=ln/\iv=iV i/\Hid (Dh 160 J Jx W0 l (W0.heap.size+1) W0.heap.size (C7 A4 I3 M.rg i) AQ wr)) (λiv _=>ln - (intOf iv).toNat)
 case atStart=>exact ⟨0,yC _,rfl,d⟩
 clear d
 obtain ⟨i,hi,rfl,d⟩:=hrel
 by_cases ay:i < ln
 ·have Q:i < M.rg.length:=by have:=E.o;omega
  have a6:wrap64 ((i:Int)+1)=((i+1:Nat):Int):=by
   have:=R.o.small
   unfold KV at this
   rw[Ay (by omega)];push_cast;rfl
  have ah:=yb a6
  have I:=yb (dj.o i Q)
  have af:=yb (CL (A:=A4) (f:=I3) Q)
  clear a6
  obtain ⟨row,⟨b,o,H,Y,T,y,x⟩,b8,⟨s0,h0⟩,⟨s1,h1⟩,⟨s2,h2⟩,⟨s3,h3⟩,⟨s4,h4⟩,an,bj⟩:=R.o.rights.2 i Q
  rw[<-a8.o] at H
  dsimp only at H
  subst H
  have HL:=yb y
  have a1:=yb x
  have m:=yb (C.o _ _ _ d.o)
  have Z:=yb (AI m.o Y T)
  have G:=yb (d.o.box HC.o row 127)
  have ac:(i:Int) < (ln:Int):=by omega
  clear T m Y y x
  go_upto_region 38 with (first
   |(with_reducible refine yj rfl 127 _ rfl b (o+i*37) (by kernel_rfl) row _ Z.o j0 (by kernel_rfl) (by rw[HL.o];kernel_rfl) ?_)
   |(with_reducible refine yt rfl 127 _ _ rfl wr.heap.size row.toArray (by kernel_rfl) (by kernel_rfl) 127 _ (World.alloc_heap_new _ _) (by rw[yA,HL.o];kernel_rfl) (by simp[HL.o]) (yL a1.o) ?_;rw[World.setRow_alloc_new]))
  generalize ab:wr.heap.size=bx at G |-
  clear ab d Z
  have d:=G
  clear G
  generalize wr.alloc _=wr at d |-
  generalize M.rg[i]=rr at b8 s0 s1 s2 s3 s4 h0 h1 h2 h3 h4 an bj I
  obtain ⟨kind,l3,l4,d0,d1,d2,d3,d4⟩:=rr
  dsimp only at b8 s0 s1 s2 s3 s4 h0 h1 h2 h3 h4 an bj
  have F:Hid (∀V:World,V.heap[bx]?=some (.cells row.toArray 127 (0,0))->V.rangeAt bx 7 d0/\V.rangeAt bx 13 d1/\V.rangeAt bx 19 d2/\V.rangeAt bx 25 d3/\V.rangeAt bx 31 d4):=yb (λV h=>⟨s0.range h,s1.range h,s2.range h,s3.range h,s4.range h⟩)
  have ag:=yb h0
  have ad:=yb h1
  have ae:=yb h2
  have b0:=yb h3
  have ao:=yb h4
  have c8:=yb b8
  have e7:=yb an
  have dg:=yb bj
  clear b8 s0 s1 s2 s3 s4 h0 h1 h2 h3 h4 an bj
  obtain ⟨t1,cg⟩:∃t,(kind==1)=t:=⟨_,rfl⟩
  obtain ⟨t2,cy⟩:∃t,(kind !=2)=t:=⟨_,rfl⟩
  have aq:=I.o
  unfold I3 at aq
  dsimp only at aq
  rw[show decide (kind=1)=t1 by rw[<-cg,zo];simp,show (!decide (kind=2))=t2 by rw[<-cy,zo];simp] at aq
  have ak:=yb aq.split
  have au:=yb ak.o.2.split
  clear aq
  have cd:wr.cell? (aV bx 0)=some (iV kind):=by
   obtain ⟨O, -, -, -,h⟩:=d.o
   exact c8.o.range h 0 _ rfl
  have m:=yb (C.o _ _ _ d.o)
  have q:Hid (Calls prog 67 #[.agg #[iV 1,iV (-1),iV 0],.bool t1,.slice (some (aV wr.heap.size 0)) 1 1,pV (W0.heap.size+1) 0,pV W0.heap.size 0] (wr.alloc (.cells (d0).toArray 40)) (Df 160 J Jx Jp W0 l (W0.heap.size+1) W0.heap.size (C7 A4 I3 M.rg i+1) (Gd (W0.heap.size+1) bx row 127))):=yb (by
   have h:=BA (E0 Kj t1) HC.o hn (AX _ _ _ _) d.o [d0] (by intro c hc;simp only[yq,yu,yV] at hc;rcases hc with rfl<;>first|exact ag.o) (by simp) (ak.o.1)
   simp only[yD,yJ,yE,yr,yK,yy,Nat.reduceAdd] at h
   exact h)
  have s:Hid (wr.rangeAt 3 0 [iV 1,iV (-1),iV 0]):=yb (AI m.o (u.o.2 3 (by omega)) u.o.1.flow)
  have p:Hid (wr.rangeAt bx 7 d0):=yb (by obtain ⟨O, -, -, -,h⟩:=d.o;exact (F.o _ h).1)
  clear m
  go_upto_region 39 with (first
   |(with_reducible refine yj rfl 102 _ rfl 3 0 (by kernel_rfl) [iV 1,iV (-1),iV 0] _ s.o qU (by kernel_rfl) (by kernel_rfl) ?_;clear s)
   |(with_reducible refine yj rfl 40 _ rfl bx 7 (by kernel_rfl) d0 _ p.o ji (by kernel_rfl) (FH (ag.o).len) ?_;clear p)
   |(with_reducible refine Am rfl 38 40 _ [d0] 1 rfl (d0) (by simp only[yD,yJ,yE]) rfl (by kernel_rfl) 6 jg (by kernel_rfl) (by intro c hc;simp only[yq,yu,yV] at hc;rcases hc with rfl<;>first|exact (ag.o).len) (by omega) (by omega) ?_)
   |(go_at_call 67;refine q.o.mono ?_;rintro e w2 (⟨rfl,hr⟩|⟨ch,rfl,hp⟩);rotate_left;exact ⟨rfl,.inr ⟨ch,rfl,hp⟩⟩;have r:=yb hr;clear hr))
  clear q d
  have d:=r
  clear r
  generalize w2=wr at d |-
  clear cd
  have cd:wr.cell? (aV bx 0)=some (iV kind):=by
   obtain ⟨O, -, -, -,h⟩:=d.o
   exact c8.o.range h 0 _ rfl
  have m:=yb (C.o _ _ _ d.o)
  have q:Hid (Calls prog 67 #[.agg #[iV 0,iV 1,iV 0],.bool t2,.slice (some (aV wr.heap.size 0)) 2 2,pV (W0.heap.size+1) 0,pV W0.heap.size 0] (wr.alloc (.cells ((d1++d2)).toArray 40)) (Df 160 J Jx Jp W0 l (W0.heap.size+1) W0.heap.size (C7 A4 I3 M.rg i+1+2) (Gd (W0.heap.size+1) bx row 127))):=yb (by
   have h:=BA (E0 CT t2) HC.o hn (AX _ _ _ _) d.o [d1,d2] (by intro c hc;simp only[yq,yu,yV] at hc;rcases hc with rfl|rfl<;>first|exact ad.o|exact ae.o) (by simp) (au.o.1)
   simp only[yD,yJ,yE,yr,yK,yy,Nat.reduceAdd] at h
   exact h)
  have s:Hid (wr.rangeAt 0 0 [iV 0,iV 1,iV 0]):=yb (AI m.o (u.o.2 0 (by omega)) u.o.1.hours)
  have p:Hid (wr.rangeAt bx 13 d1):=yb (by obtain ⟨O, -, -, -,h⟩:=d.o;exact (F.o _ h).2.1)
  have S:Hid (wr.rangeAt bx 19 d2):=yb (by obtain ⟨O, -, -, -,h⟩:=d.o;exact (F.o _ h).2.2.1)
  clear m
  go_upto_region 40 with (first
   |(with_reducible refine yj rfl 102 _ rfl 0 0 (by kernel_rfl) [iV 0,iV 1,iV 0] _ s.o qU (by kernel_rfl) (by kernel_rfl) ?_;clear s)
   |(with_reducible refine yj rfl 40 _ rfl bx 13 (by kernel_rfl) d1 _ p.o ji (by kernel_rfl) (FH (ad.o).len) ?_;clear p)
   |(with_reducible refine yj rfl 40 _ rfl bx 19 (by kernel_rfl) d2 _ S.o ji (by kernel_rfl) (FH (ae.o).len) ?_;clear S)
   |(with_reducible refine Am rfl 38 40 _ [d1,d2] 2 rfl ((d1++d2)) (by simp only[yD,yJ,yE]) rfl (by kernel_rfl) 6 jg (by kernel_rfl) (by intro c hc;simp only[yq,yu,yV] at hc;rcases hc with rfl|rfl<;>first|exact (ad.o).len|exact (ae.o).len) (by omega) (by omega) ?_)
   |(go_at_call 67;refine q.o.mono ?_;rintro e w2 (⟨rfl,hr⟩|⟨ch,rfl,hp⟩);rotate_left;exact ⟨rfl,.inr ⟨ch,rfl,hp⟩⟩;have r:=yb hr;clear hr))
  clear q d
  have d:=r
  clear r
  generalize w2=wr at d |-
  clear cd cy
  have aa:Hid (IV (W0.heap.size+1) (Gd (W0.heap.size+1) bx row 127)):=yb (AX _ _ _ _)
  have dd:∀V V',Dh 160 J Jx W0 l (W0.heap.size+1) W0.heap.size (C7 A4 I3 M.rg i+1+2) (Gd (W0.heap.size+1) bx row 127) V->Below V.heap.size V V'->Dh 160 J Jx W0 l (W0.heap.size+1) W0.heap.size (C7 A4 I3 M.rg i+1+2) (Gd (W0.heap.size+1) bx row 127) V':=λV V' h hb=>h.below HC.o aa.o hb
  have dc:∀g V V',Dh 160 J Jx W0 l (W0.heap.size+1) W0.heap.size (C7 A4 I3 M.rg i+1+2) (λO U=>(Gd (W0.heap.size+1) bx row 127) O U/\Gd (W0.heap.size+1) g (d3++d4) 40 O U) V->Below V.heap.size V V'->Dh 160 J Jx W0 l (W0.heap.size+1) W0.heap.size (C7 A4 I3 M.rg i+1+2) (λO U=>(Gd (W0.heap.size+1) bx row 127) O U/\Gd (W0.heap.size+1) g (d3++d4) 40 O U) V':=λg V V' h hb=>h.below HC.o (KT aa.o (AX _ _ _ _)) hb
  have e0:∀V V',Dh 160 J Jx W0 l (W0.heap.size+1) W0.heap.size (C7 A4 I3 M.rg i+1+2+2) (Gd (W0.heap.size+1) bx row 127) V->Below V.heap.size V V'->Dh 160 J Jx W0 l (W0.heap.size+1) W0.heap.size (C7 A4 I3 M.rg i+1+2+2) (Gd (W0.heap.size+1) bx row 127) V':=λV V' h hb=>h.below HC.o aa.o hb
  refine ZT (N:=0) (bx:=bx) (Bon:=W0.heap.size+1) (By:=W0.heap.size) (kind:=kind) (t1:=t1) (l3:=l3) (l4:=l4) (d3:=d3) (d4:=d4) (PJ:=λch w'=>∃O',Jp ch O' w') _ rfl rfl rfl rfl cg ⟨b0.o,ao.o⟩ dd dc e0 (λV h=>?_) (λV h=>h.box2 HC.o aa.o (d3++d4) 40) (λg V h=>by obtain ⟨O,h1,h2⟩:=h;exact ⟨O,h1,h2.1⟩) e7.o dg.o (λg V h=>?_) (λch w' a e1 hp=>?_) d.o ?_
  ·have hh:=C.o _ _ _ h
   obtain ⟨O, -, -, -,hb⟩:=h
   exact ⟨AI hh (u.o.2 0 (by omega)) u.o.1.hours,c8.o.range hb 0 _ rfl,(F.o _ hb).2.2.2.1,(F.o _ hb).2.2.2.2⟩
  ·have hx:=KU (E0 CT (t1&&(!l3||!l4))) HC.o hn aa.o [d3,d4] (g:=g) (by rw[show [d3,d4].flatten=d3++d4 by simp];exact h) (by intro c hc;simp only[yq,yu,yV] at hc;rcases hc with rfl|rfl;exact b0.o;exact ao.o) (by simp) au.o.2
   exact hx
  ·exact ⟨e1,.inr ⟨ch,rfl,hp⟩⟩
  intro a' w1 cw co an hs
  have e:=Kg [180,181,182,183,184,185,186,187,188,189,190,191,192,193,194,195,196,197,198,199,200,201,202] (cw.trans rfl) co an
  simp only[List.foldl_cons,List.foldl_nil,zT,zX,zY] at e
  generalize a'.tmps.getD 180 undef=ef at e
  generalize a'.tmps.getD 181 undef=ej at e
  generalize a'.tmps.getD 182 undef=el at e
  generalize a'.tmps.getD 183 undef=ep at e
  generalize a'.tmps.getD 184 undef=eb at e
  generalize a'.tmps.getD 185 undef=eu at e
  generalize a'.tmps.getD 186 undef=eg at e
  generalize a'.tmps.getD 187 undef=em at e
  generalize a'.tmps.getD 188 undef=er at e
  generalize a'.tmps.getD 189 undef=eo at e
  generalize a'.tmps.getD 190 undef=ek at e
  generalize a'.tmps.getD 191 undef=en at e
  generalize a'.tmps.getD 192 undef=ee at e
  generalize a'.tmps.getD 193 undef=ex at e
  generalize a'.tmps.getD 194 undef=eh at e
  generalize a'.tmps.getD 195 undef=ea at e
  generalize a'.tmps.getD 196 undef=ec at e
  generalize a'.tmps.getD 197 undef=ew at e
  generalize a'.tmps.getD 198 undef=e9 at e
  generalize a'.tmps.getD 199 undef=ev at e
  generalize a'.tmps.getD 200 undef=ed at e
  generalize a'.tmps.getD 201 undef=ei at e
  generalize a'.tmps.getD 202 undef=es at e
  subst e
  clear cw co an
  have dt:=yb hs
  clear hs d
  go_wp2
  rw[ah.o]
  exact ⟨⟨i+1,by omega,rfl,yb (by rw[af.o];exact dt.o.no)⟩,by simp[intOf];omega⟩
 obtain rfl:i=ln:=by omega
 have ac:decide ((i:Int) < (i:Int))=false:=by simp
 have a2:Hid (Dh 160 J Jx W0 l (W0.heap.size+1) W0.heap.size (A5.length) AQ wr):=yb (by have h:=d.o;rw[E.o] at h;rw[dk.o];exact h)
 clear d a8
 go_wp2
 refine hK.o _ _ ?_
 clear hK
 have d:=a2
 clear a2 E
 replace d:Hid (Dh 160 J Jx W0 l (W0.heap.size+1) W0.heap.size (C7 A5 NL M.ds 0) AQ wr):=yb (by rw[CK];exact d.o)
 have m:=yb (C.o _ _ _ d.o)
 have D:=E6 m.o R.o.bs R.o.k25
 obtain ⟨lh,z⟩:∃h,h=L.duties:=⟨_,rfl⟩
 rw[<-z] at D
 have a8:=yb z
 have E:Hid (lh.n=M.ds.length):=yb (by rw[z];exact R.o.duties.1)
 clear z m
 obtain ⟨la,ln,lc⟩:=lh
 unfold AA.v at D
 dsimp only at D E
 go_wp2_with fail
 clear D
 go_loopw [207] (λiv wr=>∃i:Nat,i<=ln/\iv=iV i/\Hid (Dh 160 J Jx W0 l (W0.heap.size+1) W0.heap.size (C7 A5 NL M.ds i) AQ wr)) (λiv _=>ln - (intOf iv).toNat)
 case atStart=>exact ⟨0,yC _,rfl,d⟩
 clear d
 obtain ⟨i,hi,rfl,d⟩:=hrel
 by_cases ay:i < ln
 ·have Q:i < M.ds.length:=by have:=E.o;omega
  have a6:wrap64 ((i:Int)+1)=((i+1:Nat):Int):=by
   have:=R.o.small
   unfold KV at this
   rw[Ay (by omega)];push_cast;rfl
  have ah:=yb a6
  have I:=yb (dq.o i Q)
  have af:=yb (CL (A:=A5) (f:=NL) Q)
  clear a6
  obtain ⟨row,⟨b,o,H,Y,T,y,x⟩,a7,h6⟩:=R.o.duties.2 i Q
  rw[<-a8.o] at H
  dsimp only at H
  subst H
  have HL:=yb y
  have a1:=yb x
  have m:=yb (C.o _ _ _ d.o)
  have Z:=yb (AI m.o Y T)
  have G:=yb (d.o.box HC.o row 129)
  have ac:(i:Int) < (ln:Int):=by omega
  clear T m Y y x
  go_upto_region 45 with (first
   |(with_reducible refine yj rfl 129 _ rfl b (o+i*11) (by kernel_rfl) row _ Z.o j1 (by kernel_rfl) (by rw[HL.o];kernel_rfl) ?_)
   |(with_reducible refine yt rfl 129 _ _ rfl wr.heap.size row.toArray (by kernel_rfl) (by kernel_rfl) 129 _ (World.alloc_heap_new _ _) (by rw[yA,HL.o];kernel_rfl) (by simp[HL.o]) (yL a1.o) ?_;rw[World.setRow_alloc_new]))
  generalize ab:wr.heap.size=bx at G |-
  clear ab d Z
  have d:=G
  clear G
  generalize wr.alloc _=wr at d |-
  have H6:=yb h6
  have HSub:=yb a7
  clear h6 a7
  generalize M.ds[i]=cc at H6 HSub I
  have F:Hid (∀V:World,V.heap[bx]?=some (.cells row.toArray 129 (0,0))->V.rangeAt bx 5 cc/\True):=yb (λV h=>⟨HSub.o.range h,trivial⟩)
  have m:=yb (C.o _ _ _ d.o)
  have q:Hid (Calls prog 67 #[.agg #[iV 0,iV 1,iV 0],.bool true,.slice (some (aV wr.heap.size 0)) 1 1,pV (W0.heap.size+1) 0,pV W0.heap.size 0] (wr.alloc (.cells (cc).toArray 40)) (Df 160 J Jx Jp W0 l (W0.heap.size+1) W0.heap.size (C7 A5 NL M.ds i+1) (Gd (W0.heap.size+1) bx row 129))):=yb (by
   have h:=BA (E0 CT true) HC.o hn (AX _ _ _ _) d.o [cc] (by intro c hc;simp only[yq,yu,yV] at hc;rcases hc with rfl<;>first|exact H6.o) (by simp) (I.o)
   simp only[yD,yJ,yE,yr,yK,yy,Nat.reduceAdd] at h
   exact h)
  have s:Hid (wr.rangeAt 0 0 [iV 0,iV 1,iV 0]):=yb (AI m.o (u.o.2 0 (by omega)) u.o.1.hours)
  have p:Hid (wr.rangeAt bx 5 cc):=yb (by obtain ⟨O, -, -, -,h⟩:=d.o;exact (F.o _ h).1)
  clear m
  go_wp2_with (first
   |(with_reducible refine yj rfl 102 _ rfl 0 0 (by kernel_rfl) [iV 0,iV 1,iV 0] _ s.o qU (by kernel_rfl) (by kernel_rfl) ?_;clear s)
   |(with_reducible refine yj rfl 40 _ rfl bx 5 (by kernel_rfl) cc _ p.o ji (by kernel_rfl) (FH (H6.o).len) ?_;clear p)
   |(with_reducible refine Am rfl 38 40 _ [cc] 1 rfl (cc) (by simp only[yD,yJ,yE]) rfl (by kernel_rfl) 6 jg (by kernel_rfl) (by intro c hc;simp only[yq,yu,yV] at hc;rcases hc with rfl<;>first|exact (H6.o).len) (by omega) (by omega) ?_)
   |(go_at_call 67;refine q.o.mono ?_;rintro e w2 (⟨rfl,hr⟩|⟨ch,rfl,hp⟩);rotate_left;exact ⟨rfl,.inr ⟨ch,rfl,hp⟩⟩;have r:=yb hr;clear hr))
  clear q d
  have d:=r
  clear r
  rw[ah.o]
  exact ⟨⟨i+1,by omega,rfl,yb (by rw[af.o];exact d.o.no)⟩,by simp[intOf];omega⟩
 obtain rfl:i=ln:=by omega
 have ac:decide ((i:Int) < (i:Int))=false:=by simp
 have a2:Hid (Dh 160 J Jx W0 l (W0.heap.size+1) W0.heap.size (A6.length) AQ wr):=yb (by have h:=d.o;rw[E.o] at h;rw[dr.o];exact h)
 clear d a8
 go_wp2
 have d:=a2
 clear a2 E
 refine qE (zr rfl _ _ _) rfl (.inl ⟨⟨_,rfl⟩,?_⟩)
 obtain ⟨O,h1, -⟩:=d.o
 rw[HE.o]
 exact h1.st.imp (λh=>⟨O,h.2⟩) (λh=>⟨O,h.2⟩)
end Go.Proofs.YtbdfinegbjdblaaGreatDoor
