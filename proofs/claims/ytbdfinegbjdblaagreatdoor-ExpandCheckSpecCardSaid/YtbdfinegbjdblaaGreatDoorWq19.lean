/- expand.expressions$1: the walk (printed by gen_it.py X). -/
import Derived.Test.YtbdfinegbjdblaaGreatDoorWq0
import Derived.Test.YtbdfinegbjdblaaGreatDoorWq16
import Derived.Deep.RegionHeld2
import Derived.Deep.RegionWith
import Derived.Deep.CutRange
set_option maxRecDepth 100000
set_option maxHeartbeats 16000000
set_option linter.unusedSimpArgs false
namespace Go.Proofs.YtbdfinegbjdblaaGreatDoor
open Go.RowKit Go.Proofs.Tryz
theorem Rp(n:Nat)(hn:1<=n)(l Bs:Nat)(L:BQ)(NB:NP)(w0:World)(M:WS)(hm:Re NB w0 Bs L M)(J:Nat->NP->World->Prop)(Jx:NP->World->Prop)(Jp:List PanicEntry->NP->World->Prop)(W0:World)
 (hc:MY (n - 1) l (J0 M) J Jx Jp W0)(hj:∀k O W,J k O W->Xl NB w0 W)(bk:∀O W,Jx O W->Xl NB w0 W)(h0:J 0 (λ_=>False) W0):
  Calls prog 57 #[.func (.yield l) #[] #[],.pointer (some ⟨Bs,0,none⟩)] W0 (YG J Jx Jp (J0 M).length):=by
 have cw:∀(fn:Fn) (first cap:Array Value) (w:World),(Instr.makeFunc fn first cap).run prog w=.ok (.func fn first cap) w:=λ_ _ _ _=>rfl
 have F:=yb hm
 skip
 have HC:=yb hc
 have G:Hid (∀k P W,Dh 112 J Jx W0 l (W0.heap.size+1) W0.heap.size k P W->Xl NB w0 W):=yb (λk P W h=>WR hj bk h)
 have a:Hid (Dh 112 J Jx W0 l (W0.heap.size+1) W0.heap.size (0) AQ ((W0.alloc (.cells #[.func (.yield l) #[] #[]] 112)).alloc (.cells #[.bool true] 4))):=yb (by
  have hb:Below W0.heap.size W0 ((W0.alloc (.cells #[.func (.yield l) #[] #[]] 112)).alloc (.cells #[.bool true] 4)):=((yg _ _).alloc (yi _) _).alloc (by simp) _
  have h2:=World.alloc_heap_new (W0.alloc (.cells #[.func (.yield l) #[] #[]] 112)) (.cells #[.bool true] 4)
  rw[ze] at h2
  refine ⟨_,⟨λb ce=>ce.elim (λh=>h.elim) (λh=>h),hb.size,.inr ⟨by omega,by simp⟩,.inr ⟨yi _,by simp<;>omega⟩,by omega,(yp _ _ _ (by simp)).trans (World.alloc_heap_new _ _),.inl ⟨h2,CY hc.stays h0 hb⟩⟩,trivial⟩)
 obtain ⟨X,hX⟩:∃X,X=J0 M:=⟨_,rfl⟩
 have q7:∃B,X=J0 M++B:=⟨[],by rw[hX,yE]⟩
 unfold J0 at q7
 have q6:=Fb q7
 have q5:=Fb q6
 have q4:=Fb q5
 have q3:=Fb q4
 have q2:=Fb q3
 have q1:=Fb q2
 have q0:=Fb q1
 obtain ⟨A0,aj⟩:∃A,A=TM M:=⟨_,rfl⟩
 rw[<-aj] at q0 q1 q2 q3 q4 q5 q6 q7
 obtain ⟨A1,au⟩:∃A,A=A0++M.ls.flatMap D9:=⟨_,rfl⟩
 rw[<-au] at q2 q3 q4 q5 q6 q7
 obtain ⟨A2,av⟩:∃A,A=A1++M.cs.flatMap D9:=⟨_,rfl⟩
 rw[<-av] at q3 q4 q5 q6 q7
 obtain ⟨A3,am⟩:∃A,A=A2++M.rs.flatMap JD:=⟨_,rfl⟩
 rw[<-am] at q4 q5 q6 q7
 obtain ⟨A4,b0⟩:∃A,A=A3++M.fs.flatMap JE:=⟨_,rfl⟩
 rw[<-b0] at q5 q6 q7
 obtain ⟨A5,az⟩:∃A,A=A4++M.ro.flatMap Fu:=⟨_,rfl⟩
 rw[<-az] at q6 q7
 obtain ⟨A6,ax⟩:∃A,A=A5++M.rg.flatMap NM:=⟨_,rfl⟩
 rw[<-ax] at q7
 obtain ⟨A7,bd⟩:∃A,A=A6++M.ds.flatMap D9:=⟨_,rfl⟩
 have HE:Hid (X.length=A7.length):=yb (by rw[hX,bd,ax,az,b0,am,av,au,aj];rfl)
 have cf:Hid (∀i (hi:i < M.ls.length),CU X (C7 A0 D9 M.ls i) (D9 M.ls[i])):=yb (λi hi=>Ej q1 hi)
 have bu:Hid (A1.length=C7 A0 D9 M.ls M.ls.length):=yb (by rw[Dz,au])
 have bv:Hid (∀i (hi:i < M.cs.length),CU X (C7 A1 D9 M.cs i) (D9 M.cs[i])):=yb (λi hi=>Ej q2 hi)
 have ci:Hid (A2.length=C7 A1 D9 M.cs M.cs.length):=yb (by rw[Dz,av])
 have cj:Hid (∀i (hi:i < M.rs.length),CU X (C7 A2 JD M.rs i) (JD M.rs[i])):=yb (λi hi=>Ej q3 hi)
 have bt:Hid (A3.length=C7 A2 JD M.rs M.rs.length):=yb (by rw[Dz,am])
 have bq:Hid (∀i (hi:i < M.fs.length),CU X (C7 A3 JE M.fs i) (JE M.fs[i])):=yb (λi hi=>Ej q4 hi)
 have co:Hid (A4.length=C7 A3 JE M.fs M.fs.length):=yb (by rw[Dz,b0])
 have ck:Hid (∀i (hi:i < M.ro.length),CU X (C7 A4 Fu M.ro i) (Fu M.ro[i])):=yb (λi hi=>Ej q5 hi)
 have cl:Hid (A5.length=C7 A4 Fu M.ro M.ro.length):=yb (by rw[Dz,az])
 have bo:Hid (∀i (hi:i < M.rg.length),CU X (C7 A5 NM M.rg i) (NM M.rg[i])):=yb (λi hi=>Ej q6 hi)
 have cd:Hid (A6.length=C7 A5 NM M.rg M.rg.length):=yb (by rw[Dz,ax])
 have cb:Hid (∀i (hi:i < M.ds.length),CU X (C7 A6 D9 M.ds i) (D9 M.ds[i])):=yb (λi hi=>Ej q7 hi)
 have cg:Hid (A7.length=C7 A6 D9 M.ds M.ds.length):=yb (by rw[Dz,bd])
 have bw:Hid (CU X 0 (TM M)):=yb (by obtain ⟨B,h⟩:=q0;exact ⟨[],B,by rw[h,aj];rfl,rfl⟩)
 have ca:Hid (A0.length=3):=yb (by rw[aj];rfl)
 rw[<-hX] at HC |-
 clear hm hc hj bk h0 hX q0 q1 q2 q3 q4 q5 q6 q7 aj au av am b0 az ax bd
 go_enter func57,ntmps57
 iterate 2
  refine Ai λK hK=>?_
  go_wp2
  refine hK.o _ _ ?_
  clear hK K
 generalize (W0.alloc _).alloc _=wr at a |-
 refine Ai λK hK=>?_
 go_wp2
 refine hK.o _ _ ?_
 clear hK K
 refine Ai λK hK=>?_
 have d:=yb (G.o _ _ _ a.o)
 have m:Hid (Calls prog 58 #[.slice (some (aV wr.heap.size 0)) 3 3,pV (W0.heap.size+1) 0,pV W0.heap.size 0] (wr.alloc (.cells ((M.c0++(M.c1++M.c2))).toArray 40)) (Df 112 J Jx Jp W0 l (W0.heap.size+1) W0.heap.size (0+3) AQ)):=yb (by
  have h:=BA I8 HC.o hn (Kr _) a.o [M.c0,M.c1,M.c2] (by intro c hc;simp only[yq,yu,yV] at hc;rcases hc with rfl|rfl|rfl<;>first|exact F.o.h0.1|exact F.o.h1.1|exact F.o.h2.1) (by simp) (bw.o)
  simp only[yD,yJ,yE,yr,yK,yy,Nat.reduceAdd] at h
  exact h)
 have g:Hid (wr.rangeAt Bs 1 M.c0):=yb (AI d.o F.o.bs F.o.h0.2)
 have a2:Hid (wr.rangeAt Bs 7 M.c1):=yb (AI d.o F.o.bs F.o.h1.2)
 have a1:Hid (wr.rangeAt Bs 13 M.c2):=yb (AI d.o F.o.bs F.o.h2.2)
 clear d
 go_wp2_with (first
  |(with_reducible refine yj rfl 40 _ rfl Bs 1 (by kernel_rfl) M.c0 _ g.o ji (by kernel_rfl) (FH (F.o.h0.1).len) ?_;clear g)
  |(with_reducible refine yj rfl 40 _ rfl Bs 7 (by kernel_rfl) M.c1 _ a2.o ji (by kernel_rfl) (FH (F.o.h1.1).len) ?_;clear a2)
  |(with_reducible refine yj rfl 40 _ rfl Bs 13 (by kernel_rfl) M.c2 _ a1.o ji (by kernel_rfl) (FH (F.o.h2.1).len) ?_;clear a1)
  |(with_reducible refine Am rfl 38 40 _ [M.c0,M.c1,M.c2] 3 rfl ((M.c0++(M.c1++M.c2))) (by simp only[yD,yJ,yE]) rfl (by kernel_rfl) 6 jg (by kernel_rfl) (by intro c hc;simp only[yq,yu,yV] at hc;rcases hc with rfl|rfl|rfl<;>first|exact (F.o.h0.1).len|exact (F.o.h1.1).len|exact (F.o.h2.1).len) (by omega) (by omega) ?_)
  |(go_at_call 58;refine m.o.mono ?_;rintro e w2 (⟨rfl,hr⟩|⟨ch,rfl,hp⟩);rotate_left;exact ⟨rfl,.inr ⟨ch,rfl,hp⟩⟩;have E:=yb hr;clear hr))
 clear m a
 have a:=E
 clear E
 generalize w2=wr at a |-
 refine hK.o _ _ ?_
 clear hK K
 replace a:Hid (Dh 112 J Jx W0 l (W0.heap.size+1) W0.heap.size (A0.length) AQ wr):=yb (by rw[ca.o];exact a.o)
 replace a:Hid (Dh 112 J Jx W0 l (W0.heap.size+1) W0.heap.size (C7 A0 D9 M.ls 0) AQ wr):=yb (by rw[CK];exact a.o)
 have d:=yb (G.o _ _ _ a.o)
 have u:=E6 d.o F.o.bs F.o.k19
 obtain ⟨lh,r⟩:∃h,h=L.lets:=⟨_,rfl⟩
 rw[<-r] at u
 have U:=yb r
 have s:Hid (lh.n=M.ls.length):=yb (by rw[r];exact F.o.lets.1)
 clear r d
 obtain ⟨la,T,lc⟩:=lh
 unfold AA.v at u
 dsimp only at u s
 refine Ai λK hK=>?_
 go_wp2_with fail
 clear u
 go_loopw [34] (λiv wr=>∃i:Nat,i<=T/\iv=iV i/\Hid (Dh 112 J Jx W0 l (W0.heap.size+1) W0.heap.size (C7 A0 D9 M.ls i) AQ wr)) (λiv _=>T - (intOf iv).toNat)
 case atStart=>exact ⟨0,yC _,rfl,a⟩
 clear a
 obtain ⟨i,hi,rfl,a⟩:=hrel
 by_cases ai:i < T
 ·have C:i < M.ls.length:=by have:=s.o;omega
  have Y:wrap64 ((i:Int)+1)=((i+1:Nat):Int):=by
   have:=F.o.small
   unfold KV at this
   rw[Ay (by omega)];push_cast;rfl
  have aa:=yb Y
  have D:=yb (cf.o i C)
  have a8:=yb (CL (A:=A0) (f:=D9) C)
  clear Y
  obtain ⟨row,⟨b,o,z,I,Q,q,p⟩,S,h6⟩:=F.o.lets.2 i C
  rw[<-U.o] at z
  dsimp only at z
  subst z
  have HL:=yb q
  have H:=yb p
  have d:=yb (G.o _ _ _ a.o)
  have N:=yb (AI d.o I Q)
  have x:=yb (a.o.box HC.o row 118)
  have a7:(i:Int) < (T:Int):=by omega
  clear Q d I q p
  go_upto_region 7 with (first
   |(with_reducible refine yj rfl 118 _ rfl b (o+i*7) (by kernel_rfl) row _ N.o qW (by kernel_rfl) (by rw[HL.o];kernel_rfl) ?_)
   |(with_reducible refine yt rfl 118 _ _ rfl wr.heap.size row.toArray (by kernel_rfl) (by kernel_rfl) 118 _ (World.alloc_heap_new _ _) (by rw[yA,HL.o];kernel_rfl) (by simp[HL.o]) (yL H.o) ?_;rw[World.setRow_alloc_new]))
  generalize a6:wr.heap.size=bx at x |-
  clear a6 a N
  have a:=x
  clear x
  generalize wr.alloc _=wr at a |-
  have H6:=yb h6
  have HSub:=yb S
  clear h6 S
  generalize M.ls[i]=Z at H6 HSub D
  have y:Hid (∀V:World,V.heap[bx]?=some (.cells row.toArray 118 (0,0))->V.rangeAt bx 1 Z/\True):=yb (λV h=>⟨HSub.o.range h,trivial⟩)
  have d:=yb (G.o _ _ _ a.o)
  have m:Hid (Calls prog 58 #[.slice (some (aV wr.heap.size 0)) 1 1,pV (W0.heap.size+1) 0,pV W0.heap.size 0] (wr.alloc (.cells (Z).toArray 40)) (Df 112 J Jx Jp W0 l (W0.heap.size+1) W0.heap.size (C7 A0 D9 M.ls i+1) (Gd (W0.heap.size+1) bx row 118))):=yb (by
   have h:=BA I8 HC.o hn (AX _ _ _ _) a.o [Z] (by intro c hc;simp only[yq,yu,yV] at hc;rcases hc with rfl<;>first|exact H6.o) (by simp) (D.o)
   simp only[yD,yJ,yE,yr,yK,yy,Nat.reduceAdd] at h
   exact h)
  have g:Hid (wr.rangeAt bx 1 Z):=yb (by obtain ⟨O, -, -, -,h⟩:=a.o;exact (y.o _ h).1)
  clear d
  go_wp2_with (first
   |(with_reducible refine yj rfl 40 _ rfl bx 1 (by kernel_rfl) Z _ g.o ji (by kernel_rfl) (FH (H6.o).len) ?_;clear g)
   |(with_reducible refine Am rfl 38 40 _ [Z] 1 rfl (Z) (by simp only[yD,yJ,yE]) rfl (by kernel_rfl) 6 jg (by kernel_rfl) (by intro c hc;simp only[yq,yu,yV] at hc;rcases hc with rfl<;>first|exact (H6.o).len) (by omega) (by omega) ?_)
   |(go_at_call 58;refine m.o.mono ?_;rintro e w2 (⟨rfl,hr⟩|⟨ch,rfl,hp⟩);rotate_left;exact ⟨rfl,.inr ⟨ch,rfl,hp⟩⟩;have E:=yb hr;clear hr))
  clear m a
  have a:=E
  clear E
  rw[aa.o]
  exact ⟨⟨i+1,by omega,rfl,yb (by rw[a8.o];exact a.o.no)⟩,by simp[intOf];omega⟩
 obtain rfl:i=T:=by omega
 have a7:decide ((i:Int) < (i:Int))=false:=by simp
 have R:Hid (Dh 112 J Jx W0 l (W0.heap.size+1) W0.heap.size (A1.length) AQ wr):=yb (by have h:=a.o;rw[s.o] at h;rw[bu.o];exact h)
 clear a U
 go_wp2
 refine hK.o _ _ ?_
 clear hK
 have a:=R
 clear R s
 replace a:Hid (Dh 112 J Jx W0 l (W0.heap.size+1) W0.heap.size (C7 A1 D9 M.cs 0) AQ wr):=yb (by rw[CK];exact a.o)
 have d:=yb (G.o _ _ _ a.o)
 have u:=E6 d.o F.o.bs F.o.k20
 obtain ⟨lh,r⟩:∃h,h=L.crops:=⟨_,rfl⟩
 rw[<-r] at u
 have U:=yb r
 have s:Hid (lh.n=M.cs.length):=yb (by rw[r];exact F.o.crops.1)
 clear r d
 obtain ⟨la,T,lc⟩:=lh
 unfold AA.v at u
 dsimp only at u s
 refine Ai λK hK=>?_
 go_wp2_with fail
 clear u
 go_loopw [47] (λiv wr=>∃i:Nat,i<=T/\iv=iV i/\Hid (Dh 112 J Jx W0 l (W0.heap.size+1) W0.heap.size (C7 A1 D9 M.cs i) AQ wr)) (λiv _=>T - (intOf iv).toNat)
 case atStart=>exact ⟨0,yC _,rfl,a⟩
 clear a
 obtain ⟨i,hi,rfl,a⟩:=hrel
 by_cases ai:i < T
 ·have C:i < M.cs.length:=by have:=s.o;omega
  have Y:wrap64 ((i:Int)+1)=((i+1:Nat):Int):=by
   have:=F.o.small
   unfold KV at this
   rw[Ay (by omega)];push_cast;rfl
  have aa:=yb Y
  have D:=yb (bv.o i C)
  have a8:=yb (CL (A:=A1) (f:=D9) C)
  clear Y
  obtain ⟨row,⟨b,o,z,I,Q,q,p⟩,S,h6⟩:=F.o.crops.2 i C
  rw[<-U.o] at z
  dsimp only at z
  subst z
  have HL:=yb q
  have H:=yb p
  have d:=yb (G.o _ _ _ a.o)
  have N:=yb (AI d.o I Q)
  have x:=yb (a.o.box HC.o row 120)
  have a7:(i:Int) < (T:Int):=by omega
  clear Q d I q p
  go_upto_region 12 with (first
   |(with_reducible refine yj rfl 120 _ rfl b (o+i*7) (by kernel_rfl) row _ N.o qX (by kernel_rfl) (by rw[HL.o];kernel_rfl) ?_)
   |(with_reducible refine yt rfl 120 _ _ rfl wr.heap.size row.toArray (by kernel_rfl) (by kernel_rfl) 120 _ (World.alloc_heap_new _ _) (by rw[yA,HL.o];kernel_rfl) (by simp[HL.o]) (yL H.o) ?_;rw[World.setRow_alloc_new]))
  generalize a6:wr.heap.size=bx at x |-
  clear a6 a N
  have a:=x
  clear x
  generalize wr.alloc _=wr at a |-
  have H6:=yb h6
  have HSub:=yb S
  clear h6 S
  generalize M.cs[i]=Z at H6 HSub D
  have y:Hid (∀V:World,V.heap[bx]?=some (.cells row.toArray 120 (0,0))->V.rangeAt bx 1 Z/\True):=yb (λV h=>⟨HSub.o.range h,trivial⟩)
  have d:=yb (G.o _ _ _ a.o)
  have m:Hid (Calls prog 58 #[.slice (some (aV wr.heap.size 0)) 1 1,pV (W0.heap.size+1) 0,pV W0.heap.size 0] (wr.alloc (.cells (Z).toArray 40)) (Df 112 J Jx Jp W0 l (W0.heap.size+1) W0.heap.size (C7 A1 D9 M.cs i+1) (Gd (W0.heap.size+1) bx row 120))):=yb (by
   have h:=BA I8 HC.o hn (AX _ _ _ _) a.o [Z] (by intro c hc;simp only[yq,yu,yV] at hc;rcases hc with rfl<;>first|exact H6.o) (by simp) (D.o)
   simp only[yD,yJ,yE,yr,yK,yy,Nat.reduceAdd] at h
   exact h)
  have g:Hid (wr.rangeAt bx 1 Z):=yb (by obtain ⟨O, -, -, -,h⟩:=a.o;exact (y.o _ h).1)
  clear d
  go_wp2_with (first
   |(with_reducible refine yj rfl 40 _ rfl bx 1 (by kernel_rfl) Z _ g.o ji (by kernel_rfl) (FH (H6.o).len) ?_;clear g)
   |(with_reducible refine Am rfl 38 40 _ [Z] 1 rfl (Z) (by simp only[yD,yJ,yE]) rfl (by kernel_rfl) 6 jg (by kernel_rfl) (by intro c hc;simp only[yq,yu,yV] at hc;rcases hc with rfl<;>first|exact (H6.o).len) (by omega) (by omega) ?_)
   |(go_at_call 58;refine m.o.mono ?_;rintro e w2 (⟨rfl,hr⟩|⟨ch,rfl,hp⟩);rotate_left;exact ⟨rfl,.inr ⟨ch,rfl,hp⟩⟩;have E:=yb hr;clear hr))
  clear m a
  have a:=E
  clear E
  rw[aa.o]
  exact ⟨⟨i+1,by omega,rfl,yb (by rw[a8.o];exact a.o.no)⟩,by simp[intOf];omega⟩
 obtain rfl:i=T:=by omega
 have a7:decide ((i:Int) < (i:Int))=false:=by simp
 have R:Hid (Dh 112 J Jx W0 l (W0.heap.size+1) W0.heap.size (A2.length) AQ wr):=yb (by have h:=a.o;rw[s.o] at h;rw[ci.o];exact h)
 clear a U
 go_wp2
 refine hK.o _ _ ?_
 clear hK
 have a:=R
 clear R s
 replace a:Hid (Dh 112 J Jx W0 l (W0.heap.size+1) W0.heap.size (C7 A2 JD M.rs 0) AQ wr):=yb (by rw[CK];exact a.o)
 have d:=yb (G.o _ _ _ a.o)
 have u:=E6 d.o F.o.bs F.o.k21
 obtain ⟨lh,r⟩:∃h,h=L.reaches:=⟨_,rfl⟩
 rw[<-r] at u
 have U:=yb r
 have s:Hid (lh.n=M.rs.length):=yb (by rw[r];exact F.o.reaches.1)
 clear r d
 obtain ⟨la,T,lc⟩:=lh
 unfold AA.v at u
 dsimp only at u s
 refine Ai λK hK=>?_
 go_wp2_with fail
 clear u
 go_loopw [60] (λiv wr=>∃i:Nat,i<=T/\iv=iV i/\Hid (Dh 112 J Jx W0 l (W0.heap.size+1) W0.heap.size (C7 A2 JD M.rs i) AQ wr)) (λiv _=>T - (intOf iv).toNat)
 case atStart=>exact ⟨0,yC _,rfl,a⟩
 clear a
 obtain ⟨i,hi,rfl,a⟩:=hrel
 by_cases ai:i < T
 ·have C:i < M.rs.length:=by have:=s.o;omega
  have Y:wrap64 ((i:Int)+1)=((i+1:Nat):Int):=by
   have:=F.o.small
   unfold KV at this
   rw[Ay (by omega)];push_cast;rfl
  have aa:=yb Y
  have D:=yb (cj.o i C)
  have a8:=yb (CL (A:=A2) (f:=JD) C)
  clear Y
  obtain ⟨row,⟨b,o,z,I,Q,q,p⟩,⟨s0,h0⟩,⟨s1,h1⟩,⟨s2,h2⟩,⟨s3,h3⟩,⟨s4,h4⟩,⟨s5,h5⟩,⟨s6,h6⟩,⟨s7,h7⟩,ao⟩:=F.o.reaches.2 i C
  rw[<-U.o] at z
  dsimp only at z
  subst z
  have HL:=yb q
  have H:=yb p
  have d:=yb (G.o _ _ _ a.o)
  have N:=yb (AI d.o I Q)
  have x:=yb (a.o.box HC.o row 123)
  have a7:(i:Int) < (T:Int):=by omega
  clear Q d I q p
  go_upto_region 17 with (first
   |(with_reducible refine yj rfl 123 _ rfl b (o+i*51) (by kernel_rfl) row _ N.o qY (by kernel_rfl) (by rw[HL.o];kernel_rfl) ?_)
   |(with_reducible refine yt rfl 123 _ _ rfl wr.heap.size row.toArray (by kernel_rfl) (by kernel_rfl) 123 _ (World.alloc_heap_new _ _) (by rw[yA,HL.o];kernel_rfl) (by simp[HL.o]) (yL H.o) ?_;rw[World.setRow_alloc_new]))
  generalize a6:wr.heap.size=bx at x |-
  clear a6 a N
  have a:=x
  clear x
  generalize wr.alloc _=wr at a |-
  generalize M.rs[i]=rr at s0 s1 s2 s3 s4 s5 s6 s7 h0 h1 h2 h3 h4 h5 h6 h7 ao D
  obtain ⟨rs,d0,d1,d2,d3,d4,d5,d6,d7⟩:=rr
  dsimp only at s0 s1 s2 s3 s4 s5 s6 s7 h0 h1 h2 h3 h4 h5 h6 h7 ao D
  have y:Hid (∀V:World,V.heap[bx]?=some (.cells row.toArray 123 (0,0))->V.rangeAt bx 3 d0/\V.rangeAt bx 9 d1/\V.rangeAt bx 15 d2/\V.rangeAt bx 21 d3/\V.rangeAt bx 27 d4/\V.rangeAt bx 33 d5/\V.rangeAt bx 39 d6/\V.rangeAt bx 45 d7):=yb (λV h=>⟨s0.range h,s1.range h,s2.range h,s3.range h,s4.range h,s5.range h,s6.range h,s7.range h⟩)
  have ab:=yb h0
  have ac:=yb h1
  have ad:=yb h2
  have ag:=yb h3
  have ah:=yb h4
  have bg:=yb h5
  have b9:=yb h6
  have ba:=yb h7
  have cy:=yb ao
  clear s0 s1 s2 s3 s4 s5 s6 s7 h0 h1 h2 h3 h4 h5 h6 h7 ao
  have d:=yb (G.o _ _ _ a.o)
  have m:Hid (Calls prog 58 #[.slice (some (aV wr.heap.size 0)) 8 8,pV (W0.heap.size+1) 0,pV W0.heap.size 0] (wr.alloc (.cells ((d0++(d1++(d2++(d3++(d4++(d5++(d6++d7)))))))).toArray 40)) (Df 112 J Jx Jp W0 l (W0.heap.size+1) W0.heap.size (C7 A2 JD M.rs i+8) (Gd (W0.heap.size+1) bx row 123))):=yb (by
   have h:=BA I8 HC.o hn (AX _ _ _ _) a.o [d0,d1,d2,d3,d4,d5,d6,d7] (by intro c hc;simp only[yq,yu,yV] at hc;rcases hc with rfl|rfl|rfl|rfl|rfl|rfl|rfl|rfl<;>first|exact ab.o|exact ac.o|exact ad.o|exact ag.o|exact ah.o|exact bg.o|exact b9.o|exact ba.o) (by simp) (D.o)
   simp only[yD,yJ,yE,yr,yK,yy,Nat.reduceAdd] at h
   exact h)
  have g:Hid (wr.rangeAt bx 3 d0):=yb (by obtain ⟨O, -, -, -,h⟩:=a.o;exact (y.o _ h).1)
  have a2:Hid (wr.rangeAt bx 9 d1):=yb (by obtain ⟨O, -, -, -,h⟩:=a.o;exact (y.o _ h).2.1)
  have a1:Hid (wr.rangeAt bx 15 d2):=yb (by obtain ⟨O, -, -, -,h⟩:=a.o;exact (y.o _ h).2.2.1)
  have ae:Hid (wr.rangeAt bx 21 d3):=yb (by obtain ⟨O, -, -, -,h⟩:=a.o;exact (y.o _ h).2.2.2.1)
  have af:Hid (wr.rangeAt bx 27 d4):=yb (by obtain ⟨O, -, -, -,h⟩:=a.o;exact (y.o _ h).2.2.2.2.1)
  have b5:Hid (wr.rangeAt bx 33 d5):=yb (by obtain ⟨O, -, -, -,h⟩:=a.o;exact (y.o _ h).2.2.2.2.2.1)
  have b4:Hid (wr.rangeAt bx 39 d6):=yb (by obtain ⟨O, -, -, -,h⟩:=a.o;exact (y.o _ h).2.2.2.2.2.2.1)
  have b7:Hid (wr.rangeAt bx 45 d7):=yb (by obtain ⟨O, -, -, -,h⟩:=a.o;exact (y.o _ h).2.2.2.2.2.2.2)
  clear d
  go_wp2_with (first
   |(with_reducible refine yj rfl 40 _ rfl bx 3 (by kernel_rfl) d0 _ g.o ji (by kernel_rfl) (FH (ab.o).len) ?_;clear g)
   |(with_reducible refine yj rfl 40 _ rfl bx 9 (by kernel_rfl) d1 _ a2.o ji (by kernel_rfl) (FH (ac.o).len) ?_;clear a2)
   |(with_reducible refine yj rfl 40 _ rfl bx 15 (by kernel_rfl) d2 _ a1.o ji (by kernel_rfl) (FH (ad.o).len) ?_;clear a1)
   |(with_reducible refine yj rfl 40 _ rfl bx 21 (by kernel_rfl) d3 _ ae.o ji (by kernel_rfl) (FH (ag.o).len) ?_;clear ae)
   |(with_reducible refine yj rfl 40 _ rfl bx 27 (by kernel_rfl) d4 _ af.o ji (by kernel_rfl) (FH (ah.o).len) ?_;clear af)
   |(with_reducible refine yj rfl 40 _ rfl bx 33 (by kernel_rfl) d5 _ b5.o ji (by kernel_rfl) (FH (bg.o).len) ?_;clear b5)
   |(with_reducible refine yj rfl 40 _ rfl bx 39 (by kernel_rfl) d6 _ b4.o ji (by kernel_rfl) (FH (b9.o).len) ?_;clear b4)
   |(with_reducible refine yj rfl 40 _ rfl bx 45 (by kernel_rfl) d7 _ b7.o ji (by kernel_rfl) (FH (ba.o).len) ?_;clear b7)
   |(with_reducible refine Am rfl 38 40 _ [d0,d1,d2,d3,d4,d5,d6,d7] 8 rfl ((d0++(d1++(d2++(d3++(d4++(d5++(d6++d7)))))))) (by simp only[yD,yJ,yE]) rfl (by kernel_rfl) 6 jg (by kernel_rfl) (by intro c hc;simp only[yq,yu,yV] at hc;rcases hc with rfl|rfl|rfl|rfl|rfl|rfl|rfl|rfl<;>first|exact (ab.o).len|exact (ac.o).len|exact (ad.o).len|exact (ag.o).len|exact (ah.o).len|exact (bg.o).len|exact (b9.o).len|exact (ba.o).len) (by omega) (by omega) ?_)
   |(go_at_call 58;refine m.o.mono ?_;rintro e w2 (⟨rfl,hr⟩|⟨ch,rfl,hp⟩);rotate_left;exact ⟨rfl,.inr ⟨ch,rfl,hp⟩⟩;have E:=yb hr;clear hr))
  clear m a
  have a:=E
  clear E
  rw[aa.o]
  exact ⟨⟨i+1,by omega,rfl,yb (by rw[a8.o];exact a.o.no)⟩,by simp[intOf];omega⟩
 obtain rfl:i=T:=by omega
 have a7:decide ((i:Int) < (i:Int))=false:=by simp
 have R:Hid (Dh 112 J Jx W0 l (W0.heap.size+1) W0.heap.size (A3.length) AQ wr):=yb (by have h:=a.o;rw[s.o] at h;rw[bt.o];exact h)
 clear a U
 go_wp2
 refine hK.o _ _ ?_
 clear hK
 have a:=R
 clear R s
 replace a:Hid (Dh 112 J Jx W0 l (W0.heap.size+1) W0.heap.size (C7 A3 JE M.fs 0) AQ wr):=yb (by rw[CK];exact a.o)
 have d:=yb (G.o _ _ _ a.o)
 have u:=E6 d.o F.o.bs F.o.k22
 obtain ⟨lh,r⟩:∃h,h=L.farms:=⟨_,rfl⟩
 rw[<-r] at u
 have U:=yb r
 have s:Hid (lh.n=M.fs.length):=yb (by rw[r];exact F.o.farms.1)
 clear r d
 obtain ⟨la,T,lc⟩:=lh
 unfold AA.v at u
 dsimp only at u s
 refine Ai λK hK=>?_
 go_wp2_with fail
 clear u
 go_loopw [91] (λiv wr=>∃i:Nat,i<=T/\iv=iV i/\Hid (Dh 112 J Jx W0 l (W0.heap.size+1) W0.heap.size (C7 A3 JE M.fs i) AQ wr)) (λiv _=>T - (intOf iv).toNat)
 case atStart=>exact ⟨0,yC _,rfl,a⟩
 clear a
 obtain ⟨i,hi,rfl,a⟩:=hrel
 by_cases ai:i < T
 ·have C:i < M.fs.length:=by have:=s.o;omega
  have Y:wrap64 ((i:Int)+1)=((i+1:Nat):Int):=by
   have:=F.o.small
   unfold KV at this
   rw[Ay (by omega)];push_cast;rfl
  have aa:=yb Y
  have D:=yb (bq.o i C)
  have a8:=yb (CL (A:=A3) (f:=JE) C)
  clear Y
  obtain ⟨row,⟨b,o,z,I,Q,q,p⟩,bi,S,h6⟩:=F.o.farms.2 i C
  rw[<-U.o] at z
  dsimp only at z
  subst z
  have HL:=yb q
  have H:=yb p
  have d:=yb (G.o _ _ _ a.o)
  have N:=yb (AI d.o I Q)
  have x:=yb (a.o.box HC.o row 125)
  have a7:(i:Int) < (T:Int):=by omega
  clear Q d I q p
  go_upto_region 22 with (first
   |(with_reducible refine yj rfl 125 _ rfl b (o+i*12) (by kernel_rfl) row _ N.o qZ (by kernel_rfl) (by rw[HL.o];kernel_rfl) ?_)
   |(with_reducible refine yt rfl 125 _ _ rfl wr.heap.size row.toArray (by kernel_rfl) (by kernel_rfl) 125 _ (World.alloc_heap_new _ _) (by rw[yA,HL.o];kernel_rfl) (by simp[HL.o]) (yL H.o) ?_;rw[World.setRow_alloc_new]))
  generalize a6:wr.heap.size=bx at x |-
  clear a6 a N
  have a:=x
  clear x
  generalize wr.alloc _=wr at a |-
  have H6:=yb h6
  have HSub:=yb S
  have bm:=yb bi
  clear h6 S bi
  generalize M.fs[i]=rr at H6 HSub bm D
  obtain ⟨rv,Z⟩:=rr
  dsimp only at H6 HSub bm D
  have y:Hid (∀V:World,V.heap[bx]?=some (.cells row.toArray 125 (0,0))->V.rangeAt bx 4 Z/\True):=yb (λV h=>⟨HSub.o.range h,trivial⟩)
  have d:=yb (G.o _ _ _ a.o)
  have m:Hid (Calls prog 58 #[.slice (some (aV wr.heap.size 0)) 1 1,pV (W0.heap.size+1) 0,pV W0.heap.size 0] (wr.alloc (.cells (Z).toArray 40)) (Df 112 J Jx Jp W0 l (W0.heap.size+1) W0.heap.size (C7 A3 JE M.fs i+1) (Gd (W0.heap.size+1) bx row 125))):=yb (by
   have h:=BA I8 HC.o hn (AX _ _ _ _) a.o [Z] (by intro c hc;simp only[yq,yu,yV] at hc;rcases hc with rfl<;>first|exact H6.o) (by simp) (D.o)
   simp only[yD,yJ,yE,yr,yK,yy,Nat.reduceAdd] at h
   exact h)
  have g:Hid (wr.rangeAt bx 4 Z):=yb (by obtain ⟨O, -, -, -,h⟩:=a.o;exact (y.o _ h).1)
  clear d
  go_wp2_with (first
   |(with_reducible refine yj rfl 40 _ rfl bx 4 (by kernel_rfl) Z _ g.o ji (by kernel_rfl) (FH (H6.o).len) ?_;clear g)
   |(with_reducible refine Am rfl 38 40 _ [Z] 1 rfl (Z) (by simp only[yD,yJ,yE]) rfl (by kernel_rfl) 6 jg (by kernel_rfl) (by intro c hc;simp only[yq,yu,yV] at hc;rcases hc with rfl<;>first|exact (H6.o).len) (by omega) (by omega) ?_)
   |(go_at_call 58;refine m.o.mono ?_;rintro e w2 (⟨rfl,hr⟩|⟨ch,rfl,hp⟩);rotate_left;exact ⟨rfl,.inr ⟨ch,rfl,hp⟩⟩;have E:=yb hr;clear hr))
  clear m a
  have a:=E
  clear E
  rw[aa.o]
  exact ⟨⟨i+1,by omega,rfl,yb (by rw[a8.o];exact a.o.no)⟩,by simp[intOf];omega⟩
 obtain rfl:i=T:=by omega
 have a7:decide ((i:Int) < (i:Int))=false:=by simp
 have R:Hid (Dh 112 J Jx W0 l (W0.heap.size+1) W0.heap.size (A4.length) AQ wr):=yb (by have h:=a.o;rw[s.o] at h;rw[co.o];exact h)
 clear a U
 go_wp2
 refine hK.o _ _ ?_
 clear hK
 have a:=R
 clear R s
 replace a:Hid (Dh 112 J Jx W0 l (W0.heap.size+1) W0.heap.size (C7 A4 Fu M.ro 0) AQ wr):=yb (by rw[CK];exact a.o)
 have d:=yb (G.o _ _ _ a.o)
 have u:=E6 d.o F.o.bs F.o.k23
 obtain ⟨lh,r⟩:∃h,h=L.rots:=⟨_,rfl⟩
 rw[<-r] at u
 have U:=yb r
 have s:Hid (lh.n=M.ro.length):=yb (by rw[r];exact F.o.rots.1)
 clear r d
 obtain ⟨la,T,lc⟩:=lh
 unfold AA.v at u
 dsimp only at u s
 refine Ai λK hK=>?_
 go_wp2_with fail
 clear u
 go_loopw [104] (λiv wr=>∃i:Nat,i<=T/\iv=iV i/\Hid (Dh 112 J Jx W0 l (W0.heap.size+1) W0.heap.size (C7 A4 Fu M.ro i) AQ wr)) (λiv _=>T - (intOf iv).toNat)
 case atStart=>exact ⟨0,yC _,rfl,a⟩
 clear a
 obtain ⟨i,hi,rfl,a⟩:=hrel
 by_cases ai:i < T
 ·have C:i < M.ro.length:=by have:=s.o;omega
  have Y:wrap64 ((i:Int)+1)=((i+1:Nat):Int):=by
   have:=F.o.small
   unfold KV at this
   rw[Ay (by omega)];push_cast;rfl
  have aa:=yb Y
  have D:=yb (ck.o i C)
  have a8:=yb (CL (A:=A4) (f:=Fu) C)
  clear Y
  obtain ⟨row,⟨b,o,z,I,Q,q,p⟩,⟨s0,h0⟩,⟨s1,h1⟩,⟨s2,h2⟩,ap,aq,al,ak⟩:=F.o.rots.2 i C
  rw[<-U.o] at z
  dsimp only at z
  subst z
  have HL:=yb q
  have H:=yb p
  have d:=yb (G.o _ _ _ a.o)
  have N:=yb (AI d.o I Q)
  have x:=yb (a.o.box HC.o row 56)
  have a7:(i:Int) < (T:Int):=by omega
  clear Q d I q p
  go_upto_region 27 with (first
   |(with_reducible refine yj rfl 56 _ rfl b (o+i*23) (by kernel_rfl) row _ N.o jt (by kernel_rfl) (by rw[HL.o];kernel_rfl) ?_)
   |(with_reducible refine yt rfl 56 _ _ rfl wr.heap.size row.toArray (by kernel_rfl) (by kernel_rfl) 56 _ (World.alloc_heap_new _ _) (by rw[yA,HL.o];kernel_rfl) (by simp[HL.o]) (yL H.o) ?_;rw[World.setRow_alloc_new]))
  generalize a6:wr.heap.size=bx at x |-
  clear a6 a N
  have a:=x
  clear x
  generalize wr.alloc _=wr at a |-
  generalize M.ro[i]=rr at s0 s1 s2 h0 h1 h2 ap aq al ak D a8
  obtain ⟨d0,d1,d2,t,ts⟩:=rr
  dsimp only at s0 s1 s2 h0 h1 h2 ap aq al ak
  have y:Hid (∀V:World,V.heap[bx]?=some (.cells row.toArray 56 (0,0))->V.rangeAt bx 4 d0/\V.rangeAt bx 10 d1/\V.rangeAt bx 16 d2/\V.rangeAt bx 22 [t.v]):=yb (λV h=>⟨s0.range h,s1.range h,s2.range h,ap.range h⟩)
  have ab:=yb h0
  have ac:=yb h1
  have ad:=yb h2
  have bh:=yb aq
  have cp:=yb al
  have bn:=yb ak
  clear s0 s1 s2 h0 h1 h2 ap aq al ak
  have bb:=yb D.o.split
  have d:=yb (G.o _ _ _ a.o)
  have m:Hid (Calls prog 58 #[.slice (some (aV wr.heap.size 0)) 3 3,pV (W0.heap.size+1) 0,pV W0.heap.size 0] (wr.alloc (.cells ((d0++(d1++d2))).toArray 40)) (Df 112 J Jx Jp W0 l (W0.heap.size+1) W0.heap.size (C7 A4 Fu M.ro i+3) (Gd (W0.heap.size+1) bx row 56))):=yb (by
   have h:=BA I8 HC.o hn (AX _ _ _ _) a.o [d0,d1,d2] (by intro c hc;simp only[yq,yu,yV] at hc;rcases hc with rfl|rfl|rfl<;>first|exact ab.o|exact ac.o|exact ad.o) (by simp) (bb.o.1)
   simp only[yD,yJ,yE,yr,yK,yy,Nat.reduceAdd] at h
   exact h)
  have g:Hid (wr.rangeAt bx 4 d0):=yb (by obtain ⟨O, -, -, -,h⟩:=a.o;exact (y.o _ h).1)
  have a2:Hid (wr.rangeAt bx 10 d1):=yb (by obtain ⟨O, -, -, -,h⟩:=a.o;exact (y.o _ h).2.1)
  have a1:Hid (wr.rangeAt bx 16 d2):=yb (by obtain ⟨O, -, -, -,h⟩:=a.o;exact (y.o _ h).2.2.1)
  clear d
  go_upto_region 28 with (first
   |(with_reducible refine yj rfl 40 _ rfl bx 4 (by kernel_rfl) d0 _ g.o ji (by kernel_rfl) (FH (ab.o).len) ?_;clear g)
   |(with_reducible refine yj rfl 40 _ rfl bx 10 (by kernel_rfl) d1 _ a2.o ji (by kernel_rfl) (FH (ac.o).len) ?_;clear a2)
   |(with_reducible refine yj rfl 40 _ rfl bx 16 (by kernel_rfl) d2 _ a1.o ji (by kernel_rfl) (FH (ad.o).len) ?_;clear a1)
   |(with_reducible refine Am rfl 38 40 _ [d0,d1,d2] 3 rfl ((d0++(d1++d2))) (by simp only[yD,yJ,yE]) rfl (by kernel_rfl) 6 jg (by kernel_rfl) (by intro c hc;simp only[yq,yu,yV] at hc;rcases hc with rfl|rfl|rfl<;>first|exact (ab.o).len|exact (ac.o).len|exact (ad.o).len) (by omega) (by omega) ?_)
   |(go_at_call 58;refine m.o.mono ?_;rintro e w2 (⟨rfl,hr⟩|⟨ch,rfl,hp⟩);rotate_left;exact ⟨rfl,.inr ⟨ch,rfl,hp⟩⟩;have E:=yb hr;clear hr))
  clear m a
  have a:=E
  clear E
  generalize w2=wr at a |-
  obtain ⟨A9,an⟩:∃A:List (Array Value),A.length=C7 A4 Fu M.ro i+3:=⟨List.replicate (C7 A4 Fu M.ro i+3) #[],List.length_replicate⟩
  have c9:Hid (∀j (hj:j < ts.length),CU X (C7 A9 D9 ts j) (D9 ts[j])):=yb (λj hj=>by
   obtain ⟨pre,post,hx,hp⟩:=bb.o.2
   have h:=Ej (A:=pre) (f:=D9) (X:=X) (ls:=ts) ⟨post,by rw[hx,yX]⟩ hj
   unfold C7 at h |-
   rw[yn] at h |-
   rw[an]
   rw[hp] at h
   exact h)
  have c8:Hid (C7 A4 Fu M.ro i+(Fu ⟨d0,d1,d2,t,ts⟩).length=C7 A9 D9 ts ts.length):=yb (by
   have e:(Fu ⟨d0,d1,d2,t,ts⟩).length=3+(ts.flatMap D9).length:=by
    show (WV ⟨d0,d1,d2,t,ts⟩++ts.flatMap D9).length=_
    rw[yn];rfl
   rw[e,Dz,yn,an];omega)
  have be:wr.cell? (aV bx 22)=some t.v:=by
   obtain ⟨O, -, -, -,h⟩:=a.o
   exact (y.o _ h).2.2.2 0 _ rfl
  replace a:Hid (Dh 112 J Jx W0 l (W0.heap.size+1) W0.heap.size (C7 A9 D9 ts 0) AQ wr):=yb (by rw[CK,an];exact a.o.no)
  clear an D bb y ab ac ad
  obtain ⟨ta,tn,tc⟩:=t
  unfold AA.v at be
  dsimp only at be bh bn
  have cq:(i:Int) < (T:Int):=by omega
  go_wp2_with fail
  clear be
  go_loopw [120] (λiv wr=>∃j:Nat,j<=tn/\iv=iV j/\Hid (Dh 112 J Jx W0 l (W0.heap.size+1) W0.heap.size (C7 A9 D9 ts j) AQ wr)) (λiv _=>tn - (intOf iv).toNat)
  case atStart=>exact ⟨0,yC _,rfl,a⟩
  clear a
  obtain ⟨j,hj,rfl,a⟩:=hrel
  by_cases cr:j < tn
  ·have b8:j < ts.length:=by have:=bh.o;omega
   have bj:wrap64 ((j:Int)+1)=((j+1:Nat):Int):=by
    have:=cp.o
    unfold KV at this
    rw[Ay (by omega)];push_cast;rfl
   have cm:=yb bj
   have D:=yb (c9.o j b8)
   have bp:=yb (CL (A:=A9) (f:=D9) b8)
   clear bj
   have cn:Hid ((⟨ta,tn,tc⟩:AA)=⟨ta,tn,tc⟩):=yb rfl
   obtain ⟨row,⟨b,o,z,I,Q,q,p⟩,S,h6⟩:=bn.o j b8
   dsimp only at z
   subst z
   have HL:=yb q
   have H:=yb p
   have d:=yb (G.o _ _ _ a.o)
   have N:=yb (AI d.o I Q)
   have x:=yb (a.o.box HC.o row 65)
   have a7:(j:Int) < (tn:Int):=by omega
   clear Q d I q p
   go_upto_region 31 with (first
    |(with_reducible refine yj rfl 65 _ rfl b (o+j*8) (by kernel_rfl) row _ N.o jx (by kernel_rfl) (by rw[HL.o];kernel_rfl) ?_)
    |(with_reducible refine yt rfl 65 _ _ rfl wr.heap.size row.toArray (by kernel_rfl) (by kernel_rfl) 65 _ (World.alloc_heap_new _ _) (by rw[yA,HL.o];kernel_rfl) (by simp[HL.o]) (yL H.o) ?_;rw[World.setRow_alloc_new]))
   generalize a6:wr.heap.size=bx at x |-
   clear a6 a N
   have a:=x
   clear x
   generalize wr.alloc _=wr at a |-
   have H6:=yb h6
   have HSub:=yb S
   clear h6 S cn
   generalize ts[j]=Z at H6 HSub D
   have y:Hid (∀V:World,V.heap[bx]?=some (.cells row.toArray 65 (0,0))->V.rangeAt bx 2 Z/\True):=yb (λV h=>⟨HSub.o.range h,trivial⟩)
   have d:=yb (G.o _ _ _ a.o)
   have m:Hid (Calls prog 58 #[.slice (some (aV wr.heap.size 0)) 1 1,pV (W0.heap.size+1) 0,pV W0.heap.size 0] (wr.alloc (.cells (Z).toArray 40)) (Df 112 J Jx Jp W0 l (W0.heap.size+1) W0.heap.size (C7 A9 D9 ts j+1) (Gd (W0.heap.size+1) bx row 65))):=yb (by
    have h:=BA I8 HC.o hn (AX _ _ _ _) a.o [Z] (by intro c hc;simp only[yq,yu,yV] at hc;rcases hc with rfl<;>first|exact H6.o) (by simp) (D.o)
    simp only[yD,yJ,yE,yr,yK,yy,Nat.reduceAdd] at h
    exact h)
   have g:Hid (wr.rangeAt bx 2 Z):=yb (by obtain ⟨O, -, -, -,h⟩:=a.o;exact (y.o _ h).1)
   clear d
   go_wp2_with (first
    |(with_reducible refine yj rfl 40 _ rfl bx 2 (by kernel_rfl) Z _ g.o ji (by kernel_rfl) (FH (H6.o).len) ?_;clear g)
    |(with_reducible refine Am rfl 38 40 _ [Z] 1 rfl (Z) (by simp only[yD,yJ,yE]) rfl (by kernel_rfl) 6 jg (by kernel_rfl) (by intro c hc;simp only[yq,yu,yV] at hc;rcases hc with rfl<;>first|exact (H6.o).len) (by omega) (by omega) ?_)
    |(go_at_call 58;refine m.o.mono ?_;rintro e w2 (⟨rfl,hr⟩|⟨ch,rfl,hp⟩);rotate_left;exact ⟨rfl,.inr ⟨ch,rfl,hp⟩⟩;have E:=yb hr;clear hr))
   clear m a
   have a:=E
   clear E
   rw[cm.o]
   exact ⟨⟨j+1,by omega,rfl,yb (by rw[bp.o];exact a.o.no)⟩,by simp[intOf];omega⟩
  obtain rfl:j=tn:=by omega
  have cx:decide ((j:Int) < (j:Int))=false:=by simp
  have R:Hid (Dh 112 J Jx W0 l (W0.heap.size+1) W0.heap.size (C7 A4 Fu M.ro (i+1)) AQ wr):=yb (by have h:=a.o;rw[bh.o] at h;rw[a8.o,c8.o];exact h)
  clear a
  go_wp2
  rw[aa.o]
  exact ⟨⟨i+1,by omega,rfl,R⟩,by simp[intOf];omega⟩
 obtain rfl:i=T:=by omega
 have a7:decide ((i:Int) < (i:Int))=false:=by simp
 have R:Hid (Dh 112 J Jx W0 l (W0.heap.size+1) W0.heap.size (A5.length) AQ wr):=yb (by have h:=a.o;rw[s.o] at h;rw[cl.o];exact h)
 clear a U
 go_wp2
 refine hK.o _ _ ?_
 clear hK
 have a:=R
 clear R s
 replace a:Hid (Dh 112 J Jx W0 l (W0.heap.size+1) W0.heap.size (C7 A5 NM M.rg 0) AQ wr):=yb (by rw[CK];exact a.o)
 have d:=yb (G.o _ _ _ a.o)
 have u:=E6 d.o F.o.bs F.o.k24
 obtain ⟨lh,r⟩:∃h,h=L.rights:=⟨_,rfl⟩
 rw[<-r] at u
 have U:=yb r
 have s:Hid (lh.n=M.rg.length):=yb (by rw[r];exact F.o.rights.1)
 clear r d
 obtain ⟨la,T,lc⟩:=lh
 unfold AA.v at u
 dsimp only at u s
 refine Ai λK hK=>?_
 go_wp2_with fail
 clear u
 go_loopw [134] (λiv wr=>∃i:Nat,i<=T/\iv=iV i/\Hid (Dh 112 J Jx W0 l (W0.heap.size+1) W0.heap.size (C7 A5 NM M.rg i) AQ wr)) (λiv _=>T - (intOf iv).toNat)
 case atStart=>exact ⟨0,yC _,rfl,a⟩
 clear a
 obtain ⟨i,hi,rfl,a⟩:=hrel
 by_cases ai:i < T
 ·have C:i < M.rg.length:=by have:=s.o;omega
  have Y:wrap64 ((i:Int)+1)=((i+1:Nat):Int):=by
   have:=F.o.small
   unfold KV at this
   rw[Ay (by omega)];push_cast;rfl
  have aa:=yb Y
  have D:=yb (bo.o i C)
  have a8:=yb (CL (A:=A5) (f:=NM) C)
  clear Y
  obtain ⟨row,⟨b,o,z,I,Q,q,p⟩,b3,⟨s0,h0⟩,⟨s1,h1⟩,⟨s2,h2⟩,⟨s3,h3⟩,⟨s4,h4⟩,aw,ay⟩:=F.o.rights.2 i C
  rw[<-U.o] at z
  dsimp only at z
  subst z
  have HL:=yb q
  have H:=yb p
  have d:=yb (G.o _ _ _ a.o)
  have N:=yb (AI d.o I Q)
  have x:=yb (a.o.box HC.o row 127)
  have a7:(i:Int) < (T:Int):=by omega
  clear Q d I q p
  go_upto_region 37 with (first
   |(with_reducible refine yj rfl 127 _ rfl b (o+i*37) (by kernel_rfl) row _ N.o j0 (by kernel_rfl) (by rw[HL.o];kernel_rfl) ?_)
   |(with_reducible refine yt rfl 127 _ _ rfl wr.heap.size row.toArray (by kernel_rfl) (by kernel_rfl) 127 _ (World.alloc_heap_new _ _) (by rw[yA,HL.o];kernel_rfl) (by simp[HL.o]) (yL H.o) ?_;rw[World.setRow_alloc_new]))
  generalize a6:wr.heap.size=bx at x |-
  clear a6 a N
  have a:=x
  clear x
  generalize wr.alloc _=wr at a |-
  generalize M.rg[i]=rr at b3 s0 s1 s2 s3 s4 h0 h1 h2 h3 h4 aw ay D
  obtain ⟨kind,l3,l4,d0,d1,d2,d3,d4⟩:=rr
  dsimp only at b3 s0 s1 s2 s3 s4 h0 h1 h2 h3 h4 aw ay
  have y:Hid (∀V:World,V.heap[bx]?=some (.cells row.toArray 127 (0,0))->V.rangeAt bx 7 d0/\V.rangeAt bx 13 d1/\V.rangeAt bx 19 d2/\V.rangeAt bx 25 d3/\V.rangeAt bx 31 d4):=yb (λV h=>⟨s0.range h,s1.range h,s2.range h,s3.range h,s4.range h⟩)
  have ab:=yb h0
  have ac:=yb h1
  have ad:=yb h2
  have ag:=yb h3
  have ah:=yb h4
  have cz:=yb b3
  have d8:=yb aw
  have cv:=yb ay
  clear b3 s0 s1 s2 s3 s4 h0 h1 h2 h3 h4 aw ay
  have d:=yb (G.o _ _ _ a.o)
  have m:Hid (Calls prog 58 #[.slice (some (aV wr.heap.size 0)) 5 5,pV (W0.heap.size+1) 0,pV W0.heap.size 0] (wr.alloc (.cells ((d0++(d1++(d2++(d3++d4))))).toArray 40)) (Df 112 J Jx Jp W0 l (W0.heap.size+1) W0.heap.size (C7 A5 NM M.rg i+5) (Gd (W0.heap.size+1) bx row 127))):=yb (by
   have h:=BA I8 HC.o hn (AX _ _ _ _) a.o [d0,d1,d2,d3,d4] (by intro c hc;simp only[yq,yu,yV] at hc;rcases hc with rfl|rfl|rfl|rfl|rfl<;>first|exact ab.o|exact ac.o|exact ad.o|exact ag.o|exact ah.o) (by simp) (D.o)
   simp only[yD,yJ,yE,yr,yK,yy,Nat.reduceAdd] at h
   exact h)
  have g:Hid (wr.rangeAt bx 7 d0):=yb (by obtain ⟨O, -, -, -,h⟩:=a.o;exact (y.o _ h).1)
  have a2:Hid (wr.rangeAt bx 13 d1):=yb (by obtain ⟨O, -, -, -,h⟩:=a.o;exact (y.o _ h).2.1)
  have a1:Hid (wr.rangeAt bx 19 d2):=yb (by obtain ⟨O, -, -, -,h⟩:=a.o;exact (y.o _ h).2.2.1)
  have ae:Hid (wr.rangeAt bx 25 d3):=yb (by obtain ⟨O, -, -, -,h⟩:=a.o;exact (y.o _ h).2.2.2.1)
  have af:Hid (wr.rangeAt bx 31 d4):=yb (by obtain ⟨O, -, -, -,h⟩:=a.o;exact (y.o _ h).2.2.2.2)
  clear d
  go_wp2_with (first
   |(with_reducible refine yj rfl 40 _ rfl bx 7 (by kernel_rfl) d0 _ g.o ji (by kernel_rfl) (FH (ab.o).len) ?_;clear g)
   |(with_reducible refine yj rfl 40 _ rfl bx 13 (by kernel_rfl) d1 _ a2.o ji (by kernel_rfl) (FH (ac.o).len) ?_;clear a2)
   |(with_reducible refine yj rfl 40 _ rfl bx 19 (by kernel_rfl) d2 _ a1.o ji (by kernel_rfl) (FH (ad.o).len) ?_;clear a1)
   |(with_reducible refine yj rfl 40 _ rfl bx 25 (by kernel_rfl) d3 _ ae.o ji (by kernel_rfl) (FH (ag.o).len) ?_;clear ae)
   |(with_reducible refine yj rfl 40 _ rfl bx 31 (by kernel_rfl) d4 _ af.o ji (by kernel_rfl) (FH (ah.o).len) ?_;clear af)
   |(with_reducible refine Am rfl 38 40 _ [d0,d1,d2,d3,d4] 5 rfl ((d0++(d1++(d2++(d3++d4))))) (by simp only[yD,yJ,yE]) rfl (by kernel_rfl) 6 jg (by kernel_rfl) (by intro c hc;simp only[yq,yu,yV] at hc;rcases hc with rfl|rfl|rfl|rfl|rfl<;>first|exact (ab.o).len|exact (ac.o).len|exact (ad.o).len|exact (ag.o).len|exact (ah.o).len) (by omega) (by omega) ?_)
   |(go_at_call 58;refine m.o.mono ?_;rintro e w2 (⟨rfl,hr⟩|⟨ch,rfl,hp⟩);rotate_left;exact ⟨rfl,.inr ⟨ch,rfl,hp⟩⟩;have E:=yb hr;clear hr))
  clear m a
  have a:=E
  clear E
  rw[aa.o]
  exact ⟨⟨i+1,by omega,rfl,yb (by rw[a8.o];exact a.o.no)⟩,by simp[intOf];omega⟩
 obtain rfl:i=T:=by omega
 have a7:decide ((i:Int) < (i:Int))=false:=by simp
 have R:Hid (Dh 112 J Jx W0 l (W0.heap.size+1) W0.heap.size (A6.length) AQ wr):=yb (by have h:=a.o;rw[s.o] at h;rw[cd.o];exact h)
 clear a U
 go_wp2
 refine hK.o _ _ ?_
 clear hK
 have a:=R
 clear R s
 replace a:Hid (Dh 112 J Jx W0 l (W0.heap.size+1) W0.heap.size (C7 A6 D9 M.ds 0) AQ wr):=yb (by rw[CK];exact a.o)
 have d:=yb (G.o _ _ _ a.o)
 have u:=E6 d.o F.o.bs F.o.k25
 obtain ⟨lh,r⟩:∃h,h=L.duties:=⟨_,rfl⟩
 rw[<-r] at u
 have U:=yb r
 have s:Hid (lh.n=M.ds.length):=yb (by rw[r];exact F.o.duties.1)
 clear r d
 obtain ⟨la,T,lc⟩:=lh
 unfold AA.v at u
 dsimp only at u s
 go_wp2_with fail
 clear u
 go_loopw [155] (λiv wr=>∃i:Nat,i<=T/\iv=iV i/\Hid (Dh 112 J Jx W0 l (W0.heap.size+1) W0.heap.size (C7 A6 D9 M.ds i) AQ wr)) (λiv _=>T - (intOf iv).toNat)
 case atStart=>exact ⟨0,yC _,rfl,a⟩
 clear a
 obtain ⟨i,hi,rfl,a⟩:=hrel
 by_cases ai:i < T
 ·have C:i < M.ds.length:=by have:=s.o;omega
  have Y:wrap64 ((i:Int)+1)=((i+1:Nat):Int):=by
   have:=F.o.small
   unfold KV at this
   rw[Ay (by omega)];push_cast;rfl
  have aa:=yb Y
  have D:=yb (cb.o i C)
  have a8:=yb (CL (A:=A6) (f:=D9) C)
  clear Y
  obtain ⟨row,⟨b,o,z,I,Q,q,p⟩,S,h6⟩:=F.o.duties.2 i C
  rw[<-U.o] at z
  dsimp only at z
  subst z
  have HL:=yb q
  have H:=yb p
  have d:=yb (G.o _ _ _ a.o)
  have N:=yb (AI d.o I Q)
  have x:=yb (a.o.box HC.o row 129)
  have a7:(i:Int) < (T:Int):=by omega
  clear Q d I q p
  go_upto_region 42 with (first
   |(with_reducible refine yj rfl 129 _ rfl b (o+i*11) (by kernel_rfl) row _ N.o j1 (by kernel_rfl) (by rw[HL.o];kernel_rfl) ?_)
   |(with_reducible refine yt rfl 129 _ _ rfl wr.heap.size row.toArray (by kernel_rfl) (by kernel_rfl) 129 _ (World.alloc_heap_new _ _) (by rw[yA,HL.o];kernel_rfl) (by simp[HL.o]) (yL H.o) ?_;rw[World.setRow_alloc_new]))
  generalize a6:wr.heap.size=bx at x |-
  clear a6 a N
  have a:=x
  clear x
  generalize wr.alloc _=wr at a |-
  have H6:=yb h6
  have HSub:=yb S
  clear h6 S
  generalize M.ds[i]=Z at H6 HSub D
  have y:Hid (∀V:World,V.heap[bx]?=some (.cells row.toArray 129 (0,0))->V.rangeAt bx 5 Z/\True):=yb (λV h=>⟨HSub.o.range h,trivial⟩)
  have d:=yb (G.o _ _ _ a.o)
  have m:Hid (Calls prog 58 #[.slice (some (aV wr.heap.size 0)) 1 1,pV (W0.heap.size+1) 0,pV W0.heap.size 0] (wr.alloc (.cells (Z).toArray 40)) (Df 112 J Jx Jp W0 l (W0.heap.size+1) W0.heap.size (C7 A6 D9 M.ds i+1) (Gd (W0.heap.size+1) bx row 129))):=yb (by
   have h:=BA I8 HC.o hn (AX _ _ _ _) a.o [Z] (by intro c hc;simp only[yq,yu,yV] at hc;rcases hc with rfl<;>first|exact H6.o) (by simp) (D.o)
   simp only[yD,yJ,yE,yr,yK,yy,Nat.reduceAdd] at h
   exact h)
  have g:Hid (wr.rangeAt bx 5 Z):=yb (by obtain ⟨O, -, -, -,h⟩:=a.o;exact (y.o _ h).1)
  clear d
  go_wp2_with (first
   |(with_reducible refine yj rfl 40 _ rfl bx 5 (by kernel_rfl) Z _ g.o ji (by kernel_rfl) (FH (H6.o).len) ?_;clear g)
   |(with_reducible refine Am rfl 38 40 _ [Z] 1 rfl (Z) (by simp only[yD,yJ,yE]) rfl (by kernel_rfl) 6 jg (by kernel_rfl) (by intro c hc;simp only[yq,yu,yV] at hc;rcases hc with rfl<;>first|exact (H6.o).len) (by omega) (by omega) ?_)
   |(go_at_call 58;refine m.o.mono ?_;rintro e w2 (⟨rfl,hr⟩|⟨ch,rfl,hp⟩);rotate_left;exact ⟨rfl,.inr ⟨ch,rfl,hp⟩⟩;have E:=yb hr;clear hr))
  clear m a
  have a:=E
  clear E
  rw[aa.o]
  exact ⟨⟨i+1,by omega,rfl,yb (by rw[a8.o];exact a.o.no)⟩,by simp[intOf];omega⟩
 obtain rfl:i=T:=by omega
 have a7:decide ((i:Int) < (i:Int))=false:=by simp
 have R:Hid (Dh 112 J Jx W0 l (W0.heap.size+1) W0.heap.size (A7.length) AQ wr):=yb (by have h:=a.o;rw[s.o] at h;rw[cg.o];exact h)
 clear a U
 go_wp2
 have a:=R
 clear R s
 refine qE (zr rfl _ _ _) rfl (.inl ⟨⟨_,rfl⟩,?_⟩)
 obtain ⟨O,h1, -⟩:=a.o
 rw[HE.o]
 exact h1.st.imp (λh=>⟨O,h.2⟩) (λh=>⟨O,h.2⟩)
end Go.Proofs.YtbdfinegbjdblaaGreatDoor
