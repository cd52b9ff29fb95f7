/- ref19.valid, ref19.Check (printed by gen_dg.py). -/
import Derived.Test.YtbdfinegbjdblaaGreatDoorWq0
import Derived.Test.YtbdfinegbjdblaaGreatDoorWq21
set_option maxRecDepth 100000
set_option maxHeartbeats 32000000
set_option linter.unusedSimpArgs false
namespace Go.Proofs.YtbdfinegbjdblaaGreatDoor
open Go.RowKit
theorem XZ(hours cap start:Int):(AL [1,hours,4096]&&AL [0,start,cap,1099511627776])=(wi hours 1 4096&&(wi start 0 cap&&!decide (cap>1099511627776))):=by
 rw[zo]
 simp only[wi,FN,FO,xL,yw,yM,qR,xW]
 omega
theorem Y0(b a:Nat)(hours:Int)(x:QJ):KQ b a hours x=(wi x.farm 0 ((b:Int) - 1)&&(wi x.reach 0 ((a:Int) - 1)&&wi x.due 0 hours)):=by
 rw[zo]
 simp only[KQ,wi,K1,FN,FO,xL,yw,yM]
 omega
theorem Z6(a b c:Bool):a=false\/(a=true/\b=false)\/(a=true/\b=true/\c=true)\/(a=true/\b=true/\c=false):=by
 cases a<;>cases b<;>cases c<;>simp
theorem Ra{N:NP}{w:World}{hr hf hc hg hd hw:AA}{cs:LV}{d:Bk}(h:Ij N w hr hf hc hg hd hw cs d)(hN:∀b,N b->b < w.heap.size):Calls Tryz.prog 31 #[.agg cs.toArray] w λe w'=>e=.returned (.bool (Gn d))/\Below w.heap.size w w':=by
 have HV:=yb h
 obtain ⟨dn,hours,cap,start,H,lf,lc,U,ld⟩:=d
 have b4:=h.cells
 have HG:=yb h.rights
 have HD:=yb h.duties
 have ax:=yb hN
 have ag:=h.reaches.1
 have ae:=h.farms.1
 have b8:=h.reaches.2.1
 have az:=h.farms.2.1
 have af:Hid (∀W,Below w.heap.size w W->Calls Tryz.prog 54 #[hr.v] W λe w'=>e=.returned (.bool (Ii H&&decide (0 < H.length)))/\Below W.heap.size W w'):=yb (λW hb=>NK (h.reaches.same (N':=λb=>b < W.heap.size) (λb g=>yx (hN b g) hb.size) (λb g=>hb.block b (hN b g)) λ_ _ h=>h) (λ_ h=>h))
 have ao:Hid (∀W,Below w.heap.size w W->Calls Tryz.prog 55 #[.agg cs.toArray] W λe w'=>e=.returned (.bool (lc.all Jo&&lf.all (Jq lc.length H.length)))/\Below W.heap.size W w'):=yb (λW hb=>R9 (h.same (N':=λb=>b < W.heap.size) (λb g=>yx (hN b g) hb.size) (λb g=>hb.block b (hN b g))) (λ_ h=>h))
 obtain ⟨ok,am⟩:∃ok,ok=Gn ⟨dn,hours,cap,start,H,lf,lc,U,ld⟩:=⟨_,rfl⟩
 rw[<-am]
 have G:ok=((wi hours 1 4096&&(wi start 0 cap&&!decide (cap>1099511627776)))&&((Ii H&&decide (0 < H.length))&&((lc.all Jo&&lf.all (Jq lc.length H.length))&&(U.all (IQ lf.length H.length hours)&&ld.all (KQ lf.length H.length hours))))):=by
  rw[am,<-XZ]
  unfold Gn
  dsimp only
  generalize AL [1,hours,4096]=q1
  generalize AL [0,start,cap,1099511627776]=q2
  generalize decide (0 < H.length)=q3
  generalize Ii H=q4
  cases q1<;>cases q2<;>cases q3<;>cases q4<;>simp[Bool.and_assoc]
 clear am
 dsimp only at b4 HG HD ag ae b8 az
 generalize (Ii H&&decide (0 < H.length))=k1 at*
 generalize (lc.all Jo&&lf.all (Jq lc.length H.length))=k2 at*
 rw[<-ag,<-ae] at G
 subst b4
 clear h hN HV
 obtain ⟨ra,rn,rc⟩:=hr
 obtain ⟨fa,fn,fc⟩:=hf
 obtain ⟨ca,cn,cc⟩:=hc
 obtain ⟨ga,y,gc⟩:=hg
 obtain ⟨da,A,dc⟩:=hd
 dsimp only at ag ae G
 have s:rn<=140737488355328:=by omega
 have g:fn<=140737488355328:=by omega
 have av:Hid (∀(x:CA) W,1<=hours->hours<=4096->Calls Tryz.prog 56 #[.agg (DW dn hours cap start ⟨ra,rn,rc⟩ ⟨fa,fn,fc⟩ ⟨ca,cn,cc⟩ ⟨ga,y,gc⟩ ⟨da,A,dc⟩ hw).toArray,.agg (AZ x).toArray] W λe w'=>e=.returned (.bool (IQ fn rn hours x))/\Below W.heap.size W w'):=yb (λx W g1 g2=>R6 dn hours cap start ⟨ra,rn,rc⟩ ⟨fa,fn,fc⟩ _ _ _ _ x W g1 g2 g s)
 have f:=yb (FM w (DW dn hours cap start ⟨ra,rn,rc⟩ ⟨fa,fn,fc⟩ ⟨ca,cn,cc⟩ ⟨ga,y,gc⟩ ⟨da,A,dc⟩ hw) 31)
 obtain ⟨r1,aw⟩:∃m,m=(rn:Int) - 1:=⟨_,rfl⟩
 obtain ⟨f1,ay⟩:∃m,m=(fn:Int) - 1:=⟨_,rfl⟩
 have bg:IntKind.i64.wrap ((rn:Int) - 1)=r1:=by rw[zF];omega
 have bh:IntKind.i64.wrap ((fn:Int) - 1)=f1:=by rw[zF];omega
 have ba:=yb aw;have bd:=yb ay
 have E:=yb G
 clear G ag ae b8 az s g aw ay
 unfold DW AA.v at*
 dsimp only at*
 have H1:=yb (λW:World=>AW hours 1 4096 W)
 have H2:=yb (λW:World=>AW start 0 cap W)
 obtain ⟨b1,s⟩:∃b,wi hours 1 4096=b:=⟨_,rfl⟩
 obtain ⟨b2,g⟩:∃b,wi start 0 cap=b:=⟨_,rfl⟩
 obtain ⟨b3,ac⟩:∃b,decide (cap>1099511627776)=b:=⟨_,rfl⟩
 rw[s,g,ac] at E
 rw[s] at H1
 rw[g] at H2
 have HH:Hid (b1=true->1<=hours/\hours<=4096):=yb (λh=>by rw[<-s] at h;simpa only[wi,yw,yM] using h)
 clear s g
 go_enter Tryz.func31,Tryz.ntmps31
 refine Ai λK r=>?_
 go_wp2
 refine r.o _ _ ?_
 clear r K
 generalize w.alloc _=wr at f |-
 obtain ⟨R,S,Q,I,M,L,J,F,O,P⟩:=BV f.o.x
 refine Ai λK r=>?_
 rcases Z6 b1 b2 b3 with rfl|⟨rfl,rfl⟩|⟨rfl,rfl,rfl⟩|⟨rfl,rfl,rfl⟩
 iterate 3
  ·go_wp2_with (first
    |(go_at_call 53;with_reducible refine (H1.o _).mono ?_;rintro e w2 ⟨rfl,rfl⟩)
    |(go_at_call 53;with_reducible refine (H2.o _).mono ?_;rintro e w2 ⟨rfl,rfl⟩))
   go_ret
   exact ⟨by rw[E.o];rfl,f.o.below⟩
 go_wp2_with (first
  |(go_at_call 53;with_reducible refine (H1.o _).mono ?_;rintro e w2 ⟨rfl,rfl⟩)
  |(go_at_call 53;with_reducible refine (H2.o _).mono ?_;rintro e w2 ⟨rfl,rfl⟩))
 refine r.o _ _ ?_
 clear r K H1 H2
 have b5:=yb (HH.o (by trivial))
 clear HH
 refine Ai λK r=>?_
 have D:=yb (Ae f.o.x)
 cases k1
 ·go_wp2_with (go_at_call 54;with_reducible refine (af.o _ f.o.below).mono ?_;rintro e w2 ⟨rfl,hb⟩;have l:=yb (f.o.up hb);clear hb f;have f:=l;clear l)
  go_ret
  exact ⟨by rw[E.o];rfl,f.o.below⟩
 cases k2
 ·go_wp2_with (first
   |(go_at_call 54;with_reducible refine (af.o _ f.o.below).mono ?_;rintro e w2 ⟨rfl,hb⟩;have l:=yb (f.o.up hb);clear hb f;have f:=l;clear l;clear D;have D:=yb (Ae f.o.x))
   |(with_reducible refine Bn (by kernel_rfl) 31 (.tmp 1) rfl w.heap.size 0 (by kernel_rfl) _ _ D.o jf rfl (by kernel_rfl) ?_)
   |(go_at_call 55;with_reducible refine (ao.o _ f.o.below).mono ?_;rintro e w2 ⟨rfl,hb⟩;have l:=yb (f.o.up hb);clear hb f;have f:=l;clear l))
  go_ret
  exact ⟨by rw[E.o];rfl,f.o.below⟩
 go_wp2_with (first
   |(go_at_call 54;with_reducible refine (af.o _ f.o.below).mono ?_;rintro e w2 ⟨rfl,hb⟩;have l:=yb (f.o.up hb);clear hb f;have f:=l;clear l;clear D;have D:=yb (Ae f.o.x))
   |(with_reducible refine Bn (by kernel_rfl) 31 (.tmp 1) rfl w.heap.size 0 (by kernel_rfl) _ _ D.o jf rfl (by kernel_rfl) ?_)
   |(go_at_call 55;with_reducible refine (ao.o _ f.o.below).mono ?_;rintro e w2 ⟨rfl,hb⟩;have l:=yb (f.o.up hb);clear hb f;have f:=l;clear l))
 refine r.o _ _ ?_
 clear r K af ao D R S Q I M L J F O P
 have t:Hid (y=U.length):=yb HG.o.1
 have Y:Hid (U.length<=140737488355328):=yb HG.o.2.1
 refine Ai λK r=>?_
 obtain ⟨R,S,Q,I,M,L,J,F,O,P⟩:=BV f.o.x
 go_wp2_with fail
 clear R S Q I M L J F O P
 go_loopw [3] (λiv wr=>∃i:Nat,i<=y/\iv=iV i/\Hid (MJ w [.string dn,iV hours,iV cap,iV start,.slice ra rn rc,.slice fa fn fc,.slice ca cn cc,.slice ga y gc,.slice da A dc,.slice hw.a hw.n hw.c] 31 wr)/\Hid (∀j (hj:j < U.length),j < i->IQ fn rn hours U[j]=true)) (λiv _=>y - (intOf iv).toNat)
 case atStart=>exact ⟨0,yC _,rfl,f,yb (λj _ hj=>absurd hj (by omega))⟩
 clear f
 obtain ⟨i,hi,rfl,f,HT⟩:=hrel
 by_cases Z:i < y
 ·have X:i < U.length:=by rw[<-t.o];exact Z
  have ab:wrap64 ((i:Int)+1)=((i+1:Nat):Int):=by rw[Ay (by have:=Y.o;omega)];push_cast;rfl
  have au:=yb ab
  clear ab
  obtain ⟨b,o,row,a2,a1,B,aa,z⟩:=HG.o.2.2 i X
  dsimp only at a2
  subst a2
  have an:(i:Int) < (y:Int):=by omega
  have u:=yb X
  obtain ⟨bi,ak⟩:∃q,IQ fn rn hours U[i]=q:=⟨_,rfl⟩
  have a6:=yb ak
  have b0:=yb (λW=>av.o U[i] W b5.o.1 b5.o.2)
  rw[ak] at b0
  obtain rfl:row=AZ U[i]:=z
  generalize AZ U[i]=row at*
  have HL:=yb B
  have ad:Hid (MJ w [.string dn,iV hours,iV cap,iV start,.slice ra rn rc,.slice fa fn fc,.slice ca cn cc,.slice (some (aV b o)) y gc,.slice da A dc,.slice hw.a hw.n hw.c] 31 wr.drew):=yb (f.o.up (yg _ _).drew)
  have a7:Hid (wr.drew.rangeAt b (o+i*10) row):=yb (A8 aa (ad.o.below.block _ (ax.o b a1)))
  obtain ⟨R,S,Q,I,M,L,J,F,O,P⟩:=BV f.o.x
  clear aa a1 B hi Z ak
  go_upto_region 8 with fail
  clear R S Q I M L J F O P
  refine Kq ?_
  refine Dl (by kernel_rfl) (λV=>V.rangeAt w.heap.size 0 [.string dn,iV hours,iV cap,iV start,.slice ra rn rc,.slice fa fn fc,.slice ca cn cc,.slice (some (aV b o)) y gc,.slice da A dc,.slice hw.a hw.n hw.c]/\V.rangeAt b (o+i*10) row) 6 ?_
  have C:=yb (And.intro (Ae ad.o.x) a7.o)
  refine GC (by kernel_rfl) (λ_ _ _ _ _ h=>by cases h.1) C.o [(1,43,pV w.heap.size 7),(3,45,iV i)] 6 _ _ (by kernel_rfl) ?_ ?_
  ·simp only[Ct]
   refine ⟨?_,?_,trivial⟩
   all_goals
    intro o ho V hV
    obtain rfl:=yf ho
    go_simp
  simp only[Cs]
  refine BN (T:=λV=>V.rangeAt w.heap.size 0 [.string dn,iV hours,iV cap,iV start,.slice ra rn rc,.slice fa fn fc,.slice ca cn cc,.slice (some (aV b o)) y gc,.slice da A dc,.slice hw.a hw.n hw.c]/\V.rangeAt b (o+i*10) row) (k:=6) (by kernel_rfl) (λ_ _ _ _ _ h=>by cases h.1) C.o [(0,42,.agg [.string dn,iV hours,iV cap,iV start,.slice ra rn rc,.slice fa fn fc,.slice ca cn cc,.slice (some (aV b o)) y gc,.slice da A dc,.slice hw.a hw.n hw.c].toArray)] 5 _ _ (by kernel_rfl) ?_ ?_
  ·simp only[Ct]
   refine ⟨?_,trivial⟩
   intro o ho V hV
   obtain rfl:=yf ho
   exact C1 31 (.tmp 1) rfl w.heap.size 0 (by kernel_rfl) _ _ hV.1 jf rfl (by kernel_rfl)
  simp only[Cs]
  have F:=C.o.1 7 _ rfl
  refine Aq (i:=2) (by kernel_rfl) rfl rfl (λK r=>?_)
  go_simp
  refine r.o _ _ (λ_=>C.o) ?_
  clear r K F
  refine Aq (i:=4) (by kernel_rfl) rfl rfl (λK r=>?_)
  go_simp
  refine r.o _ _ (λ_=>C.o) ?_
  clear r K
  refine BN (T:=λV=>V.rangeAt w.heap.size 0 [.string dn,iV hours,iV cap,iV start,.slice ra rn rc,.slice fa fn fc,.slice ca cn cc,.slice (some (aV b o)) y gc,.slice da A dc,.slice hw.a hw.n hw.c]/\V.rangeAt b (o+i*10) row) (k:=6) (by kernel_rfl) (λ_ _ _ _ _ h=>by cases h.1) C.o [(5,47,.agg row.toArray)] 2 _ _ (by kernel_rfl) ?_ ?_
  ·simp only[Ct]
   refine ⟨?_,trivial⟩
   intro o ho V hV
   obtain rfl:=yf ho
   exact C1 62 (.tmp 46) rfl b _ (by kernel_rfl) row _ hV.2 jw rfl (by rw[HL.o];kernel_rfl)
  clear C
  generalize wr.drew=wr at ad |-
  clear f a7
  have f:=ad
  clear ad
  simp only[Cs]
  refine Aq (i:=6) (by kernel_rfl) rfl rfl (λK r=>?_)
  go_simp
  refine (b0.o _).mono ?_
  rintro e w2 ⟨rfl,hb⟩
  have l:=yb (f.o.up hb);clear hb f;have f:=l;clear l
  cases bi
  ·go_simp
   refine r.o _ _ (by intro h;cases h) ?_
   clear r K
   refine Aq (i:=7) (by kernel_rfl) rfl rfl (λK r=>?_)
   go_simp
   refine r.o _ _ (by intro h;cases h) ?_
   clear r K
   refine AP (by kernel_rfl) ?_
   refine ⟨rfl,?_⟩
   go_wp2
   go_ret
   exact ⟨by rw[E.o,EK u.o a6.o];rfl,f.o.below⟩
  go_simp
  refine r.o _ _ (by intro h;cases h) ?_
  clear r K
  refine Aq (i:=7) (by kernel_rfl) rfl rfl (λK r=>?_)
  go_simp
  refine r.o _ _ (by intro h;cases h) ?_
  clear r K
  refine AP (by kernel_rfl) ?_
  refine ⟨rfl,?_⟩
  go_wp2
  rw[au.o]
  exact ⟨⟨i+1,by have:=t.o;have:=u.o;omega,rfl,f,yb (DY (p:=λIX EL=>IQ fn rn hours EL) HT.o u.o a6.o)⟩,by simp[intOf];have:=t.o;have:=u.o;omega⟩
 obtain rfl:y=i:=by omega
 have an:decide ((y:Int) < (y:Int))=false:=by simp
 have b9:Hid (U.all (IQ fn rn hours)=true):=yb (I1 HT.o (by rw[t.o];exact yi _))
 clear HT t Y av
 obtain ⟨R,S,Q,I,M,L,J,F,O,P⟩:=BV f.o.x
 go_wp2
 refine r.o _ _ ?_
 clear r R S Q I M L J F O P
 have t:Hid (A=ld.length):=yb HD.o.1
 have Y:Hid (ld.length<=140737488355328):=yb HD.o.2.1
 refine Ai λK r=>?_
 obtain ⟨R,S,Q,I,M,L,J,F,O,P⟩:=BV f.o.x
 go_wp2_with fail
 clear R S Q I M L J F O P
 go_loopw [4] (λiv wr=>∃i:Nat,i<=A/\iv=iV i/\Hid (MJ w [.string dn,iV hours,iV cap,iV start,.slice ra rn rc,.slice fa fn fc,.slice ca cn cc,.slice ga y gc,.slice da A dc,.slice hw.a hw.n hw.c] 31 wr)/\Hid (∀j (hj:j < ld.length),j < i->KQ fn rn hours ld[j]=true)) (λiv _=>A - (intOf iv).toNat)
 case atStart=>exact ⟨0,yC _,rfl,f,yb (λj _ hj=>absurd hj (by omega))⟩
 clear f
 obtain ⟨i,hi,rfl,f,HT⟩:=hrel
 by_cases Z:i < A
 ·have X:i < ld.length:=by rw[<-t.o];exact Z
  have ab:wrap64 ((i:Int)+1)=((i+1:Nat):Int):=by rw[Ay (by have:=Y.o;omega)];push_cast;rfl
  have au:=yb ab
  clear ab
  obtain ⟨b,o,row,a2,a1,B,aa,z⟩:=HD.o.2.2 i X
  dsimp only at a2
  subst a2
  have a7:Hid (wr.rangeAt b (o+i*4) row):=yb (A8 aa (f.o.below.block _ (ax.o b a1)))
  have HL:=yb B
  have ah:Hid (∀v∈row,v.oneCell'=true):=yb (by rw[z];simp[Jr,Value.oneCell'])
  have ai:=yb z
  have b7:=yb (f.o.up ((yg _ _).alloc (yi _) (.cells row.toArray 140)))
  have al:Hid ((wr.alloc (.cells row.toArray 140)).heap[wr.heap.size]?=some (.cells row.toArray 140 (0,0))):=yb (World.alloc_heap_new _ _)
  have an:(i:Int) < (A:Int):=by omega
  have u:=yb X
  obtain ⟨R,S,Q,I,M,L,J,F,O,P⟩:=BV f.o.x
  clear aa a1 B z hi Z
  go_upto_region 14 with (first
   |(with_reducible refine yj rfl 140 _ rfl b (o+i*4) (by kernel_rfl) row _ a7.o j2 (by kernel_rfl) (by rw[HL.o];kernel_rfl) ?_)
   |(with_reducible refine yt rfl 140 _ _ rfl wr.heap.size row.toArray (by kernel_rfl) (by kernel_rfl) 140 _ (World.alloc_heap_new _ _) (by rw[yA,HL.o];kernel_rfl) (by simp[HL.o]) (yL ah.o) ?_;rw[World.setRow_alloc_new]))
  generalize be:wr.heap.size=bx at al |-
  clear be f a7 ah R S Q I M L J F O P
  have f:=b7
  clear b7
  generalize wr.alloc _=wr at f al |-
  obtain ⟨x,hx⟩:∃x,ld[i]=x:=⟨_,rfl⟩
  have a8:row=Jr x:=by rw[<-hx];exact ai.o
  have hz:=al.o
  rw[a8] at hz
  obtain ⟨z0,z1,z2,z3⟩:=Vj hz
  obtain ⟨R,S,Q,I,M,L,J,F,O,P⟩:=BV f.o.x
  obtain ⟨b1,s⟩:∃q,wi x.farm 0 f1=q:=⟨_,rfl⟩
  obtain ⟨b2,g⟩:∃q,wi x.reach 0 r1=q:=⟨_,rfl⟩
  obtain ⟨b3,ac⟩:∃q,wi x.due 0 hours=q:=⟨_,rfl⟩
  have a6:Hid (KQ fn rn hours ld[i]=(b1&&(b2&&b3))):=yb (by rw[hx,Y0,<-ba.o,<-bd.o,s,g,ac])
  have ap:=yb (λW:World=>AW x.farm 0 f1 W)
  have aj:=yb (λW:World=>AW x.reach 0 r1 W)
  have aq:=yb (λW:World=>AW x.due 0 hours W)
  rw[s] at ap
  rw[g] at aj
  rw[ac] at aq
  generalize x.farm=xf at*
  generalize x.reach=xr at*
  generalize x.due=xd at*
  generalize x.name=xn at*
  clear hx a8 hz ai s g ac
  rcases Wv b1 b2 b3 with rfl|⟨rfl,rfl⟩|⟨rfl,rfl,rfl⟩|⟨rfl,rfl,rfl⟩
  rotate_left 3
  ·go_wp2_with (first
     |(go_at_call 53;with_reducible refine (ap.o _).mono ?_;rintro e w2 ⟨rfl,rfl⟩)
     |(go_at_call 53;with_reducible refine (aj.o _).mono ?_;rintro e w2 ⟨rfl,rfl⟩)
     |(go_at_call 53;with_reducible refine (aq.o _).mono ?_;rintro e w2 ⟨rfl,rfl⟩))
   rw[au.o]
   exact ⟨⟨i+1,by have:=t.o;have:=u.o;omega,rfl,f,yb (DY (p:=λIX EL=>KQ fn rn hours EL) HT.o u.o a6.o)⟩,by simp[intOf];have:=t.o;have:=u.o;omega⟩
  all_goals
   go_wp2_with (first
     |(go_at_call 53;with_reducible refine (ap.o _).mono ?_;rintro e w2 ⟨rfl,rfl⟩)
     |(go_at_call 53;with_reducible refine (aj.o _).mono ?_;rintro e w2 ⟨rfl,rfl⟩)
     |(go_at_call 53;with_reducible refine (aq.o _).mono ?_;rintro e w2 ⟨rfl,rfl⟩))
   go_ret
   exact ⟨by rw[E.o,b9.o,EK u.o a6.o];rfl,f.o.below⟩
 obtain rfl:A=i:=by omega
 have an:decide ((A:Int) < (A:Int))=false:=by simp
 have bb:Hid (ld.all (KQ fn rn hours)=true):=yb (I1 HT.o (by rw[t.o];exact yi _))
 clear HT t Y
 obtain ⟨R,S,Q,I,M,L,J,F,O,P⟩:=BV f.o.x
 go_wp2
 refine r.o _ _ ?_
 clear r
 go_wp2
 go_ret
 exact ⟨by rw[E.o,b9.o,bb.o];rfl,f.o.below⟩
end Go.Proofs.YtbdfinegbjdblaaGreatDoor
