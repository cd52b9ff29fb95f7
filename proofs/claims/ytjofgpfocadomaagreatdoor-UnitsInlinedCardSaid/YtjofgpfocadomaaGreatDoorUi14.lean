/- Parts of the proof, in short words: Gn Gp Gq Gr Gs Gt Gv Hi -/
import Derived.Test.YtjofgpfocadomaaGreatDoorUi0
import Derived.Test.YtjofgpfocadomaaGreatDoorUi13
import Derived.Test.YtjofgpfocadomaaGreatDoorUi12
import Derived.Test.YtjofgpfocadomaaGreatDoorUi9
import Derived.Deep.RegionHeld2
import Derived.Test.YtjofgpfocadomaaGreatDoorUi3
set_option maxRecDepth 100000
set_option maxHeartbeats 8000000
set_option linter.unusedSimpArgs false
namespace Go.Proofs.YtjofgpfocadomaaGreatDoor
open Go.RowKit
set_option linter.unusedSimpArgs false
theorem CW:GA On=true:=by decide
theorem To{op:Int}{a b:Dm}(c:GA a=true):GA (QP op a b).1=true:=by
 unfold QP
 split
 ·exact c
 ·generalize RP (if op=5 then 1 else -1) a b=d
  simp only
  by_cases h:GA d=true
  ·rw[yw h];exact h
  ·rw[yt h];exact CW
theorem Uu{op:Int}{a b:Qn × Bool}(c:GA a.1.dim=true):GA (Vs op a b).1.dim=true:=by
 unfold Vs
 split
 ·simp only
  split
  ·split
   ·exact To c
   ·split<;>exact To c
  ·exact CW
 ·exact CW
theorem Tp(u:Int):GA (H9 u)=true:=by
 unfold H9
 split;decide;split;decide;split<;>decide
theorem OB(n u:Int):GA (Oq n u).dim=true:=by
 unfold Oq
 split<;>exact Tp u
theorem Mt{a:List Kn}(b:∀k∈a,GA k.q.dim=true)(rn:ByteArray)(ri:Int):GA (GB a rn ri).1.dim=true:=by
 unfold GB
 split
 ·rename_i k h
  split
  ·exact b k (zX h)
  ·exact CW
 ·exact CW
theorem QS{a:List Kn}(b:∀k∈a,GA k.q.dim=true):∀(left:Nat) (e:Ex),GA (DY a left e).1.dim=true:=by
 intro left
 induction left with
 |zero=>
  rintro ⟨op,n,u,rn,ri,args⟩
  by_cases h1:op=1
  ·subst h1;rw[F4];split
   ·exact OB _ _
   ·exact CW
  ·by_cases h2:op=2
   ·subst h2;rw[EB];split
    ·exact Mt b _ _
    ·exact CW
   ·rw[Cy a 0 h1 h2 _ _ _ _ _ (.inl rfl)];exact CW
 |succ l ih=>
  rintro ⟨op,n,u,rn,ri,args⟩
  by_cases h1:op=1
  ·subst h1;rw[F4];split
   ·exact OB _ _
   ·exact CW
  ·by_cases h2:op=2
   ·subst h2;rw[EB];split
    ·exact Mt b _ _
    ·exact CW
   ·by_cases h3:args.length=2
    ·obtain ⟨x,y,rfl⟩:∃x y,args=[x,y]:=by
      match args,h3 with
      |[x,y],_=>exact ⟨x,y,rfl⟩
     rw[F5 a l h1 h2]
     split
     ·exact Uu (ih x)
     ·exact CW
    ·rw[Cy a _ h1 h2 _ _ _ _ _ (.inr h3)];exact CW
theorem Tq(c:List Kn)(w:∀k∈c,GA k.q.dim=true)(h:Au):∀(left:Nat),left<=8->∀(e:Ex) (cs:LV) (W:World),GU W->Ph W h c->AG (fun b=>b < W.heap.size) W e cs->
  Calls Tryz.prog 38 #[h.v,.agg cs.toArray,.int .i64 left] W (Oy (DY c left e) W):=by
 have o:∀(left:Nat) (e:Ex) (cs:LV) (W:World),GU W->Ph W h c->AG (fun b=>b < W.heap.size) W e cs->(∀op n u rn ri args a cap,e=.mk op n u rn ri args->cs=[iV op,iV n,iV u,.string rn,iV ri,.slice a args.length cap]->D8 (fun b=>b < W.heap.size) W a 0 args->Tn op left n u rn ri args.length->Calls Tryz.prog 38 #[h.v,.agg cs.toArray,iV left] W (Oy (DY c left e) W))->
   Calls Tryz.prog 38 #[h.v,.agg cs.toArray,iV left] W (Oy (DY c left e) W):=by
  rintro left ⟨op,n,u,rn,ri,args⟩ cs W m j p f
  obtain ⟨a,cap,rfl,r,z,d⟩:=p.cells
  simp only[Ex.op,Ex.n,Ex.u,Ex.rn,Ex.ri,Ex.args] at r z d f ⊢
  by_cases h1:op=1
  ·subst h1
   rw[F4]
   have:=Ve h.v left n u rn ri a args.length cap W m
   by_cases hb:IM n u rn ri args.length
   ·rw[yw hb] at this
    rw[yt hb];exact this
   ·rw[yt hb] at this
    rw[yw (Decidable.not_not.1 hb)];exact this
  ·by_cases h2:op=2
   ·subst h2
    rw[EB]
    exact Vf c h left n u rn ri a args.length cap W j
   ·by_cases g:Tn op left n u rn ri args.length
    ·exact f op n u rn ri args a cap rfl rfl d g
    ·have B:DY c left (.mk op n u rn ri args)=(Fq,false):=by
      by_cases h3:args.length=2
      ·cases left with
       |zero=>exact Cy c 0 h1 h2 _ _ _ _ _ (.inl rfl)
       |succ l=>
        obtain ⟨x,y,rfl⟩:∃x y,args=[x,y]:=by
         match args,h3 with
         |[x,y],_=>exact ⟨x,y,rfl⟩
        rw[F5 c l h1 h2,yt]
        intro i
        unfold Um at i
        simp only[yG,z7] at i
        exact g ⟨i.1,i.2.1,by omega,rfl,i.2.2.1,i.2.2.2.1,i.2.2.2.2⟩
      ·exact Cy c left h1 h2 _ _ _ _ _ (.inr h3)
     rw[B]
     exact Vg h.v left op n u rn ri a args.length cap W h1 h2 g
 intro left
 induction left with
 |zero=>
  intro _ e cs W m j p
  refine o 0 e cs W m j p ?_
  intro op n u rn ri args a cap _ _ _ hb
  exact absurd rfl hb.2.2.1
 |succ l ih=>
  intro D e cs W m j p
  refine o (l+1) e cs W m j p ?_
  rintro op n u rn ri args a cap rfl rfl d ⟨g1,A, -,C,rfl,rfl,s⟩
  obtain ⟨x,y,rfl⟩:∃x y,args=[x,y]:=by
   match args,C with
   |[x,y],_=>exact ⟨x,y,rfl⟩
  have t:ri=0:=by unfold CP at s;simp only[z7] at s;exact s.2
  subst t
  rw[F5 c l (by omega) (by omega),yw (by unfold Um;simp[g1,A,s])]
  exact Ut c h l (by omega) (fun e cs W h1 h2 h3=>ih (by omega) e cs W h1 h2 h3) (QS w l) op rn a cap x y W m j g1 A s d
set_option linter.unusedSimpArgs false
theorem JP:∀(ds:List (ByteArray × Ex)) (l:List Kn) (d:ByteArray × Ex),Ak l (ds++[d])=Ak l ds++[⟨d.1,(DY (Ak l ds) 8 d.2).1,(DY (Ak l ds) 8 d.2).2⟩]
 |[],l,d=>by rw[yS,Ak,Ak,Ak]
 |c::r,l,d=>by rw[yP,Ak,JP r,Ak]
theorem Iu:∀(ds:List (ByteArray × Ex)) (l:List Kn),(∀k∈l,GA k.q.dim=true)->∀k∈Ak l ds,GA k.q.dim=true
 |[],l,h=>by rw[Ak];exact h
 |d::r,l,h=>by
  rw[Ak]
  refine Iu r _ fun k a=>?_
  rcases yz.1 a with a|a
  ·exact h k a
  ·obtain rfl:=ze.1 a
   exact QS h 8 d.2
def NC(x:Av)(i:Nat):List Kn:=Ak [] ((Am x).take i)
theorem QZ(x:Av){i:Nat}(h:i<=x.lets.length):(NC x i).length=i:=by
 unfold NC Am
 rw[Hw]
 simp;omega
theorem Tz(x:Av){i:Nat}(h:i < x.lets.length):NC x (i+1)=NC x i++[⟨x.lets[i].name,(DY (NC x i) 8 x.lets[i].value).1,(DY (NC x i) 8 x.lets[i].value).2⟩]:=by
 unfold NC
 have h2:i < (Am x).length:=by unfold Am;simpa using h
 rw[yJ h2,JP]
 simp only[Am,zG]
theorem Vi{W:World}{b o:Nat}{x0 e a c d f g:Value}(h:W.rangeAt b o [x0,e,a,c,d,f,g]):W.cell? ⟨b,o,none⟩=some x0∧W.cell? ⟨b,o+1,none⟩=some e∧W.cell? ⟨b,o+2,none⟩=some a∧W.cell? ⟨b,o+3,none⟩=some c∧W.cell? ⟨b,o+4,none⟩=some d∧W.cell? ⟨b,o+5,none⟩=some f∧W.cell? ⟨b,o+6,none⟩=some g:=
 ⟨h 0 _ rfl,h 1 _ rfl,h 2 _ rfl,h 3 _ rfl,h 4 _ rfl,h 5 _ rfl,h 6 _ rfl⟩
theorem LU{w:World}{x:Av}{L:Bt}{cs:LV}{N:NP}(h:BH N w L cs x)(hN:∀b,N b->b < w.heap.size)(hg:GU w)(hl:x.lets.length<=100000):
  Calls Tryz.prog 35 #[.agg cs.toArray] w fun e w'=>∃k:Au,e=.returned k.v∧Ph w' k (Ak [] (Am x))∧Below w.heap.size w w':=by
 have aq:=yb h
 have HN:=yb hN
 have HG:=yb hg
 have q:=yb hl
 obtain ⟨lh,J⟩:∃lh,lh=L.lets:=⟨_,rfl⟩
 have a7:Hid (BE N w 7 (JS N w) lh x.lets):=yb (by rw[J];exact h.lets)
 have R:=yb ((yg w.heap.size w).alloc (yf _) (.cells cs.toArray 35))
 have r:=World.alloc_heap_new w (.cells cs.toArray 35)
 have T:(w.alloc (.cells cs.toArray 35)).cell? (aV w.heap.size 19)=some lh.v:=by
  rw[J]
  obtain ⟨c0,c1,c2,rfl,g0,g1,g2⟩:=h.cells
  obtain ⟨a0,p0,rfl,e0⟩:=g0.cells
  obtain ⟨a1,p1,rfl,e1⟩:=g1.cells
  obtain ⟨a2,p2,rfl,e2⟩:=g2.cells
  simp only[World.cell?,r];rfl
 obtain ⟨c0,c1,c2,rfl,g0,g1,g2⟩:=h.cells
 obtain ⟨a0,p0,rfl,e0⟩:=g0.cells
 obtain ⟨a1,p1,rfl,e1⟩:=g1.cells
 obtain ⟨a2,p2,rfl,e2⟩:=g2.cells
 clear h hN hg hl g0 g1 g2 e0 e1 e2 r J aq
 obtain ⟨la,Z,lc⟩:=lh
 unfold Au.v at*
 dsimp only at*
 simp only[yP,yS] at R T ⊢
 go_enter Tryz.func35,Tryz.ntmps35
 refine Ae fun K hK=>?_
 go_wp2
 refine hK.o _ _ ?_
 clear hK
 generalize w.alloc _=W at R T ⊢
 go_wp2
 have a:Hid (Z=x.lets.length):=yb a7.o.1
 clear T
 go_loopw [2,10] (fun v iv wr=>∃i:Nat,i<=Z∧iv=iV i∧Hid (L7 w.heap.size wr v (NC x i))∧Hid (Below w.heap.size w wr)) (fun _ iv _=>Z - (intOf iv).toNat)
 case atStart=>exact ⟨0,yK _,rfl,yb (by unfold NC;exact RT _ _),R⟩
 case round=>
  obtain ⟨i,hi,rfl,Y,s⟩:=hrel
  by_cases av:i < Z
  ·have H:i < x.lets.length:=by have:=a.o;omega
   obtain ⟨b,o,cs,ab,am,aj,ac,ag⟩:=a7.o.2.2 i H
   dsimp only at ab
   subst ab
   obtain ⟨U,c,rfl,E⟩:=ag
   obtain ⟨va,vp,rfl, -, -, -⟩:=E.cells
   have ak:(i:Int) < (Z:Int):=by omega
   obtain ⟨kh,g,f⟩:=Mu Y.o (by rw[QZ x (by omega)];have:=q.o;omega)
   obtain ⟨ka,kn,kc⟩:=kh
   unfold Au.v at g
   dsimp only at g
   subst g
   have au:=yb f
   have Q:=Tz x H
   have d:=yb Q
   have l:Hid (∀W,Below wr.heap.size wr W->Calls Tryz.prog 38 #[.slice ka kn kc,.agg #[iV x.lets[i].value.op,iV x.lets[i].value.n,iV x.lets[i].value.u,.string x.lets[i].value.rn,iV x.lets[i].value.ri,.slice va x.lets[i].value.args.length vp],iV 8] W (Oy (DY (NC x i) 8 x.lets[i].value) W)):=yb (fun W hW=>by
    have M:Below w.heap.size w W:=s.o.trans (hW.mono s.o.size)
    exact Tq (NC x i) (Iu _ [] (fun k hk=>by cases hk)) ⟨ka,kn,kc⟩ 8 (yf _) _ _ W (HG.o.up M) (f.up hW) (E.same (fun b hb=>yv (HN.o b hb) M.size) (fun b hb=>M.block b (HN.o b hb))))
   have af:Hid (wr.rangeAt b (o+i*7) [.string x.lets[i].name,iV x.lets[i].value.op,iV x.lets[i].value.n,iV x.lets[i].value.u,.string x.lets[i].value.rn,iV x.lets[i].value.ri,.slice va x.lets[i].value.args.length vp]):=yb (A0 ac (s.o.block b (HN.o b am)))
   obtain ⟨r0,r1,r2,r3,r4,r5,r6⟩:=Vi af.o
   clear E ac f U aj d
   generalize x.lets[i]=ld at*
   have d:=yb Q
   clear Q H
   generalize DY (NC x i) 8 ld.value=qx at*
   obtain ⟨P,⟨O,F,vu,I,S,X⟩⟩:=ld
   simp only[Ex.op,Ex.n,Ex.u,Ex.rn,Ex.ri,Ex.args] at l af r0 r1 r2 r3 r4 r5 r6 d
   generalize X.length=vl at*
   obtain ⟨⟨⟨A,z,D⟩,⟨t,C⟩,e⟩,ok⟩:=qx
   unfold Oy Qn.val at l
   dsimp only at l d
   have m:=yb ((yg wr.heap.size wr).alloc (yf _) (.cells #[.string P,iV O,iV F,iV vu,.string I,iV S,.slice va vl vp] 50))
   have ar:=yb (World.alloc_heap_new wr (.cells #[.string P,iV O,iV F,iV vu,.string I,iV S,.slice va vl vp] 50))
   go_upto_region 5 with (first|(go_at_call 38;with_reducible refine (l.o _ m.o).mono ?_;rintro e w2 ⟨rfl,ad⟩;have V:=yb ad;clear ad))
   have j:Hid (Below wr.heap.size wr (w2.alloc (.cells #[iV A,iV z,iV D,iV t,iV C,iV e] 70))):=yb ((m.o.trans (V.o.mono m.o.size)).alloc (by have:=V.o.size;have:=m.o.size;omega) _)
   have U:(w2.alloc (.cells #[iV A,iV z,iV D,iV t,iV C,iV e] 70)).cell? (aV wr.heap.size 0)=some (.string P):=by
    have h1:w2.heap[wr.heap.size]?=some (.cells #[.string P,iV O,iV F,iV vu,.string I,iV S,.slice va vl vp] 50 (0,0)):=(V.o.block _ (by simp)).trans ar.o
    have h2:=(yD w2 (.cells #[iV A,iV z,iV D,iV t,iV C,iV e] 70) wr.heap.size (yd.1 h1).1).trans h1
    simp[World.cell?,h2]
   have p:=World.alloc_heap_new w2 (.cells #[iV A,iV z,iV D,iV t,iV C,iV e] 70)
   generalize hG:w2.heap.size=G at p ⊢
   clear hG
   generalize w2.alloc (.cells #[iV A,iV z,iV D,iV t,iV C,iV e] 70)=W3 at j U p ⊢
   obtain ⟨q0,q1,q2,q3,q4,q5⟩:=Ce p
   clear p r0 r1 r2 r3 r4 r5 r6
   have ae:=yb (JN Y.o j.o)
   have y:Hid ((W3.alloc (.cells #[.string P,iV A,iV z,iV D,iV t,iV C,iV e,.bool ok] 98)).ownsRow w.heap.size 98 8 (.slice ka kn kc) (NC x i).length ((NC x i).flatMap L6)):=yb (JN ae.o ((yg _ _).alloc (yf _) _))
   have ap:Hid ((NC x i).length+1<=1000000):=yb (by rw[QZ x (by have:=a.o;omega)];have:=q.o;have:=a.o;omega)
   have a8:Hid (w.heap.size<=(W3.alloc (.cells #[.string P,iV A,iV z,iV D,iV t,iV C,iV e,.bool ok] 98)).heap.size):=yb (by have:=s.o.size;have:=j.o.size;simp;omega)
   go_wp2_with (first|(at_builtin;refine Jh Tryz.underlying95 rfl _ _ rfl 8 (by kernel_rfl) (by omega) w.heap.size (.slice ka kn kc) (NC x i).length ((NC x i).flatMap L6) rfl y.o W3.heap.size 1 [.string P,iV A,iV z,iV D,iV t,iV C,iV e,.bool ok] rfl (World.alloc_heap_new _ _) rfl (by simp[Value.oneCell']) ap.o a8.o ?_;intro vx x8 B a6 ah;have aa:=yb B;have an:=yb a6;clear B a6 ah))
   have ao:wrap64 ((i:Int)+1)=((i+1:Nat):Int):=by
    rw[AP (by have:=q.o;have:=a.o;omega)];push_cast;rfl
   rw[ao]
   refine ⟨⟨i+1,by omega,rfl,yb ?_,yb ?_⟩,by simp[intOf];omega⟩
   ·rw[d.o]
    have h:=aa.o
    unfold L7
    rw[ym,zK]
    exact h
   ·exact OC y.o (s.o.trans (j.o.mono s.o.size) |>.alloc (by have:=s.o.size;have:=j.o.size;omega) _) a8.o an.o
  ·obtain rfl:i=Z:=by omega
   have ak:decide ((i:Int) < (i:Int))=false:=by simp
   have ai:Hid (L7 w.heap.size wr u2 (Ak [] (Am x))):=yb (by
    have h:=Y.o
    unfold NC at h
    rwa [xW (by rw[show (Am x).length=x.lets.length by simp[Am],a.o];exact yf _)] at h)
   go_wp2
   obtain ⟨kh,g,f⟩:=Mu ai.o (by rw[Hw,yH,show (Am x).length=x.lets.length by simp[Am]];have:=q.o;omega)
   go_ret
   exact ⟨kh,yF Ending.returned g,f,s.o⟩
set_option linter.unusedSimpArgs false
structure S3 (w:World) (ks xs:List Value) (T:TypeId) (rs:List Value) (W:World):Prop where
 below:Below w.heap.size w W
 s:W.rangeAt w.heap.size 0 ks
 x:W.rangeAt (w.heap.size+1) 0 xs
 r:W.heap[w.heap.size+1+1]?=some (.cells rs.toArray T (0,0))
theorem S3.lt{w:World}{a xs:LV}{T:TypeId}{rs:LV}{W:World}(h:S3 w a xs T rs W):w.heap.size+2 < W.heap.size:=(yd.1 h.r).1
theorem S3.up{w:World}{a xs:LV}{T:TypeId}{rs:LV}{W W':World}(h:S3 w a xs T rs W)(hb:Below W.heap.size W W'):S3 w a xs T rs W':=by
 have:=h.lt
 exact ⟨h.below.trans (hb.mono (by omega)),A0 h.s (hb.block _ (by omega)),A0 h.x (hb.block _ (by omega)),(hb.block _ (by omega)).trans h.r⟩
theorem S3.new(w:World)(a xs:LV)(T:TypeId)(rs:LV):S3 w a xs T rs (((w.alloc (.cells a.toArray 35)).alloc (.cells xs.toArray 26)).alloc (.cells rs.toArray T)):=by
 refine ⟨G8 _ _ _ _,AD (Ht _ _ _ _),AD (Gv _ _ _ _),Di _ _ _ _⟩
theorem S3.drew{w:World}{a xs:LV}{T:TypeId}{rs:LV}{W:World}(h:S3 w a xs T rs W):S3 w a xs T rs W.drew:=⟨h.below.drew,h.s,h.x,h.r⟩
theorem Le{N:NP}{w:World}{L:Bt}{cs:LV}{x:Av}(h:BH N w L cs x):(Tryz.prog.info? 35).map (·.size)=some cs.length:=by
 obtain ⟨c0,c1,c2,rfl,b,g1,a⟩:=h.cells
 obtain ⟨d,e,rfl,f⟩:=b.cells
 obtain ⟨a1,c,rfl,j⟩:=g1.cells
 obtain ⟨i,k,rfl,g⟩:=a.cells
 kernel_rfl
structure DT (w:World) (cs:List Value) (x:Av):Prop where
 v:∃L,BH (fun b=>b < w.heap.size) w L cs x
 slim:MS x
 gv:GV w
 gu:GU w
 depth:∀e∈Ax x,Ar e.1<=1000000
theorem DT.up{w w':World}{cs:LV}{x:Av}(h:DT w cs x)(hb:Below w.heap.size w w'):DT w' cs x:=by
 obtain ⟨L,c⟩:=h.v
 exact ⟨⟨L,c.same (fun b a=>yv a hb.size) (fun b a=>hb.block b a)⟩,h.slim,h.gv.below hb h.gv.1,h.gu.up hb,h.depth⟩
theorem DT.check{w:World}{cs:LV}{x:Av}(h:DT w cs x):Calls Tryz.prog 17 #[.agg cs.toArray] w fun e w'=>e=.returned (.int .i64 (Bh x))∧Below w.heap.size w w':=by
 obtain ⟨L,a⟩:=h.v
 exact RZ a (fun _ h=>h) h.slim h.gv h.depth
theorem DT.consts{w:World}{cs:LV}{x:Av}(h:DT w cs x):Calls Tryz.prog 35 #[.agg cs.toArray] w fun e w'=>∃k:Au,e=.returned k.v∧Ph w' k (Ak [] (Am x))∧Below w.heap.size w w':=by
 obtain ⟨L,a⟩:=h.v
 exact LU a (fun _ h=>h) h.gu h.slim.lets
theorem OO(x:Av){k:Au}{w:World}(d:GU w)(a:Ph w k (Ak [] (Am x))){e:Ex}{cs:LV}(c:AG (fun b=>b < w.heap.size) w e cs):Calls Tryz.prog 38 #[k.v,.agg cs.toArray,.int .i64 8] w (Oy (DY (Ak [] (Am x)) 8 e) w):=
 Tq _ (Iu _ [] (fun k a=>by cases a)) k 8 (yf _) e cs w d a c
theorem TA{N:NP}{w:World}{e:Ex}{cs:LV}(h:AG N w e cs):cs.length=6:=by
 obtain ⟨a,p,rfl, -⟩:=h.cells;rfl
theorem Q2{c:LV}(h:c.length=6):(Tryz.prog.info? 26).map (·.size)=some c.length:=by rw[h];kernel_rfl
def OP(m:Qn × Int)(w:World)(e:Ending)(w':World):Prop:=∃q:Qn,e=.returned (.tuple #[q.val,.int .i64 m.2])∧(m.2=0->q=m.1)∧Below w.heap.size w w'
theorem JQ{w:World}{x:Av}{cs:LV}{e:Ex}{xs:LV}(h:DT w cs x)(Z:AG (fun b=>b < w.heap.size) w e xs):Calls Tryz.prog 26 #[.agg cs.toArray,.agg xs.toArray] w (OP (FC x e) w):=by
 have A:Hid ((Tryz.prog.info? 35).map (·.size)=some cs.length):=yb (by obtain ⟨L,Z⟩:=h.v;exact Le Z)
 have HS:=yb h
 have HV:=yb Z
 have D:=yb (S3.new w cs xs 70 [iV 0,iV 0,iV 0,iV 0,iV 0,iV 0])
 obtain ⟨res,a⟩:∃r,r=FC x e:=⟨_,rfl⟩
 rw[<-a]
 have t:=yb a
 obtain ⟨H,S⟩:∃H,H=cs:=⟨_,rfl⟩
 obtain ⟨X,O⟩:∃X,X=xs:=⟨_,rfl⟩
 rw[<-S] at HS A
 rw[<-O] at HV
 have HK:=yb S
 have HY:=yb O
 obtain ⟨L,aa⟩:=h.v
 obtain ⟨c0,c1,c2,rfl,g0,g1,g2⟩:=aa.cells
 obtain ⟨a0,p0,rfl,e0⟩:=g0.cells
 obtain ⟨a1,p1,rfl,e1⟩:=g1.cells
 obtain ⟨a2,p2,rfl,e2⟩:=g2.cells
 obtain ⟨ax,px,rfl, -⟩:=Z.cells
 clear h Z aa g0 g1 g2 e0 e1 e2 S O a
 unfold Au.v at*
 simp only[yP,yS] at D HK ⊢
 go_enter Tryz.func26,Tryz.ntmps26
 refine Ae fun K d=>?_
 go_wp2
 refine d.o _ _ ?_
 clear d K
 generalize ((w.alloc _).alloc _).alloc _=W at D ⊢
 rw[<-HK.o,<-HY.o] at D ⊢
 clear HK HY
 have ac:Hid (X.length=6):=yb (TA HV.o)
 have N:Hid (∀V,Below w.heap.size w V->Calls Tryz.prog 17 #[.agg H.toArray] V fun e w'=>e=.returned (iV (Bh x))∧Below V.heap.size V w'):=yb (fun V C=>(HS.o.up C).check)
 have Q:Hid (∀V,Below w.heap.size w V->Calls Tryz.prog 35 #[.agg H.toArray] V fun e w'=>∃k:Au,e=.returned k.v∧Ph w' k (Ak [] (Am x))∧Below V.heap.size V w'):=yb (fun V C=>(HS.o.up C).consts)
 have R:Hid (∀V,Below W.heap.size W V->V.rangeAt w.heap.size 0 H):=yb (fun V C=>(D.o.up C).s)
 have ab:Hid (∀V,Below W.heap.size W V->V.rangeAt (w.heap.size+1) 0 X):=yb (fun V C=>(D.o.up C).x)
 have a:=t.o
 unfold FC at a
 generalize Bh x=ck at*
 have f:Hid (Below w.heap.size w W):=yb D.o.below
 refine Ae fun K d=>?_
 by_cases Y:ck=0
 rotate_left
 ·have I:Hid (res=(Fq,ck)):=yb (by rw[a,yt Y])
  have e1:(ck !=0)=true:=by simpa using Y
  clear d Y a t Q
  go_upto_region 2 with (first
   |(refine yj rfl 35 _ rfl w.heap.size 0 rfl H _ (R.o _ (yg _ _)) qV rfl A.o ?_)
   |(go_at_call 17;with_reducible refine (N.o _ f.o).mono ?_;rintro e w2 ⟨rfl,p⟩;have P:=yb (D.o.up p);clear p))
  have g:w2.heap[w.heap.size+1+1]?=some (.cells jb 70 (0,0)):=P.o.r
  have q:=yb g
  obtain ⟨q0,q1,q2,q3,q4,q5⟩:=Ce g
  have qf:=fun k=>E7 (n:=k) g
  clear g
  go_wp2
  have j:=Co q.o (iV 0) (iV 0) (iV 0) (iV 0) (iV 0) (iV 0)
  exact A3 (c:=Fq.row) rfl rfl j.row j4 rfl (by kernel_rfl) ⟨Fq,by rw[I.o];rfl,fun _=>by rw[I.o],j.below P.o.below (by omega)⟩
 ·rw[yw Y] at a
  have u:=yb a
  subst Y
  clear a t
  go_wp2_with (first
   |(refine yj rfl 35 _ rfl w.heap.size 0 rfl H _ (R.o _ (yg _ _)) qV rfl A.o ?_)
   |(go_at_call 17;with_reducible refine (N.o _ f.o).mono ?_;rintro e w2 ⟨rfl,p⟩;have P:=yb (D.o.up p);have ad:=yb p;clear p))
  refine d.o _ _ ?_
  clear d K
  refine Ae fun K d=>?_
  refine DP (by kernel_rfl) (fun V=>Below W.heap.size W V) 3 ?_
  have l:Hid (Below W.heap.size W w2.drew):=yb ad.o.drew
  refine Bb (i:=2) (v:=.agg X.toArray) rfl (by kernel_rfl) (by kernel_rfl) (by kernel_rfl) (fun _ _ _ h=>h) (by kernel_rfl) (yieldsIf_load_mid (by rfl) 26 _ rfl (w.heap.size+1) 0 (by kernel_rfl) X _ (fun V C=>ab.o V C) qM rfl (Q2 ac.o)) l.o ?_
  refine Al (i:=0) (by kernel_rfl) rfl (fun K d=>?_)
  rw[yw (by kernel_rfl)]
  refine xO 35 _ rfl w.heap.size 0 rfl H _ (R.o _ l.o) qV rfl A.o ?_
  refine d.o _ _ (fun _=>l.o) ?_
  clear d K
  refine Al (i:=1) (by kernel_rfl) rfl (fun K d=>?_)
  go_simp
  refine (Q.o _ (f.o.trans (l.o.mono f.o.size))).mono ?_
  rintro e2 w3 ⟨kh,rfl,a6,a7⟩
  have m:Hid (Below W.heap.size W w3):=yb (l.o.trans (a7.mono l.o.size))
  have B:=yb (OO x ((HS.o.gu).up (f.o.trans (m.o.mono f.o.size))) a6 (HV.o.same (fun b hb=>yv hb (f.o.trans (m.o.mono f.o.size)).size) (fun b hb=>(f.o.trans (m.o.mono f.o.size)).block b hb)))
  refine d.o _ _ (fun _=>m.o) ?_
  clear d K a6 a7
  generalize DY (Ak [] (Am x)) 8 e=qq at*
  obtain ⟨⟨⟨G,F,M⟩,⟨E,J⟩,er⟩,ok⟩:=qq
  unfold Oy Qn.val at B
  dsimp only at B u
  refine Al (i:=3) (by kernel_rfl) rfl (fun K d=>?_)
  go_simp
  refine B.o.mono ?_
  rintro e3 w4 ⟨rfl,a8⟩
  have U:=yb (D.o.up (m.o.trans (a8.mono m.o.size)))
  refine d.o _ _ (by intro h;cases h) ?_
  clear d K a8 B m l Q N
  have g:w4.heap[w.heap.size+1+1]?=some (.cells jb 70 (0,0)):=U.o.r
  have q:=yb g
  obtain ⟨q0,q1,q2,q3,q4,q5⟩:=Ce g
  have qf:=fun k=>E7 (n:=k) g
  clear g
  refine Al (i:=4) (by kernel_rfl) rfl (fun K d=>?_)
  go_simp
  refine d.o _ _ (by intro h;cases h) ?_
  clear d K
  refine Ai (i:=5) (v:=.agg #[iV G,iV F,iV M,iV E,iV J,iV er]) rfl (by kernel_rfl) (by kernel_rfl) (by kernel_rfl) (fun _ _ _ h=>h) (by kernel_rfl) (Or.inl ⟨by rfl,?_⟩) (by intro h;cases h) ?_
  ·intro w _;go_simp
  refine Ai (i:=6) (v:=.bool ok) rfl (by kernel_rfl) (by kernel_rfl) (by kernel_rfl) (fun _ _ _ h=>h) (by kernel_rfl) (Or.inl ⟨by rfl,?_⟩) (by intro h;cases h) ?_
  ·intro w _;go_simp
  refine Al (i:=7) (by kernel_rfl) rfl (fun K d=>?_)
  go_simp
  refine d.o _ _ (by intro h;cases h) ?_
  clear d K
  refine Al (i:=8) (by kernel_rfl) rfl (fun K d=>?_)
  go_simp
  refine d.o _ _ (by intro h;cases h) ?_
  clear d K
  refine DO (by kernel_rfl) ?_
  have j:=Co q.o (iV G) (iV F) (iV M) (iV E) (iV J) (iV er)
  have T:=yb (j.below U.o.below (Nat.le_succ_of_le (Nat.le_succ _)))
  have y:=j.row
  clear j q U q0 q1 q2 q3 q4 q5 qf
  refine d.o _ _ ?_
  clear d K
  generalize ((((((w4.setCell _ _).setCell _ _).setCell _ _).setCell _ _).setCell _ _).setCell _ _)=W5 at T y ⊢
  have q:=yb y
  obtain ⟨q0,q1,q2,q3,q4,q5⟩:=Ce y
  have qf:=fun k=>E7 (n:=k) y
  clear y
  unfold Au.v
  have j:=Co q.o (iV G) (iV F) (iV M) (iV E) (iV J) (iV er)
  have z:=yb j
  clear j
  cases ok with
  |true=>
   have I:Hid (res=(⟨⟨G,F,M⟩,⟨E,J⟩,er⟩,0)):=u
   clear u
   go_wp2
   exact A3 (c:=(⟨⟨G,F,M⟩,⟨E,J⟩,er⟩:Qn).row) rfl rfl z.o.row j4 rfl (by kernel_rfl) ⟨⟨⟨G,F,M⟩,⟨E,J⟩,er⟩,by rw[I.o];rfl,fun _=>by rw[I.o],z.o.below T.o (by omega)⟩
  |false=>
   have I:Hid (res=(Fq,180)):=u
   clear u
   go_wp2
   exact A3 (c:=(⟨⟨G,F,M⟩,⟨E,J⟩,er⟩:Qn).row) rfl rfl z.o.row j4 rfl (by kernel_rfl) ⟨⟨⟨G,F,M⟩,⟨E,J⟩,er⟩,by rw[I.o];rfl,fun h=>by rw[I.o] at h;exact absurd h (by decide),z.o.below T.o (by omega)⟩
set_option linter.unusedSimpArgs false
def R4(m:Dm × Int)(w:World)(e:Ending)(w':World):Prop:=e=.returned (.tuple #[m.1.v,.int .i64 m.2])∧Below w.heap.size w w'
def UB(m:Rt × Int)(w:World)(e:Ending)(w':World):Prop:=e=.returned (.tuple #[m.1.v,.int .i64 m.2])∧Below w.heap.size w w'
theorem IQ{w:World}{x:Av}{cs:LV}{e:Ex}{xs:LV}(h:DT w cs x)(A:AG (fun b=>b < w.heap.size) w e xs):Calls Tryz.prog 9 #[.agg cs.toArray,.agg xs.toArray] w (R4 (E8 x e) w):=by
 have z:Hid ((Tryz.prog.info? 35).map (·.size)=some cs.length):=yb (by obtain ⟨L,A⟩:=h.v;exact Le A)
 have U:=yb h
 have I:=yb A
 have m:=yb (S3.new w cs xs 39 jf)
 obtain ⟨res,a⟩:∃r,r=E8 x e:=⟨_,rfl⟩
 rw[<-a]
 have d:=yb a
 obtain ⟨F,k⟩:∃F,F=cs:=⟨_,rfl⟩
 obtain ⟨B,j⟩:∃B,B=xs:=⟨_,rfl⟩
 rw[<-k] at U z
 rw[<-j] at I
 have O:=yb k
 have V:=yb j
 obtain ⟨L,C⟩:=h.v
 obtain ⟨c0,c1,c2,rfl,Y,g1,S⟩:=C.cells
 obtain ⟨a0,p0,rfl,e0⟩:=Y.cells
 obtain ⟨a1,p1,rfl,X⟩:=g1.cells
 obtain ⟨a2,p2,rfl,Q⟩:=S.cells
 obtain ⟨ax,px,rfl, -⟩:=A.cells
 clear h A C Y g1 S e0 X Q k j a
 unfold Au.v at*
 simp only[yP,yS] at m O ⊢
 go_enter Tryz.func9,Tryz.ntmps9
 refine Ae fun K u=>?_
 go_wp2
 refine u.o _ _ ?_
 clear u K
 generalize ((w.alloc _).alloc _).alloc _=W at m ⊢
 rw[<-O.o,<-V.o] at m ⊢
 clear O V
 have M:Hid (B.length=6):=yb (TA I.o)
 have l:Hid (Below w.heap.size w W):=yb m.o.below
 have i:Hid (Calls Tryz.prog 26 #[.agg F.toArray,.agg B.toArray] W (OP (FC x e) W)):=yb (JQ (U.o.up l.o) (I.o.same (fun b hb=>yv hb l.o.size) (fun b hb=>l.o.block b hb)))
 refine Ae fun K u=>?_
 have a:=d.o
 unfold E8 at a
 generalize FC x e=mm at*
 obtain ⟨q,er⟩:=mm
 unfold OP at i
 dsimp only at i a
 go_wp2_with (first
  |(refine yj rfl 35 _ rfl w.heap.size 0 rfl F _ m.o.s qV rfl z.o ?_)
  |(refine yj rfl 26 _ rfl (w.heap.size+1) 0 rfl B _ m.o.x qM rfl (Q2 M.o) ?_)
  |(go_at_call 26;with_reducible refine i.o.mono ?_;rintro Q w2 ⟨⟨⟨E,D,H⟩,⟨T,vd⟩,Z⟩,rfl,R,y⟩;unfold Qn.val;dsimp only;have N:=yb R;have J:=yb (m.o.up y);clear R y))
 have f:=yb (J.o.up ((yg w2.heap.size w2).alloc (yf _) (.cells #[iV E,iV D,iV H,iV T,iV vd,iV Z] 70)))
 have g:=World.alloc_heap_new w2 (.cells #[iV E,iV D,iV H,iV T,iV vd,iV Z] 70)
 refine u.o _ _ ?_
 clear u K i
 generalize w2.heap.size=G at g ⊢
 generalize w2.alloc _=W3 at f g ⊢
 obtain ⟨q0,q1,q2,q3,q4,q5⟩:=Ce g
 clear g
 have n:W3.heap[w.heap.size+1+1]?=some (.cells jd 39 (0,0)):=f.o.r
 obtain ⟨r0,r1,r2,f0,f1,f2⟩:=GJ n
 have t:=yb n
 clear n
 by_cases p:er=0
 ·rw[yw p] at a
  have hd:=N.o p
  rw[<-hd] at a
  have P:Hid (res=(⟨E,D,H⟩,0)):=yb a
  subst p
  clear a hd d N
  go_wp2
  exact A3 (c:=(⟨E,D,H⟩:Dm).row) rfl rfl (Dr (Dq (Dp t.o))) qW rfl (by kernel_rfl) ⟨by rw[P.o];rfl,A5 (A5 (A5 f.o.below (by omega) _) (by omega) _) (by omega) _⟩
 ·rw[yt p] at a
  have P:Hid (res=(On,er)):=yb a
  have X:(er !=0)=true:=by simpa using p
  clear a d N p
  go_wp2
  exact A3 (c:=On.row) rfl rfl (Dr (Dq (Dp t.o))) qW rfl (by kernel_rfl) ⟨by rw[P.o];rfl,A5 (A5 (A5 f.o.below (by omega) _) (by omega) _) (by omega) _⟩
theorem DU{w:World}{x:Av}{cs:LV}{e:Ex}{xs:LV}(h:DT w cs x)(B:AG (fun b=>b < w.heap.size) w e xs):Calls Tryz.prog 10 #[.agg cs.toArray,.agg xs.toArray] w (UB (Bo x e) w):=by
 have A:Hid ((Tryz.prog.info? 35).map (·.size)=some cs.length):=yb (by obtain ⟨L,B⟩:=h.v;exact Le B)
 have V:=yb h
 have M:=yb B
 have t:=yb (S3.new w cs xs 44 [iV 0,iV 0])
 obtain ⟨res,a⟩:∃r,r=Bo x e:=⟨_,rfl⟩
 rw[<-a]
 have d:=yb a
 obtain ⟨I,n⟩:∃I,I=cs:=⟨_,rfl⟩
 obtain ⟨D,m⟩:∃D,D=xs:=⟨_,rfl⟩
 rw[<-n] at V A
 rw[<-m] at M
 have R:=yb n
 have Z:=yb m
 obtain ⟨L,F⟩:=h.v
 obtain ⟨c0,c1,c2,rfl,g0,g1,U⟩:=F.cells
 obtain ⟨a0,p0,rfl,e0⟩:=g0.cells
 obtain ⟨a1,p1,rfl,P⟩:=g1.cells
 obtain ⟨a2,p2,rfl,S⟩:=U.cells
 obtain ⟨ax,px,rfl, -⟩:=B.cells
 clear h B F g0 g1 U e0 P S n m a
 unfold Au.v at*
 simp only[yP,yS] at t R ⊢
 go_enter Tryz.func10,Tryz.ntmps10
 refine Ae fun K y=>?_
 go_wp2
 refine y.o _ _ ?_
 clear y K
 generalize ((w.alloc _).alloc _).alloc _=W at t ⊢
 rw[<-R.o,<-Z.o] at t ⊢
 clear R Z
 have O:Hid (D.length=6):=yb (TA M.o)
 have p:Hid (Below w.heap.size w W):=yb t.o.below
 have j:Hid (Calls Tryz.prog 26 #[.agg I.toArray,.agg D.toArray] W (OP (FC x e) W)):=yb (JQ (V.o.up p.o) (M.o.same (fun b hb=>yv hb p.o.size) (fun b hb=>p.o.block b hb)))
 refine Ae fun K y=>?_
 have a:=d.o
 unfold Bo Uz at a
 generalize FC x e=mm at*
 obtain ⟨q,er⟩:=mm
 unfold OP at j
 dsimp only at j a
 go_wp2_with (first
  |(refine yj rfl 35 _ rfl w.heap.size 0 rfl I _ t.o.s qV rfl A.o ?_)
  |(refine yj rfl 26 _ rfl (w.heap.size+1) 0 rfl D _ t.o.x qM rfl (Q2 O.o) ?_)
  |(go_at_call 26;with_reducible refine j.o.mono ?_;rintro S w2 ⟨⟨⟨Y,X,da⟩,⟨H,J⟩,C⟩,rfl,T,z⟩;unfold Qn.val;dsimp only;have Q:=yb T;have N:=yb (t.o.up z);clear T z))
 have g:=yb (N.o.up ((yg w2.heap.size w2).alloc (yf _) (.cells #[iV Y,iV X,iV da,iV H,iV J,iV C] 70)))
 have i:=World.alloc_heap_new w2 (.cells #[iV Y,iV X,iV da,iV H,iV J,iV C] 70)
 refine y.o _ _ ?_
 clear y K j
 generalize w2.heap.size=G at i ⊢
 generalize w2.alloc _=W3 at g i ⊢
 obtain ⟨q0,q1,q2,q3,q4,q5⟩:=Ce i
 clear i
 have u:W3.heap[w.heap.size+1+1]?=some (.cells jc 44 (0,0)):=g.o.r
 obtain ⟨r0,r1,f0,f1⟩:=Dz u
 have l:=yb u
 clear u
 by_cases k:er=0
 ·rw[yw k] at a
  have hd:=Q.o k
  rw[<-hd] at a
  dsimp only at a
  subst k
  clear hd d Q
  by_cases f:C=0
  ·rw[yw f] at a
   have E:Hid (res=(⟨H,J⟩,0)):=yb a
   subst f
   clear a
   go_wp2
   exact A3 (c:=[iV H,iV J]) rfl rfl (Dn (Dc l.o)) qY rfl (by kernel_rfl) ⟨by rw[E.o];rfl,A5 (A5 g.o.below (by omega) _) (by omega) _⟩
  ·rw[yt f] at a
   have E:Hid (res=(J2,C)):=yb a
   have P:(C !=0)=true:=by simpa using f
   clear a f
   go_wp2
   exact A3 (c:=[iV 0,iV 0]) rfl rfl (Dn (Dc l.o)) qY rfl (by kernel_rfl) ⟨by rw[E.o];rfl,A5 (A5 g.o.below (by omega) _) (by omega) _⟩
 ·rw[yt k,yt k] at a
  have E:Hid (res=(J2,er)):=yb a
  have e0:(er==0)=false:=by simpa using k
  have P:(er !=0)=true:=by simpa using k
  clear a d Q k
  go_wp2
  exact A3 (c:=[iV 0,iV 0]) rfl rfl (Dn (Dc l.o)) qY rfl (by kernel_rfl) ⟨by rw[E.o];rfl,A5 (A5 g.o.below (by omega) _) (by omega) _⟩
set_option linter.unusedSimpArgs false
theorem OQ(op nn u:Int)(rn:ByteArray)(ri:Int)(a:Option Addr)(m cap:Nat)(w:World):
  Calls Tryz.prog 37 #[.agg #[.int .i64 op,.int .i64 nn,.int .i64 u,.string rn,.int .i64 ri,.slice a m cap]] w fun e w'=>e=.returned (.bool (Dv op nn u rn ri m))∧Below w.heap.size w w':=by
 by_cases h0:op=0
 ·by_cases h1:nn=0
  ·by_cases h2:u=0
   ·subst h0 h1 h2
    go_enter Tryz.func37,Tryz.ntmps37
    go_wp2
    ·rename_i h1 h2
     go_ret
     refine ⟨AH ?_,(yg _ _).alloc (yf _) _⟩
     simp only[Dv,xm (show rn.size=0∧ri=0 from ⟨(Dw rn).2 h1,h2⟩)]
     rw[xA];simp
    ·rename_i h1 h2
     go_ret
     refine ⟨AH ?_,(yg _ _).alloc (yf _) _⟩
     simp only[Dv,xr (show ¬ (rn.size=0∧ri=0) from fun h=>h2 h.2)]
     simp
    ·rename_i h1
     go_ret
     refine ⟨AH ?_,(yg _ _).alloc (yf _) _⟩
     simp only[Dv,xr (show ¬ (rn.size=0∧ri=0) from fun h=>h1 ((Dw rn).1 h.1))]
     simp
   ·have b:(u==0)=false:=by simpa using h2
    subst h0 h1
    go_enter Tryz.func37,Tryz.ntmps37
    go_wp2
    go_ret
    exact ⟨AH (by simp[Dv,h2]),(yg _ _).alloc (yf _) _⟩
  ·have b:(nn==0)=false:=by simpa using h1
   subst h0
   go_enter Tryz.func37,Tryz.ntmps37
   go_wp2
   go_ret
   exact ⟨AH (by simp[Dv,h1]),(yg _ _).alloc (yf _) _⟩
 ·have b:(op==0)=false:=by simpa using h0
  go_enter Tryz.func37,Tryz.ntmps37
  go_wp2
  go_ret
  exact ⟨AH (by simp[Dv,h0]),(yg _ _).alloc (yf _) _⟩
theorem Lf{N:NP}{w:World}{e:Ex}{cs:LV}(h:AG N w e cs)(W:World):Calls Tryz.prog 37 #[.agg cs.toArray] W fun b w'=>b=.returned (.bool (BA e))∧Below W.heap.size W w':=by
 obtain ⟨a,p,rfl, -⟩:=h.cells
 exact OQ e.op e.n e.u e.rn e.ri a e.args.length p W
end Go.Proofs.YtjofgpfocadomaaGreatDoor
namespace Go.Proofs.YtjofgpfocadomaaGreatDoor
open Go.RowKit
set_option linter.unusedSimpArgs false
attribute [local go_sem] Oper.semAt_some
def DH(d:Dm)(a:Bool)(cs:LV):Array Value:=#[.agg (cs++(.bool a::d.row)).toArray]
def Vu(W:World)(Bon:Nat)(b:Bool):Prop:=W.heap[Bon]?=some (.cells #[.bool b] 4 (0,0))
structure LW (J:Nat->(Nat->Prop)->World->Prop) (Jx:(Nat->Prop)->World->Prop) (W0:World) (l Bon By k:Nat) (O:Nat->Prop) (W:World):Prop where
 own:∀b,O b->W0.heap.size<=b∧b < W.heap.size
 size:W0.heap.size<=W.heap.size
 oon:O Bon
 oy:O By
 ne:Bon≠By
 y:W.heap[By]?=some (.cells #[.func (.yield l) #[] #[]] 161 (0,0))
 st:(Vu W Bon true∧J k O W)∨(Vu W Bon false∧Jx O W)
structure LX (n l:Nat) (xs:List (Array Value)) (J:Nat->(Nat->Prop)->World->Prop) (Jx:(Nat->Prop)->World->Prop) (Jp:List PanicEntry->(Nat->Prop)->World->Prop) (W0:World):Prop where
 stays:Ca J
 staysx:Ca (fun (_:Unit)=>Jx)
 round:∀k (hk:k < xs.length) O W1,J k O W1->W0.heap.size<=W1.heap.size->(∀b,O b->W0.heap.size<=b∧b < W1.heap.size)->YieldAt Fence.wide n Tryz.prog l xs[k] W1 fun e W'=>
   (e=.returned (.bool true)∧J (k+1) O W'∧AL O W1 W')∨(e=.returned (.bool false)∧Jx O W'∧AL O W1 W')∨(∃ch,e=.panicked ch∧Jp ch O W'∧AL O W1 W')
section
variable{J:Nat->NP->World->Prop}{Jx:NP->World->Prop}{Jp:List PanicEntry->NP->World->Prop}{W0:World}{n l Bon By k:Nat}{O:NP}{W W':World}{xs:List (Array Value)}
theorem LW.below(c:LX n l xs J Jx Jp W0)(h:LW J Jx W0 l Bon By k O W)(hb:Below W.heap.size W W'):LW J Jx W0 l Bon By k (fun b=>O b∨(W.heap.size<=b∧b < W'.heap.size)) W':=by
 have d:=hb.size
 refine ⟨fun b h2=>?_,yu h.size d,.inl h.oon,.inl h.oy,h.ne,(hb.block _ (h.own _ h.oy).2).trans h.y,?_⟩
 ·have hs:=h.size
  rcases h2 with h2|h2
  ·have:=h.own b h2;omega
  ·omega
 ·have a:=hb.block _ (h.own _ h.oon).2
  rcases h.st with ⟨h1,h2⟩|⟨h1,h2⟩
  ·exact .inl ⟨a.trans h1,CD c.stays h2 hb⟩
  ·exact .inr ⟨a.trans h1,CD (s:=()) c.staysx h2 hb⟩
theorem LW.y'(h:LW J Jx W0 l Bon By k O W):W.cell? ⟨By,0,none⟩=some (.func (.yield l) #[] #[]):=N8 h.y
theorem LW.onTrue(c:LX n l xs J Jx Jp W0)(h:LW J Jx W0 l Bon By k O W){k':Nat}{a:World}(hs:AL O W a)(d:J k' O a)(f:Vu a Bon true):LW J Jx W0 l Bon By k' O (a.setCell ⟨Bon,0,none⟩ (.bool true)):=
 ⟨fun b hb=>⟨(h.own b hb).1,by have:=(h.own b hb).2;have:=hs.1;simp;omega⟩,by have:=h.size;have:=hs.1;simp;omega,h.oon,h.oy,h.ne,(Ad _ _ (xi h.ne)).trans ((hs.2 _ h.oy).trans h.y),
  .inl ⟨AZ f,c.stays _ _ _ _ _ d (by simp) rfl rfl rfl (fun b hb _=>Ad _ _ (fun e=>hb (e▸h.oon))) (fun b hb=>.inl hb)⟩⟩
theorem LW.onFalse(d:LX n l xs J Jx Jp W0)(h:LW J Jx W0 l Bon By k O W){k':Nat}{a:World}{c:Bool}(hs:AL O W a)(f:Jx O a)(g:Vu a Bon c):LW J Jx W0 l Bon By k' O (a.setCell ⟨Bon,0,none⟩ (.bool false)):=
 ⟨fun b hb=>⟨(h.own b hb).1,by have:=(h.own b hb).2;have:=hs.1;simp;omega⟩,by have:=h.size;have:=hs.1;simp;omega,h.oon,h.oy,h.ne,(Ad _ _ (xi h.ne)).trans ((hs.2 _ h.oy).trans h.y),
  .inr ⟨AZ g,d.staysx () _ _ _ _ f (by simp) rfl rfl rfl (fun b hb _=>Ad _ _ (fun e=>hb (e▸h.oon))) (fun b hb=>.inl hb)⟩⟩
end
def Vj(J:Nat->NP->World->Prop)(Jx:NP->World->Prop)(Jp:List PanicEntry->NP->World->Prop)(W0:World)(l Bon By k:Nat)(O:NP)(W:World)(e:Ending)(W':World):Prop:=
 (e=.returned (.tuple #[])∧∃a,LW J Jx W0 l Bon By k a W'∧(∀b,O b->a b)∧(∀b,O b->b≠Bon->W'.heap[b]?=W.heap[b]?))∨∃c,e=.panicked c∧∃a,Jp c a W'
theorem R5{J:Nat->NP->World->Prop}{Jx:NP->World->Prop}{Jp:List PanicEntry->NP->World->Prop}{W0:World}{n l Bon By:Nat}{xs:List (Array Value)}(hc:LX (n - 1) l xs J Jx Jp W0)(hn:1<=n)
 (d:Dm)(th:Bool)(f:List LV)(g y:Nat)(O:NP)(W:World)(h:LW J Jx W0 l Bon By y O W)(hg:O g)(a0:g≠Bon)(hl:f.length<=100)(h6:∀i (hi:i < f.length),(∃(o n u:Int) (rn:ByteArray) (ri:Int) (p:Option Addr) (m c:Nat),f[i]=[.int .i64 o,.int .i64 n,.int .i64 u,.string rn,.int .i64 ri,.slice p m c])∧W.rangeAt g (i*6) f[i]∧∃hk:y+i < xs.length,xs[y+i]=DH d th f[i]):
  Calls Tryz.prog 75 #[d.v,.bool th,.slice (some ⟨g,0,none⟩) f.length f.length,.pointer (some ⟨Bon,0,none⟩),.pointer (some ⟨By,0,none⟩)] W (Vj J Jx Jp W0 l Bon By (y+f.length) O W):=by
 have Y:=yb hc
 have HP:=yb h
 have H6:=yb h6
 obtain ⟨m,hm⟩:∃m,m=f.length:=⟨_,rfl⟩
 rw[<-hm] at hl ⊢
 have HM:=yb hm
 have a6:=yb (And.intro hg a0)
 clear hc h h6 hm hg a0
 obtain ⟨A,z,B⟩:=d
 unfold Dm.v
 dsimp only
 go_enter Tryz.func75,Tryz.ntmps75
 refine Ae fun K hK=>?_
 go_wp2
 refine hK.o _ _ ?_
 clear hK K
 go_wp2
 have HW:Hid (LW J Jx W0 l Bon By y (fun b=>O b∨(W.heap.size<=b∧b < (W.alloc (.cells #[iV A,iV z,iV B] 68)).heap.size)) (W.alloc (.cells #[iV A,iV z,iV B] 68))):=yb (HP.o.below Y.o ((yg _ _).alloc (yf _) _))
 have aa:Hid ((W.alloc (.cells #[iV A,iV z,iV B] 68)).heap[W.heap.size]?=some (.cells #[iV A,iV z,iV B] 68 (0,0))):=yb (World.alloc_heap_new _ _)
 have ad:Hid (∀b,O b->b≠Bon->(W.alloc (.cells #[iV A,iV z,iV B] 68)).heap[b]?=W.heap[b]?):=yb (fun b hb _=>yD _ _ _ (HP.o.own b hb).2)
 have V:Hid ((W.heap.size≠Bon)∧(fun b=>O b∨(W.heap.size<=b∧b < (W.alloc (.cells #[iV A,iV z,iV B] 68)).heap.size)) W.heap.size):=yb ⟨by have:=(HP.o.own _ HP.o.oon).2;omega,.inr ⟨yf _,by simp⟩⟩
 generalize az:W.alloc (.cells #[iV A,iV z,iV B] 68)=W1 at HW aa ad V ⊢
 go_loopw [12] (fun iv wr=>∃i:Nat,i<=m∧iv=iV i∧Hid (∃q,LW J Jx W0 l Bon By (y+i) q wr∧(∀b,O b->q b)∧q W.heap.size∧wr.heap[W.heap.size]?=some (.cells #[iV A,iV z,iV B] 68 (0,0))∧∀b,O b->b≠Bon->wr.heap[b]?=W.heap[b]?)) (fun iv _=>m - (intOf iv).toNat)
 case atStart=>exact ⟨0,yK _,rfl,yb ⟨_,HW.o,fun b hb=>.inl hb,V.o.2,aa.o,ad.o⟩⟩
 case round=>
  obtain ⟨i,hi,rfl,HI⟩:=hrel
  obtain ⟨q,r,t,T,hdr,D⟩:=HI.o
  by_cases aw:i < m
  ·have a7:i < f.length:=by rw[<-HM.o];exact aw
   obtain ⟨⟨vo,vn,vu,P,S,vp,vm,vc,a8⟩,Q,hk,Z⟩:=H6.o i a7
   rw[a8] at Q Z
   obtain ⟨c0,c1,c2,c3,c4,c5⟩:=Bp (A0 Q (D g a6.o.1 a6.o.2))
   have av:(i:Int) < (m:Int):=by omega
   have ar:=yb r
   clear a8 Q a7 HI
   have ag:Hid (∀H,H=wr.alloc (.cells #[iV vo,iV vn,iV vu,.string P,iV S,.slice vp vm vc] 26)->∃L,LW J Jx W0 l Bon By (y+i) L H∧(∀b,O b->L b)∧L W.heap.size∧L wr.heap.size∧wr.heap.size≠Bon∧H.heap[W.heap.size]?=some (.cells #[iV A,iV z,iV B] 68 (0,0))∧H.heap[wr.heap.size]?=some (.cells #[iV vo,iV vn,iV vu,.string P,iV S,.slice vp vm vc] 26 (0,0))∧∀b,O b->b≠Bon->H.heap[b]?=W.heap[b]?):=yb (by
    rintro H rfl
    have U:=(yg wr.heap.size wr).alloc (yf _) (.cells #[iV vo,iV vn,iV vu,.string P,iV S,.slice vp vm vc] 26)
    refine ⟨_,r.below Y.o U,fun b hb=>.inl (t b hb),.inl T,.inr ⟨yf _,by simp⟩,?_,(U.block _ (yd.1 hdr).1).trans hdr,World.alloc_heap_new _ _,fun b hb j=>(U.block b (r.own b (t b hb)).2).trans (D b hb j)⟩
    have:=(r.own _ r.oon).2;omega)
   clear r t T hdr D ar
   go_upto_region 4 with fail
   obtain ⟨L,p2,s2,af,aj,ap,M,R,X⟩:=ag.o _ rfl
   clear ag c0 c1 c2 c3 c4 c5
   generalize ay:wr.heap.size=bx at*
   generalize wr.alloc _=H at p2 M R X ⊢
   obtain ⟨x0,x1,x2,x3,x4,x5⟩:=Ce R
   obtain ⟨d0,d1,d2,au,ao,aq⟩:=GJ M
   have y2:=p2.y'
   have k:=yb p2
   have G:=yb X
   have F:=yb s2
   have a:=yb (And.intro af V.o.1)
   have E:=yb M
   clear p2 s2 af aj ap M R X au ao aq
   rcases k.o.st with ⟨s,hj⟩|⟨s,a2⟩
   ·have ac:=N8 s
    obtain ⟨ax,ak,ah,an,hy,ae⟩:=Y.o.round (y+i) hk L H hj k.o.size k.o.own
    rw[Z] at hy
    unfold DH Dm.row at hy
    simp only[yP,yS] at hy
    have am:=yb ae
    have I:=yb s
    clear ae Z hj s
    refine (qc (n:=n)).1 ?_
    gi_wp2
    refine am.o.mono ?_
    rintro e N (⟨rfl,hj,hs⟩|⟨rfl,Z,hs⟩|⟨ch,rfl,hp,hs⟩)
    ·have w:Hid (∃q,LW J Jx W0 l Bon By (y+i+1) q (N.setCell (aV Bon 0) (.bool true))∧(∀b,O b->q b)∧q W.heap.size∧(N.setCell (aV Bon 0) (.bool true)).heap[W.heap.size]?=some (.cells #[iV A,iV z,iV B] 68 (0,0))∧∀b,O b->b≠Bon->(N.setCell (aV Bon 0) (.bool true)).heap[b]?=W.heap[b]?):=yb (by
      have C:Vu N Bon true:=(hs.2 _ k.o.oon).trans I.o
      refine ⟨L,k.o.onTrue Y.o hs hj C,F.o,a.o.1,(Ad _ _ a.o.2).trans ((hs.2 _ a.o.1).trans E.o),fun b hb j=>(Ad _ _ j).trans ((hs.2 _ (F.o b hb)).trans (G.o b hb j))⟩)
     have x:=(hs.2 _ k.o.oon).trans I.o
     have ai:=N8 x
     have ab:=E7 (n:=0) x
     clear hj hs hy x ac y2 x0 x1 x2 x3 x4 x5 d0 d1 d2
     gi_wp2
     go_wp2
     exact ⟨⟨i+1,by omega,by push_cast;rfl,w⟩,by simp[intOf];omega⟩
    ·have w:Hid (∃q,LW J Jx W0 l Bon By (y+(i+1)) q (N.setCell (aV Bon 0) (.bool false))∧(∀b,O b->q b)∧q W.heap.size∧(N.setCell (aV Bon 0) (.bool false)).heap[W.heap.size]?=some (.cells #[iV A,iV z,iV B] 68 (0,0))∧∀b,O b->b≠Bon->(N.setCell (aV Bon 0) (.bool false)).heap[b]?=W.heap[b]?):=yb (by
      have C:Vu N Bon true:=(hs.2 _ k.o.oon).trans I.o
      refine ⟨L,k.o.onFalse Y.o hs Z C,F.o,a.o.1,(Ad _ _ a.o.2).trans ((hs.2 _ a.o.1).trans E.o),fun b hb j=>(Ad _ _ j).trans ((hs.2 _ (F.o b hb)).trans (G.o b hb j))⟩)
     have x:=(hs.2 _ k.o.oon).trans I.o
     have ai:=N8 x
     have ab:=E7 (n:=0) x
     clear Z hs hy x ac y2 x0 x1 x2 x3 x4 x5 d0 d1 d2
     gi_wp2
     go_wp2
     exact ⟨⟨i+1,by omega,by push_cast;rfl,w⟩,by simp[intOf];omega⟩
    ·exact ⟨rfl,.inr ⟨ch,rfl,_,hp⟩⟩
   ·have w:Hid (∃q,LW J Jx W0 l Bon By (y+(i+1)) q (H.setCell (aV Bon 0) (.bool false))∧(∀b,O b->q b)∧q W.heap.size∧(H.setCell (aV Bon 0) (.bool false)).heap[W.heap.size]?=some (.cells #[iV A,iV z,iV B] 68 (0,0))∧∀b,O b->b≠Bon->(H.setCell (aV Bon 0) (.bool false)).heap[b]?=W.heap[b]?):=yb (by
     refine ⟨L,k.o.onFalse Y.o (AL.refl _ _) a2 s,F.o,a.o.1,(Ad _ _ a.o.2).trans E.o,fun b hb j=>(Ad _ _ j).trans (G.o b hb j)⟩)
    have ai:=N8 s
    have ab:=E7 (n:=0) s
    clear a2 s y2 x0 x1 x2 x3 x4 x5 d0 d1 d2
    go_wp2
    exact ⟨⟨i+1,by omega,by push_cast;rfl,w⟩,by simp[intOf];omega⟩
  ·obtain rfl:i=m:=by omega
   have av:decide ((i:Int) < (i:Int))=false:=by simp
   have HF:Hid (∃q,LW J Jx W0 l Bon By (y+i) q wr∧(∀b,O b->q b)∧∀b,O b->b≠Bon->wr.heap[b]?=W.heap[b]?):=yb ⟨q,r,t,D⟩
   clear r t T hdr D HI
   go_wp2
   exact bodyPost_end (zq rfl _ _ _) rfl (.inl ⟨rfl,HF.o⟩)
end Go.Proofs.YtjofgpfocadomaaGreatDoor
namespace Go.Proofs.YtjofgpfocadomaaGreatDoor
open Go.RowKit
set_option linter.unusedSimpArgs false
section
variable{P:Program}{ops:Array Oper}{rest:List Oper}{o:Oper}{a:Act}{w:World}{Q:QT}
theorem LZ(g:o.guard=none)(t e:TypeId)(x y m:Operand)(A:o.op=.buildSlice t 3 #[(0,x),(1,y),(2,m)])(c0 c1 c2:LV)(v:a.eval x=.agg c0.toArray)(p:a.eval y=.agg c1.toArray)(f:a.eval m=.agg c2.toArray)
 (n:Nat)(q:P.underlying t=some (.slice e))(hi:((P.info? e).bind fun i=>i.zero.map fun z=>(i.size,z.cells.size))=some (n,n))(u:c0.length=n)(k:c1.length=n)(l:c2.length=n)(c:0 < n)(d:n<=1000)
 (h:wpList P ops Q rest (a.put o.dst (.slice (some ⟨w.heap.size,0,none⟩) 3 3)) (w.alloc (.cells (c0++(c1++c2)).toArray e))):wpList P ops Q (o::rest) a w:=by
 cases b:P.info? e with
 |none=>simp[b] at hi
 |some ie=>
  cases j:ie.zero with
  |none=>simp[b,j] at hi
  |some z=>
   simp only[b,j,xu,xB,za,zr] at hi
   obtain ⟨h1,h2⟩:=hi
   refine wpList_buildSlice g t e 3 _ A _ ie z q b j (by rw[h1];omega) (by rw[h1];omega) ?_ h
   have hs:((Array.range (3*ie.size)).map (z.cells[· % z.cells.size]!)).size=3*n:=by simp[h1]
   rw[h1] at hs ⊢
   generalize (Array.range (3*n)).map (z.cells[· % z.cells.size]!)=r at hs ⊢
   have:=Great.fill_whole (s:=n) c [.agg c0.toArray,.agg c1.toArray,.agg c2.toArray] r (by simp[Value.cells,u,k,l]) (by rw[hs];rfl)
   simp only[xP,List.zipIdx_nil,zv,zT,yW,zt,yV,Value.cells] at this
   simpa[v,p,f] using this
end
def IT(c:LV):Prop:=∃(o n u:Int) (rn:ByteArray) (ri:Int) (p:Option Addr) (m k:Nat),c=[.int .i64 o,.int .i64 n,.int .i64 u,.string rn,.int .i64 ri,.slice p m k]
theorem AG.is6{N:NP}{w:World}{e:Ex}{cs:LV}(h:AG N w e cs):IT cs:=by
 obtain ⟨a,p,rfl, -⟩:=h.cells
 exact ⟨_,_,_,_,_,_,_,_,rfl⟩
theorem IT.len{c:LV}(h:IT c):c.length=6:=by obtain ⟨_,_,_,_,_,_,_,_,rfl⟩:=h;rfl
theorem ED{c:LV}(h:IT c):∀v∈c,v.oneCell'=true:=by
 obtain ⟨_,_,_,_,_,_,_,_,rfl⟩:=h
 simp[Value.oneCell']
theorem Ci{W:World}{b:Nat}{t:TypeId}{row pre c post:LV}{o:Nat}(h:W.heap[b]?=some (.cells row.toArray t (0,0)))(e:row=pre++(c++post))(d:pre.length=o):W.rangeAt b o c:=by
 subst d e
 have hr:=AD h
 intro j v a
 have:=hr (pre.length+j) v (by
  rw[yU (by omega),zW,zn (yA.1 a).1]
  exact a)
 simpa using this
theorem Lh{W:World}{g:Nat}{t:TypeId}{a:List LV}(h6:∀c∈a,IT c)(h:W.heap[g]?=some (.cells a.flatten.toArray t (0,0)))(i:Nat)(hi:i < a.length):W.rangeAt g (i*6) a[i]:=by
 have e:=FY a 6 (fun c f=>(h6 c f).len)
 have hr:=AD h
 intro j v d
 have b:j < 6:=by rw[<-(h6 _ (yM hi)).len];exact (yA.1 d).1
 have h1:=e.2 i hi j b
 rw[d] at h1
 have:=hr (i*6+j) v h1
 simpa using this
def He(J:Nat->NP->World->Prop)(Jx:NP->World->Prop)(W0:World)(l Bon By k:Nat)(P:NP->World->Prop)(W:World):Prop:=∃O,LW J Jx W0 l Bon By k O W∧P O W
def Li(Bon a:Nat)(row:LV)(t:TypeId)(O:NP)(W:World):Prop:=O a∧a≠Bon∧W.heap[a]?=some (.cells row.toArray t (0,0))
def D6(_:NP)(_:World):Prop:=True
def Ig(Bon:Nat)(P:NP->World->Prop):Prop:=∀O a W W',P O W->(∀b,O b->a b)->(∀b,O b->b≠Bon->W'.heap[b]?=W.heap[b]?)->P a W'
theorem Lj(Bon:Nat):Ig Bon D6:=fun _ _ _ _ _ _ _=>trivial
theorem DV(Bon a:Nat)(row:LV)(t:TypeId):Ig Bon (Li Bon a row t):=fun _ _ _ _ h hs hb=>⟨hs _ h.1,h.2.1,(hb _ h.1 h.2.1).trans h.2.2⟩
def GG(J:Nat->NP->World->Prop)(Jx:NP->World->Prop)(Jp:List PanicEntry->NP->World->Prop)(W0:World)(l Bon By k:Nat)(P:NP->World->Prop)(e:Ending)(W':World):Prop:=
 (e=.returned (.tuple #[])∧He J Jx W0 l Bon By k P W')∨∃a,e=.panicked a∧∃b,Jp a b W'
section
variable{J:Nat->NP->World->Prop}{Jx:NP->World->Prop}{Jp:List PanicEntry->NP->World->Prop}{W0:World}{n l Bon By k:Nat}{W W':World}{xs:List (Array Value)}{P:NP->World->Prop}
theorem He.below(d:LX n l xs J Jx Jp W0)(c:Ig Bon P)(h:He J Jx W0 l Bon By k P W)(hb:Below W.heap.size W W'):He J Jx W0 l Bon By k P W':=by
 obtain ⟨O,h1,h2⟩:=h
 exact ⟨_,h1.below d hb,c _ _ _ _ h2 (fun b hb=>.inl hb) (fun b a _=>hb.block b (h1.own b a).2)⟩
theorem He.box(a:LX n l xs J Jx Jp W0)(h:He J Jx W0 l Bon By k D6 W)(row:LV)(t:TypeId):He J Jx W0 l Bon By k (Li Bon W.heap.size row t) (W.alloc (.cells row.toArray t)):=by
 obtain ⟨O,h1, -⟩:=h
 refine ⟨_,h1.below a ((yg _ _).alloc (yf _) _),.inr ⟨yf _,by simp⟩,by have:=(h1.own _ h1.oon).2;omega,World.alloc_heap_new _ _⟩
theorem He.no(h:He J Jx W0 l Bon By k P W):He J Jx W0 l Bon By k D6 W:=by
 obtain ⟨O,h1, -⟩:=h
 exact ⟨O,h1,trivial⟩
theorem E9(m:LX (n - 1) l xs J Jx Jp W0)(s:1<=n)(p:Ig Bon P)(h:He J Jx W0 l Bon By k P W)(d:Dm)(g:Bool)(a:List LV)(h6:∀c∈a,IT c)(o:a.length<=100)(w:∃pre post,xs=pre++(a.map (DH d g)++post)∧pre.length=k):
  Calls Tryz.prog 75 #[d.v,.bool g,.slice (some ⟨W.heap.size,0,none⟩) a.length a.length,.pointer (some ⟨Bon,0,none⟩),.pointer (some ⟨By,0,none⟩)] (W.alloc (.cells a.flatten.toArray 26)) (GG J Jx Jp W0 l Bon By (k+a.length) P):=by
 obtain ⟨O,h1,h2⟩:=h
 have f:=(yg W.heap.size W).alloc (yf _) (.cells a.flatten.toArray 26)
 refine (R5 m s d g a W.heap.size k _ _ (h1.below m f) (.inr ⟨yf _,by simp⟩) (by have:=(h1.own _ h1.oon).2;omega) o (fun i hi=>⟨h6 _ (yM hi),Lh h6 (World.alloc_heap_new _ _) i hi,?_⟩)).mono ?_
 ·obtain ⟨pre,post,rfl,rfl⟩:=w
  refine ⟨by simp;omega,?_⟩
  rw[xy (by omega),xz (by simp;omega)]
  simp
 ·rintro e x (⟨rfl,u,h3,r,h5⟩|⟨t,rfl,q⟩)
  ·refine .inl ⟨rfl,u,h3,p _ _ _ _ h2 (fun b hb=>r b (.inl hb)) (fun b hb j=>(h5 b (.inl hb) j).trans (f.block b (h1.own b hb).2))⟩
  ·exact .inr ⟨t,rfl,q⟩
theorem MG{Bon:Nat}{P a:NP->World->Prop}(h:Ig Bon P)(h2:Ig Bon a):Ig Bon (fun O W=>P O W∧a O W):=fun _ _ _ _ k hs hb=>⟨h _ _ _ _ k.1 hs hb,h2 _ _ _ _ k.2 hs hb⟩
theorem He.box2(d:LX n l xs J Jx Jp W0)(c:Ig Bon P)(h:He J Jx W0 l Bon By k P W)(row:LV)(t:TypeId):He J Jx W0 l Bon By k (fun O V=>P O V∧Li Bon W.heap.size row t O V) (W.alloc (.cells row.toArray t)):=by
 obtain ⟨O,h1,h2⟩:=h
 have hb:=(yg W.heap.size W).alloc (yf _) (.cells row.toArray t)
 refine ⟨_,h1.below d hb,c _ _ _ _ h2 (fun b hb=>.inl hb) (fun b a _=>hb.block b (h1.own b a).2),.inr ⟨yf _,by simp⟩,by have:=(h1.own _ h1.oon).2;omega,World.alloc_heap_new _ _⟩
theorem S4(t:LX (n - 1) l xs J Jx Jp W0)(q:1<=n)(m:Ig Bon P)(d:Dm)(f:Bool)(a:List LV){g:Nat}(h:He J Jx W0 l Bon By k (fun O V=>P O V∧Li Bon g a.flatten 26 O V) W)(h6:∀c∈a,IT c)(j:a.length<=100)(u:∃pre post,xs=pre++(a.map (DH d f)++post)∧pre.length=k):
  Calls Tryz.prog 75 #[d.v,.bool f,.slice (some ⟨g,0,none⟩) a.length a.length,.pointer (some ⟨Bon,0,none⟩),.pointer (some ⟨By,0,none⟩)] W (GG J Jx Jp W0 l Bon By (k+a.length) P):=by
 obtain ⟨O,h1,h2,b⟩:=h
 refine (R5 t q d f a g k _ _ h1 b.1 b.2.1 j (fun i hi=>⟨h6 _ (yM hi),Lh h6 b.2.2 i hi,?_⟩)).mono ?_
 ·obtain ⟨pre,post,rfl,rfl⟩:=u
  refine ⟨by simp;omega,?_⟩
  rw[xy (by omega),xz (by simp;omega)]
  simp
 ·rintro e w (⟨rfl,s,h3,p,h5⟩|⟨r,rfl,o⟩)
  ·exact .inl ⟨rfl,s,h3,m _ _ _ _ h2 p h5⟩
  ·exact .inr ⟨r,rfl,o⟩
end
theorem OR{W:World}{b:Nat}{t:TypeId}{row:LV}{a:ByteArray}{c:Rf}{c0 c1 c2 c3 c4 c5 c6 c7:LV}(h:W.heap[b]?=some (.cells row.toArray t (0,0)))(e:row=.string a::(AU c++(c0++(c1++(c2++(c3++(c4++(c5++(c6++c7)))))))))(d:c0.length=6)(f:c1.length=6)(g:c2.length=6)(i:c3.length=6)(j:c4.length=6)(l5:c5.length=6)(l6:c6.length=6):
  W.rangeAt b 3 c0∧W.rangeAt b 9 c1∧W.rangeAt b 15 c2∧W.rangeAt b 21 c3∧W.rangeAt b 27 c4∧W.rangeAt b 33 c5∧W.rangeAt b 39 c6∧W.rangeAt b 45 c7:=
 ⟨Ci (pre:=.string a::AU c) (post:=(c1++(c2++(c3++(c4++(c5++(c6++c7))))))) h (by rw[e];simp) (by simp[AU]),Ci (pre:=.string a::(AU c++c0)) (post:=(c2++(c3++(c4++(c5++(c6++c7)))))) h (by rw[e];simp) (by simp[AU,d]),Ci (pre:=.string a::(AU c++(c0++c1))) (post:=(c3++(c4++(c5++(c6++c7))))) h (by rw[e];simp) (by simp[AU,d,f]),Ci (pre:=.string a::(AU c++(c0++(c1++c2)))) (post:=(c4++(c5++(c6++c7)))) h (by rw[e];simp) (by simp[AU,d,f,g]),Ci (pre:=.string a::(AU c++(c0++(c1++(c2++c3))))) (post:=(c5++(c6++c7))) h (by rw[e];simp) (by simp[AU,d,f,g,i]),Ci (pre:=.string a::(AU c++(c0++(c1++(c2++(c3++c4)))))) (post:=(c6++c7)) h (by rw[e];simp) (by simp[AU,d,f,g,i,j]),Ci (pre:=.string a::(AU c++(c0++(c1++(c2++(c3++(c4++c5))))))) (post:=c7) h (by rw[e];simp) (by simp[AU,d,f,g,i,j,l5]),Ci (pre:=.string a::(AU c++(c0++(c1++(c2++(c3++(c4++(c5++c6)))))))) (post:=[]) h (by rw[e];simp) (by simp[AU,d,f,g,i,j,l5,l6])⟩
structure R8 where
 s:Bool
 c0:List Value
 c1:List Value
 c2:List Value
 c3:List Value
 c4:List Value
 c5:List Value
 c6:List Value
 c7:List Value
def D0(r:R8):List (Array Value):=[DH CT true r.c0]++([DH IS true r.c1]++([DH AX true r.c2,DH AX true r.c4,DH AX true r.c5]++([DH AX r.s r.c3]++[DH On true r.c6,DH On true r.c7])))
def IU(c0 c1 c2:LV):List (Array Value):=[DH CT true c0]++[DH AX true c1,DH AX true c2]
def Dt(c0 c1 c2:LV)(ccs:List LV)(rcs:List R8)(fcs:List (Bool × LV)):List (Array Value):=
 IU c0 c1 c2++(ccs.map (DH GD true)++(rcs.flatMap D0++fcs.map fun p=>DH GC p.1 p.2))
theorem Gx:∀l:List R8,(l.flatMap D0).length=8*l.length
 |[]=>rfl
 |r::l=>by rw[yW,ym,Gx l];simp[D0];omega
section
variable{c0 c1 c2:LV}{ccs:List LV}{rcs:List R8}{fcs:List (Bool × LV)}
theorem TC:∃pre post,Dt c0 c1 c2 ccs rcs fcs=pre++([c0].map (DH CT true)++post)∧pre.length=0:=⟨[],[DH AX true c1,DH AX true c2]++(ccs.map (DH GD true)++(rcs.flatMap D0++fcs.map fun p=>DH GC p.1 p.2)),rfl,rfl⟩
theorem TD:∃pre post,Dt c0 c1 c2 ccs rcs fcs=pre++([c1,c2].map (DH AX true)++post)∧pre.length=1:=⟨[DH CT true c0],ccs.map (DH GD true)++(rcs.flatMap D0++fcs.map fun p=>DH GC p.1 p.2),rfl,rfl⟩
theorem Q4{i:Nat}(hi:i < ccs.length):∃pre post,Dt c0 c1 c2 ccs rcs fcs=pre++([ccs[i]].map (DH GD true)++post)∧pre.length=3+i:=by
 refine ⟨IU c0 c1 c2++(ccs.take i).map (DH GD true),(ccs.drop (i+1)).map (DH GD true)++(rcs.flatMap D0++fcs.map fun p=>DH GC p.1 p.2),?_,by simp[IU];omega⟩
 unfold Dt
 conv=>lhs;rw[<-zS i ccs,xg hi]
 simp only[zF,zv,zT,yL,yP,yS]
theorem OS{i:Nat}(hi:i < rcs.length):∃pre post,Dt c0 c1 c2 ccs rcs fcs=pre++(D0 rcs[i]++post)∧pre.length=3+ccs.length+8*i:=by
 refine ⟨IU c0 c1 c2++(ccs.map (DH GD true)++(rcs.take i).flatMap D0),(rcs.drop (i+1)).flatMap D0++fcs.map fun p=>DH GC p.1 p.2,?_,by
  rw[ym,ym,Gx];simp[IU];omega⟩
 unfold Dt
 conv=>lhs;rw[<-zS i rcs,xg hi]
 rw[zK,yW]
 simp only[yL]
theorem Q5{i:Nat}(hi:i < fcs.length):∃pre post,Dt c0 c1 c2 ccs rcs fcs=pre++([fcs[i].2].map (DH GC fcs[i].1)++post)∧pre.length=3+ccs.length+8*rcs.length+i:=by
 refine ⟨IU c0 c1 c2++(ccs.map (DH GD true)++(rcs.flatMap D0++(fcs.take i).map fun p=>DH GC p.1 p.2)),(fcs.drop (i+1)).map fun p=>DH GC p.1 p.2,?_,by
  rw[ym,ym,ym,Gx];simp[IU];omega⟩
 unfold Dt
 conv=>lhs;rw[<-zS i fcs,xg hi]
 simp only[zF,zv,zT,yL,yP,yS]
theorem Q6{X:List (Array Value)}{r:R8}{k:Nat}(h:∃pre post,X=pre++(D0 r++post)∧pre.length=k):
  (∃pre post,X=pre++([r.c0].map (DH CT true)++post)∧pre.length=k)∧(∃pre post,X=pre++([r.c1].map (DH IS true)++post)∧pre.length=k+1)∧(∃pre post,X=pre++([r.c2,r.c4,r.c5].map (DH AX true)++post)∧pre.length=k+2)∧(∃pre post,X=pre++([r.c3].map (DH AX r.s)++post)∧pre.length=k+5)∧(∃pre post,X=pre++([r.c6,r.c7].map (DH On true)++post)∧pre.length=k+6):=by
 obtain ⟨pre,post,rfl,a⟩:=h
 refine ⟨⟨pre,_,by rw[D0,yL];rfl,a⟩,⟨pre++[DH CT true r.c0],_,by unfold D0;simp only[yL];rfl,by simp[a]⟩,⟨pre++([DH CT true r.c0]++[DH IS true r.c1]),_,by unfold D0;simp only[yL];rfl,by simp[a]⟩,
  ⟨pre++([DH CT true r.c0]++([DH IS true r.c1]++[DH AX true r.c2,DH AX true r.c4,DH AX true r.c5])),_,by unfold D0;simp only[yL];rfl,by simp[a]⟩,
  ⟨pre++([DH CT true r.c0]++([DH IS true r.c1]++([DH AX true r.c2,DH AX true r.c4,DH AX true r.c5]++[DH AX r.s r.c3]))),_,by unfold D0;simp only[yL];rfl,by simp[a]⟩⟩
end
set_option linter.unusedSimpArgs false
theorem Lu{k:Nat}:∀ {l:List Ex} {i:Nat} (h:i < l.length),EZ k (l.take (i+1))=max (EZ k (l.take i)) (1+DD k l[i])
 |e::r,0,_=>by simp[EZ]
 |e::r,i+1,h=>by
  have:=Lu (k:=k) (l:=r) (i:=i) (by simpa using h)
  rw[List.take_succ_cons,List.take_succ_cons,EZ,EZ,this,List.getElem_cons_succ]
  omega
theorem Lv(k:Nat)(e:Ex):DD k e<=k:=by rw[Jl];omega
theorem Sn(k:Nat)(l:List Ex):EZ k l<=k+1:=by rw[Jm];omega
theorem IY:∀(left:Nat),left<=9->∀(e:Ex) {w:World} {cs:LV},AG (fun b=>b < w.heap.size) w e cs->
  Calls Tryz.prog 16 #[.agg cs.toArray,.int .i64 left] w fun x w'=>x=.returned (.int .i64 (DD left e))∧Below w.heap.size w w':=by
 intro left
 induction left with
 |zero=>
  intro _ e w cs s
  obtain ⟨op,nn,u,rn,ri,p,m,c,rfl⟩:=s.is6
  clear s
  rw[show DD 0 e=0 from by unfold DD;rfl]
  go_enter Tryz.func16,Tryz.ntmps16
  go_wp2
  go_ret
  exact ⟨rfl,(yg _ _).alloc (yf _) _⟩
 |succ left ih=>
  intro I e w cs s
  obtain ⟨op,nn,u,rn,ri,args⟩:=e
  have HV:=yb s
  rw[AG] at s
  obtain ⟨a,cap,rfl,R,hr,l⟩:=s
  have z:=yb l
  have Y:=yb (ih (by omega))
  have P:DD (left+1) (.mk op nn u rn ri args)=EZ left args:=by rw[DD]
  rw[P]
  generalize U:args.length=m at R ⊢
  have S:=yb U
  obtain ⟨E,C⟩:∃E:Int,((left+1:Nat):Int)=E:=⟨_,rfl⟩
  have Z:(E==0)=false:=by simp;omega
  have X:wrap64 (E - 1)=(left:Int):=by
   rw[show E - 1=(left:Int) by omega]
   exact AP (by omega)
  rw[C]
  clear l ih P U HV C
  go_enter Tryz.func16,Tryz.ntmps16
  go_wp2
  go_loopw [4,12] (fun nv O wr=>∃i:Nat,nv=iV (EZ left (args.take i))∧O=iV i∧i<=m∧Hid (Below w.heap.size w wr)) (fun _ O _=>m - (intOf O).toNat)
  case atStart=>exact ⟨0,by simp[EZ],rfl,yK _,yb ((yg _ _).alloc (yf _) _)⟩
  case round=>
   obtain ⟨i,rfl,rfl,hi,F⟩:=hrel
   by_cases j:i < m
   ·have n:i < args.length:=by rw[S.o];exact j
    obtain ⟨b,o,cs,rfl,N,v,q⟩:=Du z.o i n
    have d:=A0 v (F.o.block b N)
    rw[yy] at d
    have H:=yb d
    have f:=yb q
    have g:=Lu (k:=left) n
    have V:=yb (fun (W:World) (T:Below w.heap.size w W)=>Y.o args[i] (q.same (w':=W) (N':=fun b=>b < W.heap.size) (fun b h=>yv h T.size) (fun b h=>T.block b h)))
    have J:=Lv left args[i]
    have G:=Sn left (args.take i)
    generalize args[i]=x at*
    have M:(i:Int) < (m:Int):=by omega
    generalize DD left x=t at g V J ⊢
    generalize EZ left (args.take i)=Q at g G ⊢
    have HD:Hid (max (Q:Int) (1+(t:Int))=(EZ left (args.take (i+1)):Int)):=yb (by
     rw[g]
     rcases Nat.le_total Q (1+t) with h|h
     ·rw[Nat.max_eq_right h,Int.max_eq_right (by omega)];push_cast;rfl
     ·rw[Nat.max_eq_left h,Int.max_eq_left (by omega)])
    have h1:wrap64 (1+(t:Int))=1+(t:Int):=by
     rw[show (1+(t:Int))=((1+t:Nat):Int) by omega];exact AP (by omega)
    have K:=yb (Rb j R)
    have A:Hid (i < m):=yb j
    clear q v d g
    go_upto_region 6 with (first
     |(with_reducible refine yj rfl 26 _ rfl b (o+i*6) (by kernel_rfl) cs _ H.o qM (by kernel_rfl) (DM f.o.len) ?_)
     |(with_reducible refine Aq rfl 26 _ _ rfl wr.heap.size (by kernel_rfl) cs (by kernel_rfl) (World.alloc_heap_new _ _) (by rw[yq,f.o.len];kernel_rfl) (DM f.o.len) (Bm f.o) ?_;intro x1 D;have y:=yb D;clear D))
    have r:Hid (Below w.heap.size w x1):=yb (F.o.trans ((y.o.below ((yg _ _).alloc (yf _) _) (yf _)).mono F.o.size))
    go_wp2_with (first
     |(with_reducible refine yj rfl 26 _ rfl wr.heap.size 0 (by kernel_rfl) cs _ (AD y.o.row) qM (by kernel_rfl) (DM f.o.len) ?_)
     |(go_at_call 16;with_reducible refine (V.o _ r.o).mono ?_;rintro e w2 ⟨rfl,B⟩;have L:=yb (r.o.trans (B.mono r.o.size));clear B;clear hi j M n))
    rw[K.o]
    refine ⟨⟨i+1,?_,rfl,A.o,L⟩,Rc A.o⟩
    rw[<-HD.o]
   ·obtain rfl:i=m:=by omega
    go_wp2
    go_ret
    refine ⟨Iz (by rw[<-S.o,yT]),F.o⟩
end Go.Proofs.YtjofgpfocadomaaGreatDoor
