/- Parts of the proof, in short words: Gn Gp Gq Gr Gs Gt Gv Hi -/
import Derived.Test.YtjofgpfocadomaaGreatDoorUc0
import Derived.Test.YtjofgpfocadomaaGreatDoorUc13
import Derived.Test.YtjofgpfocadomaaGreatDoorUc12
import Derived.Test.YtjofgpfocadomaaGreatDoorUc9
import Derived.Deep.RegionHeld2
import Derived.Test.YtjofgpfocadomaaGreatDoorUc3
set_option maxRecDepth 100000
set_option maxHeartbeats 8000000
set_option linter.unusedSimpArgs false
namespace Go.Proofs.YtjofgpfocadomaaGreatDoor
open Go.RowKit
set_option linter.unusedSimpArgs false
theorem D4:Fv O5=true:=by decide
theorem Ub{op:Int}{a b:Dm}(c:Fv a=true):Fv (I5 op a b).1=true:=by
 unfold I5
 split
 ·exact c
 ·generalize GB (if op=5 then 1 else -1) a b=d
  simp only
  by_cases h:Fv d=true
  ·rw[yw h];exact h
  ·rw[yq h];exact D4
theorem Vv{op:Int}{a b:Qn × Bool}(c:Fv a.1.dim=true):Fv (SB op a b).1.dim=true:=by
 unfold SB
 split
 ·simp only
  split
  ·split
   ·exact Ub c
   ·split<;>exact Ub c
  ·exact D4
 ·exact D4
theorem Uc(u:Int):Fv (Eh u)=true:=by
 unfold Eh
 split;decide;split;decide;split<;>decide
theorem OX(n u:Int):Fv (GP n u).dim=true:=by
 unfold GP
 split<;>exact Uc u
theorem MX{a:List Kn}(b:∀k∈a,Fv k.q.dim=true)(rn:ByteArray)(ri:Int):Fv (Hg a rn ri).1.dim=true:=by
 unfold Hg
 split
 ·rename_i k h
  split
  ·exact b k (zW h)
  ·exact D4
 ·exact D4
theorem RM{a:List Kn}(b:∀k∈a,Fv k.q.dim=true):∀(left:Nat) (e:Ex),Fv (F0 a left e).1.dim=true:=by
 intro left
 induction left with
 |zero=>
  rintro ⟨op,n,u,rn,ri,args⟩
  by_cases h1:op=1
  ·subst h1;rw[GC];split
   ·exact OX _ _
   ·exact D4
  ·by_cases h2:op=2
   ·subst h2;rw[I9];split
    ·exact MX b _ _
    ·exact D4
   ·rw[FI a 0 h1 h2 _ _ _ _ _ (.inl rfl)];exact D4
 |succ l ih=>
  rintro ⟨op,n,u,rn,ri,args⟩
  by_cases h1:op=1
  ·subst h1;rw[GC];split
   ·exact OX _ _
   ·exact D4
  ·by_cases h2:op=2
   ·subst h2;rw[I9];split
    ·exact MX b _ _
    ·exact D4
   ·by_cases h3:args.length=2
    ·obtain ⟨x,y,rfl⟩:∃x y,args=[x,y]:=by
      match args,h3 with
      |[x,y],_=>exact ⟨x,y,rfl⟩
     rw[J6 a l h1 h2]
     split
     ·exact Vv (ih x)
     ·exact D4
    ·rw[FI a _ h1 h2 _ _ _ _ _ (.inr h3)];exact D4
theorem Ud(c:List Kn)(z:∀k∈c,Fv k.q.dim=true)(h:Aw):∀(left:Nat),left<=8->∀(e:Ex) (cs:LV) (W:World),GU W->PT W h c->AI (fun b=>b < W.heap.size) W e cs->
  Calls Tryz.prog 38 #[h.v,.agg cs.toArray,.int .i64 left] W (OW (F0 c left e) W):=by
 have o:∀(left:Nat) (e:Ex) (cs:LV) (W:World),GU W->PT W h c->AI (fun b=>b < W.heap.size) W e cs->(∀op n u rn ri args a cap,e=.mk op n u rn ri args->cs=[iV op,iV n,iV u,.string rn,iV ri,.slice a args.length cap]->Df (fun b=>b < W.heap.size) W a 0 args->U9 op left n u rn ri args.length->Calls Tryz.prog 38 #[h.v,.agg cs.toArray,iV left] W (OW (F0 c left e) W))->
   Calls Tryz.prog 38 #[h.v,.agg cs.toArray,iV left] W (OW (F0 c left e) W):=by
  rintro left ⟨op,n,u,rn,ri,args⟩ cs W m j p f
  obtain ⟨a,cap,rfl,s,w,d⟩:=p.cells
  simp only[Ex.op,Ex.n,Ex.u,Ex.rn,Ex.ri,Ex.args] at s w d f ⊢
  by_cases h1:op=1
  ·subst h1
   rw[GC]
   have:=Wy h.v left n u rn ri a args.length cap W m
   by_cases hb:J4 n u rn ri args.length
   ·rw[yw hb] at this
    rw[yq hb];exact this
   ·rw[yq hb] at this
    rw[yw (Decidable.not_not.1 hb)];exact this
  ·by_cases h2:op=2
   ·subst h2
    rw[I9]
    exact Wz c h left n u rn ri a args.length cap W j
   ·by_cases i:U9 op left n u rn ri args.length
    ·exact f op n u rn ri args a cap rfl rfl d i
    ·have C:F0 c left (.mk op n u rn ri args)=(Fx,false):=by
      by_cases h3:args.length=2
      ·cases left with
       |zero=>exact FI c 0 h1 h2 _ _ _ _ _ (.inl rfl)
       |succ l=>
        obtain ⟨x,y,rfl⟩:∃x y,args=[x,y]:=by
         match args,h3 with
         |[x,y],_=>exact ⟨x,y,rfl⟩
        rw[J6 c l h1 h2,yq]
        intro g
        unfold Qv at g
        simp only[yE,yT] at g
        exact i ⟨g.1,g.2.1,by omega,rfl,g.2.2.1,g.2.2.2.1,g.2.2.2.2⟩
      ·exact FI c left h1 h2 _ _ _ _ _ (.inr h3)
     rw[C]
     exact WA h.v left op n u rn ri a args.length cap W h1 h2 i
 intro left
 induction left with
 |zero=>
  intro _ e cs W m j p
  refine o 0 e cs W m j p ?_
  intro op n u rn ri args a cap _ _ _ hb
  exact absurd rfl hb.2.2.1
 |succ l ih=>
  intro D e cs W m j p
  refine o (l+1) e cs W m j p ?_
  rintro op n u rn ri args a cap rfl rfl d ⟨g1,A, -,B,rfl,rfl,r⟩
  obtain ⟨x,y,rfl⟩:∃x y,args=[x,y]:=by
   match args,B with
   |[x,y],_=>exact ⟨x,y,rfl⟩
  have t:ri=0:=by unfold CH at r;simp only[yT] at r;exact r.2
  subst t
  rw[J6 c l (by omega) (by omega),yw (by unfold Qv;simp[g1,A,r])]
  exact Vu c h l (by omega) (fun e cs W h1 h2 h3=>ih (by omega) e cs W h1 h2 h3) (RM z l) op rn a cap x y W m j g1 A r d
set_option linter.unusedSimpArgs false
theorem K6:∀(ds:List (ByteArray × Ex)) (l:List Kn) (d:ByteArray × Ex),Am l (ds++[d])=Am l ds++[⟨d.1,(F0 (Am l ds) 8 d.2).1,(F0 (Am l ds) 8 d.2).2⟩]
 |[],l,d=>by rw[yQ,Am,Am,Am]
 |c::r,l,d=>by rw[yK,Am,K6 r,Am]
theorem IF:∀(ds:List (ByteArray × Ex)) (l:List Kn),(∀k∈l,Fv k.q.dim=true)->∀k∈Am l ds,Fv k.q.dim=true
 |[],l,h=>by rw[Am];exact h
 |d::r,l,h=>by
  rw[Am]
  refine IF r _ fun k a=>?_
  rcases yv.1 a with a|a
  ·exact h k a
  ·obtain rfl:=zn.1 a
   exact RM h 8 d.2
def O7(x:Ar)(i:Nat):List Kn:=Am [] ((Av x).take i)
theorem RS(x:Ar){i:Nat}(h:i<=x.lets.length):(O7 x i).length=i:=by
 unfold O7 Av
 rw[Ia]
 simp;omega
theorem Ul(x:Ar){i:Nat}(h:i < x.lets.length):O7 x (i+1)=O7 x i++[⟨x.lets[i].name,(F0 (O7 x i) 8 x.lets[i].value).1,(F0 (O7 x i) 8 x.lets[i].value).2⟩]:=by
 unfold O7
 have h2:i < (Av x).length:=by unfold Av;simpa using h
 rw[yF h2,K6]
 simp only[Av,zH]
theorem WC{W:World}{b o:Nat}{x0 g e a f c d:Value}(h:W.rangeAt b o [x0,g,e,a,f,c,d]):W.cell? ⟨b,o,none⟩=some x0∧W.cell? ⟨b,o+1,none⟩=some g∧W.cell? ⟨b,o+2,none⟩=some e∧W.cell? ⟨b,o+3,none⟩=some a∧W.cell? ⟨b,o+4,none⟩=some f∧W.cell? ⟨b,o+5,none⟩=some c∧W.cell? ⟨b,o+6,none⟩=some d:=
 ⟨h 0 _ rfl,h 1 _ rfl,h 2 _ rfl,h 3 _ rfl,h 4 _ rfl,h 5 _ rfl,h 6 _ rfl⟩
theorem Ml{w:World}{x:Ar}{L:Bt}{cs:LV}{N:NP}(h:BH N w L cs x)(hN:∀b,N b->b < w.heap.size)(hg:GU w)(hl:x.lets.length<=100000):
  Calls Tryz.prog 35 #[.agg cs.toArray] w fun e w'=>∃k:Aw,e=.returned k.v∧PT w' k (Am [] (Av x))∧Below w.heap.size w w':=by
 have ak:=yb h
 have HN:=yb hN
 have HG:=yb hg
 have l:=yb hl
 obtain ⟨lh,T⟩:∃lh,lh=L.lets:=⟨_,rfl⟩
 have a8:Hid (BF N w 7 (H7 N w) lh x.lets):=yb (by rw[T];exact h.lets)
 have Q:=yb ((yg w.heap.size w).alloc (yf _) (.cells cs.toArray 35))
 have D:=World.alloc_heap_new w (.cells cs.toArray 35)
 have J:(w.alloc (.cells cs.toArray 35)).cell? (aV w.heap.size 19)=some lh.v:=by
  rw[T]
  obtain ⟨c0,c1,c2,rfl,g0,g1,g2⟩:=h.cells
  obtain ⟨a0,p0,rfl,e0⟩:=g0.cells
  obtain ⟨a1,p1,rfl,e1⟩:=g1.cells
  obtain ⟨a2,p2,rfl,e2⟩:=g2.cells
  simp only[World.cell?,D];rfl
 obtain ⟨c0,c1,c2,rfl,g0,g1,g2⟩:=h.cells
 obtain ⟨a0,p0,rfl,e0⟩:=g0.cells
 obtain ⟨a1,p1,rfl,e1⟩:=g1.cells
 obtain ⟨a2,p2,rfl,e2⟩:=g2.cells
 clear h hN hg hl g0 g1 g2 e0 e1 e2 D T ak
 obtain ⟨la,Z,lc⟩:=lh
 unfold Aw.v at*
 dsimp only at*
 simp only[yK,yQ] at Q J ⊢
 go_enter Tryz.func35,Tryz.ntmps35
 refine Ab fun K hK=>?_
 go_wp2
 refine hK.o _ _ ?_
 clear hK
 generalize w.alloc _=W at Q J ⊢
 go_wp2
 have a:Hid (Z=x.lets.length):=yb a8.o.1
 clear J
 go_loopw [2,10] (fun v iv wr=>∃i:Nat,i<=Z∧iv=iV i∧Hid (Lt w.heap.size wr v (O7 x i))∧Hid (Below w.heap.size w wr)) (fun _ iv _=>Z - (intOf iv).toNat)
 case atStart=>exact ⟨0,yI _,rfl,yb (by unfold O7;exact SG _ _),Q⟩
 case round=>
  obtain ⟨i,hi,rfl,F,C⟩:=hrel
  by_cases ar:i < Z
  ·have H:i < x.lets.length:=by have:=a.o;omega
   obtain ⟨b,o,cs,ab,al,ao,ae,aq⟩:=a8.o.2.2 i H
   dsimp only at ab
   subst ab
   obtain ⟨S,c,rfl,X⟩:=aq
   obtain ⟨va,vp,rfl, -, -, -⟩:=X.cells
   have aj:(i:Int) < (Z:Int):=by omega
   obtain ⟨kh,f,j⟩:=MY F.o (by rw[RS x (by omega)];have:=l.o;omega)
   obtain ⟨ka,kn,kc⟩:=kh
   unfold Aw.v at f
   dsimp only at f
   subst f
   have au:=yb j
   have O:=Ul x H
   have g:=yb O
   have q:Hid (∀W,Below wr.heap.size wr W->Calls Tryz.prog 38 #[.slice ka kn kc,.agg #[iV x.lets[i].value.op,iV x.lets[i].value.n,iV x.lets[i].value.u,.string x.lets[i].value.rn,iV x.lets[i].value.ri,.slice va x.lets[i].value.args.length vp],iV 8] W (OW (F0 (O7 x i) 8 x.lets[i].value) W)):=yb (fun W hW=>by
    have Y:Below w.heap.size w W:=C.o.trans (hW.mono C.o.size)
    exact Ud (O7 x i) (IF _ [] (fun k hk=>by cases hk)) ⟨ka,kn,kc⟩ 8 (yf _) _ _ W (HG.o.up Y) (j.up hW) (X.same (fun b hb=>yt (HN.o b hb) Y.size) (fun b hb=>Y.block b (HN.o b hb))))
   have aa:Hid (wr.rangeAt b (o+i*7) [.string x.lets[i].name,iV x.lets[i].value.op,iV x.lets[i].value.n,iV x.lets[i].value.u,.string x.lets[i].value.rn,iV x.lets[i].value.ri,.slice va x.lets[i].value.args.length vp]):=yb (A0 ae (C.o.block b (HN.o b al)))
   obtain ⟨r0,r1,r2,r3,r4,r5,r6⟩:=WC aa.o
   clear X ae j S ao g
   generalize x.lets[i]=ld at*
   have g:=yb O
   clear O H
   generalize F0 (O7 x i) 8 ld.value=qx at*
   obtain ⟨E,⟨I,U,vu,R,V,P⟩⟩:=ld
   simp only[Ex.op,Ex.n,Ex.u,Ex.rn,Ex.ri,Ex.args] at q aa r0 r1 r2 r3 r4 r5 r6 g
   generalize P.length=vl at*
   obtain ⟨⟨⟨B,z,s⟩,⟨y,t⟩,e⟩,ok⟩:=qx
   unfold OW Qn.val at q
   dsimp only at q g
   have p:=yb ((yg wr.heap.size wr).alloc (yf _) (.cells #[.string E,iV I,iV U,iV vu,.string R,iV V,.slice va vl vp] 50))
   have am:=yb (World.alloc_heap_new wr (.cells #[.string E,iV I,iV U,iV vu,.string R,iV V,.slice va vl vp] 50))
   go_upto_region 5 with (first|(go_at_call 38;with_reducible refine (q.o _ p.o).mono ?_;rintro e w2 ⟨rfl,a6⟩;have M:=yb a6;clear a6))
   have d:Hid (Below wr.heap.size wr (w2.alloc (.cells #[iV B,iV z,iV s,iV y,iV t,iV e] 70))):=yb ((p.o.trans (M.o.mono p.o.size)).alloc (by have:=M.o.size;have:=p.o.size;omega) _)
   have S:(w2.alloc (.cells #[iV B,iV z,iV s,iV y,iV t,iV e] 70)).cell? (aV wr.heap.size 0)=some (.string E):=by
    have h1:w2.heap[wr.heap.size]?=some (.cells #[.string E,iV I,iV U,iV vu,.string R,iV V,.slice va vl vp] 50 (0,0)):=(M.o.block _ (by simp)).trans am.o
    have h2:=(yA w2 (.cells #[iV B,iV z,iV s,iV y,iV t,iV e] 70) wr.heap.size (yd.1 h1).1).trans h1
    simp[World.cell?,h2]
   have m:=World.alloc_heap_new w2 (.cells #[iV B,iV z,iV s,iV y,iV t,iV e] 70)
   generalize hG:w2.heap.size=G at m ⊢
   clear hG
   generalize w2.alloc (.cells #[iV B,iV z,iV s,iV y,iV t,iV e] 70)=W3 at d S m ⊢
   obtain ⟨q0,q1,q2,q3,q4,q5⟩:=Cg m
   clear m r0 r1 r2 r3 r4 r5 r6
   have a7:=yb (K4 F.o d.o)
   have r:Hid ((W3.alloc (.cells #[.string E,iV B,iV z,iV s,iV y,iV t,iV e,.bool ok] 98)).ownsRow w.heap.size 98 8 (.slice ka kn kc) (O7 x i).length ((O7 x i).flatMap Ls)):=yb (K4 a7.o ((yg _ _).alloc (yf _) _))
   have ap:Hid ((O7 x i).length+1<=1000000):=yb (by rw[RS x (by have:=a.o;omega)];have:=l.o;have:=a.o;omega)
   have af:Hid (w.heap.size<=(W3.alloc (.cells #[.string E,iV B,iV z,iV s,iV y,iV t,iV e,.bool ok] 98)).heap.size):=yb (by have:=C.o.size;have:=d.o.size;simp;omega)
   go_wp2_with (first|(at_builtin;refine JB Tryz.underlying95 rfl _ _ rfl 8 (by kernel_rfl) (by omega) w.heap.size (.slice ka kn kc) (O7 x i).length ((O7 x i).flatMap Ls) rfl r.o W3.heap.size 1 [.string E,iV B,iV z,iV s,iV y,iV t,iV e,.bool ok] rfl (World.alloc_heap_new _ _) rfl (by simp[Value.oneCell']) ap.o af.o ?_;intro vx x8 A ad ag;have ac:=yb A;have an:=yb ad;clear A ad ag))
   have ai:wrap64 ((i:Int)+1)=((i+1:Nat):Int):=by
    rw[AH (by have:=l.o;have:=a.o;omega)];push_cast;rfl
   rw[ai]
   refine ⟨⟨i+1,by omega,rfl,yb ?_,yb ?_⟩,by simp[intOf];omega⟩
   ·rw[g.o]
    have h:=ac.o
    unfold Lt
    rw[yn,zo]
    exact h
   ·exact OY r.o (C.o.trans (d.o.mono C.o.size) |>.alloc (by have:=C.o.size;have:=d.o.size;omega) _) af.o an.o
  ·obtain rfl:i=Z:=by omega
   have aj:decide ((i:Int) < (i:Int))=false:=by simp
   have ah:Hid (Lt w.heap.size wr u2 (Am [] (Av x))):=yb (by
    have h:=F.o
    unfold O7 at h
    rwa [qc (by rw[show (Av x).length=x.lets.length by simp[Av],a.o];exact yf _)] at h)
   go_wp2
   obtain ⟨kh,f,j⟩:=MY ah.o (by rw[Ia,yH,show (Av x).length=x.lets.length by simp[Av]];have:=l.o;omega)
   go_ret
   exact ⟨kh,yD Ending.returned f,j,C.o⟩
set_option linter.unusedSimpArgs false
structure SN (w:World) (ks xs:List Value) (T:TypeId) (rs:List Value) (W:World):Prop where
 below:Below w.heap.size w W
 s:W.rangeAt w.heap.size 0 ks
 x:W.rangeAt (w.heap.size+1) 0 xs
 r:W.heap[w.heap.size+1+1]?=some (.cells rs.toArray T (0,0))
theorem SN.lt{w:World}{a xs:LV}{T:TypeId}{rs:LV}{W:World}(h:SN w a xs T rs W):w.heap.size+2 < W.heap.size:=(yd.1 h.r).1
theorem SN.up{w:World}{a xs:LV}{T:TypeId}{rs:LV}{W W':World}(h:SN w a xs T rs W)(hb:Below W.heap.size W W'):SN w a xs T rs W':=by
 have:=h.lt
 exact ⟨h.below.trans (hb.mono (by omega)),A0 h.s (hb.block _ (by omega)),A0 h.x (hb.block _ (by omega)),(hb.block _ (by omega)).trans h.r⟩
theorem SN.new(w:World)(a xs:LV)(T:TypeId)(rs:LV):SN w a xs T rs (((w.alloc (.cells a.toArray 35)).alloc (.cells xs.toArray 26)).alloc (.cells rs.toArray T)):=by
 refine ⟨Gj _ _ _ _,Ax (I6 _ _ _ _),Ax (GD _ _ _ _),Dr _ _ _ _⟩
theorem SN.drew{w:World}{a xs:LV}{T:TypeId}{rs:LV}{W:World}(h:SN w a xs T rs W):SN w a xs T rs W.drew:=⟨h.below.drew,h.s,h.x,h.r⟩
theorem Ly{N:NP}{w:World}{L:Bt}{cs:LV}{x:Ar}(h:BH N w L cs x):(Tryz.prog.info? 35).map (·.size)=some cs.length:=by
 obtain ⟨c0,c1,c2,rfl,b,g1,a⟩:=h.cells
 obtain ⟨f,d,rfl,c⟩:=b.cells
 obtain ⟨a1,i,rfl,g⟩:=g1.cells
 obtain ⟨e,k,rfl,j⟩:=a.cells
 kernel_rfl
structure Dv (w:World) (cs:List Value) (x:Ar):Prop where
 v:∃L,BH (fun b=>b < w.heap.size) w L cs x
 slim:Kf x
 gv:GV w
 gu:GU w
 depth:∀e∈As x,At e.1<=1000000
theorem Dv.up{w w':World}{cs:LV}{x:Ar}(h:Dv w cs x)(hb:Below w.heap.size w w'):Dv w' cs x:=by
 obtain ⟨L,c⟩:=h.v
 exact ⟨⟨L,c.same (fun b a=>yt a hb.size) (fun b a=>hb.block b a)⟩,h.slim,h.gv.below hb h.gv.1,h.gu.up hb,h.depth⟩
theorem Dv.check{w:World}{cs:LV}{x:Ar}(h:Dv w cs x):Calls Tryz.prog 17 #[.agg cs.toArray] w fun e w'=>e=.returned (.int .i64 (Bq x))∧Below w.heap.size w w':=by
 obtain ⟨L,a⟩:=h.v
 exact SM a (fun _ h=>h) h.slim h.gv h.depth
theorem Dv.consts{w:World}{cs:LV}{x:Ar}(h:Dv w cs x):Calls Tryz.prog 35 #[.agg cs.toArray] w fun e w'=>∃k:Aw,e=.returned k.v∧PT w' k (Am [] (Av x))∧Below w.heap.size w w':=by
 obtain ⟨L,a⟩:=h.v
 exact Ml a (fun _ h=>h) h.gu h.slim.lets
theorem P8(x:Ar){k:Aw}{w:World}(c:GU w)(a:PT w k (Am [] (Av x))){e:Ex}{cs:LV}(d:AI (fun b=>b < w.heap.size) w e cs):Calls Tryz.prog 38 #[k.v,.agg cs.toArray,.int .i64 8] w (OW (F0 (Am [] (Av x)) 8 e) w):=
 Ud _ (IF _ [] (fun k a=>by cases a)) k 8 (yf _) e cs w c a d
theorem Um{N:NP}{w:World}{e:Ex}{cs:LV}(h:AI N w e cs):cs.length=6:=by
 obtain ⟨a,p,rfl, -⟩:=h.cells;rfl
theorem QH{c:LV}(h:c.length=6):(Tryz.prog.info? 26).map (·.size)=some c.length:=by rw[h];kernel_rfl
def P9(m:Qn × Int)(w:World)(e:Ending)(w':World):Prop:=∃q:Qn,e=.returned (.tuple #[q.val,.int .i64 m.2])∧(m.2=0->q=m.1)∧Below w.heap.size w w'
theorem K7{w:World}{x:Ar}{cs:LV}{e:Ex}{xs:LV}(h:Dv w cs x)(hv:AI (fun b=>b < w.heap.size) w e xs):Calls Tryz.prog 26 #[.agg cs.toArray,.agg xs.toArray] w (P9 (FM x e) w):=by
 have D:Hid ((Tryz.prog.info? 35).map (·.size)=some cs.length):=yb (by obtain ⟨L,hv⟩:=h.v;exact Ly hv)
 have HS:=yb h
 have HV:=yb hv
 have B:=yb (SN.new w cs xs 70 [iV 0,iV 0,iV 0,iV 0,iV 0,iV 0])
 obtain ⟨res,a⟩:∃r,r=FM x e:=⟨_,rfl⟩
 rw[<-a]
 have t:=yb a
 obtain ⟨E,S⟩:∃E,E=cs:=⟨_,rfl⟩
 obtain ⟨X,R⟩:∃X,X=xs:=⟨_,rfl⟩
 rw[<-S] at HS D
 rw[<-R] at HV
 have HK:=yb S
 have HY:=yb R
 obtain ⟨L,a7⟩:=h.v
 obtain ⟨c0,c1,c2,rfl,g0,g1,g2⟩:=a7.cells
 obtain ⟨a0,p0,rfl,e0⟩:=g0.cells
 obtain ⟨a1,p1,rfl,e1⟩:=g1.cells
 obtain ⟨a2,p2,rfl,e2⟩:=g2.cells
 obtain ⟨ax,px,rfl, -⟩:=hv.cells
 clear h hv a7 g0 g1 g2 e0 e1 e2 S R a
 unfold Aw.v at*
 simp only[yK,yQ] at B HK ⊢
 go_enter Tryz.func26,Tryz.ntmps26
 refine Ab fun K d=>?_
 go_wp2
 refine d.o _ _ ?_
 clear d K
 generalize ((w.alloc _).alloc _).alloc _=W at B ⊢
 rw[<-HK.o,<-HY.o] at B ⊢
 clear HK HY
 have ab:Hid (X.length=6):=yb (Um HV.o)
 have N:Hid (∀V,Below w.heap.size w V->Calls Tryz.prog 17 #[.agg E.toArray] V fun e w'=>e=.returned (iV (Bq x))∧Below V.heap.size V w'):=yb (fun V A=>(HS.o.up A).check)
 have P:Hid (∀V,Below w.heap.size w V->Calls Tryz.prog 35 #[.agg E.toArray] V fun e w'=>∃k:Aw,e=.returned k.v∧PT w' k (Am [] (Av x))∧Below V.heap.size V w'):=yb (fun V A=>(HS.o.up A).consts)
 have Q:Hid (∀V,Below W.heap.size W V->V.rangeAt w.heap.size 0 E):=yb (fun V A=>(B.o.up A).s)
 have a8:Hid (∀V,Below W.heap.size W V->V.rangeAt (w.heap.size+1) 0 X):=yb (fun V A=>(B.o.up A).x)
 have a:=t.o
 unfold FM at a
 generalize Bq x=ck at*
 have f:Hid (Below w.heap.size w W):=yb B.o.below
 refine Ab fun K d=>?_
 by_cases hc:ck=0
 rotate_left
 ·have M:Hid (res=(Fx,ck)):=yb (by rw[a,yq hc])
  have e1:(ck !=0)=true:=by simpa using hc
  clear d hc a t P
  go_upto_region 2 with (first
   |(refine yj rfl 35 _ rfl w.heap.size 0 rfl E _ (Q.o _ (yg _ _)) qY rfl D.o ?_)
   |(go_at_call 17;with_reducible refine (N.o _ f.o).mono ?_;rintro e w2 ⟨rfl,p⟩;have O:=yb (B.o.up p);clear p))
  have j:w2.heap[w.heap.size+1+1]?=some (.cells jg 70 (0,0)):=O.o.r
  have q:=yb j
  obtain ⟨q0,q1,q2,q3,q4,q5⟩:=Cg j
  have qf:=fun k=>E4 (n:=k) j
  clear j
  go_wp2
  have g:=Cv q.o (iV 0) (iV 0) (iV 0) (iV 0) (iV 0) (iV 0)
  exact A3 (c:=Fx.row) rfl rfl g.row ja rfl (by kernel_rfl) ⟨Fx,by rw[M.o];rfl,fun _=>by rw[M.o],g.below O.o.below (by omega)⟩
 ·rw[yw hc] at a
  have y:=yb a
  subst hc
  clear a t
  go_wp2_with (first
   |(refine yj rfl 35 _ rfl w.heap.size 0 rfl E _ (Q.o _ (yg _ _)) qY rfl D.o ?_)
   |(go_at_call 17;with_reducible refine (N.o _ f.o).mono ?_;rintro e w2 ⟨rfl,p⟩;have O:=yb (B.o.up p);have aa:=yb p;clear p))
  refine d.o _ _ ?_
  clear d K
  refine Ab fun K d=>?_
  refine Di (by kernel_rfl) (fun V=>Below W.heap.size W V) 3 ?_
  have m:Hid (Below W.heap.size W w2.drew):=yb aa.o.drew
  refine AO (i:=2) (v:=.agg X.toArray) rfl (by kernel_rfl) (by kernel_rfl) (by kernel_rfl) (fun _ _ _ h=>h) (by kernel_rfl) (yieldsIf_load_mid (by rfl) 26 _ rfl (w.heap.size+1) 0 (by kernel_rfl) X _ (fun V A=>a8.o V A) qP rfl (QH ab.o)) m.o ?_
  refine Ag (i:=0) (by kernel_rfl) rfl (fun K d=>?_)
  rw[yw (by kernel_rfl)]
  refine xU 35 _ rfl w.heap.size 0 rfl E _ (Q.o _ m.o) qY rfl D.o ?_
  refine d.o _ _ (fun _=>m.o) ?_
  clear d K
  refine Ag (i:=1) (by kernel_rfl) rfl (fun K d=>?_)
  go_simp
  refine (P.o _ (f.o.trans (m.o.mono f.o.size))).mono ?_
  rintro e2 w3 ⟨kh,rfl,a6,Z⟩
  have l:Hid (Below W.heap.size W w3):=yb (m.o.trans (Z.mono m.o.size))
  have C:=yb (P8 x ((HS.o.gu).up (f.o.trans (l.o.mono f.o.size))) a6 (HV.o.same (fun b hb=>yt hb (f.o.trans (l.o.mono f.o.size)).size) (fun b hb=>(f.o.trans (l.o.mono f.o.size)).block b hb)))
  refine d.o _ _ (fun _=>l.o) ?_
  clear d K a6 Z
  generalize F0 (Am [] (Av x)) 8 e=qq at*
  obtain ⟨⟨⟨J,I,F⟩,⟨H,G⟩,er⟩,ok⟩:=qq
  unfold OW Qn.val at C
  dsimp only at C y
  refine Ag (i:=3) (by kernel_rfl) rfl (fun K d=>?_)
  go_simp
  refine C.o.mono ?_
  rintro e3 w4 ⟨rfl,Y⟩
  have U:=yb (B.o.up (l.o.trans (Y.mono l.o.size)))
  refine d.o _ _ (by intro h;cases h) ?_
  clear d K Y C l m P N
  have j:w4.heap[w.heap.size+1+1]?=some (.cells jg 70 (0,0)):=U.o.r
  have q:=yb j
  obtain ⟨q0,q1,q2,q3,q4,q5⟩:=Cg j
  have qf:=fun k=>E4 (n:=k) j
  clear j
  refine Ag (i:=4) (by kernel_rfl) rfl (fun K d=>?_)
  go_simp
  refine d.o _ _ (by intro h;cases h) ?_
  clear d K
  refine Af (i:=5) (v:=.agg #[iV J,iV I,iV F,iV H,iV G,iV er]) rfl (by kernel_rfl) (by kernel_rfl) (by kernel_rfl) (fun _ _ _ h=>h) (by kernel_rfl) (Or.inl ⟨by rfl,?_⟩) (by intro h;cases h) ?_
  ·intro w _;go_simp
  refine Af (i:=6) (v:=.bool ok) rfl (by kernel_rfl) (by kernel_rfl) (by kernel_rfl) (fun _ _ _ h=>h) (by kernel_rfl) (Or.inl ⟨by rfl,?_⟩) (by intro h;cases h) ?_
  ·intro w _;go_simp
  refine Ag (i:=7) (by kernel_rfl) rfl (fun K d=>?_)
  go_simp
  refine d.o _ _ (by intro h;cases h) ?_
  clear d K
  refine Ag (i:=8) (by kernel_rfl) rfl (fun K d=>?_)
  go_simp
  refine d.o _ _ (by intro h;cases h) ?_
  clear d K
  refine Dh (by kernel_rfl) ?_
  have g:=Cv q.o (iV J) (iV I) (iV F) (iV H) (iV G) (iV er)
  have T:=yb (g.below U.o.below (Nat.le_succ_of_le (Nat.le_succ _)))
  have u:=g.row
  clear g q U q0 q1 q2 q3 q4 q5 qf
  refine d.o _ _ ?_
  clear d K
  generalize ((((((w4.setCell _ _).setCell _ _).setCell _ _).setCell _ _).setCell _ _).setCell _ _)=W5 at T u ⊢
  have q:=yb u
  obtain ⟨q0,q1,q2,q3,q4,q5⟩:=Cg u
  have qf:=fun k=>E4 (n:=k) u
  clear u
  unfold Aw.v
  have g:=Cv q.o (iV J) (iV I) (iV F) (iV H) (iV G) (iV er)
  have z:=yb g
  clear g
  cases ok with
  |true=>
   have M:Hid (res=(⟨⟨J,I,F⟩,⟨H,G⟩,er⟩,0)):=y
   clear y
   go_wp2
   exact A3 (c:=(⟨⟨J,I,F⟩,⟨H,G⟩,er⟩:Qn).row) rfl rfl z.o.row ja rfl (by kernel_rfl) ⟨⟨⟨J,I,F⟩,⟨H,G⟩,er⟩,by rw[M.o];rfl,fun _=>by rw[M.o],z.o.below T.o (by omega)⟩
  |false=>
   have M:Hid (res=(Fx,180)):=y
   clear y
   go_wp2
   exact A3 (c:=(⟨⟨J,I,F⟩,⟨H,G⟩,er⟩:Qn).row) rfl rfl z.o.row ja rfl (by kernel_rfl) ⟨⟨⟨J,I,F⟩,⟨H,G⟩,er⟩,by rw[M.o];rfl,fun h=>by rw[M.o] at h;exact absurd h (by decide),z.o.below T.o (by omega)⟩
set_option linter.unusedSimpArgs false
def Pa(m:Dm × Int)(w:World)(e:Ending)(w':World):Prop:=e=.returned (.tuple #[m.1.v,.int .i64 m.2])∧Below w.heap.size w w'
def Un(m:Rt × Int)(w:World)(e:Ending)(w':World):Prop:=e=.returned (.tuple #[m.1.v,.int .i64 m.2])∧Below w.heap.size w w'
theorem J7{w:World}{x:Ar}{cs:LV}{e:Ex}{xs:LV}(h:Dv w cs x)(A:AI (fun b=>b < w.heap.size) w e xs):Calls Tryz.prog 9 #[.agg cs.toArray,.agg xs.toArray] w (Pa (Du x e) w):=by
 have B:Hid ((Tryz.prog.info? 35).map (·.size)=some cs.length):=yb (by obtain ⟨L,A⟩:=h.v;exact Ly A)
 have S:=yb h
 have J:=yb A
 have l:=yb (SN.new w cs xs 39 jj)
 obtain ⟨res,a⟩:∃r,r=Du x e:=⟨_,rfl⟩
 rw[<-a]
 have d:=yb a
 obtain ⟨D,n⟩:∃D,D=cs:=⟨_,rfl⟩
 obtain ⟨y,m⟩:∃y,y=xs:=⟨_,rfl⟩
 rw[<-n] at S B
 rw[<-m] at J
 have I:=yb n
 have R:=yb m
 obtain ⟨L,C⟩:=h.v
 obtain ⟨c0,c1,c2,rfl,g0,g1,Z⟩:=C.cells
 obtain ⟨a0,p0,rfl,e0⟩:=g0.cells
 obtain ⟨a1,p1,rfl,T⟩:=g1.cells
 obtain ⟨a2,p2,rfl,Y⟩:=Z.cells
 obtain ⟨ax,px,rfl, -⟩:=A.cells
 clear h A C g0 g1 Z e0 T Y n m a
 unfold Aw.v at*
 simp only[yK,yQ] at l I ⊢
 go_enter Tryz.func9,Tryz.ntmps9
 refine Ab fun K z=>?_
 go_wp2
 refine z.o _ _ ?_
 clear z K
 generalize ((w.alloc _).alloc _).alloc _=W at l ⊢
 rw[<-I.o,<-R.o] at l ⊢
 clear I R
 have O:Hid (y.length=6):=yb (Um J.o)
 have j:Hid (Below w.heap.size w W):=yb l.o.below
 have i:Hid (Calls Tryz.prog 26 #[.agg D.toArray,.agg y.toArray] W (P9 (FM x e) W)):=yb (K7 (S.o.up j.o) (J.o.same (fun b hb=>yt hb j.o.size) (fun b hb=>j.o.block b hb)))
 refine Ab fun K z=>?_
 have a:=d.o
 unfold Du at a
 generalize FM x e=mm at*
 obtain ⟨q,er⟩:=mm
 unfold P9 at i
 dsimp only at i a
 go_wp2_with (first
  |(refine yj rfl 35 _ rfl w.heap.size 0 rfl D _ l.o.s qY rfl B.o ?_)
  |(refine yj rfl 26 _ rfl (w.heap.size+1) 0 rfl y _ l.o.x qP rfl (QH O.o) ?_)
  |(go_at_call 26;with_reducible refine i.o.mono ?_;rintro Y w2 ⟨⟨⟨H,F,E⟩,⟨V,U⟩,Q⟩,rfl,X,u⟩;unfold Qn.val;dsimp only;have N:=yb X;have M:=yb (l.o.up u);clear X u))
 have g:=yb (M.o.up ((yg w2.heap.size w2).alloc (yf _) (.cells #[iV H,iV F,iV E,iV V,iV U,iV Q] 70)))
 have f:=World.alloc_heap_new w2 (.cells #[iV H,iV F,iV E,iV V,iV U,iV Q] 70)
 refine z.o _ _ ?_
 clear z K i
 generalize w2.heap.size=G at f ⊢
 generalize w2.alloc _=W3 at g f ⊢
 obtain ⟨q0,q1,q2,q3,q4,q5⟩:=Cg f
 clear f
 have k:W3.heap[w.heap.size+1+1]?=some (.cells ji 39 (0,0)):=g.o.r
 obtain ⟨r0,r1,r2,f0,f1,f2⟩:=GQ k
 have t:=yb k
 clear k
 by_cases p:er=0
 ·rw[yw p] at a
  have hd:=N.o p
  rw[<-hd] at a
  have P:Hid (res=(⟨H,F,E⟩,0)):=yb a
  subst p
  clear a hd d N
  go_wp2
  exact A3 (c:=(⟨H,F,E⟩:Dm).row) rfl rfl (Dz (Dy (Dx t.o))) qZ rfl (by kernel_rfl) ⟨by rw[P.o];rfl,A5 (A5 (A5 g.o.below (by omega) _) (by omega) _) (by omega) _⟩
 ·rw[yq p] at a
  have P:Hid (res=(O5,er)):=yb a
  have T:(er !=0)=true:=by simpa using p
  clear a d N p
  go_wp2
  exact A3 (c:=O5.row) rfl rfl (Dz (Dy (Dx t.o))) qZ rfl (by kernel_rfl) ⟨by rw[P.o];rfl,A5 (A5 (A5 g.o.below (by omega) _) (by omega) _) (by omega) _⟩
theorem DS{w:World}{x:Ar}{cs:LV}{e:Ex}{xs:LV}(h:Dv w cs x)(D:AI (fun b=>b < w.heap.size) w e xs):Calls Tryz.prog 10 #[.agg cs.toArray,.agg xs.toArray] w (Un (B7 x e) w):=by
 have E:Hid ((Tryz.prog.info? 35).map (·.size)=some cs.length):=yb (by obtain ⟨L,D⟩:=h.v;exact Ly D)
 have T:=yb h
 have N:=yb D
 have p:=yb (SN.new w cs xs 44 [iV 0,iV 0])
 obtain ⟨res,a⟩:∃r,r=B7 x e:=⟨_,rfl⟩
 rw[<-a]
 have f:=yb a
 obtain ⟨H,u⟩:∃H,H=cs:=⟨_,rfl⟩
 obtain ⟨A,t⟩:∃A,A=xs:=⟨_,rfl⟩
 rw[<-u] at T E
 rw[<-t] at N
 have M:=yb u
 have S:=yb t
 obtain ⟨L,F⟩:=h.v
 obtain ⟨c0,c1,c2,rfl,g0,g1,g2⟩:=F.cells
 obtain ⟨a0,p0,rfl,V⟩:=g0.cells
 obtain ⟨a1,p1,rfl,Q⟩:=g1.cells
 obtain ⟨a2,p2,rfl,e2⟩:=g2.cells
 obtain ⟨ax,px,rfl, -⟩:=D.cells
 clear h D F g0 g1 g2 V Q e2 u t a
 unfold Aw.v at*
 simp only[yK,yQ] at p M ⊢
 go_enter Tryz.func10,Tryz.ntmps10
 refine Ab fun K C=>?_
 go_wp2
 refine C.o _ _ ?_
 clear C K
 generalize ((w.alloc _).alloc _).alloc _=W at p ⊢
 rw[<-M.o,<-S.o] at p ⊢
 clear M S
 have R:Hid (A.length=6):=yb (Um N.o)
 have m:Hid (Below w.heap.size w W):=yb p.o.below
 have j:Hid (Calls Tryz.prog 26 #[.agg H.toArray,.agg A.toArray] W (P9 (FM x e) W)):=yb (K7 (T.o.up m.o) (N.o.same (fun b hb=>yt hb m.o.size) (fun b hb=>m.o.block b hb)))
 refine Ab fun K C=>?_
 have a:=f.o
 unfold B7 VA at a
 generalize FM x e=mm at*
 obtain ⟨q,er⟩:=mm
 unfold P9 at j
 dsimp only at j a
 go_wp2_with (first
  |(refine yj rfl 35 _ rfl w.heap.size 0 rfl H _ p.o.s qY rfl E.o ?_)
  |(refine yj rfl 26 _ rfl (w.heap.size+1) 0 rfl A _ p.o.x qP rfl (QH R.o) ?_)
  |(go_at_call 26;with_reducible refine j.o.mono ?_;rintro e2 w2 ⟨⟨⟨Y,X,U⟩,⟨J,I⟩,y⟩,rfl,Z,z⟩;unfold Qn.val;dsimp only;have P:=yb Z;have O:=yb (p.o.up z);clear Z z))
 have g:=yb (O.o.up ((yg w2.heap.size w2).alloc (yf _) (.cells #[iV Y,iV X,iV U,iV J,iV I,iV y] 70)))
 have i:=World.alloc_heap_new w2 (.cells #[iV Y,iV X,iV U,iV J,iV I,iV y] 70)
 refine C.o _ _ ?_
 clear C K j
 generalize w2.heap.size=G at i ⊢
 generalize w2.alloc _=W3 at g i ⊢
 obtain ⟨q0,q1,q2,q3,q4,q5⟩:=Cg i
 clear i
 have n:W3.heap[w.heap.size+1+1]?=some (.cells jh 44 (0,0)):=g.o.r
 obtain ⟨r0,r1,f0,f1⟩:=DG n
 have l:=yb n
 clear n
 by_cases k:er=0
 ·rw[yw k] at a
  have hd:=P.o k
  rw[<-hd] at a
  dsimp only at a
  subst k
  clear hd f P
  by_cases d:y=0
  ·rw[yw d] at a
   have B:Hid (res=(⟨J,I⟩,0)):=yb a
   subst d
   clear a
   go_wp2
   exact A3 (c:=[iV J,iV I]) rfl rfl (Dw (Dl l.o)) j4 rfl (by kernel_rfl) ⟨by rw[B.o];rfl,A5 (A5 g.o.below (by omega) _) (by omega) _⟩
  ·rw[yq d] at a
   have B:Hid (res=(It,y)):=yb a
   have Q:(y !=0)=true:=by simpa using d
   clear a d
   go_wp2
   exact A3 (c:=[iV 0,iV 0]) rfl rfl (Dw (Dl l.o)) j4 rfl (by kernel_rfl) ⟨by rw[B.o];rfl,A5 (A5 g.o.below (by omega) _) (by omega) _⟩
 ·rw[yq k,yq k] at a
  have B:Hid (res=(It,er)):=yb a
  have V:(er==0)=false:=by simpa using k
  have Q:(er !=0)=true:=by simpa using k
  clear a f P k
  go_wp2
  exact A3 (c:=[iV 0,iV 0]) rfl rfl (Dw (Dl l.o)) j4 rfl (by kernel_rfl) ⟨by rw[B.o];rfl,A5 (A5 g.o.below (by omega) _) (by omega) _⟩
set_option linter.unusedSimpArgs false
theorem Pb(op nn u:Int)(rn:ByteArray)(ri:Int)(a:Option Addr)(m cap:Nat)(w:World):
  Calls Tryz.prog 37 #[.agg #[.int .i64 op,.int .i64 nn,.int .i64 u,.string rn,.int .i64 ri,.slice a m cap]] w fun e w'=>e=.returned (.bool (DC op nn u rn ri m))∧Below w.heap.size w w':=by
 by_cases h0:op=0
 ·by_cases h1:nn=0
  ·by_cases h2:u=0
   ·subst h0 h1 h2
    go_enter Tryz.func37,Tryz.ntmps37
    go_wp2
    ·rename_i h1 h2
     go_ret
     refine ⟨AK ?_,(yg _ _).alloc (yf _) _⟩
     simp only[DC,xq (show rn.size=0∧ri=0 from ⟨(DD rn).2 h1,h2⟩)]
     rw[xZ];simp
    ·rename_i h1 h2
     go_ret
     refine ⟨AK ?_,(yg _ _).alloc (yf _) _⟩
     simp only[DC,xw (show ¬ (rn.size=0∧ri=0) from fun h=>h2 h.2)]
     simp
    ·rename_i h1
     go_ret
     refine ⟨AK ?_,(yg _ _).alloc (yf _) _⟩
     simp only[DC,xw (show ¬ (rn.size=0∧ri=0) from fun h=>h1 ((DD rn).1 h.1))]
     simp
   ·have b:(u==0)=false:=by simpa using h2
    subst h0 h1
    go_enter Tryz.func37,Tryz.ntmps37
    go_wp2
    go_ret
    exact ⟨AK (by simp[DC,h2]),(yg _ _).alloc (yf _) _⟩
  ·have b:(nn==0)=false:=by simpa using h1
   subst h0
   go_enter Tryz.func37,Tryz.ntmps37
   go_wp2
   go_ret
   exact ⟨AK (by simp[DC,h1]),(yg _ _).alloc (yf _) _⟩
 ·have b:(op==0)=false:=by simpa using h0
  go_enter Tryz.func37,Tryz.ntmps37
  go_wp2
  go_ret
  exact ⟨AK (by simp[DC,h0]),(yg _ _).alloc (yf _) _⟩
theorem Lz{N:NP}{w:World}{e:Ex}{cs:LV}(h:AI N w e cs)(W:World):Calls Tryz.prog 37 #[.agg cs.toArray] W fun b w'=>b=.returned (.bool (Bv e))∧Below W.heap.size W w':=by
 obtain ⟨a,p,rfl, -⟩:=h.cells
 exact Pb e.op e.n e.u e.rn e.ri a e.args.length p W
end Go.Proofs.YtjofgpfocadomaaGreatDoor
namespace Go.Proofs.YtjofgpfocadomaaGreatDoor
open Go.RowKit
set_option linter.unusedSimpArgs false
attribute [local go_sem] Oper.semAt_some
def DL(d:Dm)(a:Bool)(cs:LV):Array Value:=#[.agg (cs++(.bool a::d.row)).toArray]
def WO(W:World)(Bon:Nat)(b:Bool):Prop:=W.heap[Bon]?=some (.cells #[.bool b] 4 (0,0))
structure Mm (J:Nat->(Nat->Prop)->World->Prop) (Jx:(Nat->Prop)->World->Prop) (W0:World) (l Bon By k:Nat) (O:Nat->Prop) (W:World):Prop where
 own:∀b,O b->W0.heap.size<=b∧b < W.heap.size
 size:W0.heap.size<=W.heap.size
 oon:O Bon
 oy:O By
 ne:Bon≠By
 y:W.heap[By]?=some (.cells #[.func (.yield l) #[] #[]] 161 (0,0))
 st:(WO W Bon true∧J k O W)∨(WO W Bon false∧Jx O W)
structure Mn (n l:Nat) (xs:List (Array Value)) (J:Nat->(Nat->Prop)->World->Prop) (Jx:(Nat->Prop)->World->Prop) (Jp:List PanicEntry->(Nat->Prop)->World->Prop) (W0:World):Prop where
 stays:Cd J
 staysx:Cd (fun (_:Unit)=>Jx)
 round:∀k (hk:k < xs.length) O W1,J k O W1->W0.heap.size<=W1.heap.size->(∀b,O b->W0.heap.size<=b∧b < W1.heap.size)->YieldAt Fence.wide n Tryz.prog l xs[k] W1 fun e W'=>
   (e=.returned (.bool true)∧J (k+1) O W'∧AN O W1 W')∨(e=.returned (.bool false)∧Jx O W'∧AN O W1 W')∨(∃ch,e=.panicked ch∧Jp ch O W'∧AN O W1 W')
section
variable{J:Nat->NP->World->Prop}{Jx:NP->World->Prop}{Jp:List PanicEntry->NP->World->Prop}{W0:World}{n l Bon By k:Nat}{O:NP}{W W':World}{xs:List (Array Value)}
theorem Mm.below(c:Mn n l xs J Jx Jp W0)(h:Mm J Jx W0 l Bon By k O W)(hb:Below W.heap.size W W'):Mm J Jx W0 l Bon By k (fun b=>O b∨(W.heap.size<=b∧b < W'.heap.size)) W':=by
 have d:=hb.size
 refine ⟨fun b h2=>?_,yu h.size d,.inl h.oon,.inl h.oy,h.ne,(hb.block _ (h.own _ h.oy).2).trans h.y,?_⟩
 ·have hs:=h.size
  rcases h2 with h2|h2
  ·have:=h.own b h2;omega
  ·omega
 ·have a:=hb.block _ (h.own _ h.oon).2
  rcases h.st with ⟨h1,h2⟩|⟨h1,h2⟩
  ·exact .inl ⟨a.trans h1,CL c.stays h2 hb⟩
  ·exact .inr ⟨a.trans h1,CL (s:=()) c.staysx h2 hb⟩
theorem Mm.y'(h:Mm J Jx W0 l Bon By k O W):W.cell? ⟨By,0,none⟩=some (.func (.yield l) #[] #[]):=ND h.y
theorem Mm.onTrue(d:Mn n l xs J Jx Jp W0)(h:Mm J Jx W0 l Bon By k O W){k':Nat}{a:World}(hs:AN O W a)(f:J k' O a)(c:WO a Bon true):Mm J Jx W0 l Bon By k' O (a.setCell ⟨Bon,0,none⟩ (.bool true)):=
 ⟨fun b hb=>⟨(h.own b hb).1,by have:=(h.own b hb).2;have:=hs.1;simp;omega⟩,by have:=h.size;have:=hs.1;simp;omega,h.oon,h.oy,h.ne,(Ae _ _ (xd h.ne)).trans ((hs.2 _ h.oy).trans h.y),
  .inl ⟨B8 c,d.stays _ _ _ _ _ f (by simp) rfl rfl rfl (fun b hb _=>Ae _ _ (fun e=>hb (e▸h.oon))) (fun b hb=>.inl hb)⟩⟩
theorem Mm.onFalse(f:Mn n l xs J Jx Jp W0)(h:Mm J Jx W0 l Bon By k O W){k':Nat}{a:World}{d:Bool}(hs:AN O W a)(g:Jx O a)(c:WO a Bon d):Mm J Jx W0 l Bon By k' O (a.setCell ⟨Bon,0,none⟩ (.bool false)):=
 ⟨fun b hb=>⟨(h.own b hb).1,by have:=(h.own b hb).2;have:=hs.1;simp;omega⟩,by have:=h.size;have:=hs.1;simp;omega,h.oon,h.oy,h.ne,(Ae _ _ (xd h.ne)).trans ((hs.2 _ h.oy).trans h.y),
  .inr ⟨B8 c,f.staysx () _ _ _ _ g (by simp) rfl rfl rfl (fun b hb _=>Ae _ _ (fun e=>hb (e▸h.oon))) (fun b hb=>.inl hb)⟩⟩
end
def WD(J:Nat->NP->World->Prop)(Jx:NP->World->Prop)(Jp:List PanicEntry->NP->World->Prop)(W0:World)(l Bon By k:Nat)(O:NP)(W:World)(e:Ending)(W':World):Prop:=
 (e=.returned (.tuple #[])∧∃a,Mm J Jx W0 l Bon By k a W'∧(∀b,O b->a b)∧(∀b,O b->b≠Bon->W'.heap[b]?=W.heap[b]?))∨∃c,e=.panicked c∧∃a,Jp c a W'
theorem RT{J:Nat->NP->World->Prop}{Jx:NP->World->Prop}{Jp:List PanicEntry->NP->World->Prop}{W0:World}{n l Bon By:Nat}{xs:List (Array Value)}(hc:Mn (n - 1) l xs J Jx Jp W0)(hn:1<=n)
 (d:Dm)(th:Bool)(j:List LV)(g y:Nat)(O:NP)(W:World)(h:Mm J Jx W0 l Bon By y O W)(hg:O g)(ae:g≠Bon)(hl:j.length<=100)(h6:∀i (hi:i < j.length),(∃(o n u:Int) (rn:ByteArray) (ri:Int) (p:Option Addr) (m c:Nat),j[i]=[.int .i64 o,.int .i64 n,.int .i64 u,.string rn,.int .i64 ri,.slice p m c])∧W.rangeAt g (i*6) j[i]∧∃hk:y+i < xs.length,xs[y+i]=DL d th j[i]):
  Calls Tryz.prog 75 #[d.v,.bool th,.slice (some ⟨g,0,none⟩) j.length j.length,.pointer (some ⟨Bon,0,none⟩),.pointer (some ⟨By,0,none⟩)] W (WD J Jx Jp W0 l Bon By (y+j.length) O W):=by
 have Y:=yb hc
 have HP:=yb h
 have H6:=yb h6
 obtain ⟨m,hm⟩:∃m,m=j.length:=⟨_,rfl⟩
 rw[<-hm] at hl ⊢
 have HM:=yb hm
 have a8:=yb (And.intro hg ae)
 clear hc h h6 hm hg ae
 obtain ⟨B,A,z⟩:=d
 unfold Dm.v
 dsimp only
 go_enter Tryz.func75,Tryz.ntmps75
 refine Ab fun K hK=>?_
 go_wp2
 refine hK.o _ _ ?_
 clear hK K
 go_wp2
 have HW:Hid (Mm J Jx W0 l Bon By y (fun b=>O b∨(W.heap.size<=b∧b < (W.alloc (.cells #[iV B,iV A,iV z] 68)).heap.size)) (W.alloc (.cells #[iV B,iV A,iV z] 68))):=yb (HP.o.below Y.o ((yg _ _).alloc (yf _) _))
 have ab:Hid ((W.alloc (.cells #[iV B,iV A,iV z] 68)).heap[W.heap.size]?=some (.cells #[iV B,iV A,iV z] 68 (0,0))):=yb (World.alloc_heap_new _ _)
 have a6:Hid (∀b,O b->b≠Bon->(W.alloc (.cells #[iV B,iV A,iV z] 68)).heap[b]?=W.heap[b]?):=yb (fun b hb _=>yA _ _ _ (HP.o.own b hb).2)
 have U:Hid ((W.heap.size≠Bon)∧(fun b=>O b∨(W.heap.size<=b∧b < (W.alloc (.cells #[iV B,iV A,iV z] 68)).heap.size)) W.heap.size):=yb ⟨by have:=(HP.o.own _ HP.o.oon).2;omega,.inr ⟨yf _,by simp⟩⟩
 generalize aw:W.alloc (.cells #[iV B,iV A,iV z] 68)=W1 at HW ab a6 U ⊢
 go_loopw [12] (fun iv wr=>∃i:Nat,i<=m∧iv=iV i∧Hid (∃q,Mm J Jx W0 l Bon By (y+i) q wr∧(∀b,O b->q b)∧q W.heap.size∧wr.heap[W.heap.size]?=some (.cells #[iV B,iV A,iV z] 68 (0,0))∧∀b,O b->b≠Bon->wr.heap[b]?=W.heap[b]?)) (fun iv _=>m - (intOf iv).toNat)
 case atStart=>exact ⟨0,yI _,rfl,yb ⟨_,HW.o,fun b hb=>.inl hb,U.o.2,ab.o,a6.o⟩⟩
 case round=>
  obtain ⟨i,hi,rfl,HI⟩:=hrel
  obtain ⟨q,w,s,P,hdr,C⟩:=HI.o
  by_cases aj:i < m
  ·have ac:i < j.length:=by rw[<-HM.o];exact aj
   obtain ⟨⟨vo,vn,vu,R,V,vp,vm,vc,hcs⟩,X,hk,Z⟩:=H6.o i ac
   rw[hcs] at X Z
   obtain ⟨c0,c1,c2,c3,c4,c5⟩:=Br (A0 X (C g a8.o.1 a8.o.2))
   have al:(i:Int) < (m:Int):=by omega
   have ar:=yb w
   clear hcs X ac HI
   have ah:Hid (∀H,H=wr.alloc (.cells #[iV vo,iV vn,iV vu,.string R,iV V,.slice vp vm vc] 26)->∃L,Mm J Jx W0 l Bon By (y+i) L H∧(∀b,O b->L b)∧L W.heap.size∧L wr.heap.size∧wr.heap.size≠Bon∧H.heap[W.heap.size]?=some (.cells #[iV B,iV A,iV z] 68 (0,0))∧H.heap[wr.heap.size]?=some (.cells #[iV vo,iV vn,iV vu,.string R,iV V,.slice vp vm vc] 26 (0,0))∧∀b,O b->b≠Bon->H.heap[b]?=W.heap[b]?):=yb (by
    rintro H rfl
    have S:=(yg wr.heap.size wr).alloc (yf _) (.cells #[iV vo,iV vn,iV vu,.string R,iV V,.slice vp vm vc] 26)
    refine ⟨_,w.below Y.o S,fun b hb=>.inl (s b hb),.inl P,.inr ⟨yf _,by simp⟩,?_,(S.block _ (yd.1 hdr).1).trans hdr,World.alloc_heap_new _ _,fun b hb f=>(S.block b (w.own b (s b hb)).2).trans (C b hb f)⟩
    have:=(w.own _ w.oon).2;omega)
   clear w s P hdr C ar
   go_upto_region 4 with fail
   obtain ⟨L,p2,s2,a0,ap,aq,M,T,Q⟩:=ah.o _ rfl
   clear ah c0 c1 c2 c3 c4 c5
   generalize av:wr.heap.size=bx at*
   generalize wr.alloc _=H at p2 M T Q ⊢
   obtain ⟨x0,x1,x2,x3,x4,x5⟩:=Cg T
   obtain ⟨d0,d1,d2,am,ak,ao⟩:=GQ M
   have y2:=p2.y'
   have k:=yb p2
   have F:=yb Q
   have E:=yb s2
   have a:=yb (And.intro a0 U.o.1)
   have D:=yb M
   clear p2 s2 a0 ap aq M T Q am ak ao
   rcases k.o.st with ⟨t,hj⟩|⟨t,ad⟩
   ·have aa:=ND t
    obtain ⟨ax,ai,a7,an,hy,ag⟩:=Y.o.round (y+i) hk L H hj k.o.size k.o.own
    rw[Z] at hy
    unfold DL Dm.row at hy
    simp only[yK,yQ] at hy
    have au:=yb ag
    have I:=yb t
    clear ag Z hj t
    refine (qm (n:=n)).1 ?_
    gi_wp2
    refine au.o.mono ?_
    rintro e N (⟨rfl,hj,hs⟩|⟨rfl,Z,hs⟩|⟨ch,rfl,hp,hs⟩)
    ·have r:Hid (∃q,Mm J Jx W0 l Bon By (y+i+1) q (N.setCell (aV Bon 0) (.bool true))∧(∀b,O b->q b)∧q W.heap.size∧(N.setCell (aV Bon 0) (.bool true)).heap[W.heap.size]?=some (.cells #[iV B,iV A,iV z] 68 (0,0))∧∀b,O b->b≠Bon->(N.setCell (aV Bon 0) (.bool true)).heap[b]?=W.heap[b]?):=yb (by
      have G:WO N Bon true:=(hs.2 _ k.o.oon).trans I.o
      refine ⟨L,k.o.onTrue Y.o hs hj G,E.o,a.o.1,(Ae _ _ a.o.2).trans ((hs.2 _ a.o.1).trans D.o),fun b hb f=>(Ae _ _ f).trans ((hs.2 _ (E.o b hb)).trans (F.o b hb f))⟩)
     have x:=(hs.2 _ k.o.oon).trans I.o
     have af:=ND x
     have a2:=E4 (n:=0) x
     clear hj hs hy x aa y2 x0 x1 x2 x3 x4 x5 d0 d1 d2
     gi_wp2
     go_wp2
     exact ⟨⟨i+1,by omega,by push_cast;rfl,r⟩,by simp[intOf];omega⟩
    ·have r:Hid (∃q,Mm J Jx W0 l Bon By (y+(i+1)) q (N.setCell (aV Bon 0) (.bool false))∧(∀b,O b->q b)∧q W.heap.size∧(N.setCell (aV Bon 0) (.bool false)).heap[W.heap.size]?=some (.cells #[iV B,iV A,iV z] 68 (0,0))∧∀b,O b->b≠Bon->(N.setCell (aV Bon 0) (.bool false)).heap[b]?=W.heap[b]?):=yb (by
      have G:WO N Bon true:=(hs.2 _ k.o.oon).trans I.o
      refine ⟨L,k.o.onFalse Y.o hs Z G,E.o,a.o.1,(Ae _ _ a.o.2).trans ((hs.2 _ a.o.1).trans D.o),fun b hb f=>(Ae _ _ f).trans ((hs.2 _ (E.o b hb)).trans (F.o b hb f))⟩)
     have x:=(hs.2 _ k.o.oon).trans I.o
     have af:=ND x
     have a2:=E4 (n:=0) x
     clear Z hs hy x aa y2 x0 x1 x2 x3 x4 x5 d0 d1 d2
     gi_wp2
     go_wp2
     exact ⟨⟨i+1,by omega,by push_cast;rfl,r⟩,by simp[intOf];omega⟩
    ·exact ⟨rfl,.inr ⟨ch,rfl,_,hp⟩⟩
   ·have r:Hid (∃q,Mm J Jx W0 l Bon By (y+(i+1)) q (H.setCell (aV Bon 0) (.bool false))∧(∀b,O b->q b)∧q W.heap.size∧(H.setCell (aV Bon 0) (.bool false)).heap[W.heap.size]?=some (.cells #[iV B,iV A,iV z] 68 (0,0))∧∀b,O b->b≠Bon->(H.setCell (aV Bon 0) (.bool false)).heap[b]?=W.heap[b]?):=yb (by
     refine ⟨L,k.o.onFalse Y.o (AN.refl _ _) ad t,E.o,a.o.1,(Ae _ _ a.o.2).trans D.o,fun b hb f=>(Ae _ _ f).trans (F.o b hb f)⟩)
    have af:=ND t
    have a2:=E4 (n:=0) t
    clear ad t y2 x0 x1 x2 x3 x4 x5 d0 d1 d2
    go_wp2
    exact ⟨⟨i+1,by omega,by push_cast;rfl,r⟩,by simp[intOf];omega⟩
  ·obtain rfl:i=m:=by omega
   have al:decide ((i:Int) < (i:Int))=false:=by simp
   have HF:Hid (∃q,Mm J Jx W0 l Bon By (y+i) q wr∧(∀b,O b->q b)∧∀b,O b->b≠Bon->wr.heap[b]?=W.heap[b]?):=yb ⟨q,w,s,C⟩
   clear w s P hdr C HI
   go_wp2
   exact bodyPost_end (zs rfl _ _ _) rfl (.inl ⟨rfl,HF.o⟩)
end Go.Proofs.YtjofgpfocadomaaGreatDoor
namespace Go.Proofs.YtjofgpfocadomaaGreatDoor
open Go.RowKit
set_option linter.unusedSimpArgs false
section
variable{P:Program}{ops:Array Oper}{rest:List Oper}{o:Oper}{a:Act}{w:World}{Q:QT}
theorem Mp(j:o.guard=none)(t e:TypeId)(x y m:Operand)(p:o.op=.buildSlice t 3 #[(0,x),(1,y),(2,m)])(c0 c1 c2:LV)(r:a.eval x=.agg c0.toArray)(v:a.eval y=.agg c1.toArray)(k:a.eval m=.agg c2.toArray)
 (n:Nat)(q:P.underlying t=some (.slice e))(hi:((P.info? e).bind fun i=>i.zero.map fun z=>(i.size,z.cells.size))=some (n,n))(A:c0.length=n)(l:c1.length=n)(g:c2.length=n)(c:0 < n)(d:n<=1000)
 (h:wpList P ops Q rest (a.put o.dst (.slice (some ⟨w.heap.size,0,none⟩) 3 3)) (w.alloc (.cells (c0++(c1++c2)).toArray e))):wpList P ops Q (o::rest) a w:=by
 cases b:P.info? e with
 |none=>simp[b] at hi
 |some ie=>
  cases f:ie.zero with
  |none=>simp[b,f] at hi
  |some z=>
   simp only[b,f,xi,xx,yZ,zq] at hi
   obtain ⟨h1,h2⟩:=hi
   refine wpList_buildSlice j t e 3 _ p _ ie z q b f (by rw[h1];omega) (by rw[h1];omega) ?_ h
   have hs:((Array.range (3*ie.size)).map (z.cells[· % z.cells.size]!)).size=3*n:=by simp[h1]
   rw[h1] at hs ⊢
   generalize (Array.range (3*n)).map (z.cells[· % z.cells.size]!)=u at hs ⊢
   have:=Great.fill_whole (s:=n) c [.agg c0.toArray,.agg c1.toArray,.agg c2.toArray] u (by simp[Value.cells,A,l,g]) (by rw[hs];rfl)
   simp only[xV,List.zipIdx_nil,zu,zN,zh,zx,yU,Value.cells] at this
   simpa[r,v,k] using this
end
def J9(c:LV):Prop:=∃(o n u:Int) (rn:ByteArray) (ri:Int) (p:Option Addr) (m k:Nat),c=[.int .i64 o,.int .i64 n,.int .i64 u,.string rn,.int .i64 ri,.slice p m k]
theorem AI.is6{N:NP}{w:World}{e:Ex}{cs:LV}(h:AI N w e cs):J9 cs:=by
 obtain ⟨a,p,rfl, -⟩:=h.cells
 exact ⟨_,_,_,_,_,_,_,_,rfl⟩
theorem J9.len{c:LV}(h:J9 c):c.length=6:=by obtain ⟨_,_,_,_,_,_,_,_,rfl⟩:=h;rfl
theorem EC{c:LV}(h:J9 c):∀v∈c,v.oneCell'=true:=by
 obtain ⟨_,_,_,_,_,_,_,_,rfl⟩:=h
 simp[Value.oneCell']
theorem Cm{W:World}{b:Nat}{t:TypeId}{row pre c post:LV}{o:Nat}(h:W.heap[b]?=some (.cells row.toArray t (0,0)))(e:row=pre++(c++post))(d:pre.length=o):W.rangeAt b o c:=by
 subst d e
 have hr:=Ax h
 intro j v a
 have:=hr (pre.length+j) v (by
  rw[yN (by omega),xt,zk (yx.1 a).1]
  exact a)
 simpa using this
theorem LC{W:World}{g:Nat}{t:TypeId}{a:List LV}(d:∀c∈a,J9 c)(h:W.heap[g]?=some (.cells a.flatten.toArray t (0,0)))(i:Nat)(hi:i < a.length):W.rangeAt g (i*6) a[i]:=by
 have f:=Ga a 6 (fun c k=>(d c k).len)
 have hr:=Ax h
 intro j v e
 have b:j < 6:=by rw[<-(d _ (yJ hi)).len];exact (yx.1 e).1
 have h1:=f.2 i hi j b
 rw[e] at h1
 have:=hr (i*6+j) v h1
 simpa using this
def Hj(J:Nat->NP->World->Prop)(Jx:NP->World->Prop)(W0:World)(l Bon By k:Nat)(P:NP->World->Prop)(W:World):Prop:=∃O,Mm J Jx W0 l Bon By k O W∧P O W
def LD(Bon a:Nat)(row:LV)(t:TypeId)(O:NP)(W:World):Prop:=O a∧a≠Bon∧W.heap[a]?=some (.cells row.toArray t (0,0))
def Dc(_:NP)(_:World):Prop:=True
def Ix(Bon:Nat)(P:NP->World->Prop):Prop:=∀O a W W',P O W->(∀b,O b->a b)->(∀b,O b->b≠Bon->W'.heap[b]?=W.heap[b]?)->P a W'
theorem LF(Bon:Nat):Ix Bon Dc:=fun _ _ _ _ _ _ _=>trivial
theorem DT(Bon a:Nat)(row:LV)(t:TypeId):Ix Bon (LD Bon a row t):=fun _ _ _ _ h hs hb=>⟨hs _ h.1,h.2.1,(hb _ h.1 h.2.1).trans h.2.2⟩
def GK(J:Nat->NP->World->Prop)(Jx:NP->World->Prop)(Jp:List PanicEntry->NP->World->Prop)(W0:World)(l Bon By k:Nat)(P:NP->World->Prop)(e:Ending)(W':World):Prop:=
 (e=.returned (.tuple #[])∧Hj J Jx W0 l Bon By k P W')∨∃a,e=.panicked a∧∃b,Jp a b W'
section
variable{J:Nat->NP->World->Prop}{Jx:NP->World->Prop}{Jp:List PanicEntry->NP->World->Prop}{W0:World}{n l Bon By k:Nat}{W W':World}{xs:List (Array Value)}{P:NP->World->Prop}
theorem Hj.below(c:Mn n l xs J Jx Jp W0)(hP:Ix Bon P)(h:Hj J Jx W0 l Bon By k P W)(hb:Below W.heap.size W W'):Hj J Jx W0 l Bon By k P W':=by
 obtain ⟨O,h1,h2⟩:=h
 exact ⟨_,h1.below c hb,hP _ _ _ _ h2 (fun b hb=>.inl hb) (fun b a _=>hb.block b (h1.own b a).2)⟩
theorem Hj.box(a:Mn n l xs J Jx Jp W0)(h:Hj J Jx W0 l Bon By k Dc W)(row:LV)(t:TypeId):Hj J Jx W0 l Bon By k (LD Bon W.heap.size row t) (W.alloc (.cells row.toArray t)):=by
 obtain ⟨O,h1, -⟩:=h
 refine ⟨_,h1.below a ((yg _ _).alloc (yf _) _),.inr ⟨yf _,by simp⟩,by have:=(h1.own _ h1.oon).2;omega,World.alloc_heap_new _ _⟩
theorem Hj.no(h:Hj J Jx W0 l Bon By k P W):Hj J Jx W0 l Bon By k Dc W:=by
 obtain ⟨O,h1, -⟩:=h
 exact ⟨O,h1,trivial⟩
theorem E6(m:Mn (n - 1) l xs J Jx Jp W0)(w:1<=n)(hP:Ix Bon P)(h:Hj J Jx W0 l Bon By k P W)(d:Dm)(j:Bool)(a:List LV)(o:∀c∈a,J9 c)(q:a.length<=100)(r:∃pre post,xs=pre++(a.map (DL d j)++post)∧pre.length=k):
  Calls Tryz.prog 75 #[d.v,.bool j,.slice (some ⟨W.heap.size,0,none⟩) a.length a.length,.pointer (some ⟨Bon,0,none⟩),.pointer (some ⟨By,0,none⟩)] (W.alloc (.cells a.flatten.toArray 26)) (GK J Jx Jp W0 l Bon By (k+a.length) P):=by
 obtain ⟨O,h1,h2⟩:=h
 have f:=(yg W.heap.size W).alloc (yf _) (.cells a.flatten.toArray 26)
 refine (RT m w d j a W.heap.size k _ _ (h1.below m f) (.inr ⟨yf _,by simp⟩) (by have:=(h1.own _ h1.oon).2;omega) q (fun i hi=>⟨o _ (yJ hi),LC o (World.alloc_heap_new _ _) i hi,?_⟩)).mono ?_
 ·obtain ⟨pre,post,rfl,rfl⟩:=r
  refine ⟨by simp;omega,?_⟩
  rw[xF (by omega),xG (by simp;omega)]
  simp
 ·rintro e y (⟨rfl,t,h3,u,s⟩|⟨x,rfl,p⟩)
  ·refine .inl ⟨rfl,t,h3,hP _ _ _ _ h2 (fun b hb=>u b (.inl hb)) (fun b hb g=>(s b (.inl hb) g).trans (f.block b (h1.own b hb).2))⟩
  ·exact .inr ⟨x,rfl,p⟩
theorem N9{Bon:Nat}{P a:NP->World->Prop}(h:Ix Bon P)(h2:Ix Bon a):Ix Bon (fun O W=>P O W∧a O W):=fun _ _ _ _ k hs hb=>⟨h _ _ _ _ k.1 hs hb,h2 _ _ _ _ k.2 hs hb⟩
theorem Hj.box2(c:Mn n l xs J Jx Jp W0)(hP:Ix Bon P)(h:Hj J Jx W0 l Bon By k P W)(row:LV)(t:TypeId):Hj J Jx W0 l Bon By k (fun O V=>P O V∧LD Bon W.heap.size row t O V) (W.alloc (.cells row.toArray t)):=by
 obtain ⟨O,h1,h2⟩:=h
 have hb:=(yg W.heap.size W).alloc (yf _) (.cells row.toArray t)
 refine ⟨_,h1.below c hb,hP _ _ _ _ h2 (fun b hb=>.inl hb) (fun b a _=>hb.block b (h1.own b a).2),.inr ⟨yf _,by simp⟩,by have:=(h1.own _ h1.oon).2;omega,World.alloc_heap_new _ _⟩
theorem SO(s:Mn (n - 1) l xs J Jx Jp W0)(u:1<=n)(hP:Ix Bon P)(d:Dm)(f:Bool)(a:List LV){g:Nat}(h:Hj J Jx W0 l Bon By k (fun O V=>P O V∧LD Bon g a.flatten 26 O V) W)(j:∀c∈a,J9 c)(o:a.length<=100)(p:∃pre post,xs=pre++(a.map (DL d f)++post)∧pre.length=k):
  Calls Tryz.prog 75 #[d.v,.bool f,.slice (some ⟨g,0,none⟩) a.length a.length,.pointer (some ⟨Bon,0,none⟩),.pointer (some ⟨By,0,none⟩)] W (GK J Jx Jp W0 l Bon By (k+a.length) P):=by
 obtain ⟨O,h1,h2,b⟩:=h
 refine (RT s u d f a g k _ _ h1 b.1 b.2.1 o (fun i hi=>⟨j _ (yJ hi),LC j b.2.2 i hi,?_⟩)).mono ?_
 ·obtain ⟨pre,post,rfl,rfl⟩:=p
  refine ⟨by simp;omega,?_⟩
  rw[xF (by omega),xG (by simp;omega)]
  simp
 ·rintro e x (⟨rfl,r,h3,t,q⟩|⟨w,rfl,m⟩)
  ·exact .inl ⟨rfl,r,h3,hP _ _ _ _ h2 t q⟩
  ·exact .inr ⟨w,rfl,m⟩
end
theorem Pc{W:World}{b:Nat}{t:TypeId}{row:LV}{a:ByteArray}{c:Rf}{c0 c1 c2 c3 c4 c5 c6 c7:LV}(h:W.heap[b]?=some (.cells row.toArray t (0,0)))(e:row=.string a::(AU c++(c0++(c1++(c2++(c3++(c4++(c5++(c6++c7)))))))))(d:c0.length=6)(f:c1.length=6)(g:c2.length=6)(i:c3.length=6)(j:c4.length=6)(k:c5.length=6)(l:c6.length=6):
  W.rangeAt b 3 c0∧W.rangeAt b 9 c1∧W.rangeAt b 15 c2∧W.rangeAt b 21 c3∧W.rangeAt b 27 c4∧W.rangeAt b 33 c5∧W.rangeAt b 39 c6∧W.rangeAt b 45 c7:=
 ⟨Cm (pre:=.string a::AU c) (post:=(c1++(c2++(c3++(c4++(c5++(c6++c7))))))) h (by rw[e];simp) (by simp[AU]),Cm (pre:=.string a::(AU c++c0)) (post:=(c2++(c3++(c4++(c5++(c6++c7)))))) h (by rw[e];simp) (by simp[AU,d]),Cm (pre:=.string a::(AU c++(c0++c1))) (post:=(c3++(c4++(c5++(c6++c7))))) h (by rw[e];simp) (by simp[AU,d,f]),Cm (pre:=.string a::(AU c++(c0++(c1++c2)))) (post:=(c4++(c5++(c6++c7)))) h (by rw[e];simp) (by simp[AU,d,f,g]),Cm (pre:=.string a::(AU c++(c0++(c1++(c2++c3))))) (post:=(c5++(c6++c7))) h (by rw[e];simp) (by simp[AU,d,f,g,i]),Cm (pre:=.string a::(AU c++(c0++(c1++(c2++(c3++c4)))))) (post:=(c6++c7)) h (by rw[e];simp) (by simp[AU,d,f,g,i,j]),Cm (pre:=.string a::(AU c++(c0++(c1++(c2++(c3++(c4++c5))))))) (post:=c7) h (by rw[e];simp) (by simp[AU,d,f,g,i,j,k]),Cm (pre:=.string a::(AU c++(c0++(c1++(c2++(c3++(c4++(c5++c6)))))))) (post:=[]) h (by rw[e];simp) (by simp[AU,d,f,g,i,j,k,l])⟩
structure R8 where
 s:Bool
 c0:List Value
 c1:List Value
 c2:List Value
 c3:List Value
 c4:List Value
 c5:List Value
 c6:List Value
 c7:List Value
def D8(r:R8):List (Array Value):=[DL CX true r.c0]++([DL J8 true r.c1]++([DL AY true r.c2,DL AY true r.c4,DL AY true r.c5]++([DL AY r.s r.c3]++[DL O5 true r.c6,DL O5 true r.c7])))
def Ja(c0 c1 c2:LV):List (Array Value):=[DL CX true c0]++[DL AY true c1,DL AY true c2]
def DA(c0 c1 c2:LV)(ccs:List LV)(rcs:List R8)(fcs:List (Bool × LV)):List (Array Value):=
 Ja c0 c1 c2++(ccs.map (DL GJ true)++(rcs.flatMap D8++fcs.map fun p=>DL GI p.1 p.2))
theorem GG:∀l:List R8,(l.flatMap D8).length=8*l.length
 |[]=>rfl
 |r::l=>by rw[zh,yn,GG l];simp[D8];omega
section
variable{c0 c1 c2:LV}{ccs:List LV}{rcs:List R8}{fcs:List (Bool × LV)}
theorem Up:∃pre post,DA c0 c1 c2 ccs rcs fcs=pre++([c0].map (DL CX true)++post)∧pre.length=0:=⟨[],[DL AY true c1,DL AY true c2]++(ccs.map (DL GJ true)++(rcs.flatMap D8++fcs.map fun p=>DL GI p.1 p.2)),rfl,rfl⟩
theorem Uq:∃pre post,DA c0 c1 c2 ccs rcs fcs=pre++([c1,c2].map (DL AY true)++post)∧pre.length=1:=⟨[DL CX true c0],ccs.map (DL GJ true)++(rcs.flatMap D8++fcs.map fun p=>DL GI p.1 p.2),rfl,rfl⟩
theorem QJ{i:Nat}(hi:i < ccs.length):∃pre post,DA c0 c1 c2 ccs rcs fcs=pre++([ccs[i]].map (DL GJ true)++post)∧pre.length=3+i:=by
 refine ⟨Ja c0 c1 c2++(ccs.take i).map (DL GJ true),(ccs.drop (i+1)).map (DL GJ true)++(rcs.flatMap D8++fcs.map fun p=>DL GI p.1 p.2),?_,by simp[Ja];omega⟩
 unfold DA
 conv=>lhs;rw[<-zV i ccs,xb hi]
 simp only[zC,zu,zN,yG,yK,yQ]
theorem Pd{i:Nat}(hi:i < rcs.length):∃pre post,DA c0 c1 c2 ccs rcs fcs=pre++(D8 rcs[i]++post)∧pre.length=3+ccs.length+8*i:=by
 refine ⟨Ja c0 c1 c2++(ccs.map (DL GJ true)++(rcs.take i).flatMap D8),(rcs.drop (i+1)).flatMap D8++fcs.map fun p=>DL GI p.1 p.2,?_,by
  rw[yn,yn,GG];simp[Ja];omega⟩
 unfold DA
 conv=>lhs;rw[<-zV i rcs,xb hi]
 rw[zo,zh]
 simp only[yG]
theorem QK{i:Nat}(hi:i < fcs.length):∃pre post,DA c0 c1 c2 ccs rcs fcs=pre++([fcs[i].2].map (DL GI fcs[i].1)++post)∧pre.length=3+ccs.length+8*rcs.length+i:=by
 refine ⟨Ja c0 c1 c2++(ccs.map (DL GJ true)++(rcs.flatMap D8++(fcs.take i).map fun p=>DL GI p.1 p.2)),(fcs.drop (i+1)).map fun p=>DL GI p.1 p.2,?_,by
  rw[yn,yn,yn,GG];simp[Ja];omega⟩
 unfold DA
 conv=>lhs;rw[<-zV i fcs,xb hi]
 simp only[zC,zu,zN,yG,yK,yQ]
theorem QL{X:List (Array Value)}{r:R8}{k:Nat}(h:∃pre post,X=pre++(D8 r++post)∧pre.length=k):
  (∃pre post,X=pre++([r.c0].map (DL CX true)++post)∧pre.length=k)∧(∃pre post,X=pre++([r.c1].map (DL J8 true)++post)∧pre.length=k+1)∧(∃pre post,X=pre++([r.c2,r.c4,r.c5].map (DL AY true)++post)∧pre.length=k+2)∧(∃pre post,X=pre++([r.c3].map (DL AY r.s)++post)∧pre.length=k+5)∧(∃pre post,X=pre++([r.c6,r.c7].map (DL O5 true)++post)∧pre.length=k+6):=by
 obtain ⟨pre,post,rfl,a⟩:=h
 refine ⟨⟨pre,_,by rw[D8,yG];rfl,a⟩,⟨pre++[DL CX true r.c0],_,by unfold D8;simp only[yG];rfl,by simp[a]⟩,⟨pre++([DL CX true r.c0]++[DL J8 true r.c1]),_,by unfold D8;simp only[yG];rfl,by simp[a]⟩,
  ⟨pre++([DL CX true r.c0]++([DL J8 true r.c1]++[DL AY true r.c2,DL AY true r.c4,DL AY true r.c5])),_,by unfold D8;simp only[yG];rfl,by simp[a]⟩,
  ⟨pre++([DL CX true r.c0]++([DL J8 true r.c1]++([DL AY true r.c2,DL AY true r.c4,DL AY true r.c5]++[DL AY r.s r.c3]))),_,by unfold D8;simp only[yG];rfl,by simp[a]⟩⟩
end
set_option linter.unusedSimpArgs false
end Go.Proofs.YtjofgpfocadomaaGreatDoor
