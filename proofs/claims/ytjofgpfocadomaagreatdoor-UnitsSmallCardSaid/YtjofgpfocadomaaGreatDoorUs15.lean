/- Parts of the proof, in short words: Gn Gp Gq Gr Gs Gt Gv Hi -/
import Derived.Test.YtjofgpfocadomaaGreatDoorUs0
import Derived.Test.YtjofgpfocadomaaGreatDoorUs14
import Derived.Test.YtjofgpfocadomaaGreatDoorUs13
import Derived.Test.YtjofgpfocadomaaGreatDoorUs10
import Derived.Deep.RegionHeld2
import Derived.Test.YtjofgpfocadomaaGreatDoorUs4
set_option maxRecDepth 100000
set_option maxHeartbeats 8000000
set_option linter.unusedSimpArgs false
namespace Go.Proofs.YtjofgpfocadomaaGreatDoor
open Go.RowKit
set_option linter.unusedSimpArgs false
theorem CQ:Gt O4=true:=by decide
theorem T7{op:Int}{a b:Dm}(c:Gt a=true):Gt (Qz op a b).1=true:=by
 unfold Qz
 split
 ·exact c
 ·generalize Rs (if op=5 then 1 else -1) a b=d
  simp only
  by_cases h:Gt d=true
  ·rw[yD h];exact h
  ·rw[yq h];exact CQ
theorem Ue{op:Int}{a b:Qn × Bool}(c:Gt a.1.dim=true):Gt (Vb op a b).1.dim=true:=by
 unfold Vb
 split
 ·simp only
  split
  ·split
   ·exact T7 c
   ·split<;>exact T7 c
  ·exact CQ
 ·exact CQ
theorem T8(u:Int):Gt (F8 u)=true:=by
 unfold F8
 split;decide;split;decide;split<;>decide
theorem Oc(n u:Int):Gt (Iz n u).dim=true:=by
 unfold Iz
 split<;>exact T8 u
theorem Mh{a:List Kn}(b:∀k∈a,Gt k.q.dim=true)(rn:ByteArray)(ri:Int):Gt (Jv a rn ri).1.dim=true:=by
 unfold Jv
 split
 ·rename_i k h
  split
  ·exact b k (zR h)
  ·exact CQ
 ·exact CQ
theorem QD{a:List Kn}(b:∀k∈a,Gt k.q.dim=true):∀(left:Nat) (e:Ex),Gt (DV a left e).1.dim=true:=by
 intro left
 induction left with
 |zero=>
  rintro ⟨op,n,u,rn,ri,args⟩
  by_cases h1:op=1
  ·subst h1;rw[Gm];split
   ·exact Oc _ _
   ·exact CQ
  ·by_cases h2:op=2
   ·subst h2;rw[MU];split
    ·exact Mh b _ _
    ·exact CQ
   ·rw[K2 a 0 h1 h2 _ _ _ _ _ (.inl rfl)];exact CQ
 |succ l ih=>
  rintro ⟨op,n,u,rn,ri,args⟩
  by_cases h1:op=1
  ·subst h1;rw[Gm];split
   ·exact Oc _ _
   ·exact CQ
  ·by_cases h2:op=2
   ·subst h2;rw[MU];split
    ·exact Mh b _ _
    ·exact CQ
   ·by_cases h3:args.length=2
    ·obtain ⟨x,y,rfl⟩:∃x y,args=[x,y]:=by
      match args,h3 with
      |[x,y],_=>exact ⟨x,y,rfl⟩
     rw[MV a l h1 h2]
     split
     ·exact Ue (ih x)
     ·exact CQ
    ·rw[K2 a _ h1 h2 _ _ _ _ _ (.inr h3)];exact CQ
theorem T9(c:List Kn)(w:∀k∈c,Gt k.q.dim=true)(h:As):∀(left:Nat),left<=8->∀(e:Ex) (cs:LV) (W:World),GU W->OY W h c->AH (fun b=>b < W.heap.size) W e cs->
  Calls Tryz.prog 38 #[h.v,.agg cs.toArray,.int .i64 left] W (Ob (DV c left e) W):=by
 have p:∀(left:Nat) (e:Ex) (cs:LV) (W:World),GU W->OY W h c->AH (fun b=>b < W.heap.size) W e cs->(∀op n u rn ri args a cap,e=.mk op n u rn ri args->cs=[iV op,iV n,iV u,.string rn,iV ri,.slice a args.length cap]->D5 (fun b=>b < W.heap.size) W a 0 args->T6 op left n u rn ri args.length->Calls Tryz.prog 38 #[h.v,.agg cs.toArray,iV left] W (Ob (DV c left e) W))->
   Calls Tryz.prog 38 #[h.v,.agg cs.toArray,iV left] W (Ob (DV c left e) W):=by
  rintro left ⟨op,n,u,rn,ri,args⟩ cs W j m s f
  obtain ⟨a,cap,rfl,r,t,d⟩:=s.cells
  simp only[Ex.op,Ex.n,Ex.u,Ex.rn,Ex.ri,Ex.args] at r t d f ⊢
  by_cases h1:op=1
  ·subst h1
   rw[Gm]
   have:=UW h.v left n u rn ri a args.length cap W j
   by_cases hb:IA n u rn ri args.length
   ·rw[yD hb] at this
    rw[yq hb];exact this
   ·rw[yq hb] at this
    rw[yD (Decidable.not_not.1 hb)];exact this
  ·by_cases h2:op=2
   ·subst h2
    rw[MU]
    exact UX c h left n u rn ri a args.length cap W m
   ·by_cases g:T6 op left n u rn ri args.length
    ·exact f op n u rn ri args a cap rfl rfl d g
    ·have B:DV c left (.mk op n u rn ri args)=(Fj,false):=by
      by_cases h3:args.length=2
      ·cases left with
       |zero=>exact K2 c 0 h1 h2 _ _ _ _ _ (.inl rfl)
       |succ l=>
        obtain ⟨x,y,rfl⟩:∃x y,args=[x,y]:=by
         match args,h3 with
         |[x,y],_=>exact ⟨x,y,rfl⟩
        rw[MV c l h1 h2,yq]
        intro i
        unfold U7 at i
        simp only[yF,z7] at i
        exact g ⟨i.1,i.2.1,by omega,rfl,i.2.2.1,i.2.2.2.1,i.2.2.2.2⟩
      ·exact K2 c left h1 h2 _ _ _ _ _ (.inr h3)
     rw[B]
     exact UY h.v left op n u rn ri a args.length cap W h1 h2 g
 intro left
 induction left with
 |zero=>
  intro _ e cs W j m s
  refine p 0 e cs W j m s ?_
  intro op n u rn ri args a cap _ _ _ hb
  exact absurd rfl hb.2.2.1
 |succ l ih=>
  intro D e cs W j m s
  refine p (l+1) e cs W j m s ?_
  rintro op n u rn ri args a cap rfl rfl d ⟨g1,A, -,C,rfl,rfl,o⟩
  obtain ⟨x,y,rfl⟩:∃x y,args=[x,y]:=by
   match args,C with
   |[x,y],_=>exact ⟨x,y,rfl⟩
  have z:ri=0:=by unfold CL at o;simp only[z7] at o;exact o.2
  subst z
  rw[MV c l (by omega) (by omega),yD (by unfold U7;simp[g1,A,o])]
  exact Ud c h l (by omega) (fun e cs W h1 h2 h3=>ih (by omega) e cs W h1 h2 h3) (QD w l) op rn a cap x y W j m g1 A o d
set_option linter.unusedSimpArgs false
theorem JA:∀(ds:List (ByteArray × Ex)) (l:List Kn) (d:ByteArray × Ex),Aq l (ds++[d])=Aq l ds++[⟨d.1,(DV (Aq l ds) 8 d.2).1,(DV (Aq l ds) 8 d.2).2⟩]
 |[],l,d=>by rw[yP,Aq,Aq,Aq]
 |c::r,l,d=>by rw[yK,Aq,JA r,Aq]
theorem Ih:∀(ds:List (ByteArray × Ex)) (l:List Kn),(∀k∈l,Gt k.q.dim=true)->∀k∈Aq l ds,Gt k.q.dim=true
 |[],l,h=>by rw[Aq];exact h
 |d::r,l,h=>by
  rw[Aq]
  refine Ih r _ fun k a=>?_
  rcases yy.1 a with a|a
  ·exact h k a
  ·obtain rfl:=zk.1 a
   exact QD h 8 d.2
def Nh(x:Ax)(i:Nat):List Kn:=Aq [] ((Av x).take i)
theorem QK(x:Ax){i:Nat}(h:i<=x.lets.length):(Nh x i).length=i:=by
 unfold Nh Av
 rw[Hn]
 simp;omega
theorem Ti(x:Ax){i:Nat}(h:i < x.lets.length):Nh x (i+1)=Nh x i++[⟨x.lets[i].name,(DV (Nh x i) 8 x.lets[i].value).1,(DV (Nh x i) 8 x.lets[i].value).2⟩]:=by
 unfold Nh
 have h2:i < (Av x).length:=by unfold Av;simpa using h
 rw[yG h2,JA]
 simp only[Av,zE]
theorem V0{W:World}{b o:Nat}{x0 c a f g e d:Value}(h:W.rangeAt b o [x0,c,a,f,g,e,d]):W.cell? ⟨b,o,none⟩=some x0∧W.cell? ⟨b,o+1,none⟩=some c∧W.cell? ⟨b,o+2,none⟩=some a∧W.cell? ⟨b,o+3,none⟩=some f∧W.cell? ⟨b,o+4,none⟩=some g∧W.cell? ⟨b,o+5,none⟩=some e∧W.cell? ⟨b,o+6,none⟩=some d:=
 ⟨h 0 _ rfl,h 1 _ rfl,h 2 _ rfl,h 3 _ rfl,h 4 _ rfl,h 5 _ rfl,h 6 _ rfl⟩
theorem LH{w:World}{x:Ax}{L:Bq}{cs:LV}{N:NP}(h:BP N w L cs x)(hN:∀b,N b->b < w.heap.size)(hg:GU w)(hl:x.lets.length<=100000):
  Calls Tryz.prog 35 #[.agg cs.toArray] w fun e w'=>∃k:As,e=.returned k.v∧OY w' k (Aq [] (Av x))∧Below w.heap.size w w':=by
 have ap:=yb h
 have HN:=yb hN
 have HG:=yb hg
 have l:=yb hl
 obtain ⟨lh,Q⟩:∃lh,lh=L.lets:=⟨_,rfl⟩
 have ac:Hid (BF N w 7 (K8 N w) lh x.lets):=yb (by rw[Q];exact h.lets)
 have I:=yb ((yg w.heap.size w).alloc (yf _) (.cells cs.toArray 35))
 have A:=World.alloc_heap_new w (.cells cs.toArray 35)
 have J:(w.alloc (.cells cs.toArray 35)).cell? (aV w.heap.size 19)=some lh.v:=by
  rw[Q]
  obtain ⟨c0,c1,c2,rfl,g0,g1,g2⟩:=h.cells
  obtain ⟨a0,p0,rfl,e0⟩:=g0.cells
  obtain ⟨a1,p1,rfl,e1⟩:=g1.cells
  obtain ⟨a2,p2,rfl,e2⟩:=g2.cells
  simp only[World.cell?,A];rfl
 obtain ⟨c0,c1,c2,rfl,g0,g1,g2⟩:=h.cells
 obtain ⟨a0,p0,rfl,e0⟩:=g0.cells
 obtain ⟨a1,p1,rfl,e1⟩:=g1.cells
 obtain ⟨a2,p2,rfl,e2⟩:=g2.cells
 clear h hN hg hl g0 g1 g2 e0 e1 e2 A Q ap
 obtain ⟨la,Z,lc⟩:=lh
 unfold As.v at*
 dsimp only at*
 simp only[yK,yP] at I J ⊢
 go_enter Tryz.func35,Tryz.ntmps35
 refine Ae fun K hK=>?_
 go_wp2
 refine hK.o _ _ ?_
 clear hK
 generalize w.alloc _=W at I J ⊢
 go_wp2
 have a:Hid (Z=x.lets.length):=yb ac.o.1
 clear J
 go_loopw [2,10] (fun v iv wr=>∃i:Nat,i<=Z∧iv=iV i∧Hid (KS w.heap.size wr v (Nh x i))∧Hid (Below w.heap.size w wr)) (fun _ iv _=>Z - (intOf iv).toNat)
 case atStart=>exact ⟨0,yH _,rfl,yb (by unfold Nh;exact Rx _ _),I⟩
 case round=>
  obtain ⟨i,hi,rfl,U,s⟩:=hrel
  by_cases au:i < Z
  ·have X:i < x.lets.length:=by have:=a.o;omega
   obtain ⟨b,o,cs,a6,am,ai,af,aj⟩:=ac.o.2.2 i X
   dsimp only at a6
   subst a6
   obtain ⟨S,c,rfl,R⟩:=aj
   obtain ⟨va,vp,rfl, -, -, -⟩:=R.cells
   have ah:(i:Int) < (Z:Int):=by omega
   obtain ⟨kh,j,d⟩:=Mi U.o (by rw[QK x (by omega)];have:=l.o;omega)
   obtain ⟨ka,kn,kc⟩:=kh
   unfold As.v at j
   dsimp only at j
   subst j
   have ar:=yb d
   have P:=Ti x X
   have f:=yb P
   have p:Hid (∀W,Below wr.heap.size wr W->Calls Tryz.prog 38 #[.slice ka kn kc,.agg #[iV x.lets[i].value.op,iV x.lets[i].value.n,iV x.lets[i].value.u,.string x.lets[i].value.rn,iV x.lets[i].value.ri,.slice va x.lets[i].value.args.length vp],iV 8] W (Ob (DV (Nh x i) 8 x.lets[i].value) W)):=yb (fun W hW=>by
    have M:Below w.heap.size w W:=s.o.trans (hW.mono s.o.size)
    exact T9 (Nh x i) (Ih _ [] (fun k hk=>by cases hk)) ⟨ka,kn,kc⟩ 8 (yf _) _ _ W (HG.o.up M) (d.up hW) (R.same (fun b hb=>yu (HN.o b hb) M.size) (fun b hb=>M.block b (HN.o b hb))))
   have a8:Hid (wr.rangeAt b (o+i*7) [.string x.lets[i].name,iV x.lets[i].value.op,iV x.lets[i].value.n,iV x.lets[i].value.u,.string x.lets[i].value.rn,iV x.lets[i].value.ri,.slice va x.lets[i].value.args.length vp]):=yb (A0 af (s.o.block b (HN.o b am)))
   obtain ⟨r0,r1,r2,r3,r4,r5,r6⟩:=V0 a8.o
   clear R af d S ai f
   generalize x.lets[i]=ld at*
   have f:=yb P
   clear P X
   generalize DV (Nh x i) 8 ld.value=qx at*
   obtain ⟨O,⟨T,H,vu,E,F,V⟩⟩:=ld
   simp only[Ex.op,Ex.n,Ex.u,Ex.rn,Ex.ri,Ex.args] at p a8 r0 r1 r2 r3 r4 r5 r6 f
   generalize V.length=vl at*
   obtain ⟨⟨⟨C,y,z⟩,⟨t,D⟩,e⟩,ok⟩:=qx
   unfold Ob Qn.val at p
   dsimp only at p f
   have q:=yb ((yg wr.heap.size wr).alloc (yf _) (.cells #[.string O,iV T,iV H,iV vu,.string E,iV F,.slice va vl vp] 50))
   have aq:=yb (World.alloc_heap_new wr (.cells #[.string O,iV T,iV H,iV vu,.string E,iV F,.slice va vl vp] 50))
   go_upto_region 5 with (first|(go_at_call 38;with_reducible refine (p.o _ q.o).mono ?_;rintro e w2 ⟨rfl,ae⟩;have Y:=yb ae;clear ae))
   have g:Hid (Below wr.heap.size wr (w2.alloc (.cells #[iV C,iV y,iV z,iV t,iV D,iV e] 70))):=yb ((q.o.trans (Y.o.mono q.o.size)).alloc (by have:=Y.o.size;have:=q.o.size;omega) _)
   have S:(w2.alloc (.cells #[iV C,iV y,iV z,iV t,iV D,iV e] 70)).cell? (aV wr.heap.size 0)=some (.string O):=by
    have h1:w2.heap[wr.heap.size]?=some (.cells #[.string O,iV T,iV H,iV vu,.string E,iV F,.slice va vl vp] 50 (0,0)):=(Y.o.block _ (by simp)).trans aq.o
    have h2:=(yA w2 (.cells #[iV C,iV y,iV z,iV t,iV D,iV e] 70) wr.heap.size (yd.1 h1).1).trans h1
    simp[World.cell?,h2]
   have m:=World.alloc_heap_new w2 (.cells #[iV C,iV y,iV z,iV t,iV D,iV e] 70)
   generalize hG:w2.heap.size=G at m ⊢
   clear hG
   generalize w2.alloc (.cells #[iV C,iV y,iV z,iV t,iV D,iV e] 70)=W3 at g S m ⊢
   obtain ⟨q0,q1,q2,q3,q4,q5⟩:=Cg m
   clear m r0 r1 r2 r3 r4 r5 r6
   have a7:=yb (Jy U.o g.o)
   have B:Hid ((W3.alloc (.cells #[.string O,iV C,iV y,iV z,iV t,iV D,iV e,.bool ok] 98)).ownsRow w.heap.size 98 8 (.slice ka kn kc) (Nh x i).length ((Nh x i).flatMap KR)):=yb (Jy a7.o ((yg _ _).alloc (yf _) _))
   have ao:Hid ((Nh x i).length+1<=1000000):=yb (by rw[QK x (by have:=a.o;omega)];have:=l.o;have:=a.o;omega)
   have ab:Hid (w.heap.size<=(W3.alloc (.cells #[.string O,iV C,iV y,iV z,iV t,iV D,iV e,.bool ok] 98)).heap.size):=yb (by have:=s.o.size;have:=g.o.size;simp;omega)
   go_wp2_with (first|(at_builtin;refine J7 Tryz.underlying95 rfl _ _ rfl 8 (by kernel_rfl) (by omega) w.heap.size (.slice ka kn kc) (Nh x i).length ((Nh x i).flatMap KR) rfl B.o W3.heap.size 1 [.string O,iV C,iV y,iV z,iV t,iV D,iV e,.bool ok] rfl (World.alloc_heap_new _ _) rfl (by simp[Value.oneCell']) ao.o ab.o ?_;intro vx x8 r aa ag;have ad:=yb r;have ak:=yb aa;clear r aa ag))
   have an:wrap64 ((i:Int)+1)=((i+1:Nat):Int):=by
    rw[AL (by have:=l.o;have:=a.o;omega)];push_cast;rfl
   rw[an]
   refine ⟨⟨i+1,by omega,rfl,yb ?_,yb ?_⟩,by simp[intOf];omega⟩
   ·rw[f.o]
    have h:=ad.o
    unfold KS
    rw[yn,zH]
    exact h
   ·exact Od B.o (s.o.trans (g.o.mono s.o.size) |>.alloc (by have:=s.o.size;have:=g.o.size;omega) _) ab.o ak.o
  ·obtain rfl:i=Z:=by omega
   have ah:decide ((i:Int) < (i:Int))=false:=by simp
   have al:Hid (KS w.heap.size wr u2 (Aq [] (Av x))):=yb (by
    have h:=U.o
    unfold Nh at h
    rwa [xU (by rw[show (Av x).length=x.lets.length by simp[Av],a.o];exact yf _)] at h)
   go_wp2
   obtain ⟨kh,j,d⟩:=Mi al.o (by rw[Hn,yE,show (Av x).length=x.lets.length by simp[Av]];have:=l.o;omega)
   go_ret
   exact ⟨kh,yC Ending.returned j,d,s.o⟩
set_option linter.unusedSimpArgs false
structure RM (w:World) (ks xs:List Value) (T:TypeId) (rs:List Value) (W:World):Prop where
 below:Below w.heap.size w W
 s:W.rangeAt w.heap.size 0 ks
 x:W.rangeAt (w.heap.size+1) 0 xs
 r:W.heap[w.heap.size+1+1]?=some (.cells rs.toArray T (0,0))
theorem RM.lt{w:World}{a xs:LV}{T:TypeId}{rs:LV}{W:World}(h:RM w a xs T rs W):w.heap.size+2 < W.heap.size:=(yd.1 h.r).1
theorem RM.up{w:World}{a xs:LV}{T:TypeId}{rs:LV}{W W':World}(h:RM w a xs T rs W)(hb:Below W.heap.size W W'):RM w a xs T rs W':=by
 have:=h.lt
 exact ⟨h.below.trans (hb.mono (by omega)),A0 h.s (hb.block _ (by omega)),A0 h.x (hb.block _ (by omega)),(hb.block _ (by omega)).trans h.r⟩
theorem RM.new(w:World)(a xs:LV)(T:TypeId)(rs:LV):RM w a xs T rs (((w.alloc (.cells a.toArray 35)).alloc (.cells xs.toArray 26)).alloc (.cells rs.toArray T)):=by
 refine ⟨G2 _ _ _ _,AA (Hj _ _ _ _),AA (Gn _ _ _ _),Dh _ _ _ _⟩
theorem RM.drew{w:World}{a xs:LV}{T:TypeId}{rs:LV}{W:World}(h:RM w a xs T rs W):RM w a xs T rs W.drew:=⟨h.below.drew,h.s,h.x,h.r⟩
theorem KX{N:NP}{w:World}{L:Bq}{cs:LV}{x:Ax}(h:BP N w L cs x):(Tryz.prog.info? 35).map (·.size)=some cs.length:=by
 obtain ⟨c0,c1,c2,rfl,b,g1,a⟩:=h.cells
 obtain ⟨i,d,rfl,e⟩:=b.cells
 obtain ⟨a1,f,rfl,j⟩:=g1.cells
 obtain ⟨c,k,rfl,g⟩:=a.cells
 kernel_rfl
structure DI (w:World) (cs:List Value) (x:Ax):Prop where
 v:∃L,BP (fun b=>b < w.heap.size) w L cs x
 slim:MB x
 gv:GV w
 gu:GU w
 depth:∀e∈Ay x,AB e.1<=1000000
theorem DI.up{w w':World}{cs:LV}{x:Ax}(h:DI w cs x)(hb:Below w.heap.size w w'):DI w' cs x:=by
 obtain ⟨L,c⟩:=h.v
 exact ⟨⟨L,c.same (fun b a=>yu a hb.size) (fun b a=>hb.block b a)⟩,h.slim,h.gv.below hb h.gv.1,h.gu.up hb,h.depth⟩
theorem DI.check{w:World}{cs:LV}{x:Ax}(h:DI w cs x):Calls Tryz.prog 17 #[.agg cs.toArray] w fun e w'=>e=.returned (.int .i64 (BE x))∧Below w.heap.size w w':=by
 obtain ⟨L,a⟩:=h.v
 exact RG a (fun _ h=>h) h.slim h.gv h.depth
theorem DI.consts{w:World}{cs:LV}{x:Ax}(h:DI w cs x):Calls Tryz.prog 35 #[.agg cs.toArray] w fun e w'=>∃k:As,e=.returned k.v∧OY w' k (Aq [] (Av x))∧Below w.heap.size w w':=by
 obtain ⟨L,a⟩:=h.v
 exact LH a (fun _ h=>h) h.gu h.slim.lets
theorem On(x:Ax){k:As}{w:World}(c:GU w)(a:OY w k (Aq [] (Av x))){e:Ex}{cs:LV}(d:AH (fun b=>b < w.heap.size) w e cs):Calls Tryz.prog 38 #[k.v,.agg cs.toArray,.int .i64 8] w (Ob (DV (Aq [] (Av x)) 8 e) w):=
 T9 _ (Ih _ [] (fun k a=>by cases a)) k 8 (yf _) e cs w c a d
theorem Tj{N:NP}{w:World}{e:Ex}{cs:LV}(h:AH N w e cs):cs.length=6:=by
 obtain ⟨a,p,rfl, -⟩:=h.cells;rfl
theorem PJ{c:LV}(h:c.length=6):(Tryz.prog.info? 26).map (·.size)=some c.length:=by rw[h];kernel_rfl
def Oo(m:Qn × Int)(w:World)(e:Ending)(w':World):Prop:=∃q:Qn,e=.returned (.tuple #[q.val,.int .i64 m.2])∧(m.2=0->q=m.1)∧Below w.heap.size w w'
theorem JB{w:World}{x:Ax}{cs:LV}{e:Ex}{xs:LV}(h:DI w cs x)(hv:AH (fun b=>b < w.heap.size) w e xs):Calls Tryz.prog 26 #[.agg cs.toArray,.agg xs.toArray] w (Oo (Fx x e) w):=by
 have D:Hid ((Tryz.prog.info? 35).map (·.size)=some cs.length):=yb (by obtain ⟨L,hv⟩:=h.v;exact KX hv)
 have HS:=yb h
 have HV:=yb hv
 have C:=yb (RM.new w cs xs 70 [iV 0,iV 0,iV 0,iV 0,iV 0,iV 0])
 obtain ⟨res,a⟩:∃r,r=Fx x e:=⟨_,rfl⟩
 rw[<-a]
 have t:=yb a
 obtain ⟨H,Q⟩:∃H,H=cs:=⟨_,rfl⟩
 obtain ⟨X,U⟩:∃X,X=xs:=⟨_,rfl⟩
 rw[<-Q] at HS D
 rw[<-U] at HV
 have HK:=yb Q
 have HY:=yb U
 obtain ⟨L,a7⟩:=h.v
 obtain ⟨c0,c1,c2,rfl,g0,g1,g2⟩:=a7.cells
 obtain ⟨a0,p0,rfl,e0⟩:=g0.cells
 obtain ⟨a1,p1,rfl,e1⟩:=g1.cells
 obtain ⟨a2,p2,rfl,e2⟩:=g2.cells
 obtain ⟨ax,px,rfl, -⟩:=hv.cells
 clear h hv a7 g0 g1 g2 e0 e1 e2 Q U a
 unfold As.v at*
 simp only[yK,yP] at C HK ⊢
 go_enter Tryz.func26,Tryz.ntmps26
 refine Ae fun K d=>?_
 go_wp2
 refine d.o _ _ ?_
 clear d K
 generalize ((w.alloc _).alloc _).alloc _=W at C ⊢
 rw[<-HK.o,<-HY.o] at C ⊢
 clear HK HY
 have aa:Hid (X.length=6):=yb (Tj HV.o)
 have O:Hid (∀V,Below w.heap.size w V->Calls Tryz.prog 17 #[.agg H.toArray] V fun e w'=>e=.returned (iV (BE x))∧Below V.heap.size V w'):=yb (fun V A=>(HS.o.up A).check)
 have P:Hid (∀V,Below w.heap.size w V->Calls Tryz.prog 35 #[.agg H.toArray] V fun e w'=>∃k:As,e=.returned k.v∧OY w' k (Aq [] (Av x))∧Below V.heap.size V w'):=yb (fun V A=>(HS.o.up A).consts)
 have S:Hid (∀V,Below W.heap.size W V->V.rangeAt w.heap.size 0 H):=yb (fun V A=>(C.o.up A).s)
 have a8:Hid (∀V,Below W.heap.size W V->V.rangeAt (w.heap.size+1) 0 X):=yb (fun V A=>(C.o.up A).x)
 have a:=t.o
 unfold Fx at a
 generalize BE x=ck at*
 have f:Hid (Below w.heap.size w W):=yb C.o.below
 refine Ae fun K d=>?_
 by_cases hc:ck=0
 rotate_left
 ·have E:Hid (res=(Fj,ck)):=yb (by rw[a,yq hc])
  have e1:(ck !=0)=true:=by simpa using hc
  clear d hc a t P
  go_upto_region 2 with (first
   |(refine yj rfl 35 _ rfl w.heap.size 0 rfl H _ (S.o _ (yg _ _)) qP rfl D.o ?_)
   |(go_at_call 17;with_reducible refine (O.o _ f.o).mono ?_;rintro e w2 ⟨rfl,q⟩;have T:=yb (C.o.up q);clear q))
  have g:w2.heap[w.heap.size+1+1]?=some (.cells j4 70 (0,0)):=T.o.r
  have p:=yb g
  obtain ⟨q0,q1,q2,q3,q4,q5⟩:=Cg g
  have qf:=fun k=>DX (n:=k) g
  clear g
  go_wp2
  have j:=Co p.o (iV 0) (iV 0) (iV 0) (iV 0) (iV 0) (iV 0)
  exact A3 (c:=Fj.row) rfl rfl j.row qY rfl (by kernel_rfl) ⟨Fj,by rw[E.o];rfl,fun _=>by rw[E.o],j.below T.o.below (by omega)⟩
 ·rw[yD hc] at a
  have y:=yb a
  subst hc
  clear a t
  go_wp2_with (first
   |(refine yj rfl 35 _ rfl w.heap.size 0 rfl H _ (S.o _ (yg _ _)) qP rfl D.o ?_)
   |(go_at_call 17;with_reducible refine (O.o _ f.o).mono ?_;rintro e w2 ⟨rfl,q⟩;have T:=yb (C.o.up q);have ab:=yb q;clear q))
  refine d.o _ _ ?_
  clear d K
  refine Ae fun K d=>?_
  refine DG (by kernel_rfl) (fun V=>Below W.heap.size W V) 3 ?_
  have m:Hid (Below W.heap.size W w2.drew):=yb ab.o.drew
  refine Bd (i:=2) (v:=.agg X.toArray) rfl (by kernel_rfl) (by kernel_rfl) (by kernel_rfl) (fun _ _ _ h=>h) (by kernel_rfl) (yieldsIf_load_mid (by rfl) 26 _ rfl (w.heap.size+1) 0 (by kernel_rfl) X _ (fun V A=>a8.o V A) qG rfl (PJ aa.o)) m.o ?_
  refine Ak (i:=0) (by kernel_rfl) rfl (fun K d=>?_)
  rw[yD (by kernel_rfl)]
  refine xL 35 _ rfl w.heap.size 0 rfl H _ (S.o _ m.o) qP rfl D.o ?_
  refine d.o _ _ (fun _=>m.o) ?_
  clear d K
  refine Ak (i:=1) (by kernel_rfl) rfl (fun K d=>?_)
  go_simp
  refine (P.o _ (f.o.trans (m.o.mono f.o.size))).mono ?_
  rintro e2 w3 ⟨kh,rfl,Z,a6⟩
  have l:Hid (Below W.heap.size W w3):=yb (m.o.trans (a6.mono m.o.size))
  have B:=yb (On x ((HS.o.gu).up (f.o.trans (l.o.mono f.o.size))) Z (HV.o.same (fun b hb=>yu hb (f.o.trans (l.o.mono f.o.size)).size) (fun b hb=>(f.o.trans (l.o.mono f.o.size)).block b hb)))
  refine d.o _ _ (fun _=>l.o) ?_
  clear d K Z a6
  generalize DV (Aq [] (Av x)) 8 e=qq at*
  obtain ⟨⟨⟨J,G,I⟩,⟨F,M⟩,er⟩,ok⟩:=qq
  unfold Ob Qn.val at B
  dsimp only at B y
  refine Ak (i:=3) (by kernel_rfl) rfl (fun K d=>?_)
  go_simp
  refine B.o.mono ?_
  rintro e3 w4 ⟨rfl,Y⟩
  have R:=yb (C.o.up (l.o.trans (Y.mono l.o.size)))
  refine d.o _ _ (by intro h;cases h) ?_
  clear d K Y B l m P O
  have g:w4.heap[w.heap.size+1+1]?=some (.cells j4 70 (0,0)):=R.o.r
  have p:=yb g
  obtain ⟨q0,q1,q2,q3,q4,q5⟩:=Cg g
  have qf:=fun k=>DX (n:=k) g
  clear g
  refine Ak (i:=4) (by kernel_rfl) rfl (fun K d=>?_)
  go_simp
  refine d.o _ _ (by intro h;cases h) ?_
  clear d K
  refine Ah (i:=5) (v:=.agg #[iV J,iV G,iV I,iV F,iV M,iV er]) rfl (by kernel_rfl) (by kernel_rfl) (by kernel_rfl) (fun _ _ _ h=>h) (by kernel_rfl) (Or.inl ⟨by rfl,?_⟩) (by intro h;cases h) ?_
  ·intro w _;go_simp
  refine Ah (i:=6) (v:=.bool ok) rfl (by kernel_rfl) (by kernel_rfl) (by kernel_rfl) (fun _ _ _ h=>h) (by kernel_rfl) (Or.inl ⟨by rfl,?_⟩) (by intro h;cases h) ?_
  ·intro w _;go_simp
  refine Ak (i:=7) (by kernel_rfl) rfl (fun K d=>?_)
  go_simp
  refine d.o _ _ (by intro h;cases h) ?_
  clear d K
  refine Ak (i:=8) (by kernel_rfl) rfl (fun K d=>?_)
  go_simp
  refine d.o _ _ (by intro h;cases h) ?_
  clear d K
  refine DF (by kernel_rfl) ?_
  have j:=Co p.o (iV J) (iV G) (iV I) (iV F) (iV M) (iV er)
  have N:=yb (j.below R.o.below (Nat.le_succ_of_le (Nat.le_succ _)))
  have u:=j.row
  clear j p R q0 q1 q2 q3 q4 q5 qf
  refine d.o _ _ ?_
  clear d K
  generalize ((((((w4.setCell _ _).setCell _ _).setCell _ _).setCell _ _).setCell _ _).setCell _ _)=W5 at N u ⊢
  have p:=yb u
  obtain ⟨q0,q1,q2,q3,q4,q5⟩:=Cg u
  have qf:=fun k=>DX (n:=k) u
  clear u
  unfold As.v
  have j:=Co p.o (iV J) (iV G) (iV I) (iV F) (iV M) (iV er)
  have z:=yb j
  clear j
  cases ok with
  |true=>
   have E:Hid (res=(⟨⟨J,G,I⟩,⟨F,M⟩,er⟩,0)):=y
   clear y
   go_wp2
   exact A3 (c:=(⟨⟨J,G,I⟩,⟨F,M⟩,er⟩:Qn).row) rfl rfl z.o.row qY rfl (by kernel_rfl) ⟨⟨⟨J,G,I⟩,⟨F,M⟩,er⟩,by rw[E.o];rfl,fun _=>by rw[E.o],z.o.below N.o (by omega)⟩
  |false=>
   have E:Hid (res=(Fj,180)):=y
   clear y
   go_wp2
   exact A3 (c:=(⟨⟨J,G,I⟩,⟨F,M⟩,er⟩:Qn).row) rfl rfl z.o.row qY rfl (by kernel_rfl) ⟨⟨⟨J,G,I⟩,⟨F,M⟩,er⟩,by rw[E.o];rfl,fun h=>by rw[E.o] at h;exact absurd h (by decide),z.o.below N.o (by omega)⟩
set_option linter.unusedSimpArgs false
def QL(m:Dm × Int)(w:World)(e:Ending)(w':World):Prop:=e=.returned (.tuple #[m.1.v,.int .i64 m.2])∧Below w.heap.size w w'
def Uk(m:Rt × Int)(w:World)(e:Ending)(w':World):Prop:=e=.returned (.tuple #[m.1.v,.int .i64 m.2])∧Below w.heap.size w w'
theorem IC{w:World}{x:Ax}{cs:LV}{e:Ex}{xs:LV}(h:DI w cs x)(B:AH (fun b=>b < w.heap.size) w e xs):Calls Tryz.prog 9 #[.agg cs.toArray,.agg xs.toArray] w (QL (DY x e) w):=by
 have A:Hid ((Tryz.prog.info? 35).map (·.size)=some cs.length):=yb (by obtain ⟨L,B⟩:=h.v;exact KX B)
 have Q:=yb h
 have O:=yb B
 have l:=yb (RM.new w cs xs 39 j7)
 obtain ⟨res,a⟩:∃r,r=DY x e:=⟨_,rfl⟩
 rw[<-a]
 have d:=yb a
 obtain ⟨E,j⟩:∃E,E=cs:=⟨_,rfl⟩
 obtain ⟨z,m⟩:∃z,z=xs:=⟨_,rfl⟩
 rw[<-j] at Q A
 rw[<-m] at O
 have J:=yb j
 have HY:=yb m
 obtain ⟨L,C⟩:=h.v
 obtain ⟨c0,c1,c2,rfl,Y,g1,U⟩:=C.cells
 obtain ⟨a0,p0,rfl,e0⟩:=Y.cells
 obtain ⟨a1,p1,rfl,S⟩:=g1.cells
 obtain ⟨a2,p2,rfl,X⟩:=U.cells
 obtain ⟨ax,px,rfl, -⟩:=B.cells
 clear h B C Y g1 U e0 S X j m a
 unfold As.v at*
 simp only[yK,yP] at l J ⊢
 go_enter Tryz.func9,Tryz.ntmps9
 refine Ae fun K u=>?_
 go_wp2
 refine u.o _ _ ?_
 clear u K
 generalize ((w.alloc _).alloc _).alloc _=W at l ⊢
 rw[<-J.o,<-HY.o] at l ⊢
 clear J HY
 have P:Hid (z.length=6):=yb (Tj O.o)
 have n:Hid (Below w.heap.size w W):=yb l.o.below
 have f:Hid (Calls Tryz.prog 26 #[.agg E.toArray,.agg z.toArray] W (Oo (Fx x e) W)):=yb (JB (Q.o.up n.o) (O.o.same (fun b hb=>yu hb n.o.size) (fun b hb=>n.o.block b hb)))
 refine Ae fun K u=>?_
 have a:=d.o
 unfold DY at a
 generalize Fx x e=mm at*
 obtain ⟨q,er⟩:=mm
 unfold Oo at f
 dsimp only at f a
 go_wp2_with (first
  |(refine yj rfl 35 _ rfl w.heap.size 0 rfl E _ l.o.s qP rfl A.o ?_)
  |(refine yj rfl 26 _ rfl (w.heap.size+1) 0 rfl z _ l.o.x qG rfl (PJ P.o) ?_)
  |(go_at_call 26;with_reducible refine f.o.mono ?_;rintro X w2 ⟨⟨⟨H,D,F⟩,⟨T,Z⟩,R⟩,rfl,V,y⟩;unfold Qn.val;dsimp only;have I:=yb V;have N:=yb (l.o.up y);clear V y))
 have i:=yb (N.o.up ((yg w2.heap.size w2).alloc (yf _) (.cells #[iV H,iV D,iV F,iV T,iV Z,iV R] 70)))
 have g:=World.alloc_heap_new w2 (.cells #[iV H,iV D,iV F,iV T,iV Z,iV R] 70)
 refine u.o _ _ ?_
 clear u K f
 generalize w2.heap.size=G at g ⊢
 generalize w2.alloc _=W3 at i g ⊢
 obtain ⟨q0,q1,q2,q3,q4,q5⟩:=Cg g
 clear g
 have k:W3.heap[w.heap.size+1+1]?=some (.cells j6 39 (0,0)):=i.o.r
 obtain ⟨r0,r1,r2,f0,f1,f2⟩:=GA k
 have t:=yb k
 clear k
 by_cases p:er=0
 ·rw[yD p] at a
  have hd:=I.o p
  rw[<-hd] at a
  have M:Hid (res=(⟨H,D,F⟩,0)):=yb a
  subst p
  clear a hd d I
  go_wp2
  exact A3 (c:=(⟨H,D,F⟩:Dm).row) rfl rfl (Dp (Dn (Dl t.o))) qQ rfl (by kernel_rfl) ⟨by rw[M.o];rfl,A5 (A5 (A5 i.o.below (by omega) _) (by omega) _) (by omega) _⟩
 ·rw[yq p] at a
  have M:Hid (res=(O4,er)):=yb a
  have S:(er !=0)=true:=by simpa using p
  clear a d I p
  go_wp2
  exact A3 (c:=O4.row) rfl rfl (Dp (Dn (Dl t.o))) qQ rfl (by kernel_rfl) ⟨by rw[M.o];rfl,A5 (A5 (A5 i.o.below (by omega) _) (by omega) _) (by omega) _⟩
theorem DK{w:World}{x:Ax}{cs:LV}{e:Ex}{xs:LV}(h:DI w cs x)(E:AH (fun b=>b < w.heap.size) w e xs):Calls Tryz.prog 10 #[.agg cs.toArray,.agg xs.toArray] w (Uk (Bm x e) w):=by
 have D:Hid ((Tryz.prog.info? 35).map (·.size)=some cs.length):=yb (by obtain ⟨L,E⟩:=h.v;exact KX E)
 have S:=yb h
 have Q:=yb E
 have p:=yb (RM.new w cs xs 44 [iV 0,iV 0])
 obtain ⟨res,a⟩:∃r,r=Bm x e:=⟨_,rfl⟩
 rw[<-a]
 have d:=yb a
 obtain ⟨I,l⟩:∃I,I=cs:=⟨_,rfl⟩
 obtain ⟨C,t⟩:∃C,C=xs:=⟨_,rfl⟩
 rw[<-l] at S D
 rw[<-t] at Q
 have N:=yb l
 have HY:=yb t
 obtain ⟨L,F⟩:=h.v
 obtain ⟨c0,c1,c2,rfl,g0,g1,T⟩:=F.cells
 obtain ⟨a0,p0,rfl,Z⟩:=g0.cells
 obtain ⟨a1,p1,rfl,O⟩:=g1.cells
 obtain ⟨a2,p2,rfl,V⟩:=T.cells
 obtain ⟨ax,px,rfl, -⟩:=E.cells
 clear h E F g0 g1 T Z O V l t a
 unfold As.v at*
 simp only[yK,yP] at p N ⊢
 go_enter Tryz.func10,Tryz.ntmps10
 refine Ae fun K A=>?_
 go_wp2
 refine A.o _ _ ?_
 clear A K
 generalize ((w.alloc _).alloc _).alloc _=W at p ⊢
 rw[<-N.o,<-HY.o] at p ⊢
 clear N HY
 have R:Hid (C.length=6):=yb (Tj Q.o)
 have u:Hid (Below w.heap.size w W):=yb p.o.below
 have i:Hid (Calls Tryz.prog 26 #[.agg I.toArray,.agg C.toArray] W (Oo (Fx x e) W)):=yb (JB (S.o.up u.o) (Q.o.same (fun b hb=>yu hb u.o.size) (fun b hb=>u.o.block b hb)))
 refine Ae fun K A=>?_
 have a:=d.o
 unfold Bm Uj at a
 generalize Fx x e=mm at*
 obtain ⟨q,er⟩:=mm
 unfold Oo at i
 dsimp only at i a
 go_wp2_with (first
  |(refine yj rfl 35 _ rfl w.heap.size 0 rfl I _ p.o.s qP rfl D.o ?_)
  |(refine yj rfl 26 _ rfl (w.heap.size+1) 0 rfl C _ p.o.x qG rfl (PJ R.o) ?_)
  |(go_at_call 26;with_reducible refine i.o.mono ?_;rintro V w2 ⟨⟨⟨dl,X,Y⟩,⟨H,J⟩,y⟩,rfl,U,B⟩;unfold Qn.val;dsimp only;have M:=yb U;have P:=yb (p.o.up B);clear U B))
 have g:=yb (P.o.up ((yg w2.heap.size w2).alloc (yf _) (.cells #[iV dl,iV X,iV Y,iV H,iV J,iV y] 70)))
 have j:=World.alloc_heap_new w2 (.cells #[iV dl,iV X,iV Y,iV H,iV J,iV y] 70)
 refine A.o _ _ ?_
 clear A K i
 generalize w2.heap.size=G at j ⊢
 generalize w2.alloc _=W3 at g j ⊢
 obtain ⟨q0,q1,q2,q3,q4,q5⟩:=Cg j
 clear j
 have n:W3.heap[w.heap.size+1+1]?=some (.cells j5 44 (0,0)):=g.o.r
 obtain ⟨r0,r1,f0,f1⟩:=Dv n
 have m:=yb n
 clear n
 by_cases k:er=0
 ·rw[yD k] at a
  have hd:=M.o k
  rw[<-hd] at a
  dsimp only at a
  subst k
  clear hd d M
  by_cases f:y=0
  ·rw[yD f] at a
   have z:Hid (res=(⟨H,J⟩,0)):=yb a
   subst f
   clear a
   go_wp2
   exact A3 (c:=[iV H,iV J]) rfl rfl (Dk (Db m.o)) qS rfl (by kernel_rfl) ⟨by rw[z.o];rfl,A5 (A5 g.o.below (by omega) _) (by omega) _⟩
  ·rw[yq f] at a
   have z:Hid (res=(IP,y)):=yb a
   have O:(y !=0)=true:=by simpa using f
   clear a f
   go_wp2
   exact A3 (c:=[iV 0,iV 0]) rfl rfl (Dk (Db m.o)) qS rfl (by kernel_rfl) ⟨by rw[z.o];rfl,A5 (A5 g.o.below (by omega) _) (by omega) _⟩
 ·rw[yq k,yq k] at a
  have z:Hid (res=(IP,er)):=yb a
  have Z:(er==0)=false:=by simpa using k
  have O:(er !=0)=true:=by simpa using k
  clear a d M k
  go_wp2
  exact A3 (c:=[iV 0,iV 0]) rfl rfl (Dk (Db m.o)) qS rfl (by kernel_rfl) ⟨by rw[z.o];rfl,A5 (A5 g.o.below (by omega) _) (by omega) _⟩
set_option linter.unusedSimpArgs false
theorem Oq(op nn u:Int)(rn:ByteArray)(ri:Int)(a:Option Addr)(m cap:Nat)(w:World):
  Calls Tryz.prog 37 #[.agg #[.int .i64 op,.int .i64 nn,.int .i64 u,.string rn,.int .i64 ri,.slice a m cap]] w fun e w'=>e=.returned (.bool (DE op nn u rn ri m))∧Below w.heap.size w w':=by
 by_cases h0:op=0
 ·by_cases h1:nn=0
  ·by_cases h2:u=0
   ·subst h0 h1 h2
    go_enter Tryz.func37,Tryz.ntmps37
    go_wp2
    ·rename_i h1 h2
     go_ret
     refine ⟨AJ ?_,(yg _ _).alloc (yf _) _⟩
     simp only[DE,xf (show rn.size=0∧ri=0 from ⟨(Ds rn).2 h1,h2⟩)]
     rw[xS];simp
    ·rename_i h1 h2
     go_ret
     refine ⟨AJ ?_,(yg _ _).alloc (yf _) _⟩
     simp only[DE,xk (show ¬ (rn.size=0∧ri=0) from fun h=>h2 h.2)]
     simp
    ·rename_i h1
     go_ret
     refine ⟨AJ ?_,(yg _ _).alloc (yf _) _⟩
     simp only[DE,xk (show ¬ (rn.size=0∧ri=0) from fun h=>h1 ((Ds rn).1 h.1))]
     simp
   ·have b:(u==0)=false:=by simpa using h2
    subst h0 h1
    go_enter Tryz.func37,Tryz.ntmps37
    go_wp2
    go_ret
    exact ⟨AJ (by simp[DE,h2]),(yg _ _).alloc (yf _) _⟩
  ·have b:(nn==0)=false:=by simpa using h1
   subst h0
   go_enter Tryz.func37,Tryz.ntmps37
   go_wp2
   go_ret
   exact ⟨AJ (by simp[DE,h1]),(yg _ _).alloc (yf _) _⟩
 ·have b:(op==0)=false:=by simpa using h0
  go_enter Tryz.func37,Tryz.ntmps37
  go_wp2
  go_ret
  exact ⟨AJ (by simp[DE,h0]),(yg _ _).alloc (yf _) _⟩
theorem KY{N:NP}{w:World}{e:Ex}{cs:LV}(h:AH N w e cs)(W:World):Calls Tryz.prog 37 #[.agg cs.toArray] W fun b w'=>b=.returned (.bool (BJ e))∧Below W.heap.size W w':=by
 obtain ⟨a,p,rfl, -⟩:=h.cells
 exact Oq e.op e.n e.u e.rn e.ri a e.args.length p W
end Go.Proofs.YtjofgpfocadomaaGreatDoor
namespace Go.Proofs.YtjofgpfocadomaaGreatDoor
open Go.RowKit
set_option linter.unusedSimpArgs false
attribute [local go_sem] Oper.semAt_some
def Dz(d:Dm)(a:Bool)(cs:LV):Array Value:=#[.agg (cs++(.bool a::d.row)).toArray]
def Vd(W:World)(Bon:Nat)(b:Bool):Prop:=W.heap[Bon]?=some (.cells #[.bool b] 4 (0,0))
structure LI (J:Nat->(Nat->Prop)->World->Prop) (Jx:(Nat->Prop)->World->Prop) (W0:World) (l Bon By k:Nat) (O:Nat->Prop) (W:World):Prop where
 own:∀b,O b->W0.heap.size<=b∧b < W.heap.size
 size:W0.heap.size<=W.heap.size
 oon:O Bon
 oy:O By
 ne:Bon≠By
 y:W.heap[By]?=some (.cells #[.func (.yield l) #[] #[]] 161 (0,0))
 st:(Vd W Bon true∧J k O W)∨(Vd W Bon false∧Jx O W)
structure LK (n l:Nat) (xs:List (Array Value)) (J:Nat->(Nat->Prop)->World->Prop) (Jx:(Nat->Prop)->World->Prop) (Jp:List PanicEntry->(Nat->Prop)->World->Prop) (W0:World):Prop where
 stays:Ca J
 staysx:Ca (fun (_:Unit)=>Jx)
 round:∀k (hk:k < xs.length) O W1,J k O W1->W0.heap.size<=W1.heap.size->(∀b,O b->W0.heap.size<=b∧b < W1.heap.size)->YieldAt Fence.wide n Tryz.prog l xs[k] W1 fun e W'=>
   (e=.returned (.bool true)∧J (k+1) O W'∧AO O W1 W')∨(e=.returned (.bool false)∧Jx O W'∧AO O W1 W')∨(∃ch,e=.panicked ch∧Jp ch O W'∧AO O W1 W')
section
variable{J:Nat->NP->World->Prop}{Jx:NP->World->Prop}{Jp:List PanicEntry->NP->World->Prop}{W0:World}{n l Bon By k:Nat}{O:NP}{W W':World}{xs:List (Array Value)}
theorem LI.below(c:LK n l xs J Jx Jp W0)(h:LI J Jx W0 l Bon By k O W)(hb:Below W.heap.size W W'):LI J Jx W0 l Bon By k (fun b=>O b∨(W.heap.size<=b∧b < W'.heap.size)) W':=by
 have d:=hb.size
 refine ⟨fun b h2=>?_,yt h.size d,.inl h.oon,.inl h.oy,h.ne,(hb.block _ (h.own _ h.oy).2).trans h.y,?_⟩
 ·have hs:=h.size
  rcases h2 with h2|h2
  ·have:=h.own b h2;omega
  ·omega
 ·have a:=hb.block _ (h.own _ h.oon).2
  rcases h.st with ⟨h1,h2⟩|⟨h1,h2⟩
  ·exact .inl ⟨a.trans h1,CC c.stays h2 hb⟩
  ·exact .inr ⟨a.trans h1,CC (s:=()) c.staysx h2 hb⟩
theorem LI.y'(h:LI J Jx W0 l Bon By k O W):W.cell? ⟨By,0,none⟩=some (.func (.yield l) #[] #[]):=MQ h.y
theorem LI.onTrue(d:LK n l xs J Jx Jp W0)(h:LI J Jx W0 l Bon By k O W){k':Nat}{a:World}(hs:AO O W a)(f:J k' O a)(c:Vd a Bon true):LI J Jx W0 l Bon By k' O (a.setCell ⟨Bon,0,none⟩ (.bool true)):=
 ⟨fun b hb=>⟨(h.own b hb).1,by have:=(h.own b hb).2;have:=hs.1;simp;omega⟩,by have:=h.size;have:=hs.1;simp;omega,h.oon,h.oy,h.ne,(Ad _ _ (zX h.ne)).trans ((hs.2 _ h.oy).trans h.y),
  .inl ⟨AZ c,d.stays _ _ _ _ _ f (by simp) rfl rfl rfl (fun b hb _=>Ad _ _ (fun e=>hb (e▸h.oon))) (fun b hb=>.inl hb)⟩⟩
theorem LI.onFalse(f:LK n l xs J Jx Jp W0)(h:LI J Jx W0 l Bon By k O W){k':Nat}{a:World}{c:Bool}(hs:AO O W a)(g:Jx O a)(d:Vd a Bon c):LI J Jx W0 l Bon By k' O (a.setCell ⟨Bon,0,none⟩ (.bool false)):=
 ⟨fun b hb=>⟨(h.own b hb).1,by have:=(h.own b hb).2;have:=hs.1;simp;omega⟩,by have:=h.size;have:=hs.1;simp;omega,h.oon,h.oy,h.ne,(Ad _ _ (zX h.ne)).trans ((hs.2 _ h.oy).trans h.y),
  .inr ⟨AZ d,f.staysx () _ _ _ _ g (by simp) rfl rfl rfl (fun b hb _=>Ad _ _ (fun e=>hb (e▸h.oon))) (fun b hb=>.inl hb)⟩⟩
end
def V1(J:Nat->NP->World->Prop)(Jx:NP->World->Prop)(Jp:List PanicEntry->NP->World->Prop)(W0:World)(l Bon By k:Nat)(O:NP)(W:World)(e:Ending)(W':World):Prop:=
 (e=.returned (.tuple #[])∧∃a,LI J Jx W0 l Bon By k a W'∧(∀b,O b->a b)∧(∀b,O b->b≠Bon->W'.heap[b]?=W.heap[b]?))∨∃c,e=.panicked c∧∃a,Jp c a W'
theorem QM{J:Nat->NP->World->Prop}{Jx:NP->World->Prop}{Jp:List PanicEntry->NP->World->Prop}{W0:World}{n l Bon By:Nat}{xs:List (Array Value)}(hc:LK (n - 1) l xs J Jx Jp W0)(hn:1<=n)
 (d:Dm)(th:Bool)(f:List LV)(g y:Nat)(O:NP)(W:World)(h:LI J Jx W0 l Bon By y O W)(hg:O g)(ah:g≠Bon)(hl:f.length<=100)(h6:∀i (hi:i < f.length),(∃(o n u:Int) (rn:ByteArray) (ri:Int) (p:Option Addr) (m c:Nat),f[i]=[.int .i64 o,.int .i64 n,.int .i64 u,.string rn,.int .i64 ri,.slice p m c])∧W.rangeAt g (i*6) f[i]∧∃hk:y+i < xs.length,xs[y+i]=Dz d th f[i]):
  Calls Tryz.prog 75 #[d.v,.bool th,.slice (some ⟨g,0,none⟩) f.length f.length,.pointer (some ⟨Bon,0,none⟩),.pointer (some ⟨By,0,none⟩)] W (V1 J Jx Jp W0 l Bon By (y+f.length) O W):=by
 have Y:=yb hc
 have HP:=yb h
 have H6:=yb h6
 obtain ⟨m,hm⟩:∃m,m=f.length:=⟨_,rfl⟩
 rw[<-hm] at hl ⊢
 have HM:=yb hm
 have ad:=yb (And.intro hg ah)
 clear hc h h6 hm hg ah
 obtain ⟨B,z,A⟩:=d
 unfold Dm.v
 dsimp only
 go_enter Tryz.func75,Tryz.ntmps75
 refine Ae fun K hK=>?_
 go_wp2
 refine hK.o _ _ ?_
 clear hK K
 go_wp2
 have HW:Hid (LI J Jx W0 l Bon By y (fun b=>O b∨(W.heap.size<=b∧b < (W.alloc (.cells #[iV B,iV z,iV A] 68)).heap.size)) (W.alloc (.cells #[iV B,iV z,iV A] 68))):=yb (HP.o.below Y.o ((yg _ _).alloc (yf _) _))
 have aa:Hid ((W.alloc (.cells #[iV B,iV z,iV A] 68)).heap[W.heap.size]?=some (.cells #[iV B,iV z,iV A] 68 (0,0))):=yb (World.alloc_heap_new _ _)
 have a6:Hid (∀b,O b->b≠Bon->(W.alloc (.cells #[iV B,iV z,iV A] 68)).heap[b]?=W.heap[b]?):=yb (fun b hb _=>yA _ _ _ (HP.o.own b hb).2)
 have T:Hid ((W.heap.size≠Bon)∧(fun b=>O b∨(W.heap.size<=b∧b < (W.alloc (.cells #[iV B,iV z,iV A] 68)).heap.size)) W.heap.size):=yb ⟨by have:=(HP.o.own _ HP.o.oon).2;omega,.inr ⟨yf _,by simp⟩⟩
 generalize aw:W.alloc (.cells #[iV B,iV z,iV A] 68)=W1 at HW aa a6 T ⊢
 go_loopw [12] (fun iv wr=>∃i:Nat,i<=m∧iv=iV i∧Hid (∃q,LI J Jx W0 l Bon By (y+i) q wr∧(∀b,O b->q b)∧q W.heap.size∧wr.heap[W.heap.size]?=some (.cells #[iV B,iV z,iV A] 68 (0,0))∧∀b,O b->b≠Bon->wr.heap[b]?=W.heap[b]?)) (fun iv _=>m - (intOf iv).toNat)
 case atStart=>exact ⟨0,yH _,rfl,yb ⟨_,HW.o,fun b hb=>.inl hb,T.o.2,aa.o,a6.o⟩⟩
 case round=>
  obtain ⟨i,hi,rfl,HI⟩:=hrel
  obtain ⟨q,r,s,V,hdr,F⟩:=HI.o
  by_cases am:i < m
  ·have ae:i < f.length:=by rw[<-HM.o];exact am
   obtain ⟨⟨vo,vn,vu,P,Q,vp,vm,vc,ag⟩,X,hk,Z⟩:=H6.o i ae
   rw[ag] at X Z
   obtain ⟨c0,c1,c2,c3,c4,c5⟩:=Bn (A0 X (F g ad.o.1 ad.o.2))
   have ak:(i:Int) < (m:Int):=by omega
   have an:=yb r
   clear ag X ae HI
   have af:Hid (∀G,G=wr.alloc (.cells #[iV vo,iV vn,iV vu,.string P,iV Q,.slice vp vm vc] 26)->∃M,LI J Jx W0 l Bon By (y+i) M G∧(∀b,O b->M b)∧M W.heap.size∧M wr.heap.size∧wr.heap.size≠Bon∧G.heap[W.heap.size]?=some (.cells #[iV B,iV z,iV A] 68 (0,0))∧G.heap[wr.heap.size]?=some (.cells #[iV vo,iV vn,iV vu,.string P,iV Q,.slice vp vm vc] 26 (0,0))∧∀b,O b->b≠Bon->G.heap[b]?=W.heap[b]?):=yb (by
    rintro G rfl
    have U:=(yg wr.heap.size wr).alloc (yf _) (.cells #[iV vo,iV vn,iV vu,.string P,iV Q,.slice vp vm vc] 26)
    refine ⟨_,r.below Y.o U,fun b hb=>.inl (s b hb),.inl V,.inr ⟨yf _,by simp⟩,?_,(U.block _ (yd.1 hdr).1).trans hdr,World.alloc_heap_new _ _,fun b hb j=>(U.block b (r.own b (s b hb)).2).trans (F b hb j)⟩
    have:=(r.own _ r.oon).2;omega)
   clear r s V hdr F an
   go_upto_region 4 with fail
   obtain ⟨M,p2,s2,ac,aq,ap,I,S,R⟩:=af.o _ rfl
   clear af c0 c1 c2 c3 c4 c5
   generalize ay:wr.heap.size=bx at*
   generalize wr.alloc _=G at p2 I S R ⊢
   obtain ⟨x0,x1,x2,x3,x4,x5⟩:=Cg S
   obtain ⟨d0,d1,d2,aj,au,av⟩:=GA I
   have y2:=p2.y'
   have k:=yb p2
   have H:=yb R
   have C:=yb s2
   have a:=yb (And.intro ac T.o.1)
   have D:=yb I
   clear p2 s2 ac aq ap I S R aj au av
   rcases k.o.st with ⟨w,hj⟩|⟨w,a8⟩
   ·have a0:=MQ w
    obtain ⟨ax,al,a2,ar,hy,ai⟩:=Y.o.round (y+i) hk M G hj k.o.size k.o.own
    rw[Z] at hy
    unfold Dz Dm.row at hy
    simp only[yK,yP] at hy
    have ao:=yb ai
    have L:=yb w
    clear ai Z hj w
    refine (xZ (n:=n)).1 ?_
    gi_wp2
    refine ao.o.mono ?_
    rintro e N (⟨rfl,hj,hs⟩|⟨rfl,Z,hs⟩|⟨ch,rfl,hp,hs⟩)
    ·have t:Hid (∃q,LI J Jx W0 l Bon By (y+i+1) q (N.setCell (aV Bon 0) (.bool true))∧(∀b,O b->q b)∧q W.heap.size∧(N.setCell (aV Bon 0) (.bool true)).heap[W.heap.size]?=some (.cells #[iV B,iV z,iV A] 68 (0,0))∧∀b,O b->b≠Bon->(N.setCell (aV Bon 0) (.bool true)).heap[b]?=W.heap[b]?):=yb (by
      have E:Vd N Bon true:=(hs.2 _ k.o.oon).trans L.o
      refine ⟨M,k.o.onTrue Y.o hs hj E,C.o,a.o.1,(Ad _ _ a.o.2).trans ((hs.2 _ a.o.1).trans D.o),fun b hb j=>(Ad _ _ j).trans ((hs.2 _ (C.o b hb)).trans (H.o b hb j))⟩)
     have x:=(hs.2 _ k.o.oon).trans L.o
     have a7:=MQ x
     have ab:=DX (n:=0) x
     clear hj hs hy x a0 y2 x0 x1 x2 x3 x4 x5 d0 d1 d2
     gi_wp2
     go_wp2
     exact ⟨⟨i+1,by omega,by push_cast;rfl,t⟩,by simp[intOf];omega⟩
    ·have t:Hid (∃q,LI J Jx W0 l Bon By (y+(i+1)) q (N.setCell (aV Bon 0) (.bool false))∧(∀b,O b->q b)∧q W.heap.size∧(N.setCell (aV Bon 0) (.bool false)).heap[W.heap.size]?=some (.cells #[iV B,iV z,iV A] 68 (0,0))∧∀b,O b->b≠Bon->(N.setCell (aV Bon 0) (.bool false)).heap[b]?=W.heap[b]?):=yb (by
      have E:Vd N Bon true:=(hs.2 _ k.o.oon).trans L.o
      refine ⟨M,k.o.onFalse Y.o hs Z E,C.o,a.o.1,(Ad _ _ a.o.2).trans ((hs.2 _ a.o.1).trans D.o),fun b hb j=>(Ad _ _ j).trans ((hs.2 _ (C.o b hb)).trans (H.o b hb j))⟩)
     have x:=(hs.2 _ k.o.oon).trans L.o
     have a7:=MQ x
     have ab:=DX (n:=0) x
     clear Z hs hy x a0 y2 x0 x1 x2 x3 x4 x5 d0 d1 d2
     gi_wp2
     go_wp2
     exact ⟨⟨i+1,by omega,by push_cast;rfl,t⟩,by simp[intOf];omega⟩
    ·exact ⟨rfl,.inr ⟨ch,rfl,_,hp⟩⟩
   ·have t:Hid (∃q,LI J Jx W0 l Bon By (y+(i+1)) q (G.setCell (aV Bon 0) (.bool false))∧(∀b,O b->q b)∧q W.heap.size∧(G.setCell (aV Bon 0) (.bool false)).heap[W.heap.size]?=some (.cells #[iV B,iV z,iV A] 68 (0,0))∧∀b,O b->b≠Bon->(G.setCell (aV Bon 0) (.bool false)).heap[b]?=W.heap[b]?):=yb (by
     refine ⟨M,k.o.onFalse Y.o (AO.refl _ _) a8 w,C.o,a.o.1,(Ad _ _ a.o.2).trans D.o,fun b hb j=>(Ad _ _ j).trans (H.o b hb j)⟩)
    have a7:=MQ w
    have ab:=DX (n:=0) w
    clear a8 w y2 x0 x1 x2 x3 x4 x5 d0 d1 d2
    go_wp2
    exact ⟨⟨i+1,by omega,by push_cast;rfl,t⟩,by simp[intOf];omega⟩
  ·obtain rfl:i=m:=by omega
   have ak:decide ((i:Int) < (i:Int))=false:=by simp
   have HF:Hid (∃q,LI J Jx W0 l Bon By (y+i) q wr∧(∀b,O b->q b)∧∀b,O b->b≠Bon->wr.heap[b]?=W.heap[b]?):=yb ⟨q,r,s,F⟩
   clear r s V hdr F HI
   go_wp2
   exact bodyPost_end (zn rfl _ _ _) rfl (.inl ⟨rfl,HF.o⟩)
end Go.Proofs.YtjofgpfocadomaaGreatDoor
namespace Go.Proofs.YtjofgpfocadomaaGreatDoor
open Go.RowKit
set_option linter.unusedSimpArgs false
section
variable{P:Program}{ops:Array Oper}{rest:List Oper}{o:Oper}{a:Act}{w:World}{Q:QT}
theorem LM(g:o.guard=none)(t e:TypeId)(x y m:Operand)(p:o.op=.buildSlice t 3 #[(0,x),(1,y),(2,m)])(c0 c1 c2:LV)(u:a.eval x=.agg c0.toArray)(v:a.eval y=.agg c1.toArray)(k:a.eval m=.agg c2.toArray)
 (n:Nat)(r:P.underlying t=some (.slice e))(hi:((P.info? e).bind fun i=>i.zero.map fun z=>(i.size,z.cells.size))=some (n,n))(A:c0.length=n)(l:c1.length=n)(j:c2.length=n)(c:0 < n)(d:n<=1000)
 (h:wpList P ops Q rest (a.put o.dst (.slice (some ⟨w.heap.size,0,none⟩) 3 3)) (w.alloc (.cells (c0++(c1++c2)).toArray e))):wpList P ops Q (o::rest) a w:=by
 cases b:P.info? e with
 |none=>simp[b] at hi
 |some ie=>
  cases f:ie.zero with
  |none=>simp[b,f] at hi
  |some z=>
   simp only[b,f,xr,xz,z8,zp] at hi
   obtain ⟨h1,h2⟩:=hi
   refine wpList_buildSlice g t e 3 _ p _ ie z r b f (by rw[h1];omega) (by rw[h1];omega) ?_ h
   have hs:((Array.range (3*ie.size)).map (z.cells[· % z.cells.size]!)).size=3*n:=by simp[h1]
   rw[h1] at hs ⊢
   generalize (Array.range (3*n)).map (z.cells[· % z.cells.size]!)=q at hs ⊢
   have:=Great.fill_whole (s:=n) c [.agg c0.toArray,.agg c1.toArray,.agg c2.toArray] q (by simp[Value.cells,A,l,j]) (by rw[hs];rfl)
   simp only[xM,List.zipIdx_nil,zu,zP,zc,zs,yS,Value.cells] at this
   simpa[u,v,k] using this
end
def IE(c:LV):Prop:=∃(o n u:Int) (rn:ByteArray) (ri:Int) (p:Option Addr) (m k:Nat),c=[.int .i64 o,.int .i64 n,.int .i64 u,.string rn,.int .i64 ri,.slice p m k]
theorem AH.is6{N:NP}{w:World}{e:Ex}{cs:LV}(h:AH N w e cs):IE cs:=by
 obtain ⟨a,p,rfl, -⟩:=h.cells
 exact ⟨_,_,_,_,_,_,_,_,rfl⟩
theorem IE.len{c:LV}(h:IE c):c.length=6:=by obtain ⟨_,_,_,_,_,_,_,_,rfl⟩:=h;rfl
theorem Ep{c:LV}(h:IE c):∀v∈c,v.oneCell'=true:=by
 obtain ⟨_,_,_,_,_,_,_,_,rfl⟩:=h
 simp[Value.oneCell']
theorem Ch{W:World}{b:Nat}{t:TypeId}{row pre c post:LV}{o:Nat}(h:W.heap[b]?=some (.cells row.toArray t (0,0)))(e:row=pre++(c++post))(d:pre.length=o):W.rangeAt b o c:=by
 subst d e
 have hr:=AA h
 intro j v a
 have:=hr (pre.length+j) v (by
  rw[yV (by omega),xi,zo (yx.1 a).1]
  exact a)
 simpa using this
theorem L3{W:World}{g:Nat}{t:TypeId}{a:List LV}(d:∀c∈a,IE c)(h:W.heap[g]?=some (.cells a.flatten.toArray t (0,0)))(i:Nat)(hi:i < a.length):W.rangeAt g (i*6) a[i]:=by
 have k:=FT a 6 (fun c f=>(d c f).len)
 have hr:=AA h
 intro j v e
 have b:j < 6:=by rw[<-(d _ (yJ hi)).len];exact (yx.1 e).1
 have h1:=k.2 i hi j b
 rw[e] at h1
 have:=hr (i*6+j) v h1
 simpa using this
def H2(J:Nat->NP->World->Prop)(Jx:NP->World->Prop)(W0:World)(l Bon By k:Nat)(P:NP->World->Prop)(W:World):Prop:=∃O,LI J Jx W0 l Bon By k O W∧P O W
def L4(Bon a:Nat)(row:LV)(t:TypeId)(O:NP)(W:World):Prop:=O a∧a≠Bon∧W.heap[a]?=some (.cells row.toArray t (0,0))
def D0(_:NP)(_:World):Prop:=True
def I5(Bon:Nat)(P:NP->World->Prop):Prop:=∀O a W W',P O W->(∀b,O b->a b)->(∀b,O b->b≠Bon->W'.heap[b]?=W.heap[b]?)->P a W'
theorem L5(Bon:Nat):I5 Bon D0:=fun _ _ _ _ _ _ _=>trivial
theorem DL(Bon a:Nat)(row:LV)(t:TypeId):I5 Bon (L4 Bon a row t):=fun _ _ _ _ h hs hb=>⟨hs _ h.1,h.2.1,(hb _ h.1 h.2.1).trans h.2.2⟩
def Gw(J:Nat->NP->World->Prop)(Jx:NP->World->Prop)(Jp:List PanicEntry->NP->World->Prop)(W0:World)(l Bon By k:Nat)(P:NP->World->Prop)(e:Ending)(W':World):Prop:=
 (e=.returned (.tuple #[])∧H2 J Jx W0 l Bon By k P W')∨∃a,e=.panicked a∧∃b,Jp a b W'
section
variable{J:Nat->NP->World->Prop}{Jx:NP->World->Prop}{Jp:List PanicEntry->NP->World->Prop}{W0:World}{n l Bon By k:Nat}{W W':World}{xs:List (Array Value)}{P:NP->World->Prop}
theorem H2.below(c:LK n l xs J Jx Jp W0)(d:I5 Bon P)(h:H2 J Jx W0 l Bon By k P W)(hb:Below W.heap.size W W'):H2 J Jx W0 l Bon By k P W':=by
 obtain ⟨O,h1,h2⟩:=h
 exact ⟨_,h1.below c hb,d _ _ _ _ h2 (fun b hb=>.inl hb) (fun b a _=>hb.block b (h1.own b a).2)⟩
theorem H2.box(a:LK n l xs J Jx Jp W0)(h:H2 J Jx W0 l Bon By k D0 W)(row:LV)(t:TypeId):H2 J Jx W0 l Bon By k (L4 Bon W.heap.size row t) (W.alloc (.cells row.toArray t)):=by
 obtain ⟨O,h1, -⟩:=h
 refine ⟨_,h1.below a ((yg _ _).alloc (yf _) _),.inr ⟨yf _,by simp⟩,by have:=(h1.own _ h1.oon).2;omega,World.alloc_heap_new _ _⟩
theorem H2.no(h:H2 J Jx W0 l Bon By k P W):H2 J Jx W0 l Bon By k D0 W:=by
 obtain ⟨O,h1, -⟩:=h
 exact ⟨O,h1,trivial⟩
theorem DZ(o:LK (n - 1) l xs J Jx Jp W0)(x:1<=n)(q:I5 Bon P)(h:H2 J Jx W0 l Bon By k P W)(d:Dm)(j:Bool)(a:List LV)(m:∀c∈a,IE c)(r:a.length<=100)(w:∃pre post,xs=pre++(a.map (Dz d j)++post)∧pre.length=k):
  Calls Tryz.prog 75 #[d.v,.bool j,.slice (some ⟨W.heap.size,0,none⟩) a.length a.length,.pointer (some ⟨Bon,0,none⟩),.pointer (some ⟨By,0,none⟩)] (W.alloc (.cells a.flatten.toArray 26)) (Gw J Jx Jp W0 l Bon By (k+a.length) P):=by
 obtain ⟨O,h1,h2⟩:=h
 have f:=(yg W.heap.size W).alloc (yf _) (.cells a.flatten.toArray 26)
 refine (QM o x d j a W.heap.size k _ _ (h1.below o f) (.inr ⟨yf _,by simp⟩) (by have:=(h1.own _ h1.oon).2;omega) r (fun i hi=>⟨m _ (yJ hi),L3 m (World.alloc_heap_new _ _) i hi,?_⟩)).mono ?_
 ·obtain ⟨pre,post,rfl,rfl⟩:=w
  refine ⟨by simp;omega,?_⟩
  rw[xx (by omega),xy (by simp;omega)]
  simp
 ·rintro e z (⟨rfl,p,h3,u,s⟩|⟨t,rfl,y⟩)
  ·refine .inl ⟨rfl,p,h3,q _ _ _ _ h2 (fun b hb=>u b (.inl hb)) (fun b hb g=>(s b (.inl hb) g).trans (f.block b (h1.own b hb).2))⟩
  ·exact .inr ⟨t,rfl,y⟩
theorem Mr{Bon:Nat}{P a:NP->World->Prop}(h:I5 Bon P)(h2:I5 Bon a):I5 Bon (fun O W=>P O W∧a O W):=fun _ _ _ _ k hs hb=>⟨h _ _ _ _ k.1 hs hb,h2 _ _ _ _ k.2 hs hb⟩
theorem H2.box2(c:LK n l xs J Jx Jp W0)(d:I5 Bon P)(h:H2 J Jx W0 l Bon By k P W)(row:LV)(t:TypeId):H2 J Jx W0 l Bon By k (fun O V=>P O V∧L4 Bon W.heap.size row t O V) (W.alloc (.cells row.toArray t)):=by
 obtain ⟨O,h1,h2⟩:=h
 have hb:=(yg W.heap.size W).alloc (yf _) (.cells row.toArray t)
 refine ⟨_,h1.below c hb,d _ _ _ _ h2 (fun b hb=>.inl hb) (fun b a _=>hb.block b (h1.own b a).2),.inr ⟨yf _,by simp⟩,by have:=(h1.own _ h1.oon).2;omega,World.alloc_heap_new _ _⟩
theorem RN(t:LK (n - 1) l xs J Jx Jp W0)(w:1<=n)(o:I5 Bon P)(d:Dm)(f:Bool)(a:List LV){g:Nat}(h:H2 J Jx W0 l Bon By k (fun O V=>P O V∧L4 Bon g a.flatten 26 O V) W)(j:∀c∈a,IE c)(p:a.length<=100)(u:∃pre post,xs=pre++(a.map (Dz d f)++post)∧pre.length=k):
  Calls Tryz.prog 75 #[d.v,.bool f,.slice (some ⟨g,0,none⟩) a.length a.length,.pointer (some ⟨Bon,0,none⟩),.pointer (some ⟨By,0,none⟩)] W (Gw J Jx Jp W0 l Bon By (k+a.length) P):=by
 obtain ⟨O,h1,h2,b⟩:=h
 refine (QM t w d f a g k _ _ h1 b.1 b.2.1 p (fun i hi=>⟨j _ (yJ hi),L3 j b.2.2 i hi,?_⟩)).mono ?_
 ·obtain ⟨pre,post,rfl,rfl⟩:=u
  refine ⟨by simp;omega,?_⟩
  rw[xx (by omega),xy (by simp;omega)]
  simp
 ·rintro e y (⟨rfl,m,h3,s,q⟩|⟨r,rfl,x⟩)
  ·exact .inl ⟨rfl,m,h3,o _ _ _ _ h2 s q⟩
  ·exact .inr ⟨r,rfl,x⟩
end
theorem Ot{W:World}{b:Nat}{t:TypeId}{row:LV}{a:ByteArray}{c:Rf}{c0 c1 c2 c3 c4 c5 c6 c7:LV}(h:W.heap[b]?=some (.cells row.toArray t (0,0)))(e:row=.string a::(AU c++(c0++(c1++(c2++(c3++(c4++(c5++(c6++c7)))))))))(d:c0.length=6)(f:c1.length=6)(g:c2.length=6)(i:c3.length=6)(j:c4.length=6)(k:c5.length=6)(l:c6.length=6):
  W.rangeAt b 3 c0∧W.rangeAt b 9 c1∧W.rangeAt b 15 c2∧W.rangeAt b 21 c3∧W.rangeAt b 27 c4∧W.rangeAt b 33 c5∧W.rangeAt b 39 c6∧W.rangeAt b 45 c7:=
 ⟨Ch (pre:=.string a::AU c) (post:=(c1++(c2++(c3++(c4++(c5++(c6++c7))))))) h (by rw[e];simp) (by simp[AU]),Ch (pre:=.string a::(AU c++c0)) (post:=(c2++(c3++(c4++(c5++(c6++c7)))))) h (by rw[e];simp) (by simp[AU,d]),Ch (pre:=.string a::(AU c++(c0++c1))) (post:=(c3++(c4++(c5++(c6++c7))))) h (by rw[e];simp) (by simp[AU,d,f]),Ch (pre:=.string a::(AU c++(c0++(c1++c2)))) (post:=(c4++(c5++(c6++c7)))) h (by rw[e];simp) (by simp[AU,d,f,g]),Ch (pre:=.string a::(AU c++(c0++(c1++(c2++c3))))) (post:=(c5++(c6++c7))) h (by rw[e];simp) (by simp[AU,d,f,g,i]),Ch (pre:=.string a::(AU c++(c0++(c1++(c2++(c3++c4)))))) (post:=(c6++c7)) h (by rw[e];simp) (by simp[AU,d,f,g,i,j]),Ch (pre:=.string a::(AU c++(c0++(c1++(c2++(c3++(c4++c5))))))) (post:=c7) h (by rw[e];simp) (by simp[AU,d,f,g,i,j,k]),Ch (pre:=.string a::(AU c++(c0++(c1++(c2++(c3++(c4++(c5++c6)))))))) (post:=[]) h (by rw[e];simp) (by simp[AU,d,f,g,i,j,k,l])⟩
structure R8 where
 s:Bool
 c0:List Value
 c1:List Value
 c2:List Value
 c3:List Value
 c4:List Value
 c5:List Value
 c6:List Value
 c7:List Value
def CU(r:R8):List (Array Value):=[Dz CN true r.c0]++([Dz ID true r.c1]++([Dz AW true r.c2,Dz AW true r.c4,Dz AW true r.c5]++([Dz AW r.s r.c3]++[Dz O4 true r.c6,Dz O4 true r.c7])))
def IF(c0 c1 c2:LV):List (Array Value):=[Dz CN true c0]++[Dz AW true c1,Dz AW true c2]
def Dq(c0 c1 c2:LV)(ccs:List LV)(rcs:List R8)(fcs:List (Bool × LV)):List (Array Value):=
 IF c0 c1 c2++(ccs.map (Dz Gv true)++(rcs.flatMap CU++fcs.map fun p=>Dz Gu p.1 p.2))
theorem Gq:∀l:List R8,(l.flatMap CU).length=8*l.length
 |[]=>rfl
 |r::l=>by rw[zc,yn,Gq l];simp[CU];omega
section
variable{c0 c1 c2:LV}{ccs:List LV}{rcs:List R8}{fcs:List (Bool × LV)}
theorem Tl:∃pre post,Dq c0 c1 c2 ccs rcs fcs=pre++([c0].map (Dz CN true)++post)∧pre.length=0:=⟨[],[Dz AW true c1,Dz AW true c2]++(ccs.map (Dz Gv true)++(rcs.flatMap CU++fcs.map fun p=>Dz Gu p.1 p.2)),rfl,rfl⟩
theorem Tm:∃pre post,Dq c0 c1 c2 ccs rcs fcs=pre++([c1,c2].map (Dz AW true)++post)∧pre.length=1:=⟨[Dz CN true c0],ccs.map (Dz Gv true)++(rcs.flatMap CU++fcs.map fun p=>Dz Gu p.1 p.2),rfl,rfl⟩
theorem PL{i:Nat}(hi:i < ccs.length):∃pre post,Dq c0 c1 c2 ccs rcs fcs=pre++([ccs[i]].map (Dz Gv true)++post)∧pre.length=3+i:=by
 refine ⟨IF c0 c1 c2++(ccs.take i).map (Dz Gv true),(ccs.drop (i+1)).map (Dz Gv true)++(rcs.flatMap CU++fcs.map fun p=>Dz Gu p.1 p.2),?_,by simp[IF];omega⟩
 unfold Dq
 conv=>lhs;rw[<-zO i ccs,zW hi]
 simp only[zD,zu,zP,yI,yK,yP]
theorem Ou{i:Nat}(hi:i < rcs.length):∃pre post,Dq c0 c1 c2 ccs rcs fcs=pre++(CU rcs[i]++post)∧pre.length=3+ccs.length+8*i:=by
 refine ⟨IF c0 c1 c2++(ccs.map (Dz Gv true)++(rcs.take i).flatMap CU),(rcs.drop (i+1)).flatMap CU++fcs.map fun p=>Dz Gu p.1 p.2,?_,by
  rw[yn,yn,Gq];simp[IF];omega⟩
 unfold Dq
 conv=>lhs;rw[<-zO i rcs,zW hi]
 rw[zH,zc]
 simp only[yI]
theorem PM{i:Nat}(hi:i < fcs.length):∃pre post,Dq c0 c1 c2 ccs rcs fcs=pre++([fcs[i].2].map (Dz Gu fcs[i].1)++post)∧pre.length=3+ccs.length+8*rcs.length+i:=by
 refine ⟨IF c0 c1 c2++(ccs.map (Dz Gv true)++(rcs.flatMap CU++(fcs.take i).map fun p=>Dz Gu p.1 p.2)),(fcs.drop (i+1)).map fun p=>Dz Gu p.1 p.2,?_,by
  rw[yn,yn,yn,Gq];simp[IF];omega⟩
 unfold Dq
 conv=>lhs;rw[<-zO i fcs,zW hi]
 simp only[zD,zu,zP,yI,yK,yP]
theorem PN{X:List (Array Value)}{r:R8}{k:Nat}(h:∃pre post,X=pre++(CU r++post)∧pre.length=k):
  (∃pre post,X=pre++([r.c0].map (Dz CN true)++post)∧pre.length=k)∧(∃pre post,X=pre++([r.c1].map (Dz ID true)++post)∧pre.length=k+1)∧(∃pre post,X=pre++([r.c2,r.c4,r.c5].map (Dz AW true)++post)∧pre.length=k+2)∧(∃pre post,X=pre++([r.c3].map (Dz AW r.s)++post)∧pre.length=k+5)∧(∃pre post,X=pre++([r.c6,r.c7].map (Dz O4 true)++post)∧pre.length=k+6):=by
 obtain ⟨pre,post,rfl,a⟩:=h
 refine ⟨⟨pre,_,by rw[CU,yI];rfl,a⟩,⟨pre++[Dz CN true r.c0],_,by unfold CU;simp only[yI];rfl,by simp[a]⟩,⟨pre++([Dz CN true r.c0]++[Dz ID true r.c1]),_,by unfold CU;simp only[yI];rfl,by simp[a]⟩,
  ⟨pre++([Dz CN true r.c0]++([Dz ID true r.c1]++[Dz AW true r.c2,Dz AW true r.c4,Dz AW true r.c5])),_,by unfold CU;simp only[yI];rfl,by simp[a]⟩,
  ⟨pre++([Dz CN true r.c0]++([Dz ID true r.c1]++([Dz AW true r.c2,Dz AW true r.c4,Dz AW true r.c5]++[Dz AW r.s r.c3]))),_,by unfold CU;simp only[yI];rfl,by simp[a]⟩⟩
end
set_option linter.unusedSimpArgs false
theorem Lh{k:Nat}:∀ {l:List Ex} {i:Nat} (h:i < l.length),EM k (l.take (i+1))=max (EM k (l.take i)) (1+Fg k l[i])
 |e::r,0,_=>by simp[EM]
 |e::r,i+1,h=>by
  have:=Lh (k:=k) (l:=r) (i:=i) (by simpa using h)
  rw[List.take_succ_cons,List.take_succ_cons,EM,EM,this,List.getElem_cons_succ]
  omega
theorem OL(k:Nat)(e:Ex):Fg k e<=k:=by rw[Mq];omega
theorem S7(k:Nat)(l:List Ex):EM k l<=k+1:=by rw[J9];omega
theorem OM:∀(left:Nat),left<=9->∀(e:Ex) {w:World} {cs:LV},AH (fun b=>b < w.heap.size) w e cs->
  Calls Tryz.prog 16 #[.agg cs.toArray,.int .i64 left] w fun x w'=>x=.returned (.int .i64 (Fg left e))∧Below w.heap.size w w':=by
 intro left
 induction left with
 |zero=>
  intro _ e w cs s
  obtain ⟨op,nn,u,rn,ri,p,m,c,rfl⟩:=s.is6
  clear s
  rw[show Fg 0 e=0 from by unfold Fg;rfl]
  go_enter Tryz.func16,Tryz.ntmps16
  go_wp2
  go_ret
  exact ⟨rfl,(yg _ _).alloc (yf _) _⟩
 |succ left ih=>
  intro H e w cs s
  obtain ⟨op,nn,u,rn,ri,args⟩:=e
  have HV:=yb s
  rw[AH] at s
  obtain ⟨a,cap,rfl,R,hr,l⟩:=s
  have v:=yb l
  have Y:=yb (ih (by omega))
  have P:Fg (left+1) (.mk op nn u rn ri args)=EM left args:=by rw[Fg]
  rw[P]
  generalize T:args.length=m at R ⊢
  have U:=yb T
  obtain ⟨z,B⟩:∃z:Int,((left+1:Nat):Int)=z:=⟨_,rfl⟩
  have a0:(z==0)=false:=by simp;omega
  have X:wrap64 (z - 1)=(left:Int):=by
   rw[show z - 1=(left:Int) by omega]
   exact AL (by omega)
  rw[B]
  clear l ih P T HV B
  go_enter Tryz.func16,Tryz.ntmps16
  go_wp2
  go_loopw [4,12] (fun Z N wr=>∃i:Nat,Z=iV (EM left (args.take i))∧N=iV i∧i<=m∧Hid (Below w.heap.size w wr)) (fun _ N _=>m - (intOf N).toNat)
  case atStart=>exact ⟨0,by simp[EM],rfl,yH _,yb ((yg _ _).alloc (yf _) _)⟩
  case round=>
   obtain ⟨i,rfl,rfl,hi,F⟩:=hrel
   by_cases g:i < m
   ·have n:i < args.length:=by rw[U.o];exact g
    obtain ⟨b,o,cs,rfl,I,A,r⟩:=Dr v.o i n
    have d:=A0 A (F.o.block b I)
    rw[yw] at d
    have M:=yb d
    have f:=yb r
    have j:=Lh (k:=left) n
    have Q:=yb (fun (W:World) (S:Below w.heap.size w W)=>Y.o args[i] (r.same (w':=W) (N':=fun b=>b < W.heap.size) (fun b h=>yu h S.size) (fun b h=>S.block b h)))
    have O:=OL left args[i]
    have G:=S7 left (args.take i)
    generalize args[i]=x at*
    have J:(i:Int) < (m:Int):=by omega
    generalize Fg left x=t at j Q O ⊢
    generalize EM left (args.take i)=V at j G ⊢
    have HD:Hid (max (V:Int) (1+(t:Int))=(EM left (args.take (i+1)):Int)):=yb (by
     rw[j]
     rcases Nat.le_total V (1+t) with h|h
     ·rw[Nat.max_eq_right h,Int.max_eq_right (by omega)];push_cast;rfl
     ·rw[Nat.max_eq_left h,Int.max_eq_left (by omega)])
    have h1:wrap64 (1+(t:Int))=1+(t:Int):=by
     rw[show (1+(t:Int))=((1+t:Nat):Int) by omega];exact AL (by omega)
    have K:=yb (QR g R)
    have C:Hid (i < m):=yb g
    clear r A d j
    go_upto_region 6 with (first
     |(with_reducible refine yj rfl 26 _ rfl b (o+i*6) (by kernel_rfl) cs _ M.o qG (by kernel_rfl) (EE f.o.len) ?_)
     |(with_reducible refine Ao rfl 26 _ _ rfl wr.heap.size (by kernel_rfl) cs (by kernel_rfl) (World.alloc_heap_new _ _) (by rw[yM,f.o.len];kernel_rfl) (EE f.o.len) (BC f.o) ?_;intro x1 E;have D:=yb E;clear E))
    have q:Hid (Below w.heap.size w x1):=yb (F.o.trans ((D.o.below ((yg _ _).alloc (yf _) _) (yf _)).mono F.o.size))
    go_wp2_with (first
     |(with_reducible refine yj rfl 26 _ rfl wr.heap.size 0 (by kernel_rfl) cs _ (AA D.o.row) qG (by kernel_rfl) (EE f.o.len) ?_)
     |(go_at_call 16;with_reducible refine (Q.o _ q.o).mono ?_;rintro e w2 ⟨rfl,y⟩;have L:=yb (q.o.trans (y.mono q.o.size));clear y;clear hi g J n))
    rw[K.o]
    refine ⟨⟨i+1,?_,rfl,C.o,L⟩,QS C.o⟩
    rw[<-HD.o]
   ·obtain rfl:i=m:=by omega
    go_wp2
    go_ret
    refine ⟨Io (by rw[<-U.o,yQ]),F.o⟩
end Go.Proofs.YtjofgpfocadomaaGreatDoor
