/- Parts of the proof, in short words: Gn Gp Gq Gr Gs Kk Ka Kb Kc Kr Ks Kf -/
import Derived.Test.YtbdfinegbjdblaaGreatDoorWq0
import Derived.Test.YtbdfinegbjdblaaGreatDoorWq15
import Derived.Test.YtbdfinegbjdblaaGreatDoorWq14
import Derived.Test.YtbdfinegbjdblaaGreatDoorWq9
import Derived.Deep.RegionHeld2
import Derived.Test.YtbdfinegbjdblaaGreatDoorWq3
import Derived.Deep.CutRange
set_option maxRecDepth 100000
set_option maxHeartbeats 8000000
set_option linter.unusedSimpArgs false
namespace Go.Proofs.YtbdfinegbjdblaaGreatDoor
open Go.RowKit Go.Proofs.Tryz
theorem DD:Ih VZ=true:=by decide
theorem Wy{op:Int}{a b:Dm}(c:Ih a=true):Ih (To op a b).1=true:=by
 unfold To
 split
 ·exact c
 generalize Uj (if op=5 then 1 else -1) a b=d
 simp only
 by_cases h:Ih d=true
 ·rw[yz h];exact h
 rw[ym h];exact DD
theorem XT{op:Int}{a b:Qn × Bool}(c:Ih a.1.dim=true):Ih (Yz op a b).1.dim=true:=by
 unfold Yz
 split
 ·simp only
  split
  ·split
   ·exact Wy c
   split<;>exact Wy c
  exact DD
 exact DD
theorem Wz(u:Int):Ih (II u)=true:=by
 unfold II
 split;decide;split;decide;split<;>decide
theorem QR(n u:Int):Ih (Ny n u).dim=true:=by
 unfold Ny
 split<;>exact Wz u
theorem OE{a:List Kn}(b:∀k∈a,Ih k.q.dim=true)(rn:ByteArray)(ri:Int):Ih (Jz a rn ri).1.dim=true:=by
 unfold Jz
 split
 ·rename_i k h
  split
  ·exact b k (zV h)
  exact DD
 exact DD
theorem TD{a:List Kn}(b:∀k∈a,Ih k.q.dim=true):∀(left:Nat) (e:Ex),Ih (Gc a left e).1.dim=true:=by
 intro left
 induction left with
 |zero=>
  rintro ⟨op,n,u,rn,ri,args⟩
  by_cases h1:op=1
  ·subst h1;rw[P6];split
   ·exact QR _ _
   exact DD
  by_cases h2:op=2
  ·subst h2;rw[P9];split
   ·exact OE b _ _
   exact DD
  rw[LU a 0 h1 h2 _ _ _ _ _ (.inl rfl)];exact DD
 |succ l ih=>
  rintro ⟨op,n,u,rn,ri,args⟩
  by_cases h1:op=1
  ·subst h1;rw[P6];split
   ·exact QR _ _
   exact DD
  by_cases h2:op=2
  ·subst h2;rw[P9];split
   ·exact OE b _ _
   exact DD
  by_cases h3:args.length=2
  ·obtain ⟨x,y,rfl⟩:∃x y,args=[x,y]:=by
    match args,h3 with
    |[x,y],_=>exact ⟨x,y,rfl⟩
   rw[Pa a l h1 h2]
   split
   ·exact XT (ih x)
   exact DD
  rw[LU a _ h1 h2 _ _ _ _ _ (.inr h3)];exact DD
theorem WA(c:List Kn)(w:∀k∈c,Ih k.q.dim=true)(h:AA):∀(left:Nat),left<=8->∀(e:Ex) (cs:LV) (W:World),GU W->RG W h c->Bm (λb=>b < W.heap.size) W e cs->
  Calls prog 41 #[h.v,.agg cs.toArray,.int .i64 left] W (QQ (Gc c left e) W):=by
 have o:∀(left:Nat) (e:Ex) (cs:LV) (W:World),GU W->RG W h c->Bm (λb=>b < W.heap.size) W e cs->(∀op n u rn ri args a cap,e=.mk op n u rn ri args->cs=[iV op,iV n,iV u,.string rn,iV ri,.slice a args.length cap]->Ez (λb=>b < W.heap.size) W a 0 args->Wx op left n u rn ri args.length->Calls prog 41 #[h.v,.agg cs.toArray,iV left] W (QQ (Gc c left e) W))->
   Calls prog 41 #[h.v,.agg cs.toArray,iV left] W (QQ (Gc c left e) W):=by
  rintro left ⟨op,n,u,rn,ri,args⟩ cs W hg j p f
  obtain ⟨a,cap,rfl,r,t,d⟩:=p.cells
  simp only[Ex.op,Ex.n,Ex.u,Ex.rn,Ex.ri,Ex.args] at r t d f |-
  by_cases h1:op=1
  ·subst h1
   rw[P6]
   have:=Z1 h.v left n u rn ri a args.length cap W hg
   by_cases hb:Kl n u rn ri args.length
   ·rw[yz hb] at this
    rw[ym hb];exact this
   rw[ym hb] at this
   rw[yz (Decidable.not_not.1 hb)];exact this
  by_cases h2:op=2
  ·subst h2
   rw[P9]
   exact Z2 c h left n u rn ri a args.length cap W j
  by_cases g:Wx op left n u rn ri args.length
  ·exact f op n u rn ri args a cap rfl rfl d g
  have A:Gc c left (.mk op n u rn ri args)=(Ge,false):=by
   by_cases h3:args.length=2
   ·cases left with
    |zero=>exact LU c 0 h1 h2 _ _ _ _ _ (.inl rfl)
    |succ l=>
     obtain ⟨x,y,rfl⟩:∃x y,args=[x,y]:=by
      match args,h3 with
      |[x,y],_=>exact ⟨x,y,rfl⟩
     rw[Pa c l h1 h2,ym]
     intro i
     unfold XF at i
     simp only[yw,yM] at i
     exact g ⟨i.1,i.2.1,by omega,rfl,i.2.2.1,i.2.2.2.1,i.2.2.2.2⟩
   exact LU c left h1 h2 _ _ _ _ _ (.inr h3)
  rw[A]
  exact Z3 h.v left op n u rn ri a args.length cap W h1 h2 g
 intro left
 induction left with
 |zero=>
  intro _ e cs W hg j p
  refine o 0 e cs W hg j p ?_
  intro op n u rn ri args a cap _ _ _ hb
  exact absurd rfl hb.2.2.1
 |succ l ih=>
  intro B e cs W hg j p
  refine o (l+1) e cs W hg j p ?_
  rintro op n u rn ri args a cap rfl rfl d ⟨g1,z, -,g4,rfl,rfl,m⟩
  obtain ⟨x,y,rfl⟩:∃x y,args=[x,y]:=by
   match args,g4 with
   |[x,y],_=>exact ⟨x,y,rfl⟩
  have s:ri=0:=by unfold Dw at m;simp only[yM] at m;exact m.2
  subst s
  rw[Pa c l (by omega) (by omega),yz (by unfold XF;simp[g1,z,m])]
  exact XS c h l (by omega) (λe cs W h1 h2 h3=>ih (by omega) e cs W h1 h2 h3) (TD w l) op rn a cap x y W hg j g1 z m d
theorem Lk:∀(ds:List (ByteArray × Ex)) (l:List Kn) (d:ByteArray × Ex),AK l (ds++[d])=AK l ds++[⟨d.1,(Gc (AK l ds) 8 d.2).1,(Gc (AK l ds) 8 d.2).2⟩]
 |[],l,d=>by rw[yS,AK,AK,AK]
 |c::r,l,d=>by rw[yQ,AK,Lk r,AK]
theorem JR:∀(ds:List (ByteArray × Ex)) (l:List Kn),(∀k∈l,Ih k.q.dim=true)->∀k∈AK l ds,Ih k.q.dim=true
 |[],l,h=>by rw[AK];exact h
 |d::r,l,h=>by
  rw[AK]
  refine JR r _ λk a=>?_
  rcases yO.1 a with a|a
  ·exact h k a
  obtain rfl:=zu.1 a
  exact TD h 8 d.2
def PI(x:AM)(i:Nat):List Kn:=AK [] ((AV x).take i)
theorem TE(x:AM){i:Nat}(h:i<=x.lets.length):(PI x i).length=i:=by
 unfold PI AV
 rw[Jc]
 simp;omega
theorem WB(x:AM){i:Nat}(h:i < x.lets.length):PI x (i+1)=PI x i++[⟨x.lets[i].name,(Gc (PI x i) 8 x.lets[i].value).1,(Gc (PI x i) 8 x.lets[i].value).2⟩]:=by
 unfold PI
 have h2:i < (AV x).length:=by unfold AV;simpa using h
 rw[yP h2,Lk]
 simp only[AV,xg]
theorem aS{W:World}{b o:Nat}{x0 d a c e f g:Value}(h:W.rangeAt b o [x0,d,a,c,e,f,g]):W.cell? ⟨b,o,none⟩=some x0/\W.cell? ⟨b,o+1,none⟩=some d/\W.cell? ⟨b,o+2,none⟩=some a/\W.cell? ⟨b,o+3,none⟩=some c/\W.cell? ⟨b,o+4,none⟩=some e/\W.cell? ⟨b,o+5,none⟩=some f/\W.cell? ⟨b,o+6,none⟩=some g:=
 ⟨h 0 _ rfl,h 1 _ rfl,h 2 _ rfl,h 3 _ rfl,h 4 _ rfl,h 5 _ rfl,h 6 _ rfl⟩
theorem NH{w:World}{x:AM}{L:BQ}{cs:LV}{N:NP}(h:CQ N w L cs x)(hN:∀b,N b->b < w.heap.size)(hg:GU w)(hl:x.lets.length<=100000):
  Calls prog 38 #[.agg cs.toArray] w λe w'=>∃k:AA,e=.returned k.v/\RG w' k (AK [] (AV x))/\Below w.heap.size w w':=by
 have am:=yb h
 have HN:=yb hN
 have HG:=yb hg
 have p:=yb hl
 obtain ⟨lh,H⟩:∃lh,lh=L.lets:=⟨_,rfl⟩
 have a7:Hid (Bg N w 7 (Np N w) lh x.lets):=yb (by rw[H];exact h.lets)
 have Y:=yb ((yg w.heap.size w).alloc (yi _) (.cells cs.toArray 49))
 have t:=World.alloc_heap_new w (.cells cs.toArray 49)
 have E:(w.alloc (.cells cs.toArray 49)).cell? (aV w.heap.size 19)=some lh.v:=by
  rw[H]
  obtain ⟨c0,c1,c2,rfl,g0,g1,g2⟩:=h.cells
  obtain ⟨a0,p0,rfl,e0⟩:=g0.cells
  obtain ⟨a1,p1,rfl,e1⟩:=g1.cells
  obtain ⟨a2,p2,rfl,e2⟩:=g2.cells
  simp only[World.cell?,t];rfl
 obtain ⟨c0,c1,c2,rfl,g0,g1,g2⟩:=h.cells
 obtain ⟨a0,p0,rfl,e0⟩:=g0.cells
 obtain ⟨a1,p1,rfl,e1⟩:=g1.cells
 obtain ⟨a2,p2,rfl,e2⟩:=g2.cells
 clear h hN hg hl g0 g1 g2 e0 e1 e2 t H am
 obtain ⟨la,Z,lc⟩:=lh
 unfold AA.v at*
 dsimp only at*
 simp only[yQ,yS] at Y E |-
 go_enter func38,ntmps38
 refine Ai λK hK=>?_
 go_wp2
 refine hK.o _ _ ?_
 clear hK
 generalize w.alloc _=W at Y E |-
 go_wp2
 have a:Hid (Z=x.lets.length):=yb a7.o.1
 clear E
 go_loopw [2,10] (λv iv wr=>∃i:Nat,i<=Z/\iv=iV i/\Hid (MO w.heap.size wr v (PI x i))/\Hid (Below w.heap.size w wr)) (λ_ iv _=>Z - (intOf iv).toNat)
 case atStart=>exact ⟨0,yC _,rfl,yb (by unfold PI;exact UE _ _),Y⟩
 obtain ⟨i,hi,rfl,J,y⟩:=hrel
 by_cases av:i < Z
 ·have F:i < x.lets.length:=by have:=a.o;omega
  obtain ⟨b,o,cs,ab,aj,aq,af,ai⟩:=a7.o.2.2 i F
  dsimp only at ab
  subst ab
  obtain ⟨I,c,rfl,V⟩:=ai
  obtain ⟨va,vp,rfl, -, -, -⟩:=V.cells
  have ah:(i:Int) < (Z:Int):=by omega
  obtain ⟨kh,g,d⟩:=OF J.o (by rw[TE x (by omega)];have:=p.o;omega)
  obtain ⟨ka,kn,kc⟩:=kh
  unfold AA.v at g
  dsimp only at g
  subst g
  have au:=yb d
  have U:=WB x F
  have j:=yb U
  have q:Hid (∀W,Below wr.heap.size wr W->Calls prog 41 #[.slice ka kn kc,.agg #[iV x.lets[i].value.op,iV x.lets[i].value.n,iV x.lets[i].value.u,.string x.lets[i].value.rn,iV x.lets[i].value.ri,.slice va x.lets[i].value.args.length vp],iV 8] W (QQ (Gc (PI x i) 8 x.lets[i].value) W)):=yb (λW hW=>by
   have X:Below w.heap.size w W:=y.o.trans (hW.mono y.o.size)
   exact WA (PI x i) (JR _ [] (λk hk=>by cases hk)) ⟨ka,kn,kc⟩ 8 (yi _) _ _ W (HG.o.up X) (d.up hW) (V.same (λb hb=>yx (HN.o b hb) X.size) (λb hb=>X.block b (HN.o b hb))))
  have ac:Hid (wr.rangeAt b (o+i*7) [.string x.lets[i].name,iV x.lets[i].value.op,iV x.lets[i].value.n,iV x.lets[i].value.u,.string x.lets[i].value.rn,iV x.lets[i].value.ri,.slice va x.lets[i].value.args.length vp]):=yb (A8 af (y.o.block b (HN.o b aj)))
  obtain ⟨r0,r1,r2,r3,r4,r5,r6⟩:=aS ac.o
  clear V af d I aq j
  generalize x.lets[i]=ld at*
  have j:=yb U
  clear U F
  generalize Gc (PI x i) 8 ld.value=qx at*
  obtain ⟨S,⟨Q,M,vu,O,P,R⟩⟩:=ld
  simp only[Ex.op,Ex.n,Ex.u,Ex.rn,Ex.ri,Ex.args] at q ac r0 r1 r2 r3 r4 r5 r6 j
  generalize R.length=vl at*
  obtain ⟨⟨⟨C,r,A⟩,⟨D,B⟩,e⟩,ok⟩:=qx
  unfold QQ Qn.val at q
  dsimp only at q j
  have m:=yb ((yg wr.heap.size wr).alloc (yi _) (.cells #[.string S,iV Q,iV M,iV vu,.string O,iV P,.slice va vl vp] 118))
  have ao:=yb (World.alloc_heap_new wr (.cells #[.string S,iV Q,iV M,iV vu,.string O,iV P,.slice va vl vp] 118))
  go_upto_region 5 with (first|(go_at_call 41;with_reducible refine (q.o _ m.o).mono ?_;rintro e w2 ⟨rfl,ad⟩;have T:=yb ad;clear ad))
  have f:Hid (Below wr.heap.size wr (w2.alloc (.cells #[iV C,iV r,iV A,iV D,iV B,iV e] 104))):=yb ((m.o.trans (T.o.mono m.o.size)).alloc (by have:=T.o.size;have:=m.o.size;omega) _)
  have I:(w2.alloc (.cells #[iV C,iV r,iV A,iV D,iV B,iV e] 104)).cell? (aV wr.heap.size 0)=some (.string S):=by
   have h1:w2.heap[wr.heap.size]?=some (.cells #[.string S,iV Q,iV M,iV vu,.string O,iV P,.slice va vl vp] 118 (0,0)):=(T.o.block _ (by simp)).trans ao.o
   have h2:=(yp w2 (.cells #[iV C,iV r,iV A,iV D,iV B,iV e] 104) wr.heap.size (yd.1 h1).1).trans h1
   simp[World.cell?,h2]
  have l:=World.alloc_heap_new w2 (.cells #[iV C,iV r,iV A,iV D,iV B,iV e] 104)
  generalize hG:w2.heap.size=G at l |-
  clear hG
  generalize w2.alloc (.cells #[iV C,iV r,iV A,iV D,iV B,iV e] 104)=W3 at f I l |-
  obtain ⟨q0,q1,q2,q3,q4,q5⟩:=DX l
  clear l r0 r1 r2 r3 r4 r5 r6
  have aa:=yb (Lj J.o f.o)
  have s:Hid ((W3.alloc (.cells #[.string S,iV C,iV r,iV A,iV D,iV B,iV e,.bool ok] 106)).ownsRow w.heap.size 106 8 (.slice ka kn kc) (PI x i).length ((PI x i).flatMap MN)):=yb (Lj aa.o ((yg _ _).alloc (yi _) _))
  have ag:Hid ((PI x i).length+1<=1000000):=yb (by rw[TE x (by have:=a.o;omega)];have:=p.o;have:=a.o;omega)
  have a8:Hid (w.heap.size<=(W3.alloc (.cells #[.string S,iV C,iV r,iV A,iV D,iV B,iV e,.bool ok] 106)).heap.size):=yb (by have:=y.o.size;have:=f.o.size;simp;omega)
  go_wp2_with (first|(at_builtin;refine KR underlying99 rfl _ _ rfl 8 (by kernel_rfl) (by omega) w.heap.size (.slice ka kn kc) (PI x i).length ((PI x i).flatMap MN) rfl s.o W3.heap.size 1 [.string S,iV C,iV r,iV A,iV D,iV B,iV e,.bool ok] rfl (World.alloc_heap_new _ _) rfl (by simp[Value.oneCell']) ag.o a8.o ?_;intro vx x8 z ae al;have a6:=yb z;have an:=yb ae;clear z ae al))
  have ap:wrap64 ((i:Int)+1)=((i+1:Nat):Int):=by
   rw[Ay (by have:=p.o;have:=a.o;omega)];push_cast;rfl
  rw[ap]
  refine ⟨⟨i+1,by omega,rfl,yb ?_,yb ?_⟩,by simp[intOf];omega⟩
  ·rw[j.o]
   have h:=a6.o
   unfold MO
   rw[yn,zJ]
   exact h
  exact QS s.o (y.o.trans (f.o.mono y.o.size) |>.alloc (by have:=y.o.size;have:=f.o.size;omega) _) a8.o an.o
 obtain rfl:i=Z:=by omega
 have ah:decide ((i:Int) < (i:Int))=false:=by simp
 have ak:Hid (MO w.heap.size wr u2 (AK [] (AV x))):=yb (by
  have h:=J.o
  unfold PI at h
  rwa [qz (by rw[show (AV x).length=x.lets.length by simp[AV],a.o];exact yi _)] at h)
 go_wp2
 obtain ⟨kh,g,d⟩:=OF ak.o (by rw[Jc,yK,show (AV x).length=x.lets.length by simp[AV]];have:=p.o;omega)
 go_ret
 exact ⟨kh,yN Ending.returned g,d,y.o⟩
structure Vk (w:World) (ks xs:List Value) (T:TypeId) (rs:List Value) (W:World):Prop where
 below:Below w.heap.size w W
 s:W.rangeAt w.heap.size 0 ks
 x:W.rangeAt (w.heap.size+1) 0 xs
 r:W.heap[w.heap.size+1+1]?=some (.cells rs.toArray T (0,0))
theorem Vk.lt{w:World}{a xs:LV}{T:TypeId}{rs:LV}{W:World}(h:Vk w a xs T rs W):w.heap.size+2 < W.heap.size:=(yd.1 h.r).1
theorem Vk.up{w:World}{a xs:LV}{T:TypeId}{rs:LV}{W W':World}(h:Vk w a xs T rs W)(hb:Below W.heap.size W W'):Vk w a xs T rs W':=by
 have:=h.lt
 exact ⟨h.below.trans (hb.mono (by omega)),A8 h.s (hb.block _ (by omega)),A8 h.x (hb.block _ (by omega)),(hb.block _ (by omega)).trans h.r⟩
theorem Vk.new(w:World)(a xs:LV)(T:TypeId)(rs:LV):Vk w a xs T rs (((w.alloc (.cells a.toArray 49)).alloc (.cells xs.toArray 40)).alloc (.cells rs.toArray T)):=by
 refine ⟨Jb _ _ _ _,Ae (KL _ _ _ _),Ae (JN _ _ _ _),Ep _ _ _ _⟩
theorem Vk.drew{w:World}{a xs:LV}{T:TypeId}{rs:LV}{W:World}(h:Vk w a xs T rs W):Vk w a xs T rs W.drew:=⟨h.below.drew,h.s,h.x,h.r⟩
theorem Ll{N:NP}{w:World}{L:BQ}{cs:LV}{x:AM}(h:CQ N w L cs x):(prog.info? 49).map (·.size)=some cs.length:=by
 obtain ⟨c0,c1,c2,rfl,g0,g1,a⟩:=h.cells
 obtain ⟨a0,b,rfl,c⟩:=g0.cells
 obtain ⟨f,d,rfl,e⟩:=g1.cells
 obtain ⟨j,i,rfl,g⟩:=a.cells
 kernel_rfl
structure G6 (w:World) (cs:List Value) (x:AM):Prop where
 v:∃L,CQ (λb=>b < w.heap.size) w L cs x
 slim:Nt x
 gv:GV w
 gu:GU w
 depth:∀e∈Ba x,BB e.1<=1000000
theorem G6.up{w w':World}{cs:LV}{x:AM}(h:G6 w cs x)(hb:Below w.heap.size w w'):G6 w' cs x:=by
 obtain ⟨L,c⟩:=h.v
 exact ⟨⟨L,c.same (λb a=>yx a hb.size) (λb a=>hb.block b a)⟩,h.slim,h.gv.below hb h.gv.1,h.gu.up hb,h.depth⟩
theorem G6.check{w:World}{cs:LV}{x:AM}(h:G6 w cs x):Calls prog 37 #[.agg cs.toArray] w λe w'=>e=.returned (.int .i64 (BO x))/\Below w.heap.size w w':=by
 obtain ⟨L,a⟩:=h.v
 exact Ut a (λ_ h=>h) h.slim h.gv h.depth
theorem G6.consts{w:World}{cs:LV}{x:AM}(h:G6 w cs x):Calls prog 38 #[.agg cs.toArray] w λe w'=>∃k:AA,e=.returned k.v/\RG w' k (AK [] (AV x))/\Below w.heap.size w w':=by
 obtain ⟨L,a⟩:=h.v
 exact NH a (λ_ h=>h) h.gu h.slim.lets
theorem QU(x:AM){k:AA}{w:World}(hg:GU w)(a:RG w k (AK [] (AV x))){e:Ex}{cs:LV}(c:Bm (λb=>b < w.heap.size) w e cs):Calls prog 41 #[k.v,.agg cs.toArray,.int .i64 8] w (QQ (Gc (AK [] (AV x)) 8 e) w):=
 WA _ (JR _ [] (λk a=>by cases a)) k 8 (yi _) e cs w hg a c
theorem YE{N:NP}{w:World}{e:Ex}{cs:LV}(h:Bm N w e cs):cs.length=6:=by
 obtain ⟨a,p,rfl, -⟩:=h.cells;rfl
theorem FH{c:LV}(h:c.length=6):(prog.info? 40).map (·.size)=some c.length:=by rw[h];kernel_rfl
def WC(m:Qn × Int)(w:World)(e:Ending)(w':World):Prop:=∃q:Qn,e=.returned (.tuple #[q.val,.int .i64 m.2])/\(m.2=0->q=m.1)/\Below w.heap.size w w'
theorem QV{w:World}{x:AM}{cs:LV}{e:Ex}{xs:LV}(h:G6 w cs x)(Y:Bm (λb=>b < w.heap.size) w e xs):Calls prog 42 #[.agg cs.toArray,.agg xs.toArray] w (WC (Ki x e) w):=by
 have A:Hid ((prog.info? 49).map (·.size)=some cs.length):=yb (by obtain ⟨L,Y⟩:=h.v;exact Ll Y)
 have HS:=yb h
 have HV:=yb Y
 have z:=yb (Vk.new w cs xs 104 [iV 0,iV 0,iV 0,iV 0,iV 0,iV 0])
 obtain ⟨P,a⟩:∃r,r=Ki x e:=⟨_,rfl⟩
 rw[<-a]
 have y:=yb a
 obtain ⟨F,U⟩:∃F,F=cs:=⟨_,rfl⟩
 obtain ⟨ys,R⟩:∃ys,ys=xs:=⟨_,rfl⟩
 rw[<-U] at HS A
 rw[<-R] at HV
 have HK:=yb U
 have HY:=yb R
 obtain ⟨L,Z⟩:=h.v
 obtain ⟨c0,c1,c2,rfl,g0,g1,g2⟩:=Z.cells
 obtain ⟨a0,p0,rfl,e0⟩:=g0.cells
 obtain ⟨a1,p1,rfl,e1⟩:=g1.cells
 obtain ⟨a2,p2,rfl,e2⟩:=g2.cells
 obtain ⟨ax,px,rfl, -⟩:=Y.cells
 clear h Y Z g0 g1 g2 e0 e1 e2 U R a
 unfold AA.v at*
 simp only[yQ,yS] at z HK |-
 go_enter func42,ntmps42
 refine Ai λK d=>?_
 go_wp2
 refine d.o _ _ ?_
 clear d K
 generalize ((w.alloc _).alloc _).alloc _=W at z |-
 rw[<-HK.o,<-HY.o] at z |-
 clear HK HY
 have aa:Hid (ys.length=6):=yb (YE HV.o)
 have X:Hid (∀V,Below w.heap.size w V->Calls prog 37 #[.agg F.toArray] V λe w'=>e=.returned (iV (BO x))/\Below V.heap.size V w'):=yb (λV B=>(HS.o.up B).check)
 have T:Hid (∀V,Below w.heap.size w V->Calls prog 38 #[.agg F.toArray] V λe w'=>∃k:AA,e=.returned k.v/\RG w' k (AK [] (AV x))/\Below V.heap.size V w'):=yb (λV B=>(HS.o.up B).consts)
 have Q:Hid (∀V,Below W.heap.size W V->V.rangeAt w.heap.size 0 F):=yb (λV B=>(z.o.up B).s)
 have ab:Hid (∀V,Below W.heap.size W V->V.rangeAt (w.heap.size+1) 0 ys):=yb (λV B=>(z.o.up B).x)
 have a:=y.o
 unfold Ki at a
 generalize BO x=ck at*
 have f:Hid (Below w.heap.size w W):=yb z.o.below
 refine Ai λK d=>?_
 by_cases hc:ck=0
 rotate_left
 ·have hf:Hid (P=(Ge,ck)):=yb (by rw[a,ym hc])
  have e1:(ck !=0)=true:=by simpa using hc
  clear d hc a y T
  go_upto_region 2 with (first
   |(refine yj rfl 49 _ rfl w.heap.size 0 rfl F _ (Q.o _ (yg _ _)) jq rfl A.o ?_)
   |(go_at_call 37;with_reducible refine (X.o _ f.o).mono ?_;rintro e w2 ⟨rfl,q⟩;have O:=yb (z.o.up q);clear q))
  have g:w2.heap[w.heap.size+1+1]?=some (.cells jE 104 (0,0)):=O.o.r
  have p:=yb g
  obtain ⟨q0,q1,q2,q3,q4,q5⟩:=DX g
  have qf:=λk=>DO (n:=k) g
  clear g
  go_wp2
  have j:=D8 p.o (iV 0) (iV 0) (iV 0) (iV 0) (iV 0) (iV 0)
  exact Ab (c:=Ge.row) rfl rfl j.row qV rfl (by kernel_rfl) ⟨Ge,by rw[hf.o];rfl,λ_=>by rw[hf.o],j.below O.o.below (by omega)⟩
 rw[yz hc] at a
 have t:=yb a
 subst hc
 clear a y
 go_wp2_with (first
  |(refine yj rfl 49 _ rfl w.heap.size 0 rfl F _ (Q.o _ (yg _ _)) jq rfl A.o ?_)
  |(go_at_call 37;with_reducible refine (X.o _ f.o).mono ?_;rintro e w2 ⟨rfl,q⟩;have O:=yb (z.o.up q);have ac:=yb q;clear q))
 refine d.o _ _ ?_
 clear d K
 refine Ai λK d=>?_
 refine Dl (by kernel_rfl) (λV=>Below W.heap.size W V) 3 ?_
 have l:Hid (Below W.heap.size W w2.drew):=yb ac.o.drew
 refine BR (i:=2) (v:=.agg ys.toArray) rfl (by kernel_rfl) (by kernel_rfl) (by kernel_rfl) (λ_ _ _ h=>h) (by kernel_rfl) (yieldsIf_load_mid (by rfl) 40 _ rfl (w.heap.size+1) 0 (by kernel_rfl) ys _ (λV B=>ab.o V B) ji rfl (FH aa.o)) l.o ?_
 refine AO (i:=0) (by kernel_rfl) rfl (λK d=>?_)
 rw[yz (by kernel_rfl)]
 refine xQ 49 _ rfl w.heap.size 0 rfl F _ (Q.o _ l.o) jq rfl A.o ?_
 refine d.o _ _ (λ_=>l.o) ?_
 clear d K
 refine AO (i:=1) (by kernel_rfl) rfl (λK d=>?_)
 go_simp
 refine (T.o _ (f.o.trans (l.o.mono f.o.size))).mono ?_
 rintro e2 w3 ⟨kh,rfl,a6,a8⟩
 have m:Hid (Below W.heap.size W w3):=yb (l.o.trans (a8.mono l.o.size))
 have D:=yb (QU x ((HS.o.gu).up (f.o.trans (m.o.mono f.o.size))) a6 (HV.o.same (λb hb=>yx hb (f.o.trans (m.o.mono f.o.size)).size) (λb hb=>(f.o.trans (m.o.mono f.o.size)).block b hb)))
 refine d.o _ _ (λ_=>m.o) ?_
 clear d K a6 a8
 generalize Gc (AK [] (AV x)) 8 e=qq at*
 obtain ⟨⟨⟨I,E,G⟩,⟨J,H⟩,M⟩,ok⟩:=qq
 unfold QQ Qn.val at D
 dsimp only at D t
 refine AO (i:=3) (by kernel_rfl) rfl (λK d=>?_)
 go_simp
 refine D.o.mono ?_
 rintro e3 w4 ⟨rfl,a7⟩
 have S:=yb (z.o.up (m.o.trans (a7.mono m.o.size)))
 refine d.o _ _ (by intro h;cases h) ?_
 clear d K a7 D m l T X
 have g:w4.heap[w.heap.size+1+1]?=some (.cells jE 104 (0,0)):=S.o.r
 have p:=yb g
 obtain ⟨q0,q1,q2,q3,q4,q5⟩:=DX g
 have qf:=λk=>DO (n:=k) g
 clear g
 refine AO (i:=4) (by kernel_rfl) rfl (λK d=>?_)
 go_simp
 refine d.o _ _ (by intro h;cases h) ?_
 clear d K
 refine Az (i:=5) (v:=.agg #[iV I,iV E,iV G,iV J,iV H,iV M]) rfl (by kernel_rfl) (by kernel_rfl) (by kernel_rfl) (λ_ _ _ h=>h) (by kernel_rfl) (Or.inl ⟨by rfl,?_⟩) (by intro h;cases h) ?_
 ·intro w _;go_simp
 refine Az (i:=6) (v:=.bool ok) rfl (by kernel_rfl) (by kernel_rfl) (by kernel_rfl) (λ_ _ _ h=>h) (by kernel_rfl) (Or.inl ⟨by rfl,?_⟩) (by intro h;cases h) ?_
 ·intro w _;go_simp
 refine AO (i:=7) (by kernel_rfl) rfl (λK d=>?_)
 go_simp
 refine d.o _ _ (by intro h;cases h) ?_
 clear d K
 refine AO (i:=8) (by kernel_rfl) rfl (λK d=>?_)
 go_simp
 refine d.o _ _ (by intro h;cases h) ?_
 clear d K
 refine AP (by kernel_rfl) ?_
 have j:=D8 p.o (iV I) (iV E) (iV G) (iV J) (iV H) (iV M)
 have N:=yb (j.below S.o.below (Nat.le_succ_of_le (qn _)))
 have u:=j.row
 clear j p S q0 q1 q2 q3 q4 q5 qf
 refine d.o _ _ ?_
 clear d K
 generalize ((((((w4.setCell _ _).setCell _ _).setCell _ _).setCell _ _).setCell _ _).setCell _ _)=W5 at N u |-
 have p:=yb u
 obtain ⟨q0,q1,q2,q3,q4,q5⟩:=DX u
 have qf:=λk=>DO (n:=k) u
 clear u
 unfold AA.v
 have j:=D8 p.o (iV I) (iV E) (iV G) (iV J) (iV H) (iV M)
 have C:=yb j
 clear j
 cases ok with
 |true=>
  have hf:Hid (P=(⟨⟨I,E,G⟩,⟨J,H⟩,M⟩,0)):=t
  clear t
  go_wp2
  exact Ab (c:=(⟨⟨I,E,G⟩,⟨J,H⟩,M⟩:Qn).row) rfl rfl C.o.row qV rfl (by kernel_rfl) ⟨⟨⟨I,E,G⟩,⟨J,H⟩,M⟩,by rw[hf.o];rfl,λ_=>by rw[hf.o],C.o.below N.o (by omega)⟩
 |false=>
  have hf:Hid (P=(Ge,180)):=t
  clear t
  go_wp2
  exact Ab (c:=(⟨⟨I,E,G⟩,⟨J,H⟩,M⟩:Qn).row) rfl rfl C.o.row qV rfl (by kernel_rfl) ⟨⟨⟨I,E,G⟩,⟨J,H⟩,M⟩,by rw[hf.o];rfl,λh=>by rw[hf.o] at h;exact absurd h (by decide),C.o.below N.o (by omega)⟩
def ZN(m:Rt × Int)(w:World)(e:Ending)(w':World):Prop:=e=.returned (.tuple #[m.1.v,.int .i64 m.2])/\Below w.heap.size w w'
theorem UF{w:World}{x:AM}{cs:LV}{e:Ex}{xs:LV}(h:G6 w cs x)(y:Bm (λb=>b < w.heap.size) w e xs):Calls prog 16 #[.agg cs.toArray,.agg xs.toArray] w (ZN (FD x e) w):=by
 have D:Hid ((prog.info? 49).map (·.size)=some cs.length):=yb (by obtain ⟨L,y⟩:=h.v;exact Ll y)
 have X:=yb h
 have M:=yb y
 have m:=yb (Vk.new w cs xs 58 [iV 0,iV 0])
 obtain ⟨n,a⟩:∃r,r=FD x e:=⟨_,rfl⟩
 rw[<-a]
 have g:=yb a
 obtain ⟨E,u⟩:∃E,E=cs:=⟨_,rfl⟩
 obtain ⟨ys,p⟩:∃ys,ys=xs:=⟨_,rfl⟩
 rw[<-u] at X D
 rw[<-p] at M
 have N:=yb u
 have HY:=yb p
 obtain ⟨L,z⟩:=h.v
 obtain ⟨c0,c1,c2,rfl,g0,g1,R⟩:=z.cells
 obtain ⟨a0,p0,rfl,S⟩:=g0.cells
 obtain ⟨a1,p1,rfl,O⟩:=g1.cells
 obtain ⟨a2,p2,rfl,U⟩:=R.cells
 obtain ⟨ax,px,rfl, -⟩:=y.cells
 clear h y z g0 g1 R S O U u p a
 unfold AA.v at*
 simp only[yQ,yS] at m N |-
 go_enter func16,ntmps16
 refine Ai λK A=>?_
 go_wp2
 refine A.o _ _ ?_
 clear A K
 generalize ((w.alloc _).alloc _).alloc _=W at m |-
 rw[<-N.o,<-HY.o] at m |-
 clear N HY
 have J:Hid (ys.length=6):=yb (YE M.o)
 have t:Hid (Below w.heap.size w W):=yb m.o.below
 have j:Hid (Calls prog 42 #[.agg E.toArray,.agg ys.toArray] W (WC (Ki x e) W)):=yb (QV (X.o.up t.o) (M.o.same (λb hb=>yx hb t.o.size) (λb hb=>t.o.block b hb)))
 refine Ai λK A=>?_
 have a:=g.o
 unfold FD YY at a
 generalize Ki x e=mm at*
 obtain ⟨q,I⟩:=mm
 unfold WC at j
 dsimp only at j a
 go_wp2_with (first
  |(refine yj rfl 49 _ rfl w.heap.size 0 rfl E _ m.o.s jq rfl D.o ?_)
  |(refine yj rfl 40 _ rfl (w.heap.size+1) 0 rfl ys _ m.o.x ji rfl (FH J.o) ?_)
  |(go_at_call 42;with_reducible refine j.o.mono ?_;rintro U w2 ⟨⟨⟨Z,T,Y⟩,⟨H,F⟩,C⟩,rfl,V,B⟩;unfold Qn.val;dsimp only;have Q:=yb V;have P:=yb (m.o.up B);clear V B))
 have d:=yb (P.o.up ((yg w2.heap.size w2).alloc (yi _) (.cells #[iV Z,iV T,iV Y,iV H,iV F,iV C] 104)))
 have i:=World.alloc_heap_new w2 (.cells #[iV Z,iV T,iV Y,iV H,iV F,iV C] 104)
 refine A.o _ _ ?_
 clear A K j
 generalize w2.heap.size=G at i |-
 generalize w2.alloc _=W3 at d i |-
 obtain ⟨q0,q1,q2,q3,q4,q5⟩:=DX i
 clear i
 have l:W3.heap[w.heap.size+1+1]?=some (.cells jF 58 (0,0)):=d.o.r
 obtain ⟨r0,r1,f0,f1⟩:=FB l
 have k:=yb l
 clear l
 by_cases hc:I=0
 ·rw[yz hc] at a
  have hd:=Q.o hc
  rw[<-hd] at a
  dsimp only at a
  subst hc
  clear hd g Q
  by_cases f:C=0
  ·rw[yz f] at a
   have hf:Hid (n=(⟨H,F⟩,0)):=yb a
   subst f
   clear a
   go_wp2
   exact Ab (c:=[iV H,iV F]) rfl rfl (E9 (DS k.o)) ju rfl (by kernel_rfl) ⟨by rw[hf.o];rfl,Ah (Ah d.o.below (by omega) _) (by omega) _⟩
  rw[ym f] at a
  have hf:Hid (n=(Ja,C)):=yb a
  have O:(C !=0)=true:=by simpa using f
  clear a f
  go_wp2
  exact Ab (c:=[iV 0,iV 0]) rfl rfl (E9 (DS k.o)) ju rfl (by kernel_rfl) ⟨by rw[hf.o];rfl,Ah (Ah d.o.below (by omega) _) (by omega) _⟩
 rw[ym hc,ym hc] at a
 have hf:Hid (n=(Ja,I)):=yb a
 have S:(I==0)=false:=by simpa using hc
 have O:(I !=0)=true:=by simpa using hc
 clear a g Q hc
 go_wp2
 exact Ab (c:=[iV 0,iV 0]) rfl rfl (E9 (DS k.o)) ju rfl (by kernel_rfl) ⟨by rw[hf.o];rfl,Ah (Ah d.o.below (by omega) _) (by omega) _⟩
theorem QW(op b u:Int)(rn:ByteArray)(ri:Int)(a:Option Addr)(m cap:Nat)(w:World):
  Calls prog 40 #[.agg #[.int .i64 op,.int .i64 b,.int .i64 u,.string rn,.int .i64 ri,.slice a m cap]] w λe w'=>e=.returned (.bool (Eo op b u rn ri m))/\Below w.heap.size w w':=by
 by_cases h0:op=0
 ·by_cases h1:b=0
  ·by_cases h2:u=0
   ·subst h0 h1 h2
    go_enter func40,ntmps40
    go_wp2
    ·rename_i h1 h2
     go_ret
     refine ⟨Cc ?_,(yg _ _).alloc (yi _) _⟩
     simp only[Eo,xz (show rn.size=0/\ri=0 from ⟨(Ea rn).2 h1,h2⟩)]
     rw[zo];simp
    ·rename_i h1 h2
     go_ret
     refine ⟨Cc ?_,(yg _ _).alloc (yi _) _⟩
     simp only[Eo,xR (show ¬ (rn.size=0/\ri=0) from λh=>h2 h.2)]
     simp
    rename_i h1
    go_ret
    refine ⟨Cc ?_,(yg _ _).alloc (yi _) _⟩
    simp only[Eo,xR (show ¬ (rn.size=0/\ri=0) from λh=>h1 ((Ea rn).1 h.1))]
    simp
   have c:(u==0)=false:=by simpa using h2
   subst h0 h1
   go_enter func40,ntmps40
   go_wp2
   go_ret
   exact ⟨Cc (by simp[Eo,h2]),(yg _ _).alloc (yi _) _⟩
  have c:(b==0)=false:=by simpa using h1
  subst h0
  go_enter func40,ntmps40
  go_wp2
  go_ret
  exact ⟨Cc (by simp[Eo,h1]),(yg _ _).alloc (yi _) _⟩
 have c:(op==0)=false:=by simpa using h0
 go_enter func40,ntmps40
 go_wp2
 go_ret
 exact ⟨Cc (by simp[Eo,h0]),(yg _ _).alloc (yi _) _⟩
theorem I0{N:NP}{w:World}{e:Ex}{cs:LV}(h:Bm N w e cs)(W:World):Calls prog 40 #[.agg cs.toArray] W λb w'=>b=.returned (.bool (BS e))/\Below W.heap.size W w':=by
 obtain ⟨a,p,rfl, -⟩:=h.cells
 exact QW e.op e.n e.u e.rn e.ri a e.args.length p W
def It(n:Int):List PanicEntry:=[{v:=.iface 133 (.int .i64 n),recovered:=false}]
theorem Ei(e:Int)(w:World):Calls prog 29 #[.bool true,.int .i64 e] w λx w'=>x=.returned (.tuple #[])/\w'=w:=by
 go_enter func29,ntmps29
 go_wp2
 go_end0
 exact ⟨rfl,rfl⟩
theorem Fa(e:Int)(w:World):Calls prog 29 #[.bool false,.int .i64 e] w λx w'=>x=.panicked (It e)/\w'=w:=by
 go_enter func29,ntmps29
 go_wp2
 exact ⟨rfl,rfl,rfl⟩
structure CJ (X B:Nat) (w w':World):Prop where
 os:w'.os=w.os
 tape:w'.tape=w.tape
 output:w'.output=w.output
 size:w.heap.size<=w'.heap.size
 block:∀b,b < B->b≠X->w'.heap[b]?=w.heap[b]?
theorem CJ.refl(X B:Nat)(w:World):CJ X B w w:=⟨rfl,rfl,rfl,yi _,λ_ _ _=>rfl⟩
theorem CJ.of{X B:Nat}{w w':World}(h:Below B w w'):CJ X B w w':=⟨h.os,h.tape,h.output,h.size,λb hb _=>h.block b hb⟩
theorem CJ.trans{X B:Nat}{a b c:World}(h:CJ X B a b)(k:CJ X B b c):CJ X B a c:=⟨k.os.trans h.os,k.tape.trans h.tape,k.output.trans h.output,yG h.size k.size,λx d e=>(k.block x d e).trans (h.block x d e)⟩
theorem CJ.mono{X B C:Nat}{w w':World}(h:CJ X B w w')(hc:C<=B):CJ X C w w':=⟨h.os,h.tape,h.output,h.size,λb hb a=>h.block b (yx hb hc) a⟩
theorem CJ.set{X B:Nat}{a w:World}(h:CJ X B a w)(v:Value):CJ X B a (w.setCell ⟨X,0,none⟩ v):=⟨h.os,h.tape,h.output,by simpa using h.size,λb hb c=>(Ad _ _ c).trans (h.block b hb c)⟩
def Hb(W:World)(Cb Rb:Nat)(vs:List Rt):Prop:=∃a c,W.heap[Cb]?=some (.cells #[.slice a vs.length c] 94 (0,0))/\vs.length<=c/\(vs≠ []->∃o,a=some ⟨Rb,o,none⟩/\∀i (h:i < vs.length),W.rangeAt Rb (o+i*2) [.int .i64 vs[i].n,.int .i64 vs[i].d])
theorem WD{W:World}{Cb Rb o c c':Nat}{a:Option Addr}{v:Rt}{r:List Rt}{o1 o2:Obj}(h1:W.heap[Cb]?=some (.cells #[.slice (some ⟨Rb,o,none⟩) (r.length+1) c] 94 (0,0)))(g:Rb≠Cb)(b:Rb < W.heap.size)
 (k:∀i (h:i < (v::r).length),W.rangeAt Rb (o+i*2) [.int .i64 (v::r)[i].n,.int .i64 (v::r)[i].d])(hc:r.length<=c')(j:r≠ []->a=some ⟨Rb,o+2,none⟩):
  Hb (((W.setCell ⟨Cb,0,none⟩ (.slice a r.length c')).alloc o1).alloc o2) Cb Rb r/\CJ Cb W.heap.size W (((W.setCell ⟨Cb,0,none⟩ (.slice a r.length c')).alloc o1).alloc o2):=by
 have f:=(yd.1 h1).1
 have hb:Below W.heap.size (W.setCell (aV Cb 0) (.slice a r.length c')) (((W.setCell (aV Cb 0) (.slice a r.length c')).alloc o1).alloc o2):=((yg _ _).alloc (by simp) _).alloc (by simp) _
 refine ⟨⟨a,c',(hb.block _ f).trans (AE h1),hc,λhr=>⟨o+2,j hr,λi hi=>?_⟩⟩,(CJ.refl _ _ _).set _ |>.trans (CJ.of hb)⟩
 have h:=k (i+1) (by simpa using hi)
 have e:o+(i+1)*2=o+2+i*2:=by omega
 rw[e] at h
 exact A8 h ((hb.block _ b).trans (Ad _ _ g))
theorem OG{W:World}{Cb Rb:Nat}{v:Rt}{r:List Rt}(h:Hb W Cb Rb (v::r))(f:Rb≠Cb)(b:Rb < W.heap.size):Calls prog 60 #[.pointer (some ⟨Cb,0,none⟩)] W λe w'=>e=.returned v.v/\Hb w' Cb Rb r/\CJ Cb W.heap.size W w':=by
 obtain ⟨a,c,h1,h2,h3⟩:=h
 obtain ⟨o,rfl,g⟩:=h3 (by simp)
 have l:=(yd.1 h1).1
 have i:=g 0 (by simp)
 have c0:=i 0 _ rfl
 have c1:=i 1 _ rfl
 simp only[qA,qN,qC] at c0 c1
 simp only[yr] at h1 h2
 have t:=Ey h1
 have u:=DO (n:=0) h1
 have m:(1:Int)<=((r.length+1:Nat):Int):=by omega
 have p:(0:Int) < ((r.length+1:Nat):Int):=by omega
 go_enter func60,ntmps60
 clear h3 i
 have q:=yb (λ(a:Option Addr) (c':Nat) (o1 o2:Obj)=>WD (a:=a) (c':=c') (o1:=o1) (o2:=o2) h1 f b g)
 have k:Hid (∀s o2,(((W.setCell (aV Cb 0) s).alloc (.cells #[iV v.n,iV v.d] 58)).alloc o2).heap[W.heap.size]?=some (.cells #[iV v.n,iV v.d] 58 (0,0))):=yb (λs o2=>by
  have h:=World.alloc_heap_new (W.setCell (aV Cb 0) s) (.cells #[iV v.n,iV v.d] 58)
  simp only[World.size_setCell] at h
  exact (yp _ _ _ (by simp)).trans h)
 have j:=yb h2
 clear h1 g
 go_wp2
 all_goals
  exact Bd (c:=[iV v.n,iV v.d]) rfl rfl (k.o _ _) ju rfl (by kernel_rfl) ⟨rfl,q.o _ _ _ _ (by have:=j.o;omega) (λhr=>by
   first
   |rfl
   |(have:=j.o
     have:=List.length_pos_iff.2 hr
     omega))⟩
theorem Hb.up{W W':World}{Cb Rb:Nat}{vs:List Rt}(h:Hb W Cb Rb vs)(hb:Below W.heap.size W W')(b:Rb < W.heap.size):Hb W' Cb Rb vs:=by
 obtain ⟨a,c,h1,h2,h3⟩:=h
 refine ⟨a,c,(hb.block _ (yd.1 h1).1).trans h1,h2,λhr=>?_⟩
 obtain ⟨o,d,e⟩:=h3 hr
 exact ⟨o,d,λi hi=>A8 (e i hi) (hb.block _ b)⟩
def XU(v:Rt)(r:List Rt)(Cb Rb:Nat)(W:World)(e:Ending)(w':World):Prop:=if v.d<=1 then e=.returned (.int .i64 v.n)/\Hb w' Cb Rb r/\CJ Cb W.heap.size W w' else e=.panicked (It 190)/\CJ Cb W.heap.size W w'
theorem MP{W:World}{Cb Rb:Nat}{v:Rt}{r:List Rt}(h:Hb W Cb Rb (v::r))(f:Rb≠Cb)(b:Rb < W.heap.size):Calls prog 59 #[.pointer (some ⟨Cb,0,none⟩)] W (XU v r Cb Rb W):=by
 have g:=yb (OG h f b)
 have i:=yb b
 have k:=yb (λw=>Ei 190 w)
 have l:=yb (λw=>Fa 190 w)
 clear h f b
 obtain ⟨n,d⟩:=v
 unfold XU
 unfold Rt.v at g
 dsimp only at g |-
 by_cases hd:d<=1
 ·have m:decide (d<=1)=true:=by simpa using hd
  simp only[yz hd]
  clear hd
  go_enter func59,ntmps59
  go_wp2_with (first
  |(go_at_call 60;with_reducible refine g.o.mono ?_;rintro e w2 ⟨rfl,hc,hb⟩;have j:=yb hc;have c:=yb hb;clear hc hb)
  |(go_at_call 29;with_reducible refine (k.o _).mono ?_;rintro e p ⟨rfl,rfl⟩))
  go_ret
  have a:Below w2.heap.size w2 (w2.alloc (.cells #[iV n,iV d] 58)):=(yg _ _).alloc (yi _) _
  exact ⟨rfl,j.o.up a (yx i.o c.o.size),c.o.trans (CJ.of (a.mono c.o.size))⟩
 have m:decide (d<=1)=false:=by simpa using hd
 simp only[ym hd]
 clear hd
 go_enter func59,ntmps59
 go_wp2_with (first
 |(go_at_call 60;with_reducible refine g.o.mono ?_;rintro e w2 ⟨rfl,hc,hb⟩;have j:=yb hc;have c:=yb hb;clear hc hb)
 |(go_at_call 29;with_reducible refine (l.o _).mono ?_;rintro e p ⟨rfl,rfl⟩))
 have a:Below w2.heap.size w2 (w2.alloc (.cells #[iV n,iV d] 58)):=(yg _ _).alloc (yi _) _
 exact ⟨rfl,rfl,c.o.trans (CJ.of (a.mono c.o.size))⟩
def YF(W:World)(Bon:Nat)(b:Bool):Prop:=W.heap[Bon]?=some (.cells #[.bool b] 4 (0,0))
structure KS (ty:TypeId) (J:Nat->(Nat->Prop)->World->Prop) (Jx:(Nat->Prop)->World->Prop) (W0:World) (l Bon By k:Nat) (O:Nat->Prop) (W:World):Prop where
 own:∀b,O b->W0.heap.size<=b/\b < W.heap.size
 size:W0.heap.size<=W.heap.size
 oon:O Bon
 oy:O By
 ne:Bon≠By
 y:W.heap[By]?=some (.cells #[.func (.yield l) #[] #[]] ty (0,0))
 st:(YF W Bon true/\J k O W)\/(YF W Bon false/\Jx O W)
structure MY (n l:Nat) (xs:List (Array Value)) (J:Nat->(Nat->Prop)->World->Prop) (Jx:(Nat->Prop)->World->Prop) (Jp:List PanicEntry->(Nat->Prop)->World->Prop) (W0:World):Prop where
 stays:Cv J
 staysx:Cv (λ(_:Unit)=>Jx)
 round:∀k (hk:k < xs.length) O W1,J k O W1->W0.heap.size<=W1.heap.size->(∀b,O b->W0.heap.size<=b/\b < W1.heap.size)->YieldAt Fence.wide n prog l xs[k] W1 λe W'=>
   (e=.returned (.bool true)/\J (k+1) O W'/\B7 O W1 W')\/(e=.returned (.bool false)/\Jx O W'/\B7 O W1 W')\/(∃ch,e=.panicked ch/\Jp ch O W'/\B7 O W1 W')
section
variable{ty:TypeId}{J:Nat->NP->World->Prop}{Jx:NP->World->Prop}{Jp:List PanicEntry->NP->World->Prop}{W0:World}{n l Bon By k:Nat}{O:NP}{W W':World}{xs:List (Array Value)}
theorem KS.below(hc:MY n l xs J Jx Jp W0)(h:KS ty J Jx W0 l Bon By k O W)(hb:Below W.heap.size W W'):KS ty J Jx W0 l Bon By k (λb=>O b\/(W.heap.size<=b/\b < W'.heap.size)) W':=by
 have c:=hb.size
 refine ⟨λb h2=>?_,yG h.size c,.inl h.oon,.inl h.oy,h.ne,(hb.block _ (h.own _ h.oy).2).trans h.y,?_⟩
 ·have hs:=h.size
  rcases h2 with h2|h2
  ·have:=h.own b h2;omega
  omega
 have a:=hb.block _ (h.own _ h.oon).2
 rcases h.st with ⟨h1,h2⟩|⟨h1,h2⟩
 ·exact .inl ⟨a.trans h1,CY hc.stays h2 hb⟩
 exact .inr ⟨a.trans h1,CY (s:=()) hc.staysx h2 hb⟩
theorem KS.y'(h:KS ty J Jx W0 l Bon By k O W):W.cell? ⟨By,0,none⟩=some (.func (.yield l) #[] #[]):=Ey h.y
theorem KS.onTrue(hc:MY n l xs J Jx Jp W0)(h:KS ty J Jx W0 l Bon By k O W){k':Nat}{a:World}(hs:B7 O W a)(d:J k' O a)(c:YF a Bon true):KS ty J Jx W0 l Bon By k' O (a.setCell ⟨Bon,0,none⟩ (.bool true)):=
 ⟨λb hb=>⟨(h.own b hb).1,by have:=(h.own b hb).2;have:=hs.1;simp;omega⟩,by have:=h.size;have:=hs.1;simp;omega,h.oon,h.oy,h.ne,(Ad _ _ (xC h.ne)).trans ((hs.2 _ h.oy).trans h.y),
  .inl ⟨AE c,hc.stays _ _ _ _ _ d (by simp) rfl rfl rfl (λb hb _=>Ad _ _ (λe=>hb (e▸h.oon))) (λb hb=>.inl hb)⟩⟩
theorem KS.onFalse(hc:MY n l xs J Jx Jp W0)(h:KS ty J Jx W0 l Bon By k O W){k':Nat}{a:World}{c:Bool}(hs:B7 O W a)(f:Jx O a)(d:YF a Bon c):KS ty J Jx W0 l Bon By k' O (a.setCell ⟨Bon,0,none⟩ (.bool false)):=
 ⟨λb hb=>⟨(h.own b hb).1,by have:=(h.own b hb).2;have:=hs.1;simp;omega⟩,by have:=h.size;have:=hs.1;simp;omega,h.oon,h.oy,h.ne,(Ad _ _ (xC h.ne)).trans ((hs.2 _ h.oy).trans h.y),
  .inr ⟨AE d,hc.staysx () _ _ _ _ f (by simp) rfl rfl rfl (λb hb _=>Ad _ _ (λe=>hb (e▸h.oon))) (λb hb=>.inl hb)⟩⟩
end
def Z7(ty:TypeId)(J:Nat->NP->World->Prop)(Jx:NP->World->Prop)(Jp:List PanicEntry->NP->World->Prop)(W0:World)(l Bon By k:Nat)(O:NP)(W:World)(e:Ending)(W':World):Prop:=
 (e=.returned (.tuple #[])/\∃a,KS ty J Jx W0 l Bon By k a W'/\(∀b,O b->a b)/\(∀b,O b->b≠Bon->W'.heap[b]?=W.heap[b]?))\/∃c,e=.panicked c/\∃a,Jp c a W'
section
variable{P:Program}{ops:Array Oper}{rest:List Oper}{o:Oper}{a:Act}{w:World}{Q:QT}
theorem E5{K:Act->World->Prop}(t e:TypeId)(d:Array (Nat × Operand))(b:List LV)(m:Nat)(y:b.length=m)(r:LV)(q:b.flatten=r)(C:o.op=.buildSlice t m d)
 (E:(d.map λ(i,x)=>(i,a.eval x)).toList=((b.map λc=>Value.agg c.toArray).zipIdx 0).map λx=>(x.2,x.1))
 (n:Nat)(u:P.underlying t=some (.slice e))(hi:((P.info? e).bind λi=>i.zero.map λz=>(i.size,z.cells.size))=some (n,n))(D:∀c∈b,c.length=n)(g:0 < m*n)(j:m*n<=1000)
 (h:K (a.put o.dst (.slice (some ⟨w.heap.size,0,none⟩) m m)) (w.alloc (.cells r.toArray e))):Oper.wp P o a w K Q:=by
 cases f:P.info? e with
 |none=>simp[f] at hi
 |some ie=>
  cases p:ie.zero with
  |none=>simp[f,p] at hi
  |some z=>
   simp only[f,p,zS,zR,zs,qg] at hi
   obtain ⟨h1,h2⟩:=hi
   refine wp_buildSlice t e m d C _ ie z u f p (by rw[h1];omega) (by rw[h1];omega) ?_ h
   have hs:((Array.range (m*ie.size)).map (z.cells[· % z.cells.size]!)).size=m*n:=by simp[h1]
   rw[h1] at hs |-
   generalize (Array.range (m*n)).map (z.cells[· % z.cells.size]!)=B at hs |-
   have k:0 < n:=Nat.pos_of_ne_zero λh=>by simp[h] at g
   have:=Great.fill_whole (s:=n) k (b.map λc=>Value.agg c.toArray) B (λv A=>by
    obtain ⟨c,hc,rfl⟩:=xS.1 A
    simp[Value.cells,D c hc]) (by rw[hs,zh,y])
   rw[E,this,xu,<-q]
   have e:(b.flatMap λc=>c)=b.flatten:=by simp
   exact yN (λl:LV=>some l.toArray) e
theorem Am(l:o.guard=none)(t e:TypeId)(b:Array (Nat × Operand))(d:List LV)(m:Nat)(r:d.length=m)(j:LV)(k:d.flatten=j)(s:o.op=.buildSlice t m b)
 (v:(b.map λ(i,x)=>(i,a.eval x)).toList=((d.map λc=>Value.agg c.toArray).zipIdx 0).map λx=>(x.2,x.1))
 (n:Nat)(q:P.underlying t=some (.slice e))(hi:((P.info? e).bind λi=>i.zero.map λz=>(i.size,z.cells.size))=some (n,n))(u:∀c∈d,c.length=n)(g:0 < m*n)(f:m*n<=1000)
 (h:wpList P ops Q rest (a.put o.dst (.slice (some ⟨w.heap.size,0,none⟩) m m)) (w.alloc (.cells j.toArray e))):wpList P ops Q (o::rest) a w:=
 yZ l λ_ p=>E5 t e b d m r j k s v n q hi u g f (p _ _ h)
end
def ER(c:LV):Prop:=∃(o n u:Int) (rn:ByteArray) (ri:Int) (p:Option Addr) (m k:Nat),c=[.int .i64 o,.int .i64 n,.int .i64 u,.string rn,.int .i64 ri,.slice p m k]
theorem Bm.is6{N:NP}{w:World}{e:Ex}{cs:LV}(h:Bm N w e cs):ER cs:=by
 obtain ⟨a,p,rfl, -⟩:=h.cells
 exact ⟨_,_,_,_,_,_,_,_,rfl⟩
theorem ER.len{c:LV}(h:ER c):c.length=6:=by obtain ⟨_,_,_,_,_,_,_,_,rfl⟩:=h;rfl
theorem Y5{c:LV}(h:ER c):∀v∈c,v.oneCell'=true:=by
 obtain ⟨_,_,_,_,_,_,_,_,rfl⟩:=h
 simp[Value.oneCell']
theorem SI{W:World}{b:Nat}{t:TypeId}{row pre c post:LV}{o:Nat}(h:W.heap[b]?=some (.cells row.toArray t (0,0)))(e:row=pre++(c++post))(d:pre.length=o):W.rangeAt b o c:=by
 subst d e
 have hr:=Ae h
 intro j v a
 have:=hr (pre.length+j) v (by
  rw[zn (by omega),xk,zI (yF.1 a).1]
  exact a)
 simpa using this
theorem SJ{W:World}{g:Nat}{t:TypeId}{a:List LV}(d:∀c∈a,ER c)(h:W.heap[g]?=some (.cells a.flatten.toArray t (0,0)))(i:Nat)(hi:i < a.length):W.rangeAt g (i*6) a[i]:=by
 have hf:=GO a 6 (λc hc=>(d c hc).len)
 have hr:=Ae h
 intro j v e
 have b:j < 6:=by rw[<-(d _ (yR hi)).len];exact (yF.1 e).1
 have h1:=hf.2 i hi j b
 rw[e] at h1
 have:=hr (i*6+j) v h1
 simpa using this
def Dh(ty:TypeId)(J:Nat->NP->World->Prop)(Jx:NP->World->Prop)(W0:World)(l Bon By k:Nat)(P:NP->World->Prop)(W:World):Prop:=∃O,KS ty J Jx W0 l Bon By k O W/\P O W
def Gd(Bon bx:Nat)(row:LV)(t:TypeId)(O:NP)(W:World):Prop:=O bx/\bx≠Bon/\W.heap[bx]?=some (.cells row.toArray t (0,0))
def AQ(_:NP)(_:World):Prop:=True
def IV(Bon:Nat)(P:NP->World->Prop):Prop:=∀O a W W',P O W->(∀b,O b->a b)->(∀b,O b->b≠Bon->W'.heap[b]?=W.heap[b]?)->P a W'
theorem Kr(Bon:Nat):IV Bon AQ:=λ_ _ _ _ _ _ _=>trivial
theorem AX(Bon bx:Nat)(row:LV)(t:TypeId):IV Bon (Gd Bon bx row t):=λ_ _ _ _ h hs hb=>⟨hs _ h.1,h.2.1,(hb _ h.1 h.2.1).trans h.2.2⟩
def Df(ty:TypeId)(J:Nat->NP->World->Prop)(Jx:NP->World->Prop)(Jp:List PanicEntry->NP->World->Prop)(W0:World)(l Bon By k:Nat)(P:NP->World->Prop)(e:Ending)(W':World):Prop:=
 (e=.returned (.tuple #[])/\Dh ty J Jx W0 l Bon By k P W')\/∃a,e=.panicked a/\∃b,Jp a b W'
section
variable{ty:TypeId}{J:Nat->NP->World->Prop}{Jx:NP->World->Prop}{Jp:List PanicEntry->NP->World->Prop}{W0:World}{n l Bon By k:Nat}{W W':World}{xs:List (Array Value)}{P:NP->World->Prop}
theorem Dh.below(hc:MY n l xs J Jx Jp W0)(c:IV Bon P)(h:Dh ty J Jx W0 l Bon By k P W)(hb:Below W.heap.size W W'):Dh ty J Jx W0 l Bon By k P W':=by
 obtain ⟨O,h1,h2⟩:=h
 exact ⟨_,h1.below hc hb,c _ _ _ _ h2 (λb hb=>.inl hb) (λb a _=>hb.block b (h1.own b a).2)⟩
theorem Dh.box(hc:MY n l xs J Jx Jp W0)(h:Dh ty J Jx W0 l Bon By k AQ W)(row:LV)(t:TypeId):Dh ty J Jx W0 l Bon By k (Gd Bon W.heap.size row t) (W.alloc (.cells row.toArray t)):=by
 obtain ⟨O,h1, -⟩:=h
 refine ⟨_,h1.below hc ((yg _ _).alloc (yi _) _),.inr ⟨yi _,by simp⟩,by have:=(h1.own _ h1.oon).2;omega,World.alloc_heap_new _ _⟩
theorem Dh.no(h:Dh ty J Jx W0 l Bon By k P W):Dh ty J Jx W0 l Bon By k AQ W:=by
 obtain ⟨O,h1, -⟩:=h
 exact ⟨O,h1,trivial⟩
end
def TK(f:Nat)(ty:TypeId)(ar:Nat->Nat->Nat->Nat->Array Value)(mk:LV->Array Value):Prop:=
 ∀ {J:Nat->NP->World->Prop} {Jx:NP->World->Prop} {Jp:List PanicEntry->NP->World->Prop} {W0:World} {n l Bon By:Nat} {xs:List (Array Value)},MY (n - 1) l xs J Jx Jp W0->1<=n->
  ∀(a:List LV) (g b:Nat) (O:NP) (W:World),KS ty J Jx W0 l Bon By b O W->O g->g≠Bon->a.length<=100->(∀i (hi:i < a.length),ER a[i]/\W.rangeAt g (i*6) a[i]/\∃c:b+i < xs.length,xs[b+i]=mk a[i])->
  Calls prog f (ar Bon By g a.length) W (Z7 ty J Jx Jp W0 l Bon By (b+a.length) O W)
section
variable{ty:TypeId}{J:Nat->NP->World->Prop}{Jx:NP->World->Prop}{Jp:List PanicEntry->NP->World->Prop}{W0:World}{n l Bon By k f:Nat}{W W':World}{xs:List (Array Value)}{P:NP->World->Prop}{ar:Nat->Nat->Nat->Nat->Array Value}{mk:LV->Array Value}
theorem KT{Bon:Nat}{P a:NP->World->Prop}(h:IV Bon P)(h2:IV Bon a):IV Bon (λO W=>P O W/\a O W):=λ_ _ _ _ k hs hb=>⟨h _ _ _ _ k.1 hs hb,h2 _ _ _ _ k.2 hs hb⟩
theorem Dh.box2(hc:MY n l xs J Jx Jp W0)(c:IV Bon P)(h:Dh ty J Jx W0 l Bon By k P W)(row:LV)(t:TypeId):Dh ty J Jx W0 l Bon By k (λO V=>P O V/\Gd Bon W.heap.size row t O V) (W.alloc (.cells row.toArray t)):=by
 obtain ⟨O,h1,h2⟩:=h
 have hb:=(yg W.heap.size W).alloc (yi _) (.cells row.toArray t)
 refine ⟨_,h1.below hc hb,c _ _ _ _ h2 (λb hb=>.inl hb) (λb a _=>hb.block b (h1.own b a).2),.inr ⟨yi _,by simp⟩,by have:=(h1.own _ h1.oon).2;omega,World.alloc_heap_new _ _⟩
theorem Y6{a:List LV}(b:∃pre post,xs=pre++(a.map mk++post)/\pre.length=k)(i:Nat)(hi:i < a.length):∃c:k+i < xs.length,xs[k+i]=mk a[i]:=by
 obtain ⟨pre,post,rfl,rfl⟩:=b
 refine ⟨by simp;omega,?_⟩
 rw[qj (by omega),qo (by simp;omega)]
 simp
theorem KU(d:TK f ty ar mk)(hc:MY (n - 1) l xs J Jx Jp W0)(u:1<=n)(s:IV Bon P)(a:List LV){g:Nat}(h:Dh ty J Jx W0 l Bon By k (λO V=>P O V/\Gd Bon g a.flatten 40 O V) W)(j:∀c∈a,ER c)(p:a.length<=100)(t:∃pre post,xs=pre++(a.map mk++post)/\pre.length=k):
  Calls prog f (ar Bon By g a.length) W (Df ty J Jx Jp W0 l Bon By (k+a.length) P):=by
 obtain ⟨O,h1,h2,b⟩:=h
 refine (d hc u a g k _ _ h1 b.1 b.2.1 p (λi hi=>⟨j _ (yR hi),SJ j b.2.2 i hi,Y6 t i hi⟩)).mono ?_
 rintro e v (⟨rfl,r,h3,o,q⟩|⟨m,rfl,d⟩)
 ·exact .inl ⟨rfl,r,h3,s _ _ _ _ h2 o q⟩
 exact .inr ⟨m,rfl,d⟩
theorem BA(i:TK f ty ar mk)(hc:MY (n - 1) l xs J Jx Jp W0)(g:1<=n)(b:IV Bon P)(h:Dh ty J Jx W0 l Bon By k P W)(a:List LV)(e:∀c∈a,ER c)(j:a.length<=100)(d:∃pre post,xs=pre++(a.map mk++post)/\pre.length=k):
  Calls prog f (ar Bon By W.heap.size a.length) (W.alloc (.cells a.flatten.toArray 40)) (Df ty J Jx Jp W0 l Bon By (k+a.length) P):=
 KU i hc g b a (h.box2 hc b a.flatten 40) e j d
end
def Xl(NB:NP)(a W:World):Prop:=∀b,NB b->W.heap[b]?=a.heap[b]?
theorem E6{NB:NP}{a W:World}(h:Xl NB a W){b o:Nat}(hb:NB b){v:Value}(c:a.cell? ⟨b,o,none⟩=some v):W.cell? ⟨b,o,none⟩=some v:=by
 unfold World.cell? at c |-
 rw[h b hb];exact c
theorem AI{NB:NP}{a W:World}(h:Xl NB a W){b o:Nat}(hb:NB b){cs:LV}(c:a.rangeAt b o cs):W.rangeAt b o cs:=A8 c (h b hb)
theorem WR{ty:TypeId}{J:Nat->NP->World->Prop}{Jx:NP->World->Prop}{W0:World}{l Bon By k:Nat}{P:NP->World->Prop}{W:World}{H:World->Prop}(b:∀k O W,J k O W->H W)(a:∀O W,Jx O W->H W)(h:Dh ty J Jx W0 l Bon By k P W):H W:=by
 obtain ⟨O,h1, -⟩:=h
 rcases h1.st with ⟨-,h2⟩|⟨-,h2⟩
 ·exact b _ _ _ h2
 exact a _ _ h2
def YG(J:Nat->NP->World->Prop)(Jx:NP->World->Prop)(Jp:List PanicEntry->NP->World->Prop)(k:Nat)(e:Ending)(W':World):Prop:=
 ((∃v,e=.returned v)/\((∃O,J k O W')\/∃O,Jx O W'))\/∃a,e=.panicked a/\∃O,Jp a O W'
def C7{α:Type}(A:List (Array Value))(f:α->List (Array Value))(ls:List α)(i:Nat):Nat:=(A++(ls.take i).flatMap f).length
section
variable{α:Type}{A B X:List (Array Value)}{f:α->List (Array Value)}{ls:List α}
theorem CK:C7 A f ls 0=A.length:=by simp[C7]
theorem Dz:C7 A f ls ls.length=(A++ls.flatMap f).length:=by simp[C7]
theorem CL{i:Nat}(hi:i < ls.length):C7 A f ls (i+1)=C7 A f ls i+(f ls[i]).length:=by
 unfold C7
 rw[yP hi]
 simp only[zJ,yY,List.flatMap_nil,yE,yn]
 omega
theorem Ej(a:∃B,X=(A++ls.flatMap f)++B){i:Nat}(hi:i < ls.length):∃pre post,X=pre++(f ls[i]++post)/\pre.length=C7 A f ls i:=by
 obtain ⟨B,rfl⟩:=a
 refine ⟨A++(ls.take i).flatMap f,(ls.drop (i+1)).flatMap f++B,?_,rfl⟩
 conv=>lhs;rw[<-xN i ls,zy hi]
 rw[zJ,yY]
 simp only[yX]
end
theorem Fb{α:Type}{X A C:List α}(h:∃B,X=(A++C)++B):∃B,X=A++B:=by
 obtain ⟨B,rfl⟩:=h
 exact ⟨C++B,by rw[yX]⟩
def CU(X:List (Array Value))(k:Nat)(p:List (Array Value)):Prop:=∃pre post,X=pre++(p++post)/\pre.length=k
theorem CU.split{X:List (Array Value)}{k:Nat}{p q:List (Array Value)}(h:CU X k (p++q)):CU X k p/\CU X (k+p.length) q:=by
 obtain ⟨pre,post,rfl,rfl⟩:=h
 exact ⟨⟨pre,q++post,by simp,rfl⟩,⟨pre++p,post,by simp,by simp⟩⟩
def Db{α β:Type}(R:α->β->Prop):List α->List β->Prop
 |[],[]=>True
 |a::r,b::s=>R a b/\Db R r s
 |[],_::_=>False
 |_::_,[]=>False
section
variable{α β γ δ:Type}{R:α->β->Prop}
theorem Db.append:∀ {a:List α} {p:List β} {b:List α} {q:List β},Db R a p->Db R b q->Db R (a++b) (p++q)
 |[],[],_,_,_,h2=>h2
 |_::_,_::_,_,_,h1,h2=>⟨h1.1,Db.append h1.2 h2⟩
 |[],_::_,_,_,h1,_=>h1.elim
 |_::_,[],_,_,h1,_=>h1.elim
theorem Db.len:∀ {a:List α} {p:List β},Db R a p->a.length=p.length
 |[],[],_=>rfl
 |_::_,_::_,h=>by simp[Db.len h.2]
 |[],_::_,h=>h.elim
 |_::_,[],h=>h.elim
theorem Db.get:∀ {a:List α} {p:List β},Db R a p->∀(k:Nat) (h1:k < a.length) (h2:k < p.length),R a[k] p[k]
 |_::_,_::_,h,0,_,_=>h.1
 |_::_,_::_,h,k+1,h1,h2=>by simpa using Db.get h.2 k (by simpa using h1) (by simpa using h2)
 |[],_::_,h,_,_,_=>h.elim
 |_::_,[],h,_,_,_=>h.elim
theorem Db.of:∀ {a:List α} {p:List β},a.length=p.length->(∀i (h1:i < a.length) (h2:i < p.length),R a[i] p[i])->Db R a p
 |[],[],_,_=>trivial
 |a::r,b::s,hl,h=>⟨h 0 (by simp) (by simp),Db.of (by simpa using hl) λi h1 h2=>h (i+1) (Nat.succ_lt_succ h1) (Nat.succ_lt_succ h2)⟩
 |[],_::_,hl,_=>by simp at hl
 |_::_,[],hl,_=>by simp at hl
theorem Db.flat{R2:γ->δ->Prop}{f:α->List γ}{g:β->List δ}(hf:∀a b,R a b->Db R2 (f a) (g b)):∀ {a:List α} {p:List β},Db R a p->Db R2 (a.flatMap f) (p.flatMap g)
 |[],[],_=>trivial
 |a::r,b::s,h=>by
  rw[yY,yY]
  exact (hf a b h.1).append (Db.flat hf h.2)
 |[],_::_,h=>h.elim
 |_::_,[],h=>h.elim
end
theorem IW{β γ:Type}:∀(l:List β) (P:Nat->β->γ->Prop),(∀i (hi:i < l.length),∃b,P i l[i] b)->∃bs:List γ,bs.length=l.length/\∀i (h1:i < bs.length) (h2:i < l.length),P i l[i] bs[i]
 |[],_,_=>⟨[],rfl,λi h1 _=>absurd h1 (by simp)⟩
 |a::l,P,h=>by
  obtain ⟨b,hb⟩:=h 0 (by simp)
  obtain ⟨bs,h1,h2⟩:=IW l (λi=>P (i+1)) (λi hi=>h (i+1) (by simpa using hi))
  refine ⟨b::bs,by simp[h1],λi g1 c=>?_⟩
  cases i with
  |zero=>exact hb
  |succ i=>exact h2 i (by simpa using g1) (by simpa using c)
theorem Hf{α β:Type}(f:α->β):∀l:List α,l.map f=l.flatMap λa=> [f a]
 |[]=>rfl
 |a::l=>by rw[zN,yY,Hf f l];rfl
structure R8 where
 s:Bool
 c0:List Value
 c1:List Value
 c2:List Value
 c3:List Value
 c4:List Value
 c5:List Value
 c6:List Value
 c7:List Value
structure F1 where
 rv:Bool
 c:List Value
structure Ro where
 c0:List Value
 c1:List Value
 c2:List Value
 t:AA
 ts:List (List Value)
structure R5 where
 kind:Int
 l3:Bool
 l4:Bool
 c0:List Value
 c1:List Value
 c2:List Value
 c3:List Value
 c4:List Value
structure WS where
 c0:List Value
 c1:List Value
 c2:List Value
 ls:List (List Value)
 cs:List (List Value)
 rs:List R8
 fs:List F1
 ro:List Ro
 rg:List R5
 ds:List (List Value)
def Il(NB:NP)(w:World)(h:AA)(i sz:Nat)(row:LV):Prop:=∃b o,h.a=some ⟨b,o,none⟩/\NB b/\w.rangeAt b (o+i*sz) row/\row.length=sz/\∀v∈row,v.oneCell'=true
def Ci(row:LV)(k:Nat)(c:LV):Prop:=∃pre post,row=pre++(c++post)/\pre.length=k
theorem Ci.range{W:World}{b k:Nat}{t:TypeId}{row c:LV}(h:Ci row k c)(hb:W.heap[b]?=some (.cells row.toArray t (0,0))):W.rangeAt b k c:=by
 obtain ⟨pre,post,rfl,a⟩:=h
 exact SI hb rfl a
def Lp(c:LV)(l:Bool):Prop:=∀W,Calls prog 40 #[.agg c.toArray] W λa w'=>a=.returned (.bool l)/\Below W.heap.size W w'
abbrev KV:Nat:=140737488355328
structure Re (NB:Nat->Prop) (w0:World) (Bs:Nat) (L:BQ) (M:WS):Prop where
 bs:NB Bs
 h0:ER M.c0/\w0.rangeAt Bs 1 M.c0
 h1:ER M.c1/\w0.rangeAt Bs 7 M.c1
 h2:ER M.c2/\w0.rangeAt Bs 13 M.c2
 k19:w0.cell? ⟨Bs,19,none⟩=some L.lets.v
 k20:w0.cell? ⟨Bs,20,none⟩=some L.crops.v
 k21:w0.cell? ⟨Bs,21,none⟩=some L.reaches.v
 k22:w0.cell? ⟨Bs,22,none⟩=some L.farms.v
 k23:w0.cell? ⟨Bs,23,none⟩=some L.rots.v
 k24:w0.cell? ⟨Bs,24,none⟩=some L.rights.v
 k25:w0.cell? ⟨Bs,25,none⟩=some L.duties.v
 small:M.ls.length<=KV/\M.cs.length<=KV/\M.rs.length<=KV/\M.fs.length<=KV/\M.ro.length<=KV/\M.rg.length<=KV/\M.ds.length<=KV
 lets:L.lets.n=M.ls.length/\∀i (hi:i < M.ls.length),∃row,Il NB w0 L.lets i 7 row/\Ci row 1 M.ls[i]/\ER M.ls[i]
 crops:L.crops.n=M.cs.length/\∀i (hi:i < M.cs.length),∃row,Il NB w0 L.crops i 7 row/\Ci row 1 M.cs[i]/\ER M.cs[i]
 reaches:L.reaches.n=M.rs.length/\∀i (hi:i < M.rs.length),∃row,Il NB w0 L.reaches i 51 row/\(Ci row 3 M.rs[i].c0/\ER M.rs[i].c0)/\(Ci row 9 M.rs[i].c1/\ER M.rs[i].c1)/\(Ci row 15 M.rs[i].c2/\ER M.rs[i].c2)/\(Ci row 21 M.rs[i].c3/\ER M.rs[i].c3)/\(Ci row 27 M.rs[i].c4/\ER M.rs[i].c4)/\(Ci row 33 M.rs[i].c5/\ER M.rs[i].c5)/\(Ci row 39 M.rs[i].c6/\ER M.rs[i].c6)/\(Ci row 45 M.rs[i].c7/\ER M.rs[i].c7)/\Lp M.rs[i].c3 M.rs[i].s
 farms:L.farms.n=M.fs.length/\∀i (hi:i < M.fs.length),∃row,Il NB w0 L.farms i 12 row/\Ci row 3 [.bool M.fs[i].rv]/\Ci row 4 M.fs[i].c/\ER M.fs[i].c
 rots:L.rots.n=M.ro.length/\∀i (hi:i < M.ro.length),∃row,Il NB w0 L.rots i 23 row/\(Ci row 4 M.ro[i].c0/\ER M.ro[i].c0)/\(Ci row 10 M.ro[i].c1/\ER M.ro[i].c1)/\(Ci row 16 M.ro[i].c2/\ER M.ro[i].c2)/\Ci row 22 [M.ro[i].t.v]/\M.ro[i].t.n=M.ro[i].ts.length/\M.ro[i].ts.length<=KV/\∀j (hj:j < M.ro[i].ts.length),∃r2,Il NB w0 M.ro[i].t j 8 r2/\Ci r2 2 M.ro[i].ts[j]/\ER M.ro[i].ts[j]
 rights:L.rights.n=M.rg.length/\∀i (hi:i < M.rg.length),∃row,Il NB w0 L.rights i 37 row/\Ci row 0 [.int .i64 M.rg[i].kind]/\(Ci row 7 M.rg[i].c0/\ER M.rg[i].c0)/\(Ci row 13 M.rg[i].c1/\ER M.rg[i].c1)/\(Ci row 19 M.rg[i].c2/\ER M.rg[i].c2)/\(Ci row 25 M.rg[i].c3/\ER M.rg[i].c3)/\(Ci row 31 M.rg[i].c4/\ER M.rg[i].c4)/\Lp M.rg[i].c3 M.rg[i].l3/\Lp M.rg[i].c4 M.rg[i].l4
 duties:L.duties.n=M.ds.length/\∀i (hi:i < M.ds.length),∃row,Il NB w0 L.duties i 11 row/\Ci row 5 M.ds[i]/\ER M.ds[i]
structure WT (NB:Nat->Prop) (w:World) (M:WS) (x:AM):Prop where
 h0:Bm NB w x.season M.c0
 h1:Bm NB w x.cap M.c1
 h2:Bm NB w x.start M.c2
 lets:Db (λc d=>Bm NB w (FR.value d) c) M.ls x.lets
 crops:Db (λc d=>Bm NB w (DH.need d) c) M.cs x.crops
 reaches:Db (λ(r:R8) d=>r.s=BS (AS.siphon d)/\Bm NB w d.delay r.c0/\Bm NB w d.cap r.c1/\Bm NB w d.bank r.c2/\Bm NB w d.siphon r.c3/\Bm NB w d.evap0 r.c4/\Bm NB w d.evap1 r.c5/\Bm NB w d.seep0 r.c6/\Bm NB w d.seep1 r.c7) M.rs x.reaches
 farms:Db (λ(r:F1) d=>r.rv=BG.river d/\Bm NB w d.area r.c) M.fs x.farms
 rots:Db (λ(r:Ro) d=>Bm NB w (Bq.flow d) r.c0/\Bm NB w d.frm r.c1/\Bm NB w d.to r.c2/\Db (λc k=>Bm NB w (C6.len k) c) r.ts d.turns) M.ro x.rots
 rights:Db (λ(r:R5) d=>r.kind=Bj.kind d/\r.l3=BS d.every/\r.l4=BS d.len/\Bm NB w d.flow r.c0/\Bm NB w d.frm r.c1/\Bm NB w d.to r.c2/\Bm NB w d.every r.c3/\Bm NB w d.len r.c4) M.rg x.rights
 duties:Db (λc d=>Bm NB w (CZ.due d) c) M.ds x.duties
theorem Y7:∀x∈([]:LV),x.oneCell'=true:=by simp
theorem Bm.one{N:NP}{w:World}{e:Ex}{cs:LV}(h:Bm N w e cs):∀v∈cs,v.oneCell'=true:=Y5 h.is6
theorem Bm.l6{N:NP}{w:World}{e:Ex}{cs:LV}(h:Bm N w e cs):cs.length=6:=h.is6.len
theorem Ci.mk{row c:LV}{k:Nat}(pre post:LV)(h:row=pre++(c++post))(a:pre.length=k):Ci row k c:=⟨pre,post,h,a⟩
theorem Ff{W:World}{b o k:Nat}{cs:LV}(pre c post:LV)(h:W.rangeAt b o cs)(e:cs=pre++(c++post))(f:o+pre.length=k):W.rangeAt b k c:=by
 intro j v d
 have a:j < c.length:=(yF.1 d).1
 have:=h (pre.length+j) v (by rw[e,zn (by omega),xk,zI a];exact d)
 rw[<-f,xw];exact this
theorem Ek{α γ:Type}{NB:NP}{w:World}{sz:Nat}{P:LV->α->Prop}{h:AA}{l:List α}(hr:Bg NB w sz P h l)(G:LV->γ->Prop)(R:γ->α->Prop)(s:∀cs d,cs.length=sz->P cs d->∃g,(∀v∈cs,v.oneCell'=true)/\G cs g/\R g d):
  ∃c:List γ,h.n=c.length/\c.length<=KV/\(∀i (hi:i < c.length),∃row,Il NB w h i sz row/\G row c[i])/\Db R c l:=by
 obtain ⟨h1,h2,h3⟩:=hr
 obtain ⟨c,g1,e⟩:=IW l (λi d (g:γ)=>(∃row,Il NB w h i sz row/\G row g)/\R g d) (λi hi=>by
  obtain ⟨b,o,cs,p,k,f,j,r⟩:=h3 i hi
  obtain ⟨g,m1,q,m⟩:=s cs _ f r
  exact ⟨g,⟨cs,⟨b,o,p,k,j,f,m1⟩,q⟩,m⟩)
 refine ⟨c,by omega,by unfold KV;omega,λi hi=>(e i hi (by omega)).1,Db.of g1 λi a b=>(e i a b).2⟩
theorem Rg{w:World}{NB:NP}{Bs:Nat}{L:BQ}{cs:LV}{x:AM}(hs:CQ NB w L cs x)(I:w.rangeAt Bs 0 cs)(bs:NB Bs):∃M,Re NB w Bs L M/\WT NB w M x:=by
 obtain ⟨c0,c1,c2,B,g0,g1,K⟩:=hs.cells
 have E:=g0.l6
 have H:=g1.l6
 have P:=K.l6
 have u:∀(j i:Nat) (v:Value),19+i=j-> [L.lets.v,L.crops.v,L.reaches.v,L.farms.v,L.rots.v,L.rights.v,L.duties.v][i]?=some v->w.cell? (aV Bs j)=some v:=λj i v Q U=>by
  have:=Ff (k:=19) (.string x.name::(c0++(c1++c2))) [L.lets.v,L.crops.v,L.reaches.v,L.farms.v,L.rots.v,L.rights.v,L.duties.v] [] I (by rw[B];simp) (by simp[E,H,P])
  rw[<-Q];exact this i v U
 obtain ⟨ls,S,a2,a3,a4⟩:=Ek hs.lets (λrow c=>Ci row 1 c/\ER c) (λc d=>Bm NB w (FR.value d) c) (λcs d F h=>by
  obtain ⟨-,c,rfl,h2⟩:=h
  exact ⟨c,BJ rfl h2.one,⟨.mk [.string d.name] [] (by simp) rfl,h2.is6⟩,h2⟩)
 obtain ⟨O,b1,b2,b3,b4⟩:=Ek hs.crops (λrow c=>Ci row 1 c/\ER c) (λc d=>Bm NB w (DH.need d) c) (λcs d F h=>by
  obtain ⟨-,c,rfl,h2⟩:=h
  exact ⟨c,BJ rfl h2.one,⟨.mk [.string d.name] [] (by simp) rfl,h2.is6⟩,h2⟩)
 obtain ⟨rs,d1,d2,d3,d4⟩:=Ek hs.reaches (λrow (r:R8)=>(Ci row 3 r.c0/\ER r.c0)/\(Ci row 9 r.c1/\ER r.c1)/\(Ci row 15 r.c2/\ER r.c2)/\(Ci row 21 r.c3/\ER r.c3)/\(Ci row 27 r.c4/\ER r.c4)/\(Ci row 33 r.c5/\ER r.c5)/\(Ci row 39 r.c6/\ER r.c6)/\(Ci row 45 r.c7/\ER r.c7)/\Lp r.c3 r.s) (λ(r:R8) d=>r.s=BS (AS.siphon d)/\Bm NB w d.delay r.c0/\Bm NB w d.cap r.c1/\Bm NB w d.bank r.c2/\Bm NB w d.siphon r.c3/\Bm NB w d.evap0 r.c4/\Bm NB w d.evap1 r.c5/\Bm NB w d.seep0 r.c6/\Bm NB w d.seep1 r.c7) (λcs d F h=>by
  obtain ⟨-, -,y,p,f,l,g,A,C,D,rfl,a,m1,e,q,z,G,J,N⟩:=h
  refine ⟨⟨BS d.siphon,y,p,f,l,g,A,C,D⟩,BJ rfl (AH (Ds _) (AH a.one (AH m1.one (AH e.one (AH q.one (AH z.one (AH G.one (AH J.one N.one)))))))),⟨⟨?_,a.is6⟩,⟨?_,m1.is6⟩,⟨?_,e.is6⟩,⟨?_,q.is6⟩,⟨?_,z.is6⟩,⟨?_,G.is6⟩,⟨?_,J.is6⟩,⟨?_,N.is6⟩,λW=>I0 q W⟩,rfl,a,m1,e,q,z,G,J,N⟩
  ·exact .mk (.string d.name::B6 d.frm) (p++(f++(l++(g++(A++(C++D)))))) (by simp) rfl
  ·exact .mk (.string d.name::(B6 d.frm++y)) (f++(l++(g++(A++(C++D))))) (by simp) (by simp[B6,a.l6])
  ·exact .mk (.string d.name::(B6 d.frm++(y++p))) (l++(g++(A++(C++D)))) (by simp) (by simp[B6,a.l6,m1.l6])
  ·exact .mk (.string d.name::(B6 d.frm++(y++(p++f)))) (g++(A++(C++D))) (by simp) (by simp[B6,a.l6,m1.l6,e.l6])
  ·exact .mk (.string d.name::(B6 d.frm++(y++(p++(f++l))))) (A++(C++D)) (by simp) (by simp[B6,a.l6,m1.l6,e.l6,q.l6])
  ·exact .mk (.string d.name::(B6 d.frm++(y++(p++(f++(l++g)))))) (C++D) (by simp) (by simp[B6,a.l6,m1.l6,e.l6,q.l6,z.l6])
  ·exact .mk (.string d.name::(B6 d.frm++(y++(p++(f++(l++(g++A))))))) D (by simp) (by simp[B6,a.l6,m1.l6,e.l6,q.l6,z.l6,G.l6])
  exact .mk (.string d.name::(B6 d.frm++(y++(p++(f++(l++(g++(A++C)))))))) [] (by simp) (by simp[B6,a.l6,m1.l6,e.l6,q.l6,z.l6,G.l6,J.l6]))
 obtain ⟨fs,R,e2,e3,e4⟩:=Ek hs.farms (λrow (r:F1)=>Ci row 3 [.bool r.rv]/\Ci row 4 r.c/\ER r.c) (λ(r:F1) d=>r.rv=BG.river d/\Bm NB w d.area r.c) (λcs d F h=>by
  obtain ⟨-, -, -,c,rfl,m⟩:=h
  exact ⟨⟨d.river,c⟩,BJ rfl (AH (Ds _) (BJ rfl (AH m.one (Ds _)))),⟨.mk (.string d.name::B6 d.on) (c++B6 d.crop) (by simp) rfl,.mk (.string d.name::(B6 d.on++[.bool d.river])) (B6 d.crop) (by simp) rfl,m.is6⟩,rfl,m⟩)
 obtain ⟨rg,Z,T,V,f4⟩:=Ek hs.rights (λrow (r:R5)=>Ci row 0 [iV r.kind]/\(Ci row 7 r.c0/\ER r.c0)/\(Ci row 13 r.c1/\ER r.c1)/\(Ci row 19 r.c2/\ER r.c2)/\(Ci row 25 r.c3/\ER r.c3)/\(Ci row 31 r.c4/\ER r.c4)/\Lp r.c3 r.l3/\Lp r.c4 r.l4) (λ(r:R5) d=>r.kind=Bj.kind d/\r.l3=BS d.every/\r.l4=BS d.len/\Bm NB w d.flow r.c0/\Bm NB w d.frm r.c1/\Bm NB w d.to r.c2/\Bm NB w d.every r.c3/\Bm NB w d.len r.c4) (λcs d F h=>by
  obtain ⟨-, -, -,y,p,f,l,g,rfl,a,m1,e,q,z⟩:=h
  refine ⟨⟨d.kind,BS d.every,BS d.len,y,p,f,l,g⟩,BJ rfl (BJ rfl (AH (Ds _) (AH (Ds _) (BJ rfl (AH a.one (AH m1.one (AH e.one (AH q.one z.one)))))))),⟨?_,⟨?_,a.is6⟩,⟨?_,m1.is6⟩,⟨?_,e.is6⟩,⟨?_,q.is6⟩,⟨?_,z.is6⟩,λW=>I0 q W,λW=>I0 z W⟩,rfl,rfl,rfl,a,m1,e,q,z⟩
  ·exact .mk [] (.string d.name::(B6 d.farm++(B6 d.reach++(iV d.rank::(y++(p++(f++(l++g)))))))) rfl rfl
  ·exact .mk (iV d.kind::.string d.name::(B6 d.farm++(B6 d.reach++[iV d.rank]))) (p++(f++(l++g))) (by simp) rfl
  ·exact .mk (iV d.kind::.string d.name::(B6 d.farm++(B6 d.reach++(iV d.rank::y)))) (f++(l++g)) (by simp) (by simp[B6,a.l6])
  ·exact .mk (iV d.kind::.string d.name::(B6 d.farm++(B6 d.reach++(iV d.rank::(y++p))))) (l++g) (by simp) (by simp[B6,a.l6,m1.l6])
  ·exact .mk (iV d.kind::.string d.name::(B6 d.farm++(B6 d.reach++(iV d.rank::(y++(p++f)))))) g (by simp) (by simp[B6,a.l6,m1.l6,e.l6])
  exact .mk (iV d.kind::.string d.name::(B6 d.farm++(B6 d.reach++(iV d.rank::(y++(p++(f++l))))))) [] (by simp) (by simp[B6,a.l6,m1.l6,e.l6,q.l6]))
 obtain ⟨ds,X,i2,i3,i4⟩:=Ek hs.duties (λrow c=>Ci row 5 c/\ER c) (λc d=>Bm NB w (CZ.due d) c) (λcs d F h=>by
  obtain ⟨-, -, -,c,rfl,m⟩:=h
  exact ⟨c,BJ rfl (AH (Ds _) (AH (Ds _) m.one)),⟨.mk (.string d.name::(B6 d.farm++B6 d.reach)) [] (by simp) rfl,m.is6⟩,m⟩)
 obtain ⟨r1,r2,Y⟩:=hs.rots
 obtain ⟨ro,o1,o2⟩:=IW x.rots (λi d (r:Ro)=>(∃row,Il NB w L.rots i 23 row/\(Ci row 4 r.c0/\ER r.c0)/\(Ci row 10 r.c1/\ER r.c1)/\(Ci row 16 r.c2/\ER r.c2)/\Ci row 22 [r.t.v]/\r.t.n=r.ts.length/\r.ts.length<=KV/\∀j (Q:j < r.ts.length),∃r2,Il NB w r.t j 8 r2/\Ci r2 2 r.ts[j]/\ER r.ts[j])/\
   Bm NB w (Bq.flow d) r.c0/\Bm NB w d.frm r.c1/\Bm NB w d.to r.c2/\Db (λc k=>Bm NB w (C6.len k) c) r.ts d.turns) (λi hi=>by
  obtain ⟨b,o,cs,p,f,l,g,A⟩:=Y i hi
  obtain ⟨-, -,c0,c1,c2,rfl,a,m1,e,q⟩:=A
  obtain ⟨ts,t1,t2,t3,t4⟩:=Ek q (λrow c=>Ci row 2 c/\ER c) (λc k=>Bm NB w (C6.len k) c) (λcs d F h=>by
   obtain ⟨-,c,rfl,m⟩:=h
   exact ⟨c,AH (Ds _) m.one,⟨.mk (B6 d.farm) [] (by simp) rfl,m.is6⟩,m⟩)
  refine ⟨⟨c0,c1,c2,Ac L i,ts⟩,⟨_,⟨b,o,p,f,g,l,BJ rfl (AH (Ds _) (BJ rfl (AH a.one (AH m1.one (AH e.one (BJ rfl Y7))))))⟩,⟨?_,a.is6⟩,⟨?_,m1.is6⟩,⟨?_,e.is6⟩,?_,t1,t2,t3⟩,a,m1,e,t4⟩
  ·exact .mk (.string (x.rots[i]).name::(B6 (x.rots[i]).on++[iV (x.rots[i]).rank])) (c1++(c2++[(Ac L i).v])) (by simp) rfl
  ·exact .mk (.string (x.rots[i]).name::(B6 (x.rots[i]).on++(iV (x.rots[i]).rank::c0))) (c2++[(Ac L i).v]) (by simp) (by simp[B6,a.l6])
  ·exact .mk (.string (x.rots[i]).name::(B6 (x.rots[i]).on++(iV (x.rots[i]).rank::(c0++c1)))) [(Ac L i).v] (by simp) (by simp[B6,a.l6,m1.l6])
  exact .mk (.string (x.rots[i]).name::(B6 (x.rots[i]).on++(iV (x.rots[i]).rank::(c0++(c1++c2))))) [] (by simp) (by simp[B6,a.l6,m1.l6,e.l6]))
 refine ⟨⟨c0,c1,c2,ls,O,rs,fs,ro,rg,ds⟩,⟨bs,⟨g0.is6,?_⟩,⟨g1.is6,?_⟩,⟨K.is6,?_⟩,u 19 0 _ rfl rfl,u 20 1 _ rfl rfl,u 21 2 _ rfl rfl,u 22 3 _ rfl rfl,u 23 4 _ rfl rfl,u 24 5 _ rfl rfl,u 25 6 _ rfl rfl,⟨a2,b2,d2,e2,(by show ro.length<=_;unfold KV;omega),T,i2⟩,⟨S,a3⟩,⟨b1,b3⟩,⟨d1,d3⟩,⟨R,e3⟩,⟨(by show L.rots.n=ro.length;omega),λi hi=>(o2 i hi (by have:i < ro.length:=hi;omega)).1⟩,⟨Z,V⟩,⟨X,i3⟩⟩,⟨g0,g1,K,a4,b4,d4,e4,Db.of o1 λi h1 h2=>(o2 i h1 h2).2,f4,i4⟩⟩
 ·exact Ff [.string x.name] c0 (c1++(c2++[L.lets.v,L.crops.v,L.reaches.v,L.farms.v,L.rots.v,L.rights.v,L.duties.v])) I (by rw[B];rfl) (by rfl)
 ·exact Ff (.string x.name::c0) c1 (c2++[L.lets.v,L.crops.v,L.reaches.v,L.farms.v,L.rots.v,L.rights.v,L.duties.v]) I (by rw[B];simp) (by simp[E])
 exact Ff (.string x.name::(c0++c1)) c2 [L.lets.v,L.crops.v,L.reaches.v,L.farms.v,L.rots.v,L.rights.v,L.duties.v] I (by rw[B];simp) (by simp[E,H])
def Nn(d:Dm)(a:Bool)(cs:LV):Array Value:=#[.agg (cs++(.bool a::d.row)).toArray]
def JC(c:LV):List (Array Value):=[Nn Wn true c]
def CV(r:R8):List (Array Value):=[r.c0].map (Nn CT true)++([r.c1].map (Nn Kj true)++([r.c2,r.c4,r.c5].map (Nn Ef true)++([r.c3].map (Nn Ef (!r.s))++[r.c6,r.c7].map (Nn VZ true))))
def IY(f:F1):List (Array Value):=[Nn Wm (!f.rv) f.c]
def Im(c:LV):List (Array Value):=[Nn CT true c]
def WU(r:Ro):List (Array Value):=[r.c0].map (Nn Kj true)++[r.c1,r.c2].map (Nn CT true)
def Iu(r:Ro):List (Array Value):=WU r++r.ts.flatMap Im
def I3(r:R5):List (Array Value):=[r.c0].map (Nn Kj (decide (r.kind=1)))++([r.c1,r.c2].map (Nn CT (!decide (r.kind=2)))++[r.c3,r.c4].map (Nn CT (decide (r.kind=1)&&(!r.l3||!r.l4))))
def NL(c:LV):List (Array Value):=[Nn CT true c]
def TL(M:WS):List (Array Value):=[M.c0].map (Nn CT true)++[M.c1,M.c2].map (Nn Ef true)
def IZ(M:WS):List (Array Value):=(((((TL M++M.cs.flatMap JC)++M.rs.flatMap CV)++M.fs.flatMap IY)++M.ro.flatMap Iu)++M.rg.flatMap I3)++M.ds.flatMap NL
def Xm(c:LV):Array Value:=#[.agg c.toArray]
def D9(c:LV):List (Array Value):=[Xm c]
def JD(r:R8):List (Array Value):=[r.c0,r.c1,r.c2,r.c3,r.c4,r.c5,r.c6,r.c7].map Xm
def JE(f:F1):List (Array Value):=[Xm f.c]
def WV(r:Ro):List (Array Value):=[r.c0,r.c1,r.c2].map Xm
def Fu(r:Ro):List (Array Value):=WV r++r.ts.flatMap D9
def NM(r:R5):List (Array Value):=[r.c0,r.c1,r.c2,r.c3,r.c4].map Xm
def TM(M:WS):List (Array Value):=[M.c0,M.c1,M.c2].map Xm
def J0(M:WS):List (Array Value):=((((((TM M++M.ls.flatMap D9)++M.cs.flatMap D9)++M.rs.flatMap JD)++M.fs.flatMap JE)++M.ro.flatMap Fu)++M.rg.flatMap NM)++M.ds.flatMap D9
def aL(NB:NP)(w:World)(i:Array Value)(p:Uv):Prop:=∃cs,i=Nn p.dim p.there cs/\Bm NB w p.x cs
def Y8(NB:NP)(w:World)(i:Array Value)(e:Ex):Prop:=∃cs,i=Xm cs/\Bm NB w e cs
section
variable{NB:NP}{w:World}{M:WS}{x:AM}
theorem LW{d:Dm}{a:Bool}{c:LV}{e:Ex}(h:Bm NB w e c):Db (aL NB w) [Nn d a c] (Hy d a [e]):=⟨⟨c,rfl,h⟩,trivial⟩
theorem SK(h:WT NB w M x):Db (aL NB w) (IZ M) (CO x):=by
 have l:Db (aL NB w) (TL M) (Hy CT true [x.season]++Hy Ef true [x.cap,x.start]):=⟨⟨_,rfl,h.h0⟩,⟨_,rfl,h.h1⟩,⟨_,rfl,h.h2⟩,trivial⟩
 have:=(((((l.append (h.crops.flat (f:=JC) (g:=Wo) λ_ _ h=>LW h)).append (h.reaches.flat (f:=CV) (g:=Pg) λr d h=>by
  obtain ⟨h0,c,m1,a,b,e,k,j,i⟩:=h
  unfold CV Pg
  rw[h0]
  exact ⟨⟨_,rfl,c⟩,⟨_,rfl,m1⟩,⟨_,rfl,a⟩,⟨_,rfl,e⟩,⟨_,rfl,k⟩,⟨_,rfl,b⟩,⟨_,rfl,j⟩,⟨_,rfl,i⟩,trivial⟩)).append (h.farms.flat (f:=IY) (g:=So) λr d h=>by
  unfold IY So
  rw[h.1]
  exact LW h.2)).append (h.rots.flat (f:=Iu) (g:=Wp) λr d h=>by
  obtain ⟨c,m1,a,b⟩:=h
  unfold Iu Wp
  rw[<-yX]
  exact Db.append (show Db (aL NB w) (WU r) _ from ⟨⟨_,rfl,c⟩,⟨_,rfl,m1⟩,⟨_,rfl,a⟩,trivial⟩) (b.flat (f:=Im) λ_ _ h=>LW h))).append (h.rights.flat (f:=I3) (g:=Ph) λr d h=>by
  obtain ⟨h0,h1,h2,c,m1,a,b,e⟩:=h
  unfold I3 Ph
  rw[h0,h1,h2]
  exact ⟨⟨_,rfl,c⟩,⟨_,rfl,m1⟩,⟨_,rfl,a⟩,⟨_,rfl,b⟩,⟨_,rfl,e⟩,trivial⟩)).append (h.duties.flat (f:=NL) (g:=Wq) λ_ _ h=>LW h)
 unfold IZ CO
 simpa only[yX] using this
theorem UR(h:WT NB w M x):Db (Y8 NB w) (J0 M) (Dy x):=by
 have o:Db (Y8 NB w) (TM M) [x.season,x.cap,x.start]:=⟨⟨_,rfl,h.h0⟩,⟨_,rfl,h.h1⟩,⟨_,rfl,h.h2⟩,trivial⟩
 have a:∀ {c:LV} {e:Ex},Bm NB w e c->Db (Y8 NB w) (D9 c) [e]:=λh=>⟨⟨_,rfl,h⟩,trivial⟩
 have:=((((((o.append (h.lets.flat (f:=D9) (g:=λd=> [FR.value d]) λ_ _ h=>a h)).append (h.crops.flat (f:=D9) (g:=λd=> [DH.need d]) λ_ _ h=>a h)).append (h.reaches.flat (f:=JD) (g:=e8) λr d h=>by
  obtain ⟨h0,j,m1,i,b,l,q,n,m⟩:=h
  exact ⟨⟨_,rfl,j⟩,⟨_,rfl,m1⟩,⟨_,rfl,i⟩,⟨_,rfl,b⟩,⟨_,rfl,l⟩,⟨_,rfl,q⟩,⟨_,rfl,n⟩,⟨_,rfl,m⟩,trivial⟩)).append (h.farms.flat (f:=JE) (g:=λd=> [BG.area d]) λr d h=>a h.2)).append (h.rots.flat (f:=Fu) (g:=F8) λr d h=>by
  obtain ⟨j,m1,i,b⟩:=h
  unfold Fu F8
  rw[Hf]
  exact Db.append (p:=[_,_,_]) (show Db (Y8 NB w) (WV r) _ from ⟨⟨_,rfl,j⟩,⟨_,rfl,m1⟩,⟨_,rfl,i⟩,trivial⟩) (b.flat (f:=D9) (g:=λk=> [C6.len k]) λ_ _ h=>a h))).append (h.rights.flat (f:=NM) (g:=r5) λr d h=>by
  obtain ⟨h0,h1,h2,j,m1,i,b,l⟩:=h
  exact ⟨⟨_,rfl,j⟩,⟨_,rfl,m1⟩,⟨_,rfl,i⟩,⟨_,rfl,b⟩,⟨_,rfl,l⟩,trivial⟩)).append (h.duties.flat (f:=D9) (g:=λd=> [CZ.due d]) λ_ _ h=>a h)
 unfold J0 Dy Wr
 rw[Hf FR.value,Hf DH.need,Hf BG.area,Hf CZ.due]
 simpa only[yX] using this
end
end Go.Proofs.YtbdfinegbjdblaaGreatDoor
namespace Go.Proofs.YtbdfinegbjdblaaGreatDoor
open Go.RowKit Go.Proofs.Tryz
attribute [local go_sem] Oper.semAt_some
def bK(d:Dm)(a:Bool)(Bon By g m:Nat):Array Value:=#[d.v,.bool a,.slice (some ⟨g,0,none⟩) m m,.pointer (some ⟨Bon,0,none⟩),.pointer (some ⟨By,0,none⟩)]
theorem E0(d:Dm)(th:Bool):TK 67 160 (bK d th) (Nn d th):=by
 intro J Jx Jp W0 n l Bon By xs hc hn Z g H O W h hg a7 hl h6
 unfold bK
 have U:=yb hc
 have HP:=yb h
 have H6:=yb h6
 obtain ⟨m,hm⟩:∃m,m=Z.length:=⟨_,rfl⟩
 rw[<-hm] at hl |-
 have HM:=yb hm
 have a6:=yb (And.intro hg a7)
 clear hc h h6 hm hg a7
 obtain ⟨w,t,u⟩:=d
 unfold Dm.v
 dsimp only
 go_enter func67,ntmps67
 refine Ai λK hK=>?_
 go_wp2
 refine hK.o _ _ ?_
 clear hK K
 go_wp2
 have HW:Hid (KS 160 J Jx W0 l Bon By H (λb=>O b\/(W.heap.size<=b/\b < (W.alloc (.cells #[iV w,iV t,iV u] 102)).heap.size)) (W.alloc (.cells #[iV w,iV t,iV u] 102))):=yb (HP.o.below U.o ((yg _ _).alloc (yi _) _))
 have a2:Hid ((W.alloc (.cells #[iV w,iV t,iV u] 102)).heap[W.heap.size]?=some (.cells #[iV w,iV t,iV u] 102 (0,0))):=yb (World.alloc_heap_new _ _)
 have ac:Hid (∀b,O b->b≠Bon->(W.alloc (.cells #[iV w,iV t,iV u] 102)).heap[b]?=W.heap[b]?):=yb (λb hb _=>yp _ _ _ (HP.o.own b hb).2)
 have L:Hid ((W.heap.size≠Bon)/\(λb=>O b\/(W.heap.size<=b/\b < (W.alloc (.cells #[iV w,iV t,iV u] 102)).heap.size)) W.heap.size):=yb ⟨by have:=(HP.o.own _ HP.o.oon).2;omega,.inr ⟨yi _,by simp⟩⟩
 generalize au:W.alloc (.cells #[iV w,iV t,iV u] 102)=W1 at HW a2 ac L |-
 go_loopw [12] (λiv wr=>∃i:Nat,i<=m/\iv=iV i/\Hid (∃j,KS 160 J Jx W0 l Bon By (H+i) j wr/\(∀b,O b->j b)/\j W.heap.size/\wr.heap[W.heap.size]?=some (.cells #[iV w,iV t,iV u] 102 (0,0))/\∀b,O b->b≠Bon->wr.heap[b]?=W.heap[b]?)) (λiv _=>m - (intOf iv).toNat)
 case atStart=>exact ⟨0,yC _,rfl,yb ⟨_,HW.o,λb hb=>.inl hb,L.o.2,a2.o,ac.o⟩⟩
 obtain ⟨i,hi,rfl,HI⟩:=hrel
 obtain ⟨j,q,p,I,hdr,x⟩:=HI.o
 by_cases am:i < m
 ·have V:i < Z.length:=by rw[<-HM.o];exact am
  obtain ⟨⟨vo,vn,vu,M,N,vp,vm,vc,aa⟩,R,hk,T⟩:=H6.o i V
  rw[aa] at R T
  obtain ⟨c0,c1,c2,c3,c4,c5⟩:=BP (A8 R (x g a6.o.1 a6.o.2))
  have ao:(i:Int) < (m:Int):=by omega
  have ap:=yb q
  clear aa R V HI
  have ad:Hid (∀C,C=wr.alloc (.cells #[iV vo,iV vn,iV vu,.string M,iV N,.slice vp vm vc] 40)->∃F,KS 160 J Jx W0 l Bon By (H+i) F C/\(∀b,O b->F b)/\F W.heap.size/\F wr.heap.size/\wr.heap.size≠Bon/\C.heap[W.heap.size]?=some (.cells #[iV w,iV t,iV u] 102 (0,0))/\C.heap[wr.heap.size]?=some (.cells #[iV vo,iV vn,iV vu,.string M,iV N,.slice vp vm vc] 40 (0,0))/\∀b,O b->b≠Bon->C.heap[b]?=W.heap[b]?):=yb (by
   rintro C rfl
   have Q:=(yg wr.heap.size wr).alloc (yi _) (.cells #[iV vo,iV vn,iV vu,.string M,iV N,.slice vp vm vc] 40)
   refine ⟨_,q.below U.o Q,λb hb=>.inl (p b hb),.inl I,.inr ⟨yi _,by simp⟩,?_,(Q.block _ (yd.1 hdr).1).trans hdr,World.alloc_heap_new _ _,λb hb c=>(Q.block b (q.own b (p b hb)).2).trans (x b hb c)⟩
   have:=(q.own _ q.oon).2;omega)
  clear q p I hdr x ap
  go_upto_region 4 with fail
  obtain ⟨F,p2,s2,Y,ag,al,E,P,S⟩:=ad.o _ rfl
  clear ad c0 c1 c2 c3 c4 c5
  generalize aw:wr.heap.size=bx at*
  generalize wr.alloc _=C at p2 E P S |-
  obtain ⟨x0,x1,x2,x3,x4,x5⟩:=DX P
  obtain ⟨d0,d1,d2,ak,aj,an⟩:=IJ E
  have y2:=p2.y'
  have f:=yb p2
  have z:=yb S
  have B:=yb s2
  have a:=yb (And.intro Y L.o.1)
  have A:=yb E
  clear p2 s2 Y ag al E P S ak aj an
  rcases f.o.st with ⟨k,hj⟩|⟨k,ab⟩
  ·have X:=Ey k
   obtain ⟨av,aq,af,ah,hy,a8⟩:=U.o.round (H+i) hk F C hj f.o.size f.o.own
   rw[T] at hy
   unfold Nn Dm.row at hy
   simp only[yQ,yS] at hy
   have ai:=yb a8
   have D:=yb k
   clear a8 T hj k
   refine (xV (n:=n)).1 ?_
   gi_wp2
   refine ai.o.mono ?_
   rintro e G (⟨rfl,hj,hs⟩|⟨rfl,T,hs⟩|⟨ch,rfl,hp,hs⟩)
   ·have r:Hid (∃j,KS 160 J Jx W0 l Bon By (H+i+1) j (G.setCell (aV Bon 0) (.bool true))/\(∀b,O b->j b)/\j W.heap.size/\(G.setCell (aV Bon 0) (.bool true)).heap[W.heap.size]?=some (.cells #[iV w,iV t,iV u] 102 (0,0))/\∀b,O b->b≠Bon->(G.setCell (aV Bon 0) (.bool true)).heap[b]?=W.heap[b]?):=yb (by
     have y:YF G Bon true:=(hs.2 _ f.o.oon).trans D.o
     refine ⟨F,f.o.onTrue U.o hs hj y,B.o,a.o.1,(Ad _ _ a.o.2).trans ((hs.2 _ a.o.1).trans A.o),λb hb c=>(Ad _ _ c).trans ((hs.2 _ (B.o b hb)).trans (z.o b hb c))⟩)
    have s:=(hs.2 _ f.o.oon).trans D.o
    have ae:=Ey s
    have a1:=DO (n:=0) s
    clear hj hs hy s X y2 x0 x1 x2 x3 x4 x5 d0 d1 d2
    gi_wp2
    go_wp2
    exact ⟨⟨i+1,by omega,by push_cast;rfl,r⟩,by simp[intOf];omega⟩
   ·have r:Hid (∃j,KS 160 J Jx W0 l Bon By (H+(i+1)) j (G.setCell (aV Bon 0) (.bool false))/\(∀b,O b->j b)/\j W.heap.size/\(G.setCell (aV Bon 0) (.bool false)).heap[W.heap.size]?=some (.cells #[iV w,iV t,iV u] 102 (0,0))/\∀b,O b->b≠Bon->(G.setCell (aV Bon 0) (.bool false)).heap[b]?=W.heap[b]?):=yb (by
     have y:YF G Bon true:=(hs.2 _ f.o.oon).trans D.o
     refine ⟨F,f.o.onFalse U.o hs T y,B.o,a.o.1,(Ad _ _ a.o.2).trans ((hs.2 _ a.o.1).trans A.o),λb hb c=>(Ad _ _ c).trans ((hs.2 _ (B.o b hb)).trans (z.o b hb c))⟩)
    have s:=(hs.2 _ f.o.oon).trans D.o
    have ae:=Ey s
    have a1:=DO (n:=0) s
    clear T hs hy s X y2 x0 x1 x2 x3 x4 x5 d0 d1 d2
    gi_wp2
    go_wp2
    exact ⟨⟨i+1,by omega,by push_cast;rfl,r⟩,by simp[intOf];omega⟩
   exact ⟨rfl,.inr ⟨ch,rfl,_,hp⟩⟩
  have r:Hid (∃j,KS 160 J Jx W0 l Bon By (H+(i+1)) j (C.setCell (aV Bon 0) (.bool false))/\(∀b,O b->j b)/\j W.heap.size/\(C.setCell (aV Bon 0) (.bool false)).heap[W.heap.size]?=some (.cells #[iV w,iV t,iV u] 102 (0,0))/\∀b,O b->b≠Bon->(C.setCell (aV Bon 0) (.bool false)).heap[b]?=W.heap[b]?):=yb (by
   refine ⟨F,f.o.onFalse U.o (B7.refl _ _) ab k,B.o,a.o.1,(Ad _ _ a.o.2).trans A.o,λb hb c=>(Ad _ _ c).trans (z.o b hb c)⟩)
  have ae:=Ey k
  have a1:=DO (n:=0) k
  clear ab k y2 x0 x1 x2 x3 x4 x5 d0 d1 d2
  go_wp2
  exact ⟨⟨i+1,by omega,by push_cast;rfl,r⟩,by simp[intOf];omega⟩
 obtain rfl:i=m:=by omega
 have ao:decide ((i:Int) < (i:Int))=false:=by simp
 have HF:Hid (∃j,KS 160 J Jx W0 l Bon By (H+i) j wr/\(∀b,O b->j b)/\∀b,O b->b≠Bon->wr.heap[b]?=W.heap[b]?):=yb ⟨j,q,p,x⟩
 clear q p I hdr x HI
 go_wp2
 exact qE (zr rfl _ _ _) rfl (.inl ⟨rfl,HF.o⟩)
end Go.Proofs.YtbdfinegbjdblaaGreatDoor
namespace Go.Proofs.YtbdfinegbjdblaaGreatDoor
open Go.RowKit Go.Proofs.Tryz
set_option linter.unusedVariables false
theorem Ao{ops:Array Oper}{tm:Array Value}{j t:Nat}{b:Bool}(hd:(ops[j]?).bind (·.dst)=some t)(h:tm[t]?.getD undef=.bool b):yielded ops tm j=some b:=by
 unfold yielded
 rw[hd]
 cases a:tm[t]? with
 |none=>rw[a] at h;cases h
 |some v=>rw[a] at h;simp only[Option.getD_some] at h;simp[a,h]
theorem I4{ops:Array Oper}{tm:Array Value}{j t:Nat}(hd:(ops[j]?).bind (·.dst)=some t)(h:tm[t]?.getD undef=undef):yielded ops tm j=none:=by
 unfold yielded
 rw[hd]
 cases a:tm[t]? with
 |none=>simp[a]
 |some v=>rw[a] at h;simp only[Option.getD_some] at h;simp[a,h,undef]
theorem AD{P:Program}{ops:Array Oper}{Q:QT}{i:Nat}{K:Act->World->Prop}{a:Act}{w:World}{o:Oper}(b:ops[i]?=some o)(hw:Region.wanted o (yielded ops a.tmps)=true)(h:o.wp P a w K Q):wpOp P ops Q i K a w:=by
 unfold wpOp;rw[b];simp only[hw,xi];exact .inl h
theorem Be{P:Program}{ops:Array Oper}{Q:QT}{i:Nat}{K:Act->World->Prop}{a:Act}{w:World}{o:Oper}(b:ops[i]?=some o)(hw:Region.wanted o (yielded ops a.tmps)=false)(h:K (a.put o.dst undef) w):wpOp P ops Q i K a w:=by
 unfold wpOp;rw[b];simp only[hw];exact h
theorem At{o:Oper}{y:Nat->Option Bool}{j:Nat}{b:Bool}(hg:o.guard=some (j,b)):Region.wanted o y=(y j==some b):=by
 unfold Region.wanted;rw[hg]
def E7(F:Value)(bx:Nat)(kind:Int)(t1 l3 l4:Bool)(d3 d4:LV)(a:World->Prop)(j:Nat)(v:Value)(w:World):Prop:=match j with
 |0=>v=F
 |1=>v=.agg #[.int .i64 0,.int .i64 1,.int .i64 0]
 |2=>v=.pointer (some ⟨bx,0,none⟩)
 |3=>v=.int .i64 kind
 |4=>v=.bool t1
 |5=>v=.bool t1
 |6=>t1=true->v=.pointer (some ⟨bx,25,none⟩)
 |7=>t1=true->v=.agg d3.toArray
 |8=>t1=true->v=.bool l3
 |9=>t1=true->v=.bool (!l3)
 |10=>if t1=true then v=.bool (!l3) else v=undef
 |11=>t1=true->l3=true->v=.pointer (some ⟨bx,31,none⟩)
 |12=>t1=true->l3=true->v=.agg d4.toArray
 |13=>t1=true->l3=true->v=.bool l4
 |14=>t1=true->l3=true->v=.bool (!l4)
 |15=>t1=true->v=.bool (!l3||!l4)
 |16=>v=.bool (t1&&(!l3||!l4))
 |17=>v=.pointer (some ⟨bx,25,none⟩)
 |18=>v=.agg d3.toArray
 |19=>v=.pointer (some ⟨bx,31,none⟩)
 |20=>v=.agg d4.toArray
 |22=>a w
 |_=>True
def Z8(a:World->Prop)(i:Nat)(w w':World):Prop:=if i=22 then a w' else Below w.heap.size w w'
def Y9(S:World->Prop)(a:Nat->World->Prop)(l:Array Bool)(tm:Array Value)(w:World):Prop:=l.getD 22 false=false->S w/\(l.getD 21 false=true->∃g,tm.getD 201 undef=.slice (some ⟨g,0,none⟩) 2 2/\a g w)
theorem Y9.quiet{S:World->Prop}{a:Nat->World->Prop}{l:Array Bool}{tm:Array Value}{w w2:World}{i t:Nat}{x:Value}(h:Y9 S a l tm w)(hi:i≠22/\i≠21)(c:t≠201)(f:∀V V',S V->Below V.heap.size V V'->S V')(e:∀g V V',a g V->Below V.heap.size V V'->a g V')(hb:Below w.heap.size w w2):Y9 S a (l.setIfInBounds i true) (tm.setIfInBounds t x) w2:=by
 intro h1
 rw[Al hi.1] at h1
 obtain ⟨h2,h3⟩:=h h1
 refine ⟨f _ _ h2 hb,λb=>?_⟩
 rw[Al hi.2] at b
 obtain ⟨g,d,j⟩:=h3 b
 exact ⟨g,by rw[BZ c];exact d,e _ _ _ j hb⟩
theorem Z9{F:Value}{bx:Nat}{kind:Int}{t1 l3 l4:Bool}{d3 d4:LV}{b:World->Prop}(c:∀V V',b V->Below V.heap.size V V'->b V')
 (i j:Nat)(v:Value)(w w':World)(a:j≠i)(d:Z8 b i w w')(h:E7 F bx kind t1 l3 l4 d3 d4 b j v w):E7 F bx kind t1 l3 l4 d3 d4 b j v w':=by
 match j,a,h with
 |0,_,h=>exact h
 |1,_,h=>exact h
 |2,_,h=>exact h
 |3,_,h=>exact h
 |4,_,h=>exact h
 |5,_,h=>exact h
 |6,_,h=>exact h
 |7,_,h=>exact h
 |8,_,h=>exact h
 |9,_,h=>exact h
 |10,_,h=>exact h
 |11,_,h=>exact h
 |12,_,h=>exact h
 |13,_,h=>exact h
 |14,_,h=>exact h
 |15,_,h=>exact h
 |16,_,h=>exact h
 |17,_,h=>exact h
 |18,_,h=>exact h
 |19,_,h=>exact h
 |20,_,h=>exact h
 |21,_,h=>exact h
 |22,a,h=>
  unfold Z8 at d
  rw[ym (λe=>a e.symm)] at d
  exact c _ _ h d
 |_+23,_,h=>exact h
theorem ZT{T:Act}{W0:World}{Q:QT}{N bx Bon By:Nat}{kind:Int}{t1 l3 l4:Bool}{d3 d4:LV}{S Z:World->Prop}{W:Nat->World->Prop}{PJ:List PanicEntry->World->Prop}(ops:Array Oper)(P:Fm Tryz.f66 40=some ops)
 (af:T.tmps.getD 4 undef=.func (.func 67) #[] #[.pointer (some ⟨Bon,0,none⟩),.pointer (some ⟨By,0,none⟩)])(r:T.tmps.getD 16 undef=.pointer (some ⟨bx,0,none⟩))(hz:T.tmps.size=218)(hk:(kind==1)=t1)(h6:ER d3/\ER d4)
 (hS:∀V V',S V->Below V.heap.size V V'->S V')(hG:∀g V V',W g V->Below V.heap.size V V'->W g V')(ac:∀V V',Z V->Below V.heap.size V V'->Z V')
 (hc:∀V,S V->V.rangeAt 0 0 [.int .i64 0,.int .i64 1,.int .i64 0]/\V.cell? ⟨bx,0,none⟩=some (.int .i64 kind)/\V.rangeAt bx 25 d3/\V.rangeAt bx 31 d4)(hb:∀V,S V->W V.heap.size (V.alloc (.cells (d3++d4).toArray 40)))(hn:∀g V,W g V->S V)
 (h3:Lp d3 l3)(h4:Lp d4 l4)(hp:∀g V,W g V->Calls prog 67 #[.agg #[.int .i64 0,.int .i64 1,.int .i64 0],.bool (t1&&(!l3||!l4)),.slice (some ⟨g,0,none⟩) 2 2,.pointer (some ⟨Bon,0,none⟩),.pointer (some ⟨By,0,none⟩)] V λe w'=>(e=.returned (.tuple #[])/\Z w')\/∃Y,e=.panicked Y/\PJ Y w')(a7:∀Y w' a,a.defers=T.defers->PJ Y w'->Q (.panic Y) a w')
 (h0:S W0)(hQ:∀(a:Act) w1,a.tmps.size=218->a.defers=T.defers->(∀t,t∉[180,181,182,183,184,185,186,187,188,189,190,191,192,193,194,195,196,197,198,199,200,201,202]->a.tmps.getD t undef=T.tmps.getD t undef)->Z w1->Q .normal a w1):
  (Code.region 40 ops true).wp prog Q T W0:=by
 obtain rfl:=yf ((rfl:Fm Tryz.f66 40=some _).symm.trans P)
 clear P
 have m:=yb hS
 have n:=yb hG
 have HC:=yb hc
 have HB:=yb hb
 have HP:=yb hp
 have H3:=yb h3
 have H4:=yb h4
 have X:=yb h6
 have HQ:=yb hQ
 have ad:=yb a7
 clear hc hb hp h3 h4 h6 hQ a7
 refine Gz (by kernel_rfl) (Y9 S W) (E7 (.func (.func 67) #[] #[pV Bon 0,pV By 0]) bx kind t1 l3 l4 d3 d4 Z) (Z8 Z) (by kernel_rfl) (by rw[hz];kernel_rfl) (λi j v w w' ab _ hl h=>Z9 ac i j v w w' ab hl h) (λ_=>⟨hS _ _ h0 (yg _ _).drew,λh=>by cases h⟩) ?_ ?_
 ·intro ix listed a w' hM k o l
  have R:=(yd.1 l).1
  have aa:Hid (a.tmps.size=218):=yb (hM.tmps.trans hz)
  have U:Hid (∀f,(Lz _ f 22 ix=true)->listed.getD 22 false=false):=yb (λf hf=>by
   rw[yB];intro h6
   have:=Ag hM.down f 22 ix hf h6
   rw[hM.not_yet k] at this;cases this)
  match ix,R with
  |0,_=>
   have o4:=hM.old k 4 (by kernel_rfl) _ af
   obtain rfl:=yf l
   refine AD rfl (by kernel_rfl) ?_
   go_simp
   exact ⟨_,rfl,(hM.ext.quiet (by decide) (by decide) m.o n.o (yg _ _)),yg _ _,rfl⟩
  |1,_=>
   have hs:S w':=(hM.ext (U.o 12 (by kernel_rfl))).1
   have hr:=(HC.o _ hs).1
   obtain rfl:=yf l
   refine AD rfl (by kernel_rfl) ?_
   refine xQ 102 _ rfl 0 0 rfl _ _ hr qU rfl (by kernel_rfl) ?_
   exact ⟨_,rfl,(hM.ext.quiet (by decide) (by decide) m.o n.o (yg _ _)),yg _ _,rfl⟩
  |2,_=>
   have H:=hM.old k 16 (by kernel_rfl) _ r
   obtain rfl:=yf l
   refine AD rfl (by kernel_rfl) ?_
   go_simp
   exact ⟨_,rfl,(hM.ext.quiet (by decide) (by decide) m.o n.o (yg _ _)),yg _ _,rfl⟩
  |3,_=>
   have K:=hM.dep k 2 182 (by kernel_rfl) (by kernel_rfl)
   unfold E7 at K
   simp only at K
   have hs:S w':=(hM.ext (U.o 12 (by kernel_rfl))).1
   have hr:=(HC.o _ hs).2.1
   obtain rfl:=yf l
   refine AD rfl (by kernel_rfl) ?_
   go_simp
   exact ⟨_,rfl,(hM.ext.quiet (by decide) (by decide) m.o n.o (yg _ _)),yg _ _,rfl⟩
  |4,_=>
   have O:=hM.dep k 3 183 (by kernel_rfl) (by kernel_rfl)
   unfold E7 at O
   simp only at O
   obtain rfl:=yf l
   refine AD rfl (by kernel_rfl) ?_
   go_simp
   exact ⟨_,rfl,(hM.ext.quiet (by decide) (by decide) m.o n.o (yg _ _)),yg _ _,rfl⟩
  |5,_=>
   have M:=hM.dep k 4 184 (by kernel_rfl) (by kernel_rfl)
   unfold E7 at M
   simp only at M
   obtain rfl:=yf l
   refine AD rfl (by kernel_rfl) ?_
   go_simp
   exact ⟨_,rfl,(hM.ext.quiet (by decide) (by decide) m.o n.o (yg _ _)),yg _ _,rfl⟩
  |6,_=>
   have d:=hM.dep k 5 185 (by kernel_rfl) (by kernel_rfl)
   unfold E7 at d
   simp only at d
   have H:=hM.old k 16 (by kernel_rfl) _ r
   obtain rfl:=yf l
   cases t1
   ·refine Be rfl ((At rfl).trans (by rw[Ao (t:=185) (by kernel_rfl) d];rfl)) ?_
    exact ⟨_,rfl,(hM.ext.quiet (by decide) (by decide) m.o n.o (yg _ _)),yg _ _,(λh=>by cases h)⟩
   refine AD rfl ((At rfl).trans (by rw[Ao (t:=185) (by kernel_rfl) d];rfl)) ?_
   go_simp
   exact ⟨_,rfl,(hM.ext.quiet (by decide) (by decide) m.o n.o (yg _ _)),yg _ _,λ_=>rfl⟩
  |7,_=>
   have d:=hM.dep k 5 185 (by kernel_rfl) (by kernel_rfl)
   unfold E7 at d
   simp only at d
   have p:=hM.dep k 6 186 (by kernel_rfl) (by kernel_rfl)
   unfold E7 at p
   simp only at p
   have hs:S w':=(hM.ext (U.o 12 (by kernel_rfl))).1
   have hr:=(HC.o _ hs).2.2.1
   obtain rfl:=yf l
   cases t1
   ·refine Be rfl ((At rfl).trans (by rw[Ao (t:=185) (by kernel_rfl) d];rfl)) ?_
    exact ⟨_,rfl,(hM.ext.quiet (by decide) (by decide) m.o n.o (yg _ _)),yg _ _,(λh=>by cases h)⟩
   refine AD rfl ((At rfl).trans (by rw[Ao (t:=185) (by kernel_rfl) d];rfl)) ?_
   replace p:=p rfl
   refine xQ 40 _ rfl bx 25 (by simpa[Act.eval] using p) d3 _ hr ji rfl (FH (X.o.1).len) ?_
   exact ⟨_,rfl,(hM.ext.quiet (by decide) (by decide) m.o n.o (yg _ _)),yg _ _,λ_=>rfl⟩
  |8,_=>
   have d:=hM.dep k 5 185 (by kernel_rfl) (by kernel_rfl)
   unfold E7 at d
   simp only at d
   have z:=hM.dep k 7 187 (by kernel_rfl) (by kernel_rfl)
   unfold E7 at z
   simp only at z
   obtain rfl:=yf l
   cases t1
   ·refine Be rfl ((At rfl).trans (by rw[Ao (t:=185) (by kernel_rfl) d];rfl)) ?_
    exact ⟨_,rfl,(hM.ext.quiet (by decide) (by decide) m.o n.o (yg _ _)),yg _ _,(λh=>by cases h)⟩
   refine AD rfl ((At rfl).trans (by rw[Ao (t:=185) (by kernel_rfl) d];rfl)) ?_
   replace z:=z rfl
   go_simp
   refine (H3.o _).mono ?_
   rintro e w2 ⟨rfl,E⟩
   exact ⟨_,rfl,(hM.ext.quiet (by decide) (by decide) m.o n.o E),E,λ_=>rfl⟩
  |9,_=>
   have d:=hM.dep k 5 185 (by kernel_rfl) (by kernel_rfl)
   unfold E7 at d
   simp only at d
   have s:=hM.dep k 8 188 (by kernel_rfl) (by kernel_rfl)
   unfold E7 at s
   simp only at s
   obtain rfl:=yf l
   cases t1
   ·refine Be rfl ((At rfl).trans (by rw[Ao (t:=185) (by kernel_rfl) d];rfl)) ?_
    exact ⟨_,rfl,(hM.ext.quiet (by decide) (by decide) m.o n.o (yg _ _)),yg _ _,(λh=>by cases h)⟩
   refine AD rfl ((At rfl).trans (by rw[Ao (t:=185) (by kernel_rfl) d];rfl)) ?_
   replace s:=s rfl
   go_simp
   exact ⟨_,rfl,(hM.ext.quiet (by decide) (by decide) m.o n.o (yg _ _)),yg _ _,λ_=>rfl⟩
  |10,_=>
   have d:=hM.dep k 5 185 (by kernel_rfl) (by kernel_rfl)
   unfold E7 at d
   simp only at d
   have A:=hM.dep k 9 189 (by kernel_rfl) (by kernel_rfl)
   unfold E7 at A
   simp only at A
   obtain rfl:=yf l
   cases t1
   ·refine Be rfl ((At rfl).trans (by rw[Ao (t:=185) (by kernel_rfl) d];rfl)) ?_
    exact ⟨_,rfl,(hM.ext.quiet (by decide) (by decide) m.o n.o (yg _ _)),yg _ _,rfl⟩
   refine AD rfl ((At rfl).trans (by rw[Ao (t:=185) (by kernel_rfl) d];rfl)) ?_
   replace A:=A rfl
   go_simp
   exact ⟨_,rfl,(hM.ext.quiet (by decide) (by decide) m.o n.o (yg _ _)),yg _ _,rfl⟩
  |11,_=>
   have b:=hM.dep k 10 190 (by kernel_rfl) (by kernel_rfl)
   unfold E7 at b
   simp only at b
   have H:=hM.old k 16 (by kernel_rfl) _ r
   obtain rfl:=yf l
   cases t1
   ·rw[ym (by decide)] at b
    refine Be rfl ((At rfl).trans (by rw[I4 (t:=190) (by kernel_rfl) b];rfl)) ?_
    exact ⟨_,rfl,(hM.ext.quiet (by decide) (by decide) m.o n.o (yg _ _)),yg _ _,λh=>by cases h⟩
   rw[yz rfl] at b
   cases l3
   ·refine Be rfl ((At rfl).trans (by rw[Ao (t:=190) (by kernel_rfl) b];rfl)) ?_
    exact ⟨_,rfl,(hM.ext.quiet (by decide) (by decide) m.o n.o (yg _ _)),yg _ _,λ_ h=>by cases h⟩
   refine AD rfl ((At rfl).trans (by rw[Ao (t:=190) (by kernel_rfl) b];rfl)) ?_
   go_simp
   exact ⟨_,rfl,(hM.ext.quiet (by decide) (by decide) m.o n.o (yg _ _)),yg _ _,λ_ _=>rfl⟩
  |12,_=>
   have b:=hM.dep k 10 190 (by kernel_rfl) (by kernel_rfl)
   unfold E7 at b
   simp only at b
   have q:=hM.dep k 11 191 (by kernel_rfl) (by kernel_rfl)
   unfold E7 at q
   simp only at q
   have hs:S w':=(hM.ext (U.o 12 (by kernel_rfl))).1
   have hr:=(HC.o _ hs).2.2.2
   obtain rfl:=yf l
   cases t1
   ·rw[ym (by decide)] at b
    refine Be rfl ((At rfl).trans (by rw[I4 (t:=190) (by kernel_rfl) b];rfl)) ?_
    exact ⟨_,rfl,(hM.ext.quiet (by decide) (by decide) m.o n.o (yg _ _)),yg _ _,λh=>by cases h⟩
   rw[yz rfl] at b
   cases l3
   ·refine Be rfl ((At rfl).trans (by rw[Ao (t:=190) (by kernel_rfl) b];rfl)) ?_
    exact ⟨_,rfl,(hM.ext.quiet (by decide) (by decide) m.o n.o (yg _ _)),yg _ _,λ_ h=>by cases h⟩
   refine AD rfl ((At rfl).trans (by rw[Ao (t:=190) (by kernel_rfl) b];rfl)) ?_
   replace q:=q rfl rfl
   refine xQ 40 _ rfl bx 31 (by simpa[Act.eval] using q) d4 _ hr ji rfl (FH (X.o.2).len) ?_
   exact ⟨_,rfl,(hM.ext.quiet (by decide) (by decide) m.o n.o (yg _ _)),yg _ _,λ_ _=>rfl⟩
  |13,_=>
   have b:=hM.dep k 10 190 (by kernel_rfl) (by kernel_rfl)
   unfold E7 at b
   simp only at b
   have y:=hM.dep k 12 192 (by kernel_rfl) (by kernel_rfl)
   unfold E7 at y
   simp only at y
   obtain rfl:=yf l
   cases t1
   ·rw[ym (by decide)] at b
    refine Be rfl ((At rfl).trans (by rw[I4 (t:=190) (by kernel_rfl) b];rfl)) ?_
    exact ⟨_,rfl,(hM.ext.quiet (by decide) (by decide) m.o n.o (yg _ _)),yg _ _,λh=>by cases h⟩
   rw[yz rfl] at b
   cases l3
   ·refine Be rfl ((At rfl).trans (by rw[Ao (t:=190) (by kernel_rfl) b];rfl)) ?_
    exact ⟨_,rfl,(hM.ext.quiet (by decide) (by decide) m.o n.o (yg _ _)),yg _ _,λ_ h=>by cases h⟩
   refine AD rfl ((At rfl).trans (by rw[Ao (t:=190) (by kernel_rfl) b];rfl)) ?_
   replace y:=y rfl rfl
   go_simp
   refine (H4.o _).mono ?_
   rintro e w2 ⟨rfl,E⟩
   exact ⟨_,rfl,(hM.ext.quiet (by decide) (by decide) m.o n.o E),E,λ_ _=>rfl⟩
  |14,_=>
   have b:=hM.dep k 10 190 (by kernel_rfl) (by kernel_rfl)
   unfold E7 at b
   simp only at b
   have u:=hM.dep k 13 193 (by kernel_rfl) (by kernel_rfl)
   unfold E7 at u
   simp only at u
   obtain rfl:=yf l
   cases t1
   ·rw[ym (by decide)] at b
    refine Be rfl ((At rfl).trans (by rw[I4 (t:=190) (by kernel_rfl) b];rfl)) ?_
    exact ⟨_,rfl,(hM.ext.quiet (by decide) (by decide) m.o n.o (yg _ _)),yg _ _,λh=>by cases h⟩
   rw[yz rfl] at b
   cases l3
   ·refine Be rfl ((At rfl).trans (by rw[Ao (t:=190) (by kernel_rfl) b];rfl)) ?_
    exact ⟨_,rfl,(hM.ext.quiet (by decide) (by decide) m.o n.o (yg _ _)),yg _ _,λ_ h=>by cases h⟩
   refine AD rfl ((At rfl).trans (by rw[Ao (t:=190) (by kernel_rfl) b];rfl)) ?_
   replace u:=u rfl rfl
   go_simp
   exact ⟨_,rfl,(hM.ext.quiet (by decide) (by decide) m.o n.o (yg _ _)),yg _ _,λ_ _=>rfl⟩
  |15,_=>
   have d:=hM.dep k 5 185 (by kernel_rfl) (by kernel_rfl)
   unfold E7 at d
   simp only at d
   have b:=hM.dep k 10 190 (by kernel_rfl) (by kernel_rfl)
   unfold E7 at b
   simp only at b
   have x:=hM.dep k 14 194 (by kernel_rfl) (by kernel_rfl)
   unfold E7 at x
   simp only at x
   obtain rfl:=yf l
   cases t1
   ·refine Be rfl ((At rfl).trans (by rw[Ao (t:=185) (by kernel_rfl) d];rfl)) ?_
    exact ⟨_,rfl,(hM.ext.quiet (by decide) (by decide) m.o n.o (yg _ _)),yg _ _,(λh=>by cases h)⟩
   refine AD rfl ((At rfl).trans (by rw[Ao (t:=185) (by kernel_rfl) d];rfl)) ?_
   rw[yz rfl] at b
   cases l3
   ·go_simp
    exact ⟨_,rfl,(hM.ext.quiet (by decide) (by decide) m.o n.o (yg _ _)),yg _ _,λ_=>rfl⟩
   replace x:=x rfl rfl
   go_simp
   exact ⟨_,rfl,(hM.ext.quiet (by decide) (by decide) m.o n.o (yg _ _)),yg _ _,λ_=>rfl⟩
  |16,_=>
   have d:=hM.dep k 5 185 (by kernel_rfl) (by kernel_rfl)
   unfold E7 at d
   simp only at d
   have B:=hM.dep k 15 195 (by kernel_rfl) (by kernel_rfl)
   unfold E7 at B
   simp only at B
   obtain rfl:=yf l
   refine AD rfl (by kernel_rfl) ?_
   cases t1
   ·go_simp
    exact ⟨_,rfl,(hM.ext.quiet (by decide) (by decide) m.o n.o (yg _ _)),yg _ _,rfl⟩
   replace B:=B rfl
   go_simp
   exact ⟨_,rfl,(hM.ext.quiet (by decide) (by decide) m.o n.o (yg _ _)),yg _ _,rfl⟩
  |17,_=>
   have H:=hM.old k 16 (by kernel_rfl) _ r
   obtain rfl:=yf l
   refine AD rfl (by kernel_rfl) ?_
   go_simp
   exact ⟨_,rfl,(hM.ext.quiet (by decide) (by decide) m.o n.o (yg _ _)),yg _ _,rfl⟩
  |18,_=>
   have C:=hM.dep k 17 197 (by kernel_rfl) (by kernel_rfl)
   unfold E7 at C
   simp only at C
   have hs:S w':=(hM.ext (U.o 12 (by kernel_rfl))).1
   have hr:=(HC.o _ hs).2.2.1
   obtain rfl:=yf l
   refine AD rfl (by kernel_rfl) ?_
   refine xQ 40 _ rfl bx 25 (by simpa[Act.eval] using C) d3 _ hr ji rfl (FH (X.o.1).len) ?_
   exact ⟨_,rfl,(hM.ext.quiet (by decide) (by decide) m.o n.o (yg _ _)),yg _ _,rfl⟩
  |19,_=>
   have H:=hM.old k 16 (by kernel_rfl) _ r
   obtain rfl:=yf l
   refine AD rfl (by kernel_rfl) ?_
   go_simp
   exact ⟨_,rfl,(hM.ext.quiet (by decide) (by decide) m.o n.o (yg _ _)),yg _ _,rfl⟩
  |20,_=>
   have G:=hM.dep k 19 199 (by kernel_rfl) (by kernel_rfl)
   unfold E7 at G
   simp only at G
   have hs:S w':=(hM.ext (U.o 12 (by kernel_rfl))).1
   have hr:=(HC.o _ hs).2.2.2
   obtain rfl:=yf l
   refine AD rfl (by kernel_rfl) ?_
   refine xQ 40 _ rfl bx 31 (by simpa[Act.eval] using G) d4 _ hr ji rfl (FH (X.o.2).len) ?_
   exact ⟨_,rfl,(hM.ext.quiet (by decide) (by decide) m.o n.o (yg _ _)),yg _ _,rfl⟩
  |21,_=>
   have D:=hM.dep k 18 198 (by kernel_rfl) (by kernel_rfl)
   unfold E7 at D
   simp only at D
   have F:=hM.dep k 20 200 (by kernel_rfl) (by kernel_rfl)
   unfold E7 at F
   simp only at F
   have hs:S w':=(hM.ext (U.o 12 (by kernel_rfl))).1
   have hg:=HB.o _ hs
   have ha:Below w'.heap.size w' (w'.alloc (.cells (d3++d4).toArray 40)):=(yg _ _).alloc (yi _) _
   obtain rfl:=yf l
   refine AD rfl (by kernel_rfl) ?_
   refine E5 38 40 _ [d3,d4] 2 rfl (d3++d4) (by simp) rfl (by simp[Act.eval,D,F]) 6 jg (by kernel_rfl) (by intro c hc;simp only[yq,yu,yV] at hc;rcases hc with rfl|rfl;exact (X.o.1).len;exact (X.o.2).len) (by omega) (by omega) ?_
   refine ⟨_,rfl,λh=>⟨m.o _ _ hs ha,λ_=>⟨_,?_,hg⟩⟩,ha,trivial⟩
   simp[Act.put,aa.o]
  |22,_=>
   have L:=hM.dep k 0 180 (by kernel_rfl) (by kernel_rfl)
   unfold E7 at L
   simp only at L
   have I:=hM.dep k 1 181 (by kernel_rfl) (by kernel_rfl)
   unfold E7 at I
   simp only at I
   have J:=hM.dep k 16 196 (by kernel_rfl) (by kernel_rfl)
   unfold E7 at J
   simp only at J
   obtain ⟨hs,ae⟩:=hM.ext (hM.not_yet k)
   obtain ⟨g,a2,hg⟩:=ae (hM.came k 21 (by kernel_rfl))
   rw[yI] at a2
   have hd:=hM.defers
   have a6:22 < listed.size:=by rw[hM.size];decide
   obtain rfl:=yf l
   refine AD rfl (by kernel_rfl) ?_
   go_simp
   refine (HP.o _ _ hg).mono ?_
   rintro e w2 (⟨rfl,a8⟩|⟨Y,rfl,hp⟩)
   ·exact ⟨_,rfl,λh=>(by simp[a6] at h),a8,a8⟩
   exact ad.o _ _ _ hd hp
 intro listed a w1 a1 hM
 refine HQ.o a w1 (hM.tmps.trans hz) hM.defers (λt ht=>hM.free t λi hi o l hd=>ht ?_) ?_
 ·have R:=(yd.1 l).1
  match i,R with
  |0,_=>cases yf l;cases hd;decide
  |1,_=>cases yf l;cases hd;decide
  |2,_=>cases yf l;cases hd;decide
  |3,_=>cases yf l;cases hd;decide
  |4,_=>cases yf l;cases hd;decide
  |5,_=>cases yf l;cases hd;decide
  |6,_=>cases yf l;cases hd;decide
  |7,_=>cases yf l;cases hd;decide
  |8,_=>cases yf l;cases hd;decide
  |9,_=>cases yf l;cases hd;decide
  |10,_=>cases yf l;cases hd;decide
  |11,_=>cases yf l;cases hd;decide
  |12,_=>cases yf l;cases hd;decide
  |13,_=>cases yf l;cases hd;decide
  |14,_=>cases yf l;cases hd;decide
  |15,_=>cases yf l;cases hd;decide
  |16,_=>cases yf l;cases hd;decide
  |17,_=>cases yf l;cases hd;decide
  |18,_=>cases yf l;cases hd;decide
  |19,_=>cases yf l;cases hd;decide
  |20,_=>cases yf l;cases hd;decide
  |21,_=>cases yf l;cases hd;decide
  |22,_=>cases yf l;cases hd;decide
 exact hM.done 22 (a1 22 (by decide)) _ 202 rfl rfl
set_option linter.unusedVariables false
def JT(s xb bx fb fo fi fn fc:Nat)(n fon xon:Int)(q1 q2:Bool)(j:Nat)(v:Value)(_:World):Prop:=match j with
 |0=>v=.int .i64 n
 |1=>v=.bool q1
 |2=>v=.bool q1
 |3=>q1=true->v=.pointer (some ⟨s,22,none⟩)
 |4=>q1=true->v=.slice (some ⟨fb,fo,none⟩) fn fc
 |5=>q1=true->v=.pointer (some ⟨bx,0,none⟩)
 |6=>q1=true->v=.pointer (some ⟨bx,1,none⟩)
 |7=>q1=true->v=.int .i64 (fi:Int)
 |8=>q1=true->v=.pointer (some ⟨fb,fo+fi*12,none⟩)
 |9=>q1=true->v=.pointer (some ⟨fb,fo+fi*12+1,none⟩)
 |10=>q1=true->v=.pointer (some ⟨fb,fo+fi*12+2,none⟩)
 |11=>q1=true->v=.int .i64 fon
 |12=>q1=true->v=.pointer (some ⟨xb,1,none⟩)
 |13=>q1=true->v=.pointer (some ⟨xb,2,none⟩)
 |14=>q1=true->v=.int .i64 xon
 |15=>q1=true->v=.bool q2
 |16=>v=.bool (q1&&q2)
 |17=>(q1&&q2)=true
 |_=>True
theorem aU{r:Act}{W0:World}{Q:QT}{s xb bx fb fo fi fn fc:Nat}{n fon xon:Int}{q1 q2:Bool}(ops:Array Oper)(E:Fm Tryz.f61 8=some ops)
 (P:r.tmps.getD 3 undef=.pointer (some ⟨s,0,none⟩))(U:r.tmps.getD 4 undef=.pointer (some ⟨xb,0,none⟩))(L:r.tmps.getD 13 undef=.pointer (some ⟨bx,0,none⟩))(I:r.tmps.getD 14 undef=.int .i64 n)(Z:r.tmps.size=94)
 (O:W0.cell? ⟨s,22,none⟩=some (.slice (some ⟨fb,fo,none⟩) fn fc))(cb:W0.cell? ⟨bx,1,none⟩=some (.int .i64 (fi:Int)))(W:W0.cell? ⟨fb,fo+fi*12+2,none⟩=some (.int .i64 fon))(X:W0.cell? ⟨xb,2,none⟩=some (.int .i64 xon))(a6:(fi:Int) < (fn:Int))
 (G:decide (1<=n)=q1)(a7:(fon==xon)=q2)
 (hQ:(q1&&q2)=true->∀(a:Act),a.tmps.size=94->a.defers=r.defers->(∀t,t∉[37,38,39,40,41,42,43,44,45,46,47,48,49,50,51,52,53,54]->a.tmps.getD t undef=r.tmps.getD t undef)->Q .normal a W0.drew)
 (hP:(q1&&q2)=false->∀(a:Act),a.defers=r.defers->Q (.panic (It 190)) a W0.drew):
  (Code.region 8 ops true).wp prog Q r W0:=by
 obtain rfl:=yf ((rfl:Fm Tryz.f61 8=some _).symm.trans E)
 clear E
 have Y:=yb hQ
 have HP:=yb hP
 have N:W0.drew.cell? (aV s 22)=some (.slice (some (aV fb fo)) fn fc):=O
 have R:W0.drew.cell? (aV bx 1)=some (iV (fi:Int)):=cb
 have S:W0.drew.cell? (aV fb (fo+fi*12+2))=some (iV fon):=W
 have T:W0.drew.cell? (aV xb 2)=some (iV xon):=X
 clear hQ hP O cb W X
 generalize H:W0.drew=Wd at N R S T
 rw[H] at Y HP
 have a1:(0:Int)<=(fi:Int):=by omega
 refine Gz (by kernel_rfl) (λ_ _ w=>w=Wd) (JT s xb bx fb fo fi fn fc n fon xon q1 q2) (λ_ w w'=>w'=w) (by kernel_rfl) (by rw[Z];kernel_rfl) (λi j v w w' _ _ _ h=>h) H ?_ ?_
 ·clear H
  intro ix listed a w' hM c o d
  have F:=(yd.1 d).1
  obtain rfl:=hM.ext
  match ix,F with
  |0,_=>
   have a2:=hM.old c 14 (by kernel_rfl) _ I
   obtain rfl:=yf d
   refine AD rfl (by kernel_rfl) ?_
   go_simp
   first|exact ⟨_,rfl,rfl,rfl,rfl⟩|exact ⟨_,rfl⟩|exact ⟨_,rfl,rfl⟩|exact rfl
  |1,_=>
   have M:=hM.dep c 0 37 (by kernel_rfl) (by kernel_rfl)
   unfold JT at M
   simp only at M
   obtain rfl:=yf d
   refine AD rfl (by kernel_rfl) ?_
   go_simp
   first|exact ⟨_,rfl,rfl,rfl,by rw[<-G];rfl⟩|exact ⟨_,by rw[<-G];rfl⟩|exact ⟨_,rfl,by rw[<-G];rfl⟩
  |2,_=>
   have K:=hM.dep c 1 38 (by kernel_rfl) (by kernel_rfl)
   unfold JT at K
   simp only at K
   obtain rfl:=yf d
   refine AD rfl (by kernel_rfl) ?_
   go_simp
   first|exact ⟨_,rfl,rfl,rfl,rfl⟩|exact ⟨_,rfl⟩|exact ⟨_,rfl,rfl⟩|exact rfl
  |3,_=>
   have b:=hM.dep c 2 39 (by kernel_rfl) (by kernel_rfl)
   unfold JT at b
   simp only at b
   have o3:=hM.old c 3 (by kernel_rfl) _ P
   obtain rfl:=yf d
   cases q1
   ·refine Be rfl ((At rfl).trans (by rw[Ao (t:=39) (by kernel_rfl) b];rfl)) ?_
    exact ⟨_,rfl,rfl,rfl,λh=>by cases h⟩
   refine AD rfl ((At rfl).trans (by rw[Ao (t:=39) (by kernel_rfl) b];rfl)) ?_
   go_simp
   first|exact ⟨_,rfl,rfl,rfl,λ_=>rfl⟩|exact ⟨_,λ_=>rfl⟩|exact ⟨_,rfl,λ_=>rfl⟩|exact λ_=>rfl
  |4,_=>
   have b:=hM.dep c 2 39 (by kernel_rfl) (by kernel_rfl)
   unfold JT at b
   simp only at b
   have u:=hM.dep c 3 40 (by kernel_rfl) (by kernel_rfl)
   unfold JT at u
   simp only at u
   obtain rfl:=yf d
   cases q1
   ·refine Be rfl ((At rfl).trans (by rw[Ao (t:=39) (by kernel_rfl) b];rfl)) ?_
    exact ⟨_,rfl,rfl,rfl,λh=>by cases h⟩
   refine AD rfl ((At rfl).trans (by rw[Ao (t:=39) (by kernel_rfl) b];rfl)) ?_
   replace u:=u rfl
   go_simp
   first|exact ⟨_,rfl,rfl,rfl,λ_=>rfl⟩|exact ⟨_,λ_=>rfl⟩|exact ⟨_,rfl,λ_=>rfl⟩|exact λ_=>rfl
  |5,_=>
   have b:=hM.dep c 2 39 (by kernel_rfl) (by kernel_rfl)
   unfold JT at b
   simp only at b
   have a8:=hM.old c 13 (by kernel_rfl) _ L
   obtain rfl:=yf d
   cases q1
   ·refine Be rfl ((At rfl).trans (by rw[Ao (t:=39) (by kernel_rfl) b];rfl)) ?_
    exact ⟨_,rfl,rfl,rfl,λh=>by cases h⟩
   refine AD rfl ((At rfl).trans (by rw[Ao (t:=39) (by kernel_rfl) b];rfl)) ?_
   go_simp
   first|exact ⟨_,rfl,rfl,rfl,λ_=>rfl⟩|exact ⟨_,λ_=>rfl⟩|exact ⟨_,rfl,λ_=>rfl⟩|exact λ_=>rfl
  |6,_=>
   have b:=hM.dep c 2 39 (by kernel_rfl) (by kernel_rfl)
   unfold JT at b
   simp only at b
   have l:=hM.dep c 5 42 (by kernel_rfl) (by kernel_rfl)
   unfold JT at l
   simp only at l
   obtain rfl:=yf d
   cases q1
   ·refine Be rfl ((At rfl).trans (by rw[Ao (t:=39) (by kernel_rfl) b];rfl)) ?_
    exact ⟨_,rfl,rfl,rfl,λh=>by cases h⟩
   refine AD rfl ((At rfl).trans (by rw[Ao (t:=39) (by kernel_rfl) b];rfl)) ?_
   replace l:=l rfl
   go_simp
   first|exact ⟨_,rfl,rfl,rfl,λ_=>rfl⟩|exact ⟨_,λ_=>rfl⟩|exact ⟨_,rfl,λ_=>rfl⟩|exact λ_=>rfl
  |7,_=>
   have b:=hM.dep c 2 39 (by kernel_rfl) (by kernel_rfl)
   unfold JT at b
   simp only at b
   have q:=hM.dep c 6 43 (by kernel_rfl) (by kernel_rfl)
   unfold JT at q
   simp only at q
   obtain rfl:=yf d
   cases q1
   ·refine Be rfl ((At rfl).trans (by rw[Ao (t:=39) (by kernel_rfl) b];rfl)) ?_
    exact ⟨_,rfl,rfl,rfl,λh=>by cases h⟩
   refine AD rfl ((At rfl).trans (by rw[Ao (t:=39) (by kernel_rfl) b];rfl)) ?_
   replace q:=q rfl
   go_simp
   first|exact ⟨_,rfl,rfl,rfl,λ_=>rfl⟩|exact ⟨_,λ_=>rfl⟩|exact ⟨_,rfl,λ_=>rfl⟩|exact λ_=>rfl
  |8,_=>
   have b:=hM.dep c 2 39 (by kernel_rfl) (by kernel_rfl)
   unfold JT at b
   simp only at b
   have g:=hM.dep c 4 41 (by kernel_rfl) (by kernel_rfl)
   unfold JT at g
   simp only at g
   have D:=hM.dep c 7 44 (by kernel_rfl) (by kernel_rfl)
   unfold JT at D
   simp only at D
   obtain rfl:=yf d
   cases q1
   ·refine Be rfl ((At rfl).trans (by rw[Ao (t:=39) (by kernel_rfl) b];rfl)) ?_
    exact ⟨_,rfl,rfl,rfl,λh=>by cases h⟩
   refine AD rfl ((At rfl).trans (by rw[Ao (t:=39) (by kernel_rfl) b];rfl)) ?_
   replace g:=g rfl
   replace D:=D rfl
   go_simp
   first|exact ⟨_,rfl,rfl,rfl,λ_=>rfl⟩|exact ⟨_,λ_=>rfl⟩|exact ⟨_,rfl,λ_=>rfl⟩|exact λ_=>rfl
  |9,_=>
   have b:=hM.dep c 2 39 (by kernel_rfl) (by kernel_rfl)
   unfold JT at b
   simp only at b
   have A:=hM.dep c 8 45 (by kernel_rfl) (by kernel_rfl)
   unfold JT at A
   simp only at A
   obtain rfl:=yf d
   cases q1
   ·refine Be rfl ((At rfl).trans (by rw[Ao (t:=39) (by kernel_rfl) b];rfl)) ?_
    exact ⟨_,rfl,rfl,rfl,λh=>by cases h⟩
   refine AD rfl ((At rfl).trans (by rw[Ao (t:=39) (by kernel_rfl) b];rfl)) ?_
   replace A:=A rfl
   go_simp
   first|exact ⟨_,rfl,rfl,rfl,λ_=>rfl⟩|exact ⟨_,λ_=>rfl⟩|exact ⟨_,rfl,λ_=>rfl⟩|exact λ_=>rfl
  |10,_=>
   have b:=hM.dep c 2 39 (by kernel_rfl) (by kernel_rfl)
   unfold JT at b
   simp only at b
   have p:=hM.dep c 9 46 (by kernel_rfl) (by kernel_rfl)
   unfold JT at p
   simp only at p
   obtain rfl:=yf d
   cases q1
   ·refine Be rfl ((At rfl).trans (by rw[Ao (t:=39) (by kernel_rfl) b];rfl)) ?_
    exact ⟨_,rfl,rfl,rfl,λh=>by cases h⟩
   refine AD rfl ((At rfl).trans (by rw[Ao (t:=39) (by kernel_rfl) b];rfl)) ?_
   replace p:=p rfl
   go_simp
   first|exact ⟨_,rfl,rfl,rfl,λ_=>rfl⟩|exact ⟨_,λ_=>rfl⟩|exact ⟨_,rfl,λ_=>rfl⟩|exact λ_=>rfl
  |11,_=>
   have b:=hM.dep c 2 39 (by kernel_rfl) (by kernel_rfl)
   unfold JT at b
   simp only at b
   have x:=hM.dep c 10 47 (by kernel_rfl) (by kernel_rfl)
   unfold JT at x
   simp only at x
   obtain rfl:=yf d
   cases q1
   ·refine Be rfl ((At rfl).trans (by rw[Ao (t:=39) (by kernel_rfl) b];rfl)) ?_
    exact ⟨_,rfl,rfl,rfl,λh=>by cases h⟩
   refine AD rfl ((At rfl).trans (by rw[Ao (t:=39) (by kernel_rfl) b];rfl)) ?_
   replace x:=x rfl
   go_simp
   first|exact ⟨_,rfl,rfl,rfl,λ_=>rfl⟩|exact ⟨_,λ_=>rfl⟩|exact ⟨_,rfl,λ_=>rfl⟩|exact λ_=>rfl
  |12,_=>
   have b:=hM.dep c 2 39 (by kernel_rfl) (by kernel_rfl)
   unfold JT at b
   simp only at b
   have o4:=hM.old c 4 (by kernel_rfl) _ U
   obtain rfl:=yf d
   cases q1
   ·refine Be rfl ((At rfl).trans (by rw[Ao (t:=39) (by kernel_rfl) b];rfl)) ?_
    exact ⟨_,rfl,rfl,rfl,λh=>by cases h⟩
   refine AD rfl ((At rfl).trans (by rw[Ao (t:=39) (by kernel_rfl) b];rfl)) ?_
   go_simp
   first|exact ⟨_,rfl,rfl,rfl,λ_=>rfl⟩|exact ⟨_,λ_=>rfl⟩|exact ⟨_,rfl,λ_=>rfl⟩|exact λ_=>rfl
  |13,_=>
   have b:=hM.dep c 2 39 (by kernel_rfl) (by kernel_rfl)
   unfold JT at b
   simp only at b
   have m:=hM.dep c 12 49 (by kernel_rfl) (by kernel_rfl)
   unfold JT at m
   simp only at m
   obtain rfl:=yf d
   cases q1
   ·refine Be rfl ((At rfl).trans (by rw[Ao (t:=39) (by kernel_rfl) b];rfl)) ?_
    exact ⟨_,rfl,rfl,rfl,λh=>by cases h⟩
   refine AD rfl ((At rfl).trans (by rw[Ao (t:=39) (by kernel_rfl) b];rfl)) ?_
   replace m:=m rfl
   go_simp
   first|exact ⟨_,rfl,rfl,rfl,λ_=>rfl⟩|exact ⟨_,λ_=>rfl⟩|exact ⟨_,rfl,λ_=>rfl⟩|exact λ_=>rfl
  |14,_=>
   have b:=hM.dep c 2 39 (by kernel_rfl) (by kernel_rfl)
   unfold JT at b
   simp only at b
   have z:=hM.dep c 13 50 (by kernel_rfl) (by kernel_rfl)
   unfold JT at z
   simp only at z
   obtain rfl:=yf d
   cases q1
   ·refine Be rfl ((At rfl).trans (by rw[Ao (t:=39) (by kernel_rfl) b];rfl)) ?_
    exact ⟨_,rfl,rfl,rfl,λh=>by cases h⟩
   refine AD rfl ((At rfl).trans (by rw[Ao (t:=39) (by kernel_rfl) b];rfl)) ?_
   replace z:=z rfl
   go_simp
   first|exact ⟨_,rfl,rfl,rfl,λ_=>rfl⟩|exact ⟨_,λ_=>rfl⟩|exact ⟨_,rfl,λ_=>rfl⟩|exact λ_=>rfl
  |15,_=>
   have b:=hM.dep c 2 39 (by kernel_rfl) (by kernel_rfl)
   unfold JT at b
   simp only at b
   have k:=hM.dep c 11 48 (by kernel_rfl) (by kernel_rfl)
   unfold JT at k
   simp only at k
   have B:=hM.dep c 14 51 (by kernel_rfl) (by kernel_rfl)
   unfold JT at B
   simp only at B
   obtain rfl:=yf d
   cases q1
   ·refine Be rfl ((At rfl).trans (by rw[Ao (t:=39) (by kernel_rfl) b];rfl)) ?_
    exact ⟨_,rfl,rfl,rfl,λh=>by cases h⟩
   refine AD rfl ((At rfl).trans (by rw[Ao (t:=39) (by kernel_rfl) b];rfl)) ?_
   replace k:=k rfl
   replace B:=B rfl
   go_simp
   first|exact ⟨_,rfl,rfl,rfl,λ_=>rfl⟩|exact ⟨_,λ_=>rfl⟩|exact ⟨_,rfl,λ_=>rfl⟩|exact λ_=>rfl
  |16,_=>
   have b:=hM.dep c 2 39 (by kernel_rfl) (by kernel_rfl)
   unfold JT at b
   simp only at b
   have y:=hM.dep c 15 52 (by kernel_rfl) (by kernel_rfl)
   unfold JT at y
   simp only at y
   obtain rfl:=yf d
   refine AD rfl (by kernel_rfl) ?_
   cases q1
   ·go_simp
    first|exact ⟨_,rfl,rfl,rfl,rfl⟩|exact ⟨_,rfl⟩|exact ⟨_,rfl,rfl⟩
   replace y:=y rfl
   go_simp
   first|exact ⟨_,rfl,rfl,rfl,rfl⟩|exact ⟨_,rfl⟩|exact ⟨_,rfl,rfl⟩
  |17,_=>
   have C:=hM.dep c 16 53 (by kernel_rfl) (by kernel_rfl)
   unfold JT at C
   simp only at C
   have hd:=hM.defers
   obtain rfl:=yf d
   refine AD rfl (by kernel_rfl) ?_
   cases f:(q1&&q2)
   ·rw[f] at C
    go_simp
    refine (Fa 190 _).mono ?_
    rintro e w2 ⟨rfl,rfl⟩
    exact HP.o f _ hd
   rw[f] at C
   go_simp
   refine (Ei 190 _).mono ?_
   rintro e w2 ⟨rfl,rfl⟩
   first|exact ⟨_,rfl,rfl,rfl,f⟩|exact ⟨_,rfl,rfl,f⟩|exact ⟨_,f⟩|exact ⟨_,rfl,f⟩
 intro listed a w1 J hM
 obtain rfl:=hM.ext
 have V:(q1&&q2)=true:=hM.done 17 (J 17 (by decide)) _ 54 rfl rfl
 refine Y.o V a (hM.tmps.trans Z) hM.defers (λt ht=>hM.free t λi hi o d hd=>ht ?_)
 have F:=(yd.1 d).1
 match i,F with
 |0,_=>cases yf d;cases hd;decide
 |1,_=>cases yf d;cases hd;decide
 |2,_=>cases yf d;cases hd;decide
 |3,_=>cases yf d;cases hd;decide
 |4,_=>cases yf d;cases hd;decide
 |5,_=>cases yf d;cases hd;decide
 |6,_=>cases yf d;cases hd;decide
 |7,_=>cases yf d;cases hd;decide
 |8,_=>cases yf d;cases hd;decide
 |9,_=>cases yf d;cases hd;decide
 |10,_=>cases yf d;cases hd;decide
 |11,_=>cases yf d;cases hd;decide
 |12,_=>cases yf d;cases hd;decide
 |13,_=>cases yf d;cases hd;decide
 |14,_=>cases yf d;cases hd;decide
 |15,_=>cases yf d;cases hd;decide
 |16,_=>cases yf d;cases hd;decide
 |17,_=>cases yf d;cases hd;decide
end Go.Proofs.YtbdfinegbjdblaaGreatDoor
namespace Go.Proofs.YtbdfinegbjdblaaGreatDoor
open Go.RowKit Go.Proofs.Tryz
attribute [local go_sem] Oper.semAt_some
def bN(Bon By g m:Nat):Array Value:=#[.slice (some ⟨g,0,none⟩) m m,.pointer (some ⟨Bon,0,none⟩),.pointer (some ⟨By,0,none⟩)]
theorem I8:TK 58 112 bN Xm:=by
 intro J Jx Jp W0 n l Bon By xs hc hn I g B O W h hg M hl h6
 unfold bN
 have X:=yb hc
 have HP:=yb h
 have H6:=yb h6
 obtain ⟨m,hm⟩:∃m,m=I.length:=⟨_,rfl⟩
 rw[<-hm] at hl |-
 have HM:=yb hm
 have L:=yb (And.intro hg M)
 clear hc h h6 hm hg M
 go_enter func58,ntmps58
 go_wp2
 go_loopw [8] (λiv wr=>∃i:Nat,i<=m/\iv=iV i/\Hid (∃k,KS 112 J Jx W0 l Bon By (B+i) k wr/\(∀b,O b->k b)/\∀b,O b->b≠Bon->wr.heap[b]?=W.heap[b]?)) (λiv _=>m - (intOf iv).toNat)
 case atStart=>exact ⟨0,yC _,rfl,yb ⟨_,HP.o,λb hb=>hb,λ_ _ _=>rfl⟩⟩
 obtain ⟨i,hi,rfl,HI⟩:=hrel
 obtain ⟨k,q,f,r⟩:=HI.o
 by_cases a6:i < m
 ·have G:i < I.length:=by rw[<-HM.o];exact a6
  obtain ⟨⟨vo,vn,vu,x,y,vp,vm,vc,Q⟩,A,hk,F⟩:=H6.o i G
  rw[Q] at A F
  obtain ⟨c0,c1,c2,c3,c4,c5⟩:=BP (A8 A (r g L.o.1 L.o.2))
  have a7:(i:Int) < (m:Int):=by omega
  have a8:=yb q
  clear Q A G HI
  have S:Hid (∀v,v=wr.alloc (.cells #[iV vo,iV vn,iV vu,.string x,iV y,.slice vp vm vc] 40)->∃D,KS 112 J Jx W0 l Bon By (B+i) D v/\(∀b,O b->D b)/\v.heap[wr.heap.size]?=some (.cells #[iV vo,iV vn,iV vu,.string x,iV y,.slice vp vm vc] 40 (0,0))/\∀b,O b->b≠Bon->v.heap[b]?=W.heap[b]?):=yb (by
   rintro v rfl
   have P:=(yg wr.heap.size wr).alloc (yi _) (.cells #[iV vo,iV vn,iV vu,.string x,iV y,.slice vp vm vc] 40)
   exact ⟨_,q.below X.o P,λb hb=>.inl (f b hb),World.alloc_heap_new _ _,λb hb a=>(P.block b (q.own b (f b hb)).2).trans (r b hb a)⟩)
  clear q f r a8
  go_upto_region 3 with fail
  obtain ⟨D,Y,s2,z,C⟩:=S.o _ rfl
  clear S c0 c1 c2 c3 c4 c5
  generalize ac:wr.heap.size=bx at*
  generalize wr.alloc _=v at Y z C |-
  obtain ⟨x0,x1,x2,x3,x4,x5⟩:=DX z
  have y2:=Y.y'
  have c:=yb Y
  have t:=yb C
  have u:=yb s2
  clear Y s2 z C
  rcases c.o.st with ⟨d,V⟩|⟨d,R⟩
  ·have H:=Ey d
   obtain ⟨ab,aa,U,a1,Z,N⟩:=X.o.round (B+i) hk D v V c.o.size c.o.own
   rw[F] at Z
   unfold Xm at Z
   have a2:=yb N
   have w:=yb d
   clear N F V d
   refine (xV (n:=n)).1 ?_
   gi_wp2
   refine a2.o.mono ?_
   rintro e E (⟨rfl,V,hs⟩|⟨rfl,F,hs⟩|⟨ch,rfl,hp,hs⟩)
   ·have j:Hid (∃k,KS 112 J Jx W0 l Bon By (B+i+1) k (E.setCell (aV Bon 0) (.bool true))/\(∀b,O b->k b)/\∀b,O b->b≠Bon->(E.setCell (aV Bon 0) (.bool true)).heap[b]?=W.heap[b]?):=yb (by
     have s:YF E Bon true:=(hs.2 _ c.o.oon).trans w.o
     refine ⟨D,c.o.onTrue X.o hs V s,u.o,λb hb a=>(Ad _ _ a).trans ((hs.2 _ (u.o b hb)).trans (t.o b hb a))⟩)
    have p:=(hs.2 _ c.o.oon).trans w.o
    have T:=Ey p
    have K:=DO (n:=0) p
    clear V hs Z p H y2 x0 x1 x2 x3 x4 x5
    gi_wp2
    go_wp2
    exact ⟨⟨i+1,by omega,by push_cast;rfl,j⟩,by simp[intOf];omega⟩
   ·have j:Hid (∃k,KS 112 J Jx W0 l Bon By (B+(i+1)) k (E.setCell (aV Bon 0) (.bool false))/\(∀b,O b->k b)/\∀b,O b->b≠Bon->(E.setCell (aV Bon 0) (.bool false)).heap[b]?=W.heap[b]?):=yb (by
     have s:YF E Bon true:=(hs.2 _ c.o.oon).trans w.o
     refine ⟨D,c.o.onFalse X.o hs F s,u.o,λb hb a=>(Ad _ _ a).trans ((hs.2 _ (u.o b hb)).trans (t.o b hb a))⟩)
    have p:=(hs.2 _ c.o.oon).trans w.o
    have T:=Ey p
    have K:=DO (n:=0) p
    clear F hs Z p H y2 x0 x1 x2 x3 x4 x5
    gi_wp2
    go_wp2
    exact ⟨⟨i+1,by omega,by push_cast;rfl,j⟩,by simp[intOf];omega⟩
   exact ⟨rfl,.inr ⟨ch,rfl,_,hp⟩⟩
  have j:Hid (∃k,KS 112 J Jx W0 l Bon By (B+(i+1)) k (v.setCell (aV Bon 0) (.bool false))/\(∀b,O b->k b)/\∀b,O b->b≠Bon->(v.setCell (aV Bon 0) (.bool false)).heap[b]?=W.heap[b]?):=yb (by
   refine ⟨D,c.o.onFalse X.o (B7.refl _ _) R d,u.o,λb hb a=>(Ad _ _ a).trans (t.o b hb a)⟩)
  have T:=Ey d
  have K:=DO (n:=0) d
  clear R d y2 x0 x1 x2 x3 x4 x5
  go_wp2
  exact ⟨⟨i+1,by omega,by push_cast;rfl,j⟩,by simp[intOf];omega⟩
 obtain rfl:i=m:=by omega
 have a7:decide ((i:Int) < (i:Int))=false:=by simp
 have HF:Hid (∃k,KS 112 J Jx W0 l Bon By (B+i) k wr/\(∀b,O b->k b)/\∀b,O b->b≠Bon->wr.heap[b]?=W.heap[b]?):=yb ⟨k,q,f,r⟩
 clear q f r HI
 go_wp2
 exact qE (zr rfl _ _ _) rfl (.inl ⟨rfl,HF.o⟩)
end Go.Proofs.YtbdfinegbjdblaaGreatDoor
