/- expand.examine (printed by gen_kl.py). -/
import Derived.Test.YtbdfinegbjdblaaGreatDoorWq0
import Derived.Test.YtbdfinegbjdblaaGreatDoorWq9
import Derived.Test.YtbdfinegbjdblaaGreatDoorWq16
set_option maxRecDepth 5000
set_option maxHeartbeats 16000000
set_option linter.unusedSimpArgs false
namespace Go.Proofs.YtbdfinegbjdblaaGreatDoor
open Go.RowKit
def IS(x:QH):LV:=[.string x.name,.int .i64 x.reach,.int .i64 x.area,.int .i64 x.crop]
def JS(x:QI):LV:=[.string x.name,.int .i64 x.need]
def Jr(x:QJ):LV:=[.string x.name,.int .i64 x.farm,.int .i64 x.reach,.int .i64 x.due]
def Nl{α:Type}(f:α->LV)(cs:LV)(x:α):Prop:=cs=f x
structure Ij (N:Nat->Prop) (w:World) (hr hf hc hg hd hw:AA) (cs:List Value) (d:Bk):Prop where
 cells:cs=DW d.name d.hours d.cap d.start hr hf hc hg hd hw
 reaches:Bg N w 12 (Nl Ft) hr d.reaches
 farms:Bg N w 4 (Nl IS) hf d.farms
 crops:Bg N w 2 (Nl JS) hc d.crops
 rights:Bg N w 10 (Nl AZ) hg d.rights
 duties:Bg N w 4 (Nl Jr) hd d.duties
theorem Ij.same{N N':NP}{w w':World}{hr hf hc hg hd hw:AA}{cs:LV}{d:Bk}(h:Ij N w hr hf hc hg hd hw cs d)(a:∀b,N b->N' b)(hb:∀b,N b->w'.heap[b]?=w.heap[b]?):Ij N' w' hr hf hc hg hd hw cs d:=
 ⟨h.cells,h.reaches.same a hb λ_ _ h=>h,h.farms.same a hb λ_ _ h=>h,h.crops.same a hb λ_ _ h=>h,h.rights.same a hb λ_ _ h=>h,h.duties.same a hb λ_ _ h=>h⟩
theorem I1{α:Type}{p:α->Bool}{l:List α}{k:Nat}(h:∀j (a:j < l.length),j < k->p l[j]=true)(c:l.length<=k):l.all p=true:=by
 rw[zj]
 intro x b
 obtain ⟨j,a,rfl⟩:=zq.1 b
 exact h j a (by omega)
theorem EK{α:Type}{p:α->Bool}{l:List α}{k:Nat}(a:k < l.length)(h:p l[k]=false):l.all p=false:=by
 rw[xH]
 exact ⟨_,yR a,by simp[h]⟩
theorem DY{α:Type}{p:Nat->α->Bool}{l:List α}{k:Nat}(h:∀j (a:j < l.length),j < k->p j l[j]=true)(e:k < l.length)(c:p k l[k]=true):∀j (a:j < l.length),j < k+1->p j l[j]=true:=by
 intro j a d
 rcases xp j k with b|b
 ·exact h j a b
 obtain rfl:j=k:=by omega
 exact c
theorem TF{l:List Jn}(h:∀j (b:j < l.length),KP j l[j]=true):Ii l=true:=by
 unfold Ii
 refine I1 (k:=l.zipIdx.length) (λj b _=>?_) (yi _)
 have a:j < l.length:=by simpa using b
 simpa using h j a
theorem IT{l:List Jn}{k:Nat}(a:k < l.length)(h:KP k l[k]=false):Ii l=false:=by
 unfold Ii
 exact EK (k:=k) (by simpa using a) (by simpa using h)
theorem Sv(a b c:Bool):(a=false\/(a=true/\b=false)\/(a=true/\b=true/\c=false))\/(a=true/\b=true/\c=true):=by
 cases a<;>cases b<;>cases c<;>simp
def WE(ok:Bool)(e:Int)(w:World)(x:Ending)(w':World):Prop:=Below w.heap.size w w'/\if ok=true then x=.returned (.tuple #[]) else x=.panicked (It e)
theorem Lm{N:NP}{w:World}{hr hf hc hg hd hw:AA}{cs:LV}{d:Bk}(e:Int)(h:Ij N w hr hf hc hg hd hw cs d)(hN:∀b,N b->b < w.heap.size):Calls Tryz.prog 30 #[.agg cs.toArray,.int .i64 e] w (WE (Gn d) e w):=by
 obtain ⟨dn,hours,cap,start,lr,lf,lc,lg,ld⟩:=d
 have aq:=h.cells
 have HR:=yb h.reaches
 have HF:=yb h.farms
 have HC:=yb h.crops
 have HG:=yb h.rights
 have HD:=yb h.duties
 have aj:=yb hN
 have au:=h.reaches.1
 have ao:=h.farms.1
 have am:=h.crops.1
 dsimp only at aq HR HF HC HG HD au ao am
 clear h hN
 obtain ⟨ra,rn,rc⟩:=hr
 obtain ⟨fa,fn,fc⟩:=hf
 obtain ⟨ca,cn,cc⟩:=hc
 obtain ⟨ga,gn,gc⟩:=hg
 obtain ⟨da,dd,dc⟩:=hd
 obtain ⟨wa,wn,wc⟩:=hw
 dsimp only at au ao am
 have a:=yb (FM w cs 31)
 have an:=yb aq
 obtain ⟨ok,ai⟩:∃ok,ok=Gn ⟨dn,hours,cap,start,lr,lf,lc,lg,ld⟩:=⟨_,rfl⟩
 rw[<-ai]
 unfold Gn at ai
 dsimp only at ai
 rw[<-au,<-ao,<-am] at ai
 have ad:=yb ai
 have HY:=yb (λw=>Ei e w)
 have ag:=yb (λw=>Fa e w)
 clear ai au ao am
 rw[aq]
 unfold DW AA.v
 dsimp only
 go_enter Tryz.func30,Tryz.ntmps30
 refine Ai λK hK=>?_
 go_wp2
 refine hK.o _ _ ?_
 clear hK K
 replace a:Hid (MJ w cs 31 (w.alloc (.cells #[.string dn,iV hours,iV cap,iV start,.slice ra rn rc,.slice fa fn fc,.slice ca cn cc,.slice ga gn gc,.slice da dd dc,.slice wa wn wc] 31))):=yb (by have h:=a.o;rw[an.o] at h |-;exact h)
 have HX:Hid (∀V:World,MJ w cs 31 V->V.cell? (aV w.heap.size 0)=some (.string dn)/\V.cell? (aV w.heap.size 1)=some (iV hours)/\V.cell? (aV w.heap.size 2)=some (iV cap)/\V.cell? (aV w.heap.size 3)=some (iV start)/\V.cell? (aV w.heap.size 4)=some (.slice ra rn rc)/\V.cell? (aV w.heap.size 5)=some (.slice fa fn fc)/\V.cell? (aV w.heap.size 6)=some (.slice ca cn cc)/\V.cell? (aV w.heap.size 7)=some (.slice ga gn gc)/\V.cell? (aV w.heap.size 8)=some (.slice da dd dc)/\V.cell? (aV w.heap.size 9)=some (.slice wa wn wc)):=yb (λV hV=>by have h:=hV.x;rw[an.o] at h;exact BV h)
 clear aq
 generalize hE:w.alloc _=wr
 replace a:Hid (MJ w cs 31 wr):=yb (by rw[<-hE];exact a.o)
 clear hE
 have H1:=yb (λW:World=>DV 1 hours 4096 W)
 have H2:=yb (λW:World=>Eu 0 start cap 1099511627776 W)
 obtain ⟨b1,ap⟩:∃b,AL [1,hours,4096]=b:=⟨_,rfl⟩
 obtain ⟨b2,ax⟩:∃b,AL [0,start,cap,1099511627776]=b:=⟨_,rfl⟩
 obtain ⟨b3,b9⟩:∃b,decide (0 < rn)=b:=⟨_,rfl⟩
 rw[ap] at H1
 rw[ax] at H2
 have ba:=yb ap
 have ah:=yb (And.intro ap (And.intro ax b9))
 clear ap ax
 obtain ⟨I,J,G,A,D,C,B,H,E,F⟩:=HX.o _ a.o
 refine Ai λK hK=>?_
 rcases Sv b1 b2 b3 with hz|⟨rfl,rfl,rfl⟩
 ·rcases hz with rfl|⟨rfl,rfl⟩|⟨rfl,rfl,rfl⟩
  all_goals
   go_wp2_with (first
   |(go_at_call 49;with_reducible refine (H1.o _).mono ?_;rintro L w2 ⟨rfl,hb⟩;have g:=yb (a.o.up hb);clear hb a I J G A D C B H E F;have a:=g;clear g;obtain ⟨I,J,G,A,D,C,B,H,E,F⟩:=HX.o _ a.o)
   |(go_at_call 49;with_reducible refine (H2.o _).mono ?_;rintro L w2 ⟨rfl,hb⟩;have g:=yb (a.o.up hb);clear hb a I J G A D C B H E F;have a:=g;clear g;obtain ⟨I,J,G,A,D,C,B,H,E,F⟩:=HX.o _ a.o)
   |(go_at_call 29;with_reducible refine (ag.o _).mono ?_;rintro L w3 ⟨rfl,rfl⟩))
   have Z:ok=false:=by
    rw[ad.o,ah.o.1,ah.o.2.1,ah.o.2.2]
    simp
   rw[Z]
   exact ⟨rfl,a.o.below,rfl⟩
 go_wp2_with (first
  |(go_at_call 49;with_reducible refine (H1.o _).mono ?_;rintro L w2 ⟨rfl,hb⟩;have g:=yb (a.o.up hb);clear hb a I J G A D C B H E F;have a:=g;clear g;obtain ⟨I,J,G,A,D,C,B,H,E,F⟩:=HX.o _ a.o)
  |(go_at_call 49;with_reducible refine (H2.o _).mono ?_;rintro L w2 ⟨rfl,hb⟩;have g:=yb (a.o.up hb);clear hb a I J G A D C B H E F;have a:=g;clear g;obtain ⟨I,J,G,A,D,C,B,H,E,F⟩:=HX.o _ a.o)
  |(go_at_call 29;with_reducible refine (HY.o _).mono ?_;rintro L w3 ⟨rfl,rfl⟩))
 refine hK.o _ _ ?_
 clear hK H1 H2 I J G A D C B H E F b9
 have HH:Hid (1<=hours/\hours<=4096):=yb (by have:=ba.o;simp[AL] at this;exact this)
 have m:Hid (rn=lr.length):=yb HR.o.1
 have O:Hid (lr.length<=140737488355328):=yb HR.o.2.1
 refine Ai λK hK=>?_
 obtain ⟨I,J,G,A,D,C,B,H,E,F⟩:=HX.o _ a.o
 go_wp2_with fail
 clear I J G A D C B H E F
 go_loopw [40] (λiv wr=>∃i:Nat,i<=rn/\iv=iV i/\Hid (MJ w cs 31 wr)/\Hid (∀j (hj:j < lr.length),j < i->KP j lr[j]=true)) (λiv _=>rn - (intOf iv).toNat)
 case atStart=>exact ⟨0,yC _,rfl,a,yb (λj _ hj=>absurd hj (by omega))⟩
 clear a
 obtain ⟨i,hi,rfl,a,HT⟩:=hrel
 by_cases P:i < rn
 ·have M:i < lr.length:=by rw[<-m.o];exact P
  have U:wrap64 ((i:Int)+1)=((i+1:Nat):Int):=by rw[Ay (by have:=O.o;omega)];push_cast;rfl
  have a7:=yb U
  clear U
  obtain ⟨b,o,row,R,Q,t,T,l⟩:=HR.o.2.2 i M
  dsimp only at R
  subst R
  have S:Hid (wr.rangeAt b (o+i*12) row):=yb (A8 T (a.o.below.block _ (aj.o b Q)))
  have Y:=yb t
  have s:Hid (∀v∈row,v.oneCell'=true):=yb (by rw[l];simp[Ft,Value.oneCell'])
  have y:=yb l
  have X:Hid (MJ w cs 31 (wr.alloc (.cells row.toArray 82))):=yb (a.o.up ((yg _ _).alloc (yi _) _))
  have f:Hid ((wr.alloc (.cells row.toArray 82)).heap[wr.heap.size]?=some (.cells row.toArray 82 (0,0))):=yb (World.alloc_heap_new _ _)
  have a6:(i:Int) < (rn:Int):=by omega
  have r:=yb M
  obtain ⟨bi,k⟩:∃q,KP i lr[i]=q:=⟨_,rfl⟩
  have u:=yb k
  clear T Q t l hi P
  go_upto_region 5 with (first
   |(with_reducible refine yj rfl 82 _ rfl b (o+i*12) (by kernel_rfl) row _ S.o jA (by kernel_rfl) (by rw[Y.o];kernel_rfl) ?_)
   |(with_reducible refine yt rfl 82 _ _ rfl wr.heap.size row.toArray (by kernel_rfl) (by kernel_rfl) 82 _ (World.alloc_heap_new _ _) (by rw[yA,Y.o];kernel_rfl) (by simp[Y.o]) (yL s.o) ?_;rw[World.setRow_alloc_new]))
  generalize a8:wr.heap.size=bx at f |-
  clear a8 a S s
  have a:=X
  clear X
  generalize wr.alloc _=wr at a f |-
  have ac:Hid (wr.rangeAt bx 0 row):=yb (Ae f.o)
  have ak:Hid (∀W,Calls Tryz.prog 50 #[iV i,.agg row.toArray] W λe w'=>e=.returned (.bool bi)/\Below W.heap.size W w'):=yb (λW=>by rw[y.o,<-u.o];exact UA i _ W)
  cases bi
  ·skip
   all_goals
    go_wp2_with (first
     |(with_reducible refine yj rfl 82 _ rfl bx 0 (by kernel_rfl) row _ ac.o jA (by kernel_rfl) (by rw[Y.o];kernel_rfl) ?_)
     |(go_at_call 50;with_reducible refine (ak.o _).mono ?_;rintro L w2 ⟨rfl,hb⟩;have g:=yb (a.o.up hb);clear hb a;have a:=g;clear g)
     |(go_at_call 29;with_reducible refine (ag.o _).mono ?_;rintro L w3 ⟨rfl,rfl⟩))
    have Z:ok=false:=by
     rw[ad.o,IT r.o u.o]
     simp
    rw[Z]
    exact ⟨rfl,a.o.below,rfl⟩
  skip
  all_goals
   go_wp2_with (first
    |(with_reducible refine yj rfl 82 _ rfl bx 0 (by kernel_rfl) row _ ac.o jA (by kernel_rfl) (by rw[Y.o];kernel_rfl) ?_)
    |(go_at_call 50;with_reducible refine (ak.o _).mono ?_;rintro L w2 ⟨rfl,hb⟩;have g:=yb (a.o.up hb);clear hb a;have a:=g;clear g)
    |(go_at_call 29;with_reducible refine (HY.o _).mono ?_;rintro L w3 ⟨rfl,rfl⟩))
   rw[a7.o]
   exact ⟨⟨i+1,by have:=m.o;have:=r.o;omega,rfl,a,yb (DY (p:=λIX EL=>KP IX EL) HT.o r.o u.o)⟩,by simp[intOf];have:=m.o;have:=r.o;omega⟩
 obtain rfl:rn=i:=by omega
 have a6:decide ((rn:Int) < (rn:Int))=false:=by simp
 have n:Hid (Ii lr=true):=yb (TF λj hj=>HT.o j hj (by rw[m.o];exact hj))
 clear HT m O
 go_wp2
 refine hK.o _ _ ?_
 clear hK
 have b8:=n
 clear n
 have m:Hid (cn=lc.length):=yb HC.o.1
 have O:Hid (lc.length<=140737488355328):=yb HC.o.2.1
 refine Ai λK hK=>?_
 obtain ⟨I,J,G,A,D,C,B,H,E,F⟩:=HX.o _ a.o
 go_wp2_with fail
 clear I J G A D C B H E F
 go_loopw [54] (λiv wr=>∃i:Nat,i<=cn/\iv=iV i/\Hid (MJ w cs 31 wr)/\Hid (∀j (hj:j < lc.length),j < i->Jo lc[j]=true)) (λiv _=>cn - (intOf iv).toNat)
 case atStart=>exact ⟨0,yC _,rfl,a,yb (λj _ hj=>absurd hj (by omega))⟩
 clear a
 obtain ⟨i,hi,rfl,a,HT⟩:=hrel
 by_cases P:i < cn
 ·have M:i < lc.length:=by rw[<-m.o];exact P
  have U:wrap64 ((i:Int)+1)=((i+1:Nat):Int):=by rw[Ay (by have:=O.o;omega)];push_cast;rfl
  have a7:=yb U
  clear U
  obtain ⟨b,o,row,R,Q,t,T,l⟩:=HC.o.2.2 i M
  dsimp only at R
  subst R
  have S:Hid (wr.rangeAt b (o+i*2) row):=yb (A8 T (a.o.below.block _ (aj.o b Q)))
  have Y:=yb t
  have s:Hid (∀v∈row,v.oneCell'=true):=yb (by rw[l];simp[JS,Value.oneCell'])
  have y:=yb l
  have X:Hid (MJ w cs 31 (wr.alloc (.cells row.toArray 77))):=yb (a.o.up ((yg _ _).alloc (yi _) _))
  have f:Hid ((wr.alloc (.cells row.toArray 77)).heap[wr.heap.size]?=some (.cells row.toArray 77 (0,0))):=yb (World.alloc_heap_new _ _)
  have a6:(i:Int) < (cn:Int):=by omega
  have r:=yb M
  obtain ⟨bi,k⟩:∃q,Jo lc[i]=q:=⟨_,rfl⟩
  have u:=yb k
  clear T Q t l hi P
  go_upto_region 10 with (first
   |(with_reducible refine yj rfl 77 _ rfl b (o+i*2) (by kernel_rfl) row _ S.o jy (by kernel_rfl) (by rw[Y.o];kernel_rfl) ?_)
   |(with_reducible refine yt rfl 77 _ _ rfl wr.heap.size row.toArray (by kernel_rfl) (by kernel_rfl) 77 _ (World.alloc_heap_new _ _) (by rw[yA,Y.o];kernel_rfl) (by simp[Y.o]) (yL s.o) ?_;rw[World.setRow_alloc_new]))
  generalize a8:wr.heap.size=bx at f |-
  clear a8 a S s
  have a:=X
  clear X
  generalize wr.alloc _=wr at a f |-
  have ab:=yb u.o
  generalize lc[i]=x at y ab
  obtain ⟨xn,xd⟩:=x
  have a1:Hid (∀V:World,V.heap[bx]?=some (.cells row.toArray 77 (0,0))->V.cell? (aV bx 0)=some (.string xn)/\V.cell? (aV bx 1)=some (iV xd)):=yb (λV h=>by rw[y.o] at h;unfold JS at h;simp[World.cell?,h])
  have a2:=yb (λW:World=>DV 0 xd 1048576 W)
  have k:=ab.o
  unfold Jo at k
  dsimp only at k
  rw[k] at a2
  clear k
  obtain ⟨I,J,G,A,D,C,B,H,E,F⟩:=HX.o _ a.o
  obtain ⟨z0,z1⟩:=a1.o _ f.o
  cases bi
  ·skip
   all_goals
    go_wp2_with (first
     |(go_at_call 49;with_reducible refine (a2.o _).mono ?_;rintro L w2 ⟨rfl,hb⟩;have g:=yb (a.o.up hb);have z:=yb ((hb.block _ (yd.1 f.o).1).trans f.o);clear hb a f I J G A D C B H E F z0 z1;have a:=g;have f:=z;clear g z;obtain ⟨I,J,G,A,D,C,B,H,E,F⟩:=HX.o _ a.o;obtain ⟨z0,z1⟩:=a1.o _ f.o)
     |(go_at_call 29;with_reducible refine (ag.o _).mono ?_;rintro L w3 ⟨rfl,rfl⟩))
    have Z:ok=false:=by
     rw[ad.o,EK r.o u.o]
     simp
    rw[Z]
    exact ⟨rfl,a.o.below,rfl⟩
  skip
  all_goals
   go_wp2_with (first
    |(go_at_call 49;with_reducible refine (a2.o _).mono ?_;rintro L w2 ⟨rfl,hb⟩;have g:=yb (a.o.up hb);have z:=yb ((hb.block _ (yd.1 f.o).1).trans f.o);clear hb a f I J G A D C B H E F z0 z1;have a:=g;have f:=z;clear g z;obtain ⟨I,J,G,A,D,C,B,H,E,F⟩:=HX.o _ a.o;obtain ⟨z0,z1⟩:=a1.o _ f.o)
    |(go_at_call 29;with_reducible refine (HY.o _).mono ?_;rintro L w3 ⟨rfl,rfl⟩))
   rw[a7.o]
   exact ⟨⟨i+1,by have:=m.o;have:=r.o;omega,rfl,a,yb (DY (p:=λIX EL=>Jo EL) HT.o r.o u.o)⟩,by simp[intOf];have:=m.o;have:=r.o;omega⟩
 obtain rfl:cn=i:=by omega
 have a6:decide ((cn:Int) < (cn:Int))=false:=by simp
 have n:Hid (lc.all Jo=true):=yb (I1 HT.o (by rw[m.o];exact yi _))
 clear HT m O
 go_wp2
 refine hK.o _ _ ?_
 clear hK
 have b5:=n
 clear n
 have m:Hid (fn=lf.length):=yb HF.o.1
 have O:Hid (lf.length<=140737488355328):=yb HF.o.2.1
 refine Ai λK hK=>?_
 obtain ⟨I,J,G,A,D,C,B,H,E,F⟩:=HX.o _ a.o
 go_wp2_with fail
 clear I J G A D C B H E F
 go_loopw [68] (λiv wr=>∃i:Nat,i<=fn/\iv=iV i/\Hid (MJ w cs 31 wr)/\Hid (∀j (hj:j < lf.length),j < i->Jq cn rn lf[j]=true)) (λiv _=>fn - (intOf iv).toNat)
 case atStart=>exact ⟨0,yC _,rfl,a,yb (λj _ hj=>absurd hj (by omega))⟩
 clear a
 obtain ⟨i,hi,rfl,a,HT⟩:=hrel
 by_cases P:i < fn
 ·have M:i < lf.length:=by rw[<-m.o];exact P
  have U:wrap64 ((i:Int)+1)=((i+1:Nat):Int):=by rw[Ay (by have:=O.o;omega)];push_cast;rfl
  have a7:=yb U
  clear U
  obtain ⟨b,o,row,R,Q,t,T,l⟩:=HF.o.2.2 i M
  dsimp only at R
  subst R
  have S:Hid (wr.rangeAt b (o+i*4) row):=yb (A8 T (a.o.below.block _ (aj.o b Q)))
  have Y:=yb t
  have s:Hid (∀v∈row,v.oneCell'=true):=yb (by rw[l];simp[IS,Value.oneCell'])
  have y:=yb l
  have X:Hid (MJ w cs 31 (wr.alloc (.cells row.toArray 84))):=yb (a.o.up ((yg _ _).alloc (yi _) _))
  have f:Hid ((wr.alloc (.cells row.toArray 84)).heap[wr.heap.size]?=some (.cells row.toArray 84 (0,0))):=yb (World.alloc_heap_new _ _)
  have a6:(i:Int) < (fn:Int):=by omega
  have r:=yb M
  obtain ⟨bi,k⟩:∃q,Jq cn rn lf[i]=q:=⟨_,rfl⟩
  have u:=yb k
  clear T Q t l hi P
  go_upto_region 15 with (first
   |(with_reducible refine yj rfl 84 _ rfl b (o+i*4) (by kernel_rfl) row _ S.o jB (by kernel_rfl) (by rw[Y.o];kernel_rfl) ?_)
   |(with_reducible refine yt rfl 84 _ _ rfl wr.heap.size row.toArray (by kernel_rfl) (by kernel_rfl) 84 _ (World.alloc_heap_new _ _) (by rw[yA,Y.o];kernel_rfl) (by simp[Y.o]) (yL s.o) ?_;rw[World.setRow_alloc_new]))
  generalize a8:wr.heap.size=bx at f |-
  clear a8 a S s
  have a:=X
  clear X
  generalize wr.alloc _=wr at a f |-
  have ab:=yb u.o
  generalize lf[i]=x at y ab
  obtain ⟨xn,xr,xa,xc⟩:=x
  have a1:Hid (∀V:World,V.heap[bx]?=some (.cells row.toArray 84 (0,0))->V.cell? (aV bx 0)=some (.string xn)/\V.cell? (aV bx 1)=some (iV xr)/\V.cell? (aV bx 2)=some (iV xa)/\V.cell? (aV bx 3)=some (iV xc)):=yb (λV h=>by rw[y.o] at h;unfold IS at h;simp[World.cell?,h])
  have a2:=yb (λW:World=>DV 0 xa 1048576 W)
  have aa:=yb (λw=>F9 xc cn w)
  have ae:=yb (λw=>F9 xr rn w)
  have k:=ab.o
  unfold Jq at k
  dsimp only at k
  obtain ⟨c0,af⟩:∃c,(if 0 < xa then K1 xc cn else decide (xc= -1))=c:=⟨_,rfl⟩
  rw[af] at k
  generalize K1 xr rn=b1 at ae k
  generalize AL [0,xa,1048576]=b2 at a2 k
  have b7:(decide (0 < xa)=true/\K1 xc cn=c0)\/(decide (0 < xa)=false/\(xc== -1)=c0):=by
   by_cases h:0 < xa
   ·left;rw[yz h] at af;exact ⟨by simpa using h,af⟩
   right;rw[ym h] at af;exact ⟨by simpa using h,by rw[<-af];exact Hz _ _⟩
  clear af
  obtain ⟨I,J,G,A,D,C,B,H,E,F⟩:=HX.o _ a.o
  obtain ⟨z0,z1,z2,z3⟩:=a1.o _ f.o
  cases bi
  ·have hz:=(Sv c0 b1 b2).resolve_right (λh=>by rw[h.1,h.2.1,h.2.2] at k;cases k)
   clear k
   rcases b7 with ⟨ha,al⟩|⟨ha,al⟩<;>rcases hz with rfl|⟨rfl,rfl⟩|⟨rfl,rfl,rfl⟩
   all_goals
    try (rw[al] at aa)
    go_wp2_with (first
     |(go_at_call 51;with_reducible refine (aa.o _).mono ?_;rintro L w2 ⟨rfl,rfl⟩)
     |(go_at_call 51;with_reducible refine (ae.o _).mono ?_;rintro L w2 ⟨rfl,rfl⟩)
     |(go_at_call 49;with_reducible refine (a2.o _).mono ?_;rintro L w2 ⟨rfl,hb⟩;have g:=yb (a.o.up hb);have z:=yb ((hb.block _ (yd.1 f.o).1).trans f.o);clear hb a f I J G A D C B H E F z0 z1 z2 z3;have a:=g;have f:=z;clear g z;obtain ⟨I,J,G,A,D,C,B,H,E,F⟩:=HX.o _ a.o;obtain ⟨z0,z1,z2,z3⟩:=a1.o _ f.o)
     |(go_at_call 29;with_reducible refine (ag.o _).mono ?_;rintro L w3 ⟨rfl,rfl⟩))
    have Z:ok=false:=by
     rw[ad.o,EK r.o u.o]
     simp
    rw[Z]
    exact ⟨rfl,a.o.below,rfl⟩
  have hz:c0=true/\b1=true/\b2=true:=by simpa using k
  obtain ⟨rfl,rfl,rfl⟩:=hz
  clear k
  rcases b7 with ⟨ha,al⟩|⟨ha,al⟩
  all_goals
   try (rw[al] at aa)
   go_wp2_with (first
    |(go_at_call 51;with_reducible refine (aa.o _).mono ?_;rintro L w2 ⟨rfl,rfl⟩)
    |(go_at_call 51;with_reducible refine (ae.o _).mono ?_;rintro L w2 ⟨rfl,rfl⟩)
    |(go_at_call 49;with_reducible refine (a2.o _).mono ?_;rintro L w2 ⟨rfl,hb⟩;have g:=yb (a.o.up hb);have z:=yb ((hb.block _ (yd.1 f.o).1).trans f.o);clear hb a f I J G A D C B H E F z0 z1 z2 z3;have a:=g;have f:=z;clear g z;obtain ⟨I,J,G,A,D,C,B,H,E,F⟩:=HX.o _ a.o;obtain ⟨z0,z1,z2,z3⟩:=a1.o _ f.o)
    |(go_at_call 29;with_reducible refine (HY.o _).mono ?_;rintro L w3 ⟨rfl,rfl⟩))
   rw[a7.o]
   exact ⟨⟨i+1,by have:=m.o;have:=r.o;omega,rfl,a,yb (DY (p:=λIX EL=>Jq cn rn EL) HT.o r.o u.o)⟩,by simp[intOf];have:=m.o;have:=r.o;omega⟩
 obtain rfl:fn=i:=by omega
 have a6:decide ((fn:Int) < (fn:Int))=false:=by simp
 have n:Hid (lf.all (Jq cn rn)=true):=yb (I1 HT.o (by rw[m.o];exact yi _))
 clear HT m O
 go_wp2
 refine hK.o _ _ ?_
 clear hK
 have b4:=n
 clear n
 have m:Hid (gn=lg.length):=yb HG.o.1
 have O:Hid (lg.length<=140737488355328):=yb HG.o.2.1
 refine Ai λK hK=>?_
 obtain ⟨I,J,G,A,D,C,B,H,E,F⟩:=HX.o _ a.o
 go_wp2_with fail
 clear I J G A D C B H E F
 go_loopw [105] (λiv wr=>∃i:Nat,i<=gn/\iv=iV i/\Hid (MJ w cs 31 wr)/\Hid (∀j (hj:j < lg.length),j < i->IQ fn rn hours lg[j]=true)) (λiv _=>gn - (intOf iv).toNat)
 case atStart=>exact ⟨0,yC _,rfl,a,yb (λj _ hj=>absurd hj (by omega))⟩
 clear a
 obtain ⟨i,hi,rfl,a,HT⟩:=hrel
 by_cases P:i < gn
 ·have M:i < lg.length:=by rw[<-m.o];exact P
  have U:wrap64 ((i:Int)+1)=((i+1:Nat):Int):=by rw[Ay (by have:=O.o;omega)];push_cast;rfl
  have a7:=yb U
  clear U
  obtain ⟨b,o,row,R,Q,t,T,l⟩:=HG.o.2.2 i M
  dsimp only at R
  subst R
  have S:Hid (wr.rangeAt b (o+i*10) row):=yb (A8 T (a.o.below.block _ (aj.o b Q)))
  have Y:=yb t
  have s:Hid (∀v∈row,v.oneCell'=true):=yb (by rw[l];simp[AZ,Value.oneCell'])
  have y:=yb l
  have X:Hid (MJ w cs 31 (wr.alloc (.cells row.toArray 62))):=yb (a.o.up ((yg _ _).alloc (yi _) _))
  have f:Hid ((wr.alloc (.cells row.toArray 62)).heap[wr.heap.size]?=some (.cells row.toArray 62 (0,0))):=yb (World.alloc_heap_new _ _)
  have a6:(i:Int) < (gn:Int):=by omega
  have r:=yb M
  obtain ⟨bi,k⟩:∃q,IQ fn rn hours lg[i]=q:=⟨_,rfl⟩
  have u:=yb k
  clear T Q t l hi P
  go_upto_region 23 with (first
   |(with_reducible refine yj rfl 62 _ rfl b (o+i*10) (by kernel_rfl) row _ S.o jw (by kernel_rfl) (by rw[Y.o];kernel_rfl) ?_)
   |(with_reducible refine yt rfl 62 _ _ rfl wr.heap.size row.toArray (by kernel_rfl) (by kernel_rfl) 62 _ (World.alloc_heap_new _ _) (by rw[yA,Y.o];kernel_rfl) (by simp[Y.o]) (yL s.o) ?_;rw[World.setRow_alloc_new]))
  generalize a8:wr.heap.size=bx at f |-
  clear a8 a S s
  have a:=X
  clear X
  generalize wr.alloc _=wr at a f |-
  have ac:Hid (wr.rangeAt bx 0 row):=yb (Ae f.o)
  have av:Hid (wr.rangeAt w.heap.size 0 cs):=yb (Ae a.o.x)
  have b0:Hid (cs.length=10):=yb (by rw[an.o];rfl)
  have ak:Hid (∀W,Calls Tryz.prog 52 #[.agg cs.toArray,.agg row.toArray] W λe w'=>e=.returned (.bool bi)/\Below W.heap.size W w'):=yb (λW=>by rw[y.o,<-u.o,an.o];exact UC dn hours cap start ⟨ra,rn,rc⟩ ⟨fa,fn,fc⟩ _ _ _ _ _ W HH.o.1 HH.o.2)
  cases bi
  ·skip
   all_goals
    go_wp2_with (first
     |(with_reducible refine yj rfl 31 _ rfl w.heap.size 0 (by kernel_rfl) cs _ av.o jf (by kernel_rfl) (by rw[b0.o];kernel_rfl) ?_)
     |(with_reducible refine yj rfl 62 _ rfl bx 0 (by kernel_rfl) row _ ac.o jw (by kernel_rfl) (by rw[Y.o];kernel_rfl) ?_)
     |(go_at_call 52;with_reducible refine (ak.o _).mono ?_;rintro L w2 ⟨rfl,hb⟩;have g:=yb (a.o.up hb);clear hb a;have a:=g;clear g)
     |(go_at_call 29;with_reducible refine (ag.o _).mono ?_;rintro L w3 ⟨rfl,rfl⟩))
    have Z:ok=false:=by
     rw[ad.o,EK r.o u.o]
     simp
    rw[Z]
    exact ⟨rfl,a.o.below,rfl⟩
  skip
  all_goals
   go_wp2_with (first
    |(with_reducible refine yj rfl 31 _ rfl w.heap.size 0 (by kernel_rfl) cs _ av.o jf (by kernel_rfl) (by rw[b0.o];kernel_rfl) ?_)
    |(with_reducible refine yj rfl 62 _ rfl bx 0 (by kernel_rfl) row _ ac.o jw (by kernel_rfl) (by rw[Y.o];kernel_rfl) ?_)
    |(go_at_call 52;with_reducible refine (ak.o _).mono ?_;rintro L w2 ⟨rfl,hb⟩;have g:=yb (a.o.up hb);clear hb a;have a:=g;clear g)
    |(go_at_call 29;with_reducible refine (HY.o _).mono ?_;rintro L w3 ⟨rfl,rfl⟩))
   rw[a7.o]
   exact ⟨⟨i+1,by have:=m.o;have:=r.o;omega,rfl,a,yb (DY (p:=λIX EL=>IQ fn rn hours EL) HT.o r.o u.o)⟩,by simp[intOf];have:=m.o;have:=r.o;omega⟩
 obtain rfl:gn=i:=by omega
 have a6:decide ((gn:Int) < (gn:Int))=false:=by simp
 have n:Hid (lg.all (IQ fn rn hours)=true):=yb (I1 HT.o (by rw[m.o];exact yi _))
 clear HT m O
 go_wp2
 refine hK.o _ _ ?_
 clear hK
 have aw:=n
 clear n
 have m:Hid (dd=ld.length):=yb HD.o.1
 have O:Hid (ld.length<=140737488355328):=yb HD.o.2.1
 obtain ⟨I,J,G,A,D,C,B,H,E,F⟩:=HX.o _ a.o
 go_wp2_with fail
 clear I J G A D C B H E F
 go_loopw [118] (λiv wr=>∃i:Nat,i<=dd/\iv=iV i/\Hid (MJ w cs 31 wr)/\Hid (∀j (hj:j < ld.length),j < i->KQ fn rn hours ld[j]=true)) (λiv _=>dd - (intOf iv).toNat)
 case atStart=>exact ⟨0,yC _,rfl,a,yb (λj _ hj=>absurd hj (by omega))⟩
 clear a
 obtain ⟨i,hi,rfl,a,HT⟩:=hrel
 by_cases P:i < dd
 ·have M:i < ld.length:=by rw[<-m.o];exact P
  have U:wrap64 ((i:Int)+1)=((i+1:Nat):Int):=by rw[Ay (by have:=O.o;omega)];push_cast;rfl
  have a7:=yb U
  clear U
  obtain ⟨b,o,row,R,Q,t,T,l⟩:=HD.o.2.2 i M
  dsimp only at R
  subst R
  have S:Hid (wr.rangeAt b (o+i*4) row):=yb (A8 T (a.o.below.block _ (aj.o b Q)))
  have Y:=yb t
  have s:Hid (∀v∈row,v.oneCell'=true):=yb (by rw[l];simp[Jr,Value.oneCell'])
  have y:=yb l
  have X:Hid (MJ w cs 31 (wr.alloc (.cells row.toArray 140))):=yb (a.o.up ((yg _ _).alloc (yi _) _))
  have f:Hid ((wr.alloc (.cells row.toArray 140)).heap[wr.heap.size]?=some (.cells row.toArray 140 (0,0))):=yb (World.alloc_heap_new _ _)
  have a6:(i:Int) < (dd:Int):=by omega
  have r:=yb M
  obtain ⟨bi,k⟩:∃q,KQ fn rn hours ld[i]=q:=⟨_,rfl⟩
  have u:=yb k
  clear T Q t l hi P
  go_upto_region 28 with (first
   |(with_reducible refine yj rfl 140 _ rfl b (o+i*4) (by kernel_rfl) row _ S.o j2 (by kernel_rfl) (by rw[Y.o];kernel_rfl) ?_)
   |(with_reducible refine yt rfl 140 _ _ rfl wr.heap.size row.toArray (by kernel_rfl) (by kernel_rfl) 140 _ (World.alloc_heap_new _ _) (by rw[yA,Y.o];kernel_rfl) (by simp[Y.o]) (yL s.o) ?_;rw[World.setRow_alloc_new]))
  generalize a8:wr.heap.size=bx at f |-
  clear a8 a S s
  have a:=X
  clear X
  generalize wr.alloc _=wr at a f |-
  have ab:=yb u.o
  generalize ld[i]=x at y ab
  obtain ⟨xn,xf,xr,xd⟩:=x
  have a1:Hid (∀V:World,V.heap[bx]?=some (.cells row.toArray 140 (0,0))->V.cell? (aV bx 0)=some (.string xn)/\V.cell? (aV bx 1)=some (iV xf)/\V.cell? (aV bx 2)=some (iV xr)/\V.cell? (aV bx 3)=some (iV xd)):=yb (λV h=>by rw[y.o] at h;unfold Jr at h;simp[World.cell?,h])
  have a2:=yb (λW:World=>DV 0 xd hours W)
  have aa:=yb (λw=>F9 xf fn w)
  have ae:=yb (λw=>F9 xr rn w)
  have k:=ab.o
  unfold KQ at k
  dsimp only at k
  generalize K1 xf fn=c0 at aa k
  generalize K1 xr rn=b1 at ae k
  generalize AL [0,xd,hours]=b2 at a2 k
  obtain ⟨I,J,G,A,D,C,B,H,E,F⟩:=HX.o _ a.o
  obtain ⟨z0,z1,z2,z3⟩:=a1.o _ f.o
  cases bi
  ·have hz:=(Sv c0 b1 b2).resolve_right (λh=>by rw[h.1,h.2.1,h.2.2] at k;cases k)
   clear k
   rcases hz with rfl|⟨rfl,rfl⟩|⟨rfl,rfl,rfl⟩
   all_goals
    go_wp2_with (first
     |(go_at_call 51;with_reducible refine (aa.o _).mono ?_;rintro L w2 ⟨rfl,rfl⟩)
     |(go_at_call 51;with_reducible refine (ae.o _).mono ?_;rintro L w2 ⟨rfl,rfl⟩)
     |(go_at_call 49;with_reducible refine (a2.o _).mono ?_;rintro L w2 ⟨rfl,hb⟩;have g:=yb (a.o.up hb);have z:=yb ((hb.block _ (yd.1 f.o).1).trans f.o);clear hb a f I J G A D C B H E F z0 z1 z2 z3;have a:=g;have f:=z;clear g z;obtain ⟨I,J,G,A,D,C,B,H,E,F⟩:=HX.o _ a.o;obtain ⟨z0,z1,z2,z3⟩:=a1.o _ f.o)
     |(go_at_call 29;with_reducible refine (ag.o _).mono ?_;rintro L w3 ⟨rfl,rfl⟩))
    have Z:ok=false:=by
     rw[ad.o,EK r.o u.o]
     simp
    rw[Z]
    exact ⟨rfl,a.o.below,rfl⟩
  have hz:c0=true/\b1=true/\b2=true:=by simpa using k
  obtain ⟨rfl,rfl,rfl⟩:=hz
  clear k
  all_goals
   go_wp2_with (first
    |(go_at_call 51;with_reducible refine (aa.o _).mono ?_;rintro L w2 ⟨rfl,rfl⟩)
    |(go_at_call 51;with_reducible refine (ae.o _).mono ?_;rintro L w2 ⟨rfl,rfl⟩)
    |(go_at_call 49;with_reducible refine (a2.o _).mono ?_;rintro L w2 ⟨rfl,hb⟩;have g:=yb (a.o.up hb);have z:=yb ((hb.block _ (yd.1 f.o).1).trans f.o);clear hb a f I J G A D C B H E F z0 z1 z2 z3;have a:=g;have f:=z;clear g z;obtain ⟨I,J,G,A,D,C,B,H,E,F⟩:=HX.o _ a.o;obtain ⟨z0,z1,z2,z3⟩:=a1.o _ f.o)
    |(go_at_call 29;with_reducible refine (HY.o _).mono ?_;rintro L w3 ⟨rfl,rfl⟩))
   rw[a7.o]
   exact ⟨⟨i+1,by have:=m.o;have:=r.o;omega,rfl,a,yb (DY (p:=λIX EL=>KQ fn rn hours EL) HT.o r.o u.o)⟩,by simp[intOf];have:=m.o;have:=r.o;omega⟩
 obtain rfl:dd=i:=by omega
 have a6:decide ((dd:Int) < (dd:Int))=false:=by simp
 have n:Hid (ld.all (KQ fn rn hours)=true):=yb (I1 HT.o (by rw[m.o];exact yi _))
 clear HT m O
 go_wp2
 have ay:=n
 clear n
 have az:ok=true:=by
  rw[ad.o,ah.o.1,ah.o.2.1,ah.o.2.2,b8.o,b5.o,b4.o,aw.o,ay.o]
  rfl
 rw[az]
 exact qE (zr rfl _ _ _) rfl ⟨a.o.below,rfl⟩
end Go.Proofs.YtbdfinegbjdblaaGreatDoor
