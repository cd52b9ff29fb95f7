/- Parts of the proof, in short words: Zv Zw Ba Bd Be -/
import Derived.Test.YtghepahgkcigpaaRf0
import Derived.Test.YtghepahgkcigpaaRf30
import Derived.Test.YtghepahgkcigpaaRf22
import Derived.Test.YtghepahgkcigpaaRf9
import Derived.Test.YtghepahgkcigpaaRf8
import Derived.Test.YtghepahgkcigpaaRf26
import Derived.Test.YtghepahgkcigpaaRf13
import Derived.Test.YtghepahgkcigpaaRows
import Derived.ProofKit
import Derived.HandedShaped
set_option maxRecDepth 100000
set_option maxHeartbeats 64000000
set_option linter.unusedSimpArgs false
namespace Go.Proofs.Ytghepahgkcigpaa
open Go.RowKit
theorem KU{α β:Type}{f:α->Nat->β}{g:Nat->α->β}{l:List α}(h:∀i (hi:i < l.length),f l[i] i=g i l[i]):(l.zipIdx.map fun p=>f p.1 p.2)=l.mapIdx g:=by
 refine zM (by simp) fun i h1 h2=>?_
 rw[zS,zZ,xv]
 simpa using h i (by simpa using h1)
theorem MU{x:Aq}(h:Gv (Tb.of x) x=true):Gx (Tb.of x) x=Ad x:=by
 unfold Gv JV at h
 simp only[yt,yL] at h
 obtain ⟨⟨⟨⟨⟨⟨⟨⟨⟨h1,h2⟩,h3⟩,h4⟩,h5⟩,h6⟩,r⟩,k⟩,m⟩,a⟩:=h
 have b:∀ {α:Type} {l:List α} {p:α->Nat->Bool},(∀q∈l.zipIdx,p q.1 q.2=true)->∀i (hi:i < l.length),p l[i] i=true:=by
  intro α l p j i hi
  have:=j _ (yy (l:=l.zipIdx) (n:=i) (by simpa using hi))
  rw[xv] at this
  simpa using this
 have e1:(x.lets.zipIdx.map fun p=>IK (Tb.of x) p.1 p.2)=x.lets.mapIdx (Dm.mp (fT (Tb.of x))):=KU (f:=IK (Tb.of x)) fun i hi=>TM (b (p:=MA (Tb.of x)) h4 i hi)
 have e2:x.crops.map (IL (Tb.of x))=x.crops.mapIdx (BQ.mp (fT (Tb.of x))):=Ec fun i hi=>T4 i (h5 _ (yy hi))
 have d:(x.reaches.zipIdx.map fun p=>Eb (Tb.of x) p.1 p.2)=x.reaches.mapIdx (Aw.mp (fT (Tb.of x)) (gT (Tb.of x))):=KU (f:=Eb (Tb.of x)) fun i hi=>S7 (b (p:=Et (Tb.of x)) h6 i hi)
 have c:x.farms.map (GX (Tb.of x))=x.farms.mapIdx (BL.mp (fT (Tb.of x)) (gT (Tb.of x))):=Ec fun i hi=>T2 i (r _ (yy hi))
 have g:x.rots.map (IJ (Tb.of x))=x.rots.mapIdx (B9.mp (fT (Tb.of x)) (gT (Tb.of x))):=Ec fun i hi=>TL i (k _ (yy hi))
 have o:x.rights.map (G5 (Tb.of x))=x.rights.mapIdx (AG.mp (fT (Tb.of x)) (gT (Tb.of x))):=Ec fun i hi=>S6 i (m _ (yy hi))
 have e:x.duties.map (GW (Tb.of x))=x.duties.mapIdx (BR.mp (fT (Tb.of x)) (gT (Tb.of x))):=Ec fun i hi=>T1 i (a _ (yy hi))
 unfold Gx Gd Ad Aq.mp
 simp only[AP h1,AP h2,AP h3,e1,e2,d,c,g,o,e]
theorem Ti:Fw M9:=⟨by decide,by decide,by decide,by decide,by decide,by decide,by decide,fun d hd=>by simp[M9] at hd⟩
theorem UB{x:Aq}(h:Fw x)(f:Int->Ex->Ex)(g:Int->Rf->Rf):Fw (x.mp f g):=by
 refine ⟨?_,?_,?_,?_,?_,?_,?_,?_⟩
 ·simpa[Aq.mp] using h.lets
 ·simpa[Aq.mp] using h.crops
 ·simpa[Aq.mp] using h.reaches
 ·simpa[Aq.mp] using h.farms
 ·simpa[Aq.mp] using h.rots
 ·simpa[Aq.mp] using h.rights
 ·simpa[Aq.mp] using h.duties
 ·intro d hd
  simp only[Aq.mp] at hd
  obtain ⟨i,hi,rfl⟩:=xV hd
  rw[zZ]
  have:=h.turns _ (yy (l:=x.rots) (n:=i) (by simpa using hi))
  simpa[B9.mp] using this
def Pm(x:Aq):Aq:=if Ay x=0 then Ad x else M9
theorem U0{x:Aq}(h:Fw x):Fw (Pm x):=by
 unfold Pm
 split
 ·exact UB h _ _
 ·exact Ti
def U1(w:World)(b:Nat):Prop:=b < w.heap.size
theorem I4.wide{N N':NP}{w w':World}{cs:LV}{y:Aq}(h:I4 N w cs y)(a:∀b,N b->N' b)(hb:∀b,N b->w'.heap[b]?=w.heap[b]?):I4 N' w' cs y:=by
 obtain ⟨L,c⟩:=h
 exact ⟨L,c.same a hb⟩
theorem Sx{w w':World}{x:Aq}{e:Ending}(h:FA w x e w'):Below w.heap.size w w'∧∃a:LV,e=.returned (.tuple #[.agg a.toArray,.int .i64 (Ay x)])∧I4 (U1 w') w' a (Pm x):=by
 obtain ⟨hb,⟨h1,h2⟩|⟨h1,a,h2,L,N,h3,h4,h5⟩⟩:=h
 ·refine ⟨hb,Bt,h2,?_⟩
  unfold Pm;rw[yu h1];exact Sn _ _
 ·refine ⟨hb,a,by rw[h1];exact h2,?_⟩
  unfold Pm;rw[yx h1]
  exact ⟨L,h4.same (fun b hb=>(h5 b hb).2) (fun _ _=>rfl)⟩
structure L7 (t:Tb):Prop where
 lets:t.lets.Nodup
 crops:t.crops.Nodup
 reaches:t.reaches.Nodup
 farms:t.farms.Nodup
theorem Oj{x:Aq}(h:FM x):L7 (Tb.of x):=⟨h.1,h.2.1,h.2.2.1,h.2.2.2.1⟩
theorem QV{l:LB}{s:ByteArray}(h:s∉l):EN l s=0:=by
 unfold EN
 rw[z6,List.filter_eq_nil_iff]
 intro a b
 simp only[yW]
 rintro rfl;exact h b
theorem Ol:∀ {l:LB} {s:ByteArray},l.Nodup->s∈l->EN l s=1
 |[],_,_,h=>by simp at h
 |x::r,s,hn,h=>by
  have a:=List.nodup_cons.1 hn
  by_cases b:x=s
  ·subst b
   have:=QV a.1
   unfold EN at this ⊢
   rw[List.filter_cons_of_pos (by simp),yE,this]
  ·have ih:=Ol a.2 ((yJ.1 h).resolve_left (fun e=>b e.symm))
   unfold EN at ih ⊢
   rw[List.filter_cons_of_neg (by simpa using b),ih]
theorem QW{l:LB}{s:ByteArray}{i:Nat}(h:AO l s=some i):s∈l∧l[i]?=some s:=by
 by_cases a:s∈l
 ·obtain ⟨j,h1,h2,h3⟩:=Hj a
  rw[h] at h1
  obtain rfl:i=j:=by simpa using h1
  exact ⟨a,by rw[yk h2,h3]⟩
 ·rw[F9 a] at h;cases h
theorem N4{m:LB}{s:ByteArray}{k i:Nat}(h:AO (m.take k) s=some i):AO m s=some i∧i < k:=by
 rw[Fe] at h
 cases a:AO m s with
 |none=>rw[a] at h;cases h
 |some j=>
  rw[a] at h
  simp only at h
  split at h
  ·rename_i b
   obtain rfl:j=i:=by simpa using h
   exact ⟨rfl,b⟩
  ·cases h
theorem QX{l:LB}{r:Rf}(h:Du l r=true):∃i,AO l r.name=some i∧GK l r=⟨r.name,(i:Int)⟩:=by
 unfold Du at h
 cases a:AO l r.name with
 |none=>rw[a] at h;cases h
 |some i=>exact ⟨i,rfl,by unfold GK P3;rw[a]⟩
theorem GA{m:LB}{r:Rf}(k:Nat)(a:m.Nodup)(h:Du (m.take k) r=true):Ji m (GK (m.take k) r)=true∧(GK (m.take k) r).n < (k:Int):=by
 obtain ⟨i,hi,b⟩:=QX h
 obtain ⟨h1,h2⟩:=N4 hi
 obtain ⟨h3,h4⟩:=QW h1
 rw[b]
 have hl:=(yD.1 h4).1
 refine ⟨?_,by simp only;omega⟩
 unfold Ji
 simp only[Ol a h3,Int.toNat_natCast,h4,yt,yW]
 exact ⟨by omega,by omega,by omega,trivial⟩
theorem DD{m:LB}{r:Rf}(a:m.Nodup)(h:Du m r=true):Ji m (GK m r)=true:=by
 have:=GA (m:=m) (r:=r) m.length a (by rw[yw];exact h)
 rw[yw] at this
 exact this.1
section
variable{t:Tb}
mutual
theorem Om(a:L7 t)(k:Nat):∀e:Ex,Tw (t.lets.take k) e=true->AS (FQ t) (QA (t.lets.take k) e)=true
 |.mk op n u rn ri args,h=>by
  rw[Tw] at h
  simp only[yt] at h
  rw[QA,AS,Mk a k args h.2.2,yT]
  by_cases h2:op=2
  ·have h3:=h.2.1
   rw[yx h2] at h3
   rw[yx h2,yx h2]
   exact (GA k a.lets h3).1
  ·rw[yu h2]
theorem Mk(a:L7 t)(k:Nat):∀l:List Ex,Mz (t.lets.take k) l=true->MZ (FQ t) (Jv (t.lets.take k) l)=true
 |[],_=>by rw[Jv,MZ]
 |e::r,h=>by
  rw[Mz] at h
  simp only[yt] at h
  rw[Jv,MZ,Om a k e h.1,Mk a k r h.2];rfl
end
theorem SA{q:Int->Rf->Bool}{e:Ex}(h:Cv e=true):AS q e=true:=by
 cases e with
 |mk op n u rn ri args=>
  unfold Cv Fv at h
  simp only[Ex.op,Ex.n,Ex.u,Ex.rn,Ex.ri,Ex.args,yt] at h
  obtain ⟨h1,_,_,_,h5⟩:=h
  obtain rfl:args=[]:=z6.1 (yv h5)
  obtain rfl:=yv h1
  rw[AS,MZ];rfl
theorem SB(a:L7 t)(k:Nat){e:Ex}(h:GU (t.lets.take k) e=true):AS (FQ t) (Dv (t.lets.take k) e)=true:=by
 unfold Dv
 by_cases hl:Cv e=true
 ·rw[yx hl];exact SA hl
 ·rw[yu hl]
  unfold GU at h
  exact Om a k e ((xY _ _▸h).resolve_left hl)
theorem BI(a:L7 t){e:Ex}(h:GU t.lets e=true):AS (FQ t) (Dv t.lets e)=true:=by
 have:=SB a t.lets.length (e:=e) (by rw[yw];exact h)
 rwa [yw] at this
theorem QY(a:L7 t){x:Aq}(h:Gv t x=true):Tm (FQ t) true (Gx t x)=true:=by
 unfold Gv JV at h
 simp only[yt,yL] at h
 obtain ⟨⟨⟨⟨⟨⟨⟨⟨⟨h1,h2⟩,h3⟩,h4⟩,h5⟩,h6⟩,B⟩,w⟩,A⟩,q⟩:=h
 unfold Tm Gx Gd
 simp only[yt,yL,qi]
 refine ⟨⟨⟨⟨⟨⟨⟨⟨⟨BI a h1,BI a h2⟩,BI a h3⟩,?_⟩,?_⟩,?_⟩,?_⟩,?_⟩,?_⟩,?_⟩
 ·intro d hd
  obtain ⟨p,k,rfl⟩:=zw.1 hd
  exact SB a p.2 (h4 p k)
 ·intro d hd
  obtain ⟨p,k,rfl⟩:=zw.1 hd
  exact BI a (h5 p k)
 ·rintro ⟨d,i⟩ hd
  rw[xw] at hd
  simp only[xQ,List.getElem?_zipIdx,Option.map_map,Option.map_eq_some_iff,Function.comp_def,yA] at hd
  obtain ⟨y,c,rfl⟩:=hd
  have h:=h6 (y,i) (xw.2 c)
  unfold Et at h
  simp only[yt] at h
  obtain ⟨⟨⟨⟨⟨⟨⟨⟨s,g⟩,l⟩,o⟩,e⟩,f⟩,r⟩,m⟩,j⟩:=h
  unfold DT Eb
  simp only[BI a g,BI a l,BI a o,BI a e,BI a f,BI a r,BI a m,BI a j,yT]
  by_cases hi:i=0
  ·rw[yx hi]
  ·rw[yu hi] at s
   rw[yu hi,yu hi]
   exact (GA i a.reaches s).1
 ·intro d hd
  obtain ⟨y,c,rfl⟩:=zw.1 hd
  have h:=B y c
  unfold Hq at h
  simp only[yt] at h
  unfold Fq GX
  simp only[BI a h.2,yT,yt]
  refine ⟨DD a.reaches h.1.1,?_⟩
  by_cases b:y.river=true
  ·rw[yx b]
  ·have h3:=h.1.2
   rw[yu b] at h3
   rw[yu b,yu b]
   exact DD a.crops h3
 ·intro d hd
  obtain ⟨y,c,rfl⟩:=zw.1 hd
  have h:=w y c
  unfold Ja at h
  simp only[yt,yL] at h
  obtain ⟨⟨⟨⟨g,l⟩,o⟩,e⟩,f⟩:=h
  unfold I6 IJ
  simp only[BI a l,BI a o,BI a e,yT,yt,yL]
  refine ⟨DD a.reaches g,fun z v=>?_⟩
  obtain ⟨z,n,rfl⟩:=zw.1 v
  have h:=f z n
  unfold Hr at h
  simp only[yt] at h
  unfold GH II
  simp only[BI a h.2,yT]
  exact DD a.farms h.1
 ·intro d hd
  obtain ⟨y,c,rfl⟩:=zw.1 hd
  have h:=A y c
  unfold G4 at h
  simp only[yt] at h
  obtain ⟨⟨⟨⟨⟨⟨⟨⟨g,_⟩,_⟩,e⟩,f⟩,r⟩,m⟩,j⟩,u⟩:=h
  unfold Dc G5
  simp only[BI a f,BI a r,BI a m,BI a j,BI a u,yT,yt]
  refine ⟨DD a.farms g,?_⟩
  by_cases b:y.kind=1
  ·rw[yx b]
  ·rw[yu b] at e
   rw[yu b,yu b]
   exact DD a.reaches e
 ·intro d hd
  obtain ⟨y,c,rfl⟩:=zw.1 hd
  have h:=q y c
  unfold Hp at h
  simp only[yt] at h
  unfold E3 GW
  simp only[BI a h.2,yT,yt]
  exact ⟨DD a.farms h.1.1,DD a.reaches h.1.2⟩
theorem Pq(b:L7 t){x:Aq}(h:Gv t x=true):∀(i:Nat) d,(Gx t x).reaches[i]?=some d->i=0∨d.frm.n < (i:Int):=by
 unfold Gv at h
 simp only[yt,yL] at h
 obtain ⟨⟨⟨⟨⟨_,h6⟩,_⟩,_⟩,_⟩,_⟩:=h
 intro i d hd
 unfold Gx Gd at hd
 simp only[xQ,List.getElem?_zipIdx,Option.map_map,Option.map_eq_some_iff,Function.comp_def,yA] at hd
 obtain ⟨y,c,rfl⟩:=hd
 have h:=h6 (y,i) (xw.2 c)
 unfold Et at h
 simp only[yt] at h
 obtain ⟨⟨⟨⟨⟨⟨⟨⟨a,_⟩,_⟩,_⟩,_⟩,_⟩,_⟩,_⟩,_⟩:=h
 by_cases hi:i=0
 ·exact .inl hi
 ·rw[yu hi] at a
  right
  unfold Eb
  simp only[yu hi]
  exact (GA i b.reaches a).2
end
theorem QZ{x:Aq}(h:Ay x=0):Tm (FQ (Tb.of x)) true (Ad x)=true∧(∀(i:Nat) d,(Ad x).reaches[i]?=some d->i=0∨d.frm.n < (i:Int))∧(Ad x).reaches.length=x.reaches.length:=by
 have a:FM x∧Gv (Tb.of x) x=true:=by
  unfold Ay at h
  split at h
  ·split at h
   ·split at h
    ·split at h
     ·rename_i h1 h2 h3 h4
      exact ⟨h3,by rw[T5];exact h4⟩
     ·exact absurd h (by decide)
    ·exact absurd h (by decide)
   ·exact absurd h (by decide)
  ·exact absurd h (by decide)
 obtain ⟨h1,h2⟩:=a
 rw[<-MU h2]
 exact ⟨QY (Oj h1) h2,Pq (Oj h1) h2,by simp[Gx,Gd]⟩
set_option linter.unusedSimpArgs false
theorem SD{g f a:Nat}{h:Ah × Ah × Ah × Ah}{t:Tb}(hs:g<=f)(i:f < a):JH 18 (UD f a) (U2 g (a+1)) (fun _ r=>r) (FQ t) (UG g f a h t) where
 stab b W W' hJ hb hs2:=⟨(hb _ ⟨hs,by omega⟩).trans hJ.all,(hb _ ⟨by omega,by omega⟩).trans hJ.ok,hJ.d.to (fun k e=>hb k ⟨e.1,by have:=e.2;omega⟩) hs2 (fun _ h=>h)⟩
 lt b W hJ k e:=by have:=e.2;have:=(yf.1 hJ.ok).1;omega
 enter args w:=by kernel_rfl
 name c r h:=h
 call b W c B o p r s t hJ hW hp hB hr h0 h3:=Pn hs i hJ hW hp hB h0 h3
theorem Lt{N:NP}{w:World}{L:Bz}{cs:LV}{x:Aq}(h:BC N w L cs x)(hN:∀b,N b->b < w.heap.size)(hg:GV w):
  Calls Try.prog 5 #[.agg cs.toArray] w fun e w'=>e=.returned (.bool true)∧Below w.heap.size w w':=by
 have g:Hid (∀W,Below w.heap.size w W->BC N W L cs x∧(∀b,N b->b < W.heap.size)∧GV W):=yb (fun W hW=>⟨h.same (fun _ h=>h) (fun b hb=>hW.block b (hN b hb)),fun b hb=>yp (hN b hb) hW.size,hg.below hW hg.1⟩)
 have B:=yb (I4.len ⟨L,h⟩)
 clear h hN hg
 go_enter Try.func5,Try.ntmps5
 refine Ap fun K d=>?_
 go_wp2_with (first|(refine Ir rfl 35 _ rfl cs.toArray rfl ?_))
 refine d.o _ _ ?_
 clear d K
 obtain ⟨H,G⟩:∃z:World,z=w.alloc (.cells cs.toArray 35):=⟨_,rfl⟩
 rw[<-G]
 have aj:Hid (Below w.heap.size w H):=yb (by rw[G];exact (yg _ _).alloc (ye _) _)
 have av:Hid (∀W,Below H.heap.size H W->W.rangeAt w.heap.size 0 cs∧Below w.heap.size w W):=yb (fun W hW=>by
  have hz:H.heap.size=w.heap.size+1:=by rw[G];simp
  have hx:H.heap[w.heap.size]?=some (.cells cs.toArray 35 (0,0)):=by rw[G];exact World.alloc_heap_new _ _
  exact ⟨Ax ((hW.block _ (by omega)).trans hx),aj.o.trans (hW.mono aj.o.size)⟩)
 have c8:Hid (H.heap.size=w.heap.size+1):=yb (by rw[G];simp)
 clear G
 refine Ap fun K d=>?_
 go_wp2_with (first|(go_at_call 9;refine (Sw (g.o H aj.o).2.2).mono ?_;rintro e w1 ⟨rfl,bo⟩;have au:=yb bo;clear bo))
 refine d.o _ _ ?_
 clear d K
 have A:=yb (av.o w1 au.o)
 refine Ap fun K d=>?_
 cases hq:EU x
 ·clear d
  go_wp2_with (first
   |(refine yj rfl 35 _ rfl w.heap.size 0 rfl cs _ A.o.1 qB rfl (Cl (n:=26) (by kernel_rfl) B.o) ?_)
   |(go_at_call 10;refine (Q4 (g.o w1 A.o.2).1 (g.o w1 A.o.2).2.1).mono ?_;rintro e w2 ⟨rfl,R⟩;rw[hq];have U:=yb R;clear R))
  go_ret
  exact ⟨rfl,A.o.2.trans (U.o.mono A.o.2.size)⟩
 have aa:=yb hq
 go_wp2_with (first
  |(refine yj rfl 35 _ rfl w.heap.size 0 rfl cs _ A.o.1 qB rfl (Cl (n:=26) (by kernel_rfl) B.o) ?_)
  |(go_at_call 10;refine (Q4 (g.o w1 A.o.2).1 (g.o w1 A.o.2).2.1).mono ?_;rintro e w2 ⟨rfl,R⟩;rw[hq];have U:Hid (Below H.heap.size H w2):=yb (au.o.trans (R.mono au.o.size));clear R))
 refine d.o _ _ ?_
 clear d K hq
 have T:=yb (av.o w2 U.o)
 have ay:=yb (Tf aa.o)
 have cv:=yb (U0 ay.o)
 have ar:=yb (So aa.o)
 have HC:=yb (Ew (g.o w2 T.o.2).1 (g.o w2 T.o.2).2.1 ar.o.1 (g.o w2 T.o.2).2.2 ar.o.2)
 refine Ap fun K d=>?_
 go_wp2_with (first
  |(refine yj rfl 35 _ rfl w.heap.size 0 rfl cs _ T.o.1 qB rfl (Cl (n:=26) (by kernel_rfl) B.o) ?_)
  |(go_at_call 11;refine HC.o.mono ?_;intro e w3 af;obtain ⟨bp,ks,rfl,a6⟩:=Sx af;have ai:=yb a6;have ba:=yb bp;have ak:=yb a6.len;have P:=yb a6.one;clear af bp a6)
  |(refine Ae rfl 35 _ _ rfl w3.heap.size rfl ks rfl (World.alloc_heap_new _ _) (by rw[ak.o];rfl) (Cl (n:=26) (by kernel_rfl) ak.o) P.o ?_;intro w4 bd;have O:=yb bd;clear bd))
 refine d.o _ _ ?_
 clear d K
 have M:Hid (Below w3.heap.size w3 w4):=yb (O.o.below ((yg _ _).alloc (ye _) _) (ye _))
 have bm:Hid (Below H.heap.size H w4):=yb (U.o.trans ((ba.o.trans (M.o.mono ba.o.size)).mono U.o.size))
 have r:=yb (av.o w4 bm.o)
 have cc:Hid (H.heap.size=w.heap.size+1):=c8
 have b7:=yb ar.o.1
 by_cases u:Ay x=0
 rotate_left
 ·have bt:(Ay x !=0)=true:=by simpa using u
  generalize Ay x=c at bt
  clear u
  go_wp2
  go_ret
  exact ⟨rfl,r.o.2⟩
 have s:=yb (QZ u)
 have c9:Hid (SH (Ad x)):=yb (U5 (Tn b7.o))
 have ad:Pm x=Ad x:=by unfold Pm;rw[yx u]
 rw[ad] at ai
 rw[u]
 have co:=yb u
 clear ad u
 obtain ⟨y,hy⟩:∃y,y=Ad x:=⟨_,rfl⟩
 rw[<-hy] at ai s c9
 clear hy
 obtain ⟨Ly,an⟩:=ai.o
 have aw:=yb an
 have cj:=yb an.at
 clear an
 have j:Hid (w3.heap.size < w4.heap.size):=yb (yf.1 O.o.row).1
 have be:=yb (N0 (g.o w4 r.o.2).1 (g.o w4 r.o.2).2.1 ay.o)
 obtain ⟨t,ht⟩:∃t,t=Tb.of x:=⟨_,rfl⟩
 rw[<-ht] at be s
 clear ht
 refine Ap fun K d=>?_
 go_wp2
 refine d.o _ _ ?_
 clear d K
 refine Ap fun K d=>?_
 go_wp2_with (first
  |(refine yj rfl 35 _ rfl w.heap.size 0 rfl cs _ r.o.1 qB rfl (Cl (n:=26) (by kernel_rfl) B.o) ?_)
  |(go_at_call 16;refine be.o.mono ?_;rintro e w5 ⟨h0,h1,h2,h3,rfl,b5,b4⟩;have ci:=yb b5;have ap:=yb b4;clear b5 b4)
  |(refine Ae rfl 44 _ _ rfl w5.heap.size rfl [h0.v,h1.v,h2.v,h3.v] rfl (World.alloc_heap_new _ _) rfl (by kernel_rfl) (by simp[Ah.v,Value.oneCell']) ?_;intro f bb;have ax:=yb bb;clear bb))
 refine d.o _ _ ?_
 clear d K
 have F:Hid (Below w5.heap.size w5 f):=yb (ax.o.below ((yg _ _).alloc (ye _) _) (ye _))
 have E:Hid (w5.heap.size < f.heap.size):=yb (yf.1 ax.o.row).1
 refine Ap fun K d=>?_
 go_wp2_with (first
  |(refine Ae rfl 4 _ _ rfl f.heap.size rfl [.bool true] rfl (World.alloc_heap_new _ _) rfl (by kernel_rfl) (by simp[Value.oneCell']) ?_;intro w7 J;have a8:=yb J;clear J)
  |(refine Ag rfl 4 _ _ rfl f.heap.size 0 rfl (.bool true) rfl (by kernel_rfl) (p:=[]) (m:=.bool false) (q:=[]) (t:=4) (World.alloc_heap_new _ _) rfl (by kernel_rfl) (by kernel_rfl) ?_;intro w7 J;have a8:Hid (AE (f.alloc (.cells #[.bool false] 4)) w7 f.heap.size [.bool true] 4):=yb (by simpa using J);clear J))
 refine d.o _ _ ?_
 clear d K
 have C:Hid (Below f.heap.size f w7):=yb (a8.o.below ((yg _ _).alloc (ye _) _) (ye _))
 have ab:Hid (f.heap.size < w7.heap.size):=yb (yf.1 a8.o.row).1
 have a:Hid (Below w4.heap.size w4 w7):=yb (ap.o.trans ((F.o.trans (C.o.mono F.o.size)).mono ap.o.size))
 have ac:=yb ap.o.size
 have cg:Hid (UG w4.heap.size w5.heap.size f.heap.size (h0,h1,h2,h3) t true w7):=yb ⟨(C.o.block _ E.o).trans (by have h:=ax.o.row;simpa using h),by have h:=a8.o.row;simpa using h,(ci.o.to (fun k hk=>(C.o.block k (Nat.lt_trans hk.2 E.o)).trans (F.o.block k hk.2)) (yr F.o.size C.o.size) (fun k hk=>hk))⟩
 have cb:Hid (BC (GF (U2 w4.heap.size (f.heap.size+1)) w7) w7 Ly ks y):=yb (aw.o.same (fun b hb=>⟨fun h=>by have:=h.1;have:=j.o;unfold U1 at hb;omega,by unfold U1 at hb;have:=a.o.size;have:=j.o;omega⟩) (fun b hb=>by unfold U1 at hb;exact (a.o.block b (by have:=j.o;omega)).trans (M.o.block b hb)))
 have ch:=yb (Po (SD (h:=(h0,h1,h2,h3)) (t:=t) ac.o E.o) cb.o c9.o (fun _ h=>h) (fun k hk=>by have:=hk.2;have:=ab.o;omega) cg.o)
 have cl:Hid (w7.rangeAt w3.heap.size 0 ks):=yb (Ax ((a.o.block _ j.o).trans O.o.row))
 refine Ap fun K d=>?_
 go_wp2_with (first
  |(refine yj rfl 35 _ rfl w3.heap.size 0 rfl ks _ cl.o qB rfl (Cl (n:=26) (by kernel_rfl) ak.o) ?_)
  |(go_at_call 17;refine ch.o.mono ?_;rintro e w8 ⟨zs,rfl,_,bn,b9⟩;have cd:=yb bn;have Q:=yb b9;clear bn b9))
 refine d.o _ _ ?_
 clear d K
 have S:=yb Q.o.size
 have bs:Hid (∀b,b < w4.heap.size->w8.heap[b]?=w4.heap[b]?):=yb (fun b hb=>(Q.o.block b (by have:=a.o.size;omega) (fun h=>by have:=h.1;omega)).trans (a.o.block b hb))
 have bq:Hid (w8.heap[f.heap.size]?=some (.cells ([.bool true]:LV).toArray 4 (0,0))):=yb (by have h:=cd.o.ok;rw[s.o.1] at h;exact h)
 have cx:=yb aw.o.reaches.1
 obtain ⟨⟨ha,X,hc⟩,hL⟩:∃h:Ah,Ly.reaches=h:=⟨_,rfl⟩
 have Z:Hid (AF (U1 w3) w3 51 (CC (U1 w3) w3) ⟨ha,X,hc⟩ y.reaches):=yb (by rw[<-hL];exact aw.o.reaches)
 have ag:X=y.reaches.length:=Z.o.1
 have bj:=yb ag
 have cq:X<=140737488355328:=by rw[ag];exact Z.o.2.1
 have ae:Hid (ks[21]?=some (.slice ha X hc)):=yb (by have h:=cj.o.reaches;rw[hL] at h;exact h)
 have a2:w8.cell? (aV w3.heap.size 21)=some (.slice ha X hc):=by
  have e:=(bs.o w3.heap.size j.o).trans O.o.row
  simp only[World.cell?,e]
  simpa using ae.o
 clear ag hL
 obtain ⟨I,hI⟩:∃I:World->Prop,I=fun wr=>wr.heap[f.heap.size]?=some (.cells ([.bool true]:LV).toArray 4 (0,0))∧BX (fun k=>k=f.heap.size) w8.heap.size w8 wr:=⟨_,rfl⟩
 have HI:=yb hI
 have bu:Hid (I w8):=yb (by rw[hI];exact ⟨bq.o,BX.refl _ _ _⟩)
 clear hI
 refine Ap fun K d=>?_
 go_wp2
 go_loopw [29] (fun iv wr=>∃i:Nat,iv=iV i∧i<=X∧Hid (I wr)) (fun iv _=>X - (intOf iv).toNat)
 case atStart=>exact ⟨0,rfl,yz _,bu⟩
 case round=>
  clear bu a2
  obtain ⟨i,rfl,hi,HJ⟩:=hrel
  obtain ⟨bi,bw⟩:wr.heap[f.heap.size]?=some (.cells ([.bool true]:LV).toArray 4 (0,0))∧BX (fun k=>k=f.heap.size) w8.heap.size w8 wr:=by have h:=HJ.o;rw[HI.o] at h;exact h
  have P:=yb bi;have l:=yb bw
  clear HJ bi bw
  have V:Hid (∀b,b < w4.heap.size->wr.heap[b]?=w4.heap[b]?):=yb (fun b hb=>(l.o.block b (by have:=a.o.size;have:=S.o;omega) (by have:=ac.o;have:=E.o;omega)).trans (bs.o b hb))
  have cf:Hid (f.heap.size < wr.heap.size):=yb (by have:=l.o.size;have:=S.o;have:=ab.o;omega)
  by_cases am:i < X
  ·have al:i < y.reaches.length:=by rw[<-bj.o];exact am
   have ce:(i:Int) < (X:Int):=by omega
   obtain ⟨b,o,ct,he,aq,bz,bg,a1⟩:=Z.o.2.2 i al
   obtain rfl:ha=some (aV b o):=he
   have ca:=yb (s.o.2.1 i y.reaches[i] (by simp[al]))
   generalize y.reaches[i]=D at a1 ca
   have bv:=yb (Hy a1).2
   have a7:=yb bz
   have b8:Hid (wr.rangeAt b (o+i*51) ct):=yb (A3 bg ((V.o b (by unfold U1 at aq;have:=j.o;omega)).trans (M.o.block b aq)))
   obtain ⟨dn,df,d1,d2,d3,d4,d5,d6,d7,d8⟩:=D
   have bh:Hid (ct[2]?=some (iV df.n)):=yb (by
    obtain ⟨_,_,c0,c1,c2,c3,c4,c5,c6,c7,he,_⟩:=a1
    rw[he];rfl)
   clear bg bz a1 aq al
   go_upto_region 14 with (first
    |(with_reducible refine yj rfl 51 _ rfl b (o+i*51) (by kernel_rfl) ct _ b8.o qG (by kernel_rfl) (Cl (n:=51) (by kernel_rfl) a7.o) ?_)
    |(with_reducible refine Ae rfl 51 _ _ rfl wr.heap.size (by kernel_rfl) ct (by kernel_rfl) (World.alloc_heap_new _ _) (by rw[yB,a7.o];kernel_rfl) (Cl (n:=51) (by kernel_rfl) a7.o) bv.o ?_;intro Y bk;have ao:=yb bk;clear bk))
   have ah:Hid (Below wr.heap.size wr Y):=yb (Az ao.o)
   have a0:Hid (Y.heap[f.heap.size]?=some (.cells ([.bool true]:LV).toArray 4 (0,0))):=yb ((ah.o.block _ cf.o).trans P.o)
   have cr:Y.cell? (aV f.heap.size 0)=some (.bool true):=by simp[World.cell?,a0.o]
   have cw:Y.frozen? (aV f.heap.size 0)=false:=by simp[World.frozen?,a0.o]
   have bt:Y.cell? (aV wr.heap.size 2)=some (iV df.n):=by
    have h:=Ax ao.o.row
    have:=h 2 _ bh.o
    simpa using this
   have az:Hid (I (Y.setCell (aV f.heap.size 0) (.bool true))):=yb (by
    rw[HI.o]
    refine ⟨?_,?_⟩
    ·show (Y.setCell (aV f.heap.size 0) (.bool true)).heap[f.heap.size]?=_
     rw[za Y f.heap.size 0 _ _ _ a0.o]
     rfl
    ·refine l.o.trans ((BX.of (ah.o.mono l.o.size)).trans ⟨rfl,rfl,rfl,?_,fun k _ hk=>yY _ _ _ _ (fun e=>hk e)⟩)
     show Y.heap.size<=(Y.setCell (aV f.heap.size 0) (.bool true)).heap.size
     simp)
   clear ao b8 a7 bv bh a0 ah
   obtain rfl|cp:i=0∨0 < i:=by omega
   ·skip
    go_wp2
    exact ⟨⟨1,rfl,by omega,az⟩,by simp[intOf];omega⟩
   ·have hz:((i:Int)==0)=false:=by simp;omega
    have cn:df.n < (i:Int):=by
     rcases ca.o with h|h
     ·omega
     ·exact h
    go_wp2
    exact ⟨⟨i+1,by push_cast;rfl,by omega,az⟩,by simp[intOf];omega⟩
  ·obtain rfl:i=X:=by omega
   have ce:decide ((i:Int) < (i:Int))=false:=by simp
   have cm:wr.cell? (aV f.heap.size 0)=some (.bool true):=by simp[World.cell?,P.o]
   have cu:wr.cell? (aV w3.heap.size 21)=some (.slice ha i hc):=by
    have e:=(V.o w3.heap.size j.o).trans O.o.row
    simp only[World.cell?,e]
    simpa using ae.o
   obtain ⟨⟨ga,gn,gc⟩,hg⟩:∃h:Ah,L.reaches=h:=⟨_,rfl⟩
   have ck:gn=i:=by
    have h1:L.reaches.n=x.reaches.length:=(g.o w4 r.o.2).1.reaches.1
    rw[hg] at h1
    have h2:gn=x.reaches.length:=h1
    rw[h2,<-s.o.2.2]
    exact bj.o.symm
   subst ck
   have u:wr.cell? (aV w.heap.size 21)=some (.slice ga gn gc):=by
    have h1:=(g.o w4 r.o.2).1.at.reaches
    rw[hg] at h1
    have e:=r.o.1 21 _ h1
    have am:w.heap.size < w4.heap.size:=by have:=T.o.2.size;have:=cc.o;have:=bm.o.size;omega
    have e2:=V.o w.heap.size am
    have e3:wr.cell? (aV w.heap.size 21)=w4.cell? (aV w.heap.size 21):=by simp only[World.cell?,e2]
    rw[e3]
    simpa[Ah.v] using e
   have b3:Hid (Below w.heap.size w wr):=yb (by
    have h8:Below w4.heap.size w4 wr:=⟨l.o.os.trans (Q.o.os.trans a.o.os),l.o.tape.trans (Q.o.tape.trans a.o.tape),l.o.output.trans (Q.o.output.trans a.o.output),by have:=l.o.size;have:=S.o;have:=a.o.size;omega,V.o⟩
    exact r.o.2.trans (h8.mono r.o.2.size))
   clear Z V l P
   go_wp2
   refine d.o _ _ ?_
   go_wp2
   go_ret
   exact ⟨rfl,b3.o⟩
end Go.Proofs.Ytghepahgkcigpaa
namespace Go.Proofs.Ytghepahgkcigpaa
open Go.RowKit Go.ChangeShapes Go.WideShapes Go.ChangeAt
theorem own:ownKnob Try.prog.godebug=none:=by kernel_rfl
theorem To:laidOutB Try.prog=true:=by kernel_rfl
theorem N7{W:World}(h:W.ShapedOpen Try.prog):GV W:=by
 obtain ⟨m,a⟩:∃m,W.cell? (aV 0 0)=some (iV m):=Try.laysM144.s1_3 W h
 exact ⟨Qb a,m,a⟩
theorem IZ(os:Os)(a:os.Started)(H:Type)(enc:TypeId × Value->H):
  ReturnsInHanded {} Try.checked os 5 .any (Rows.namesReferSpec.pre6 enc Try.prog Try.f5 Rows.namesReferRow.domain false) (Rows.namesReferSpec.post enc Try.prog Try.f5 false true false false):=by
 refine returnsInHanded_of_change_shaped (C:=Try.checked) own a (by kernel_rfl) Try.func5
  (ChangeSpec.witness6 (enc:=enc) (C:=Try.checked) false ⟨#[],#[.agg #[.string ByteArray.empty,iV 0,iV 0,iV 0,.string ByteArray.empty,iV 0,.slice none 0 0,iV 0,iV 0,iV 0,.string ByteArray.empty,iV 0,.slice none 0 0,iV 0,iV 0,iV 0,.string ByteArray.empty,iV 0,.slice none 0 0,.slice none 0 0,.slice none 0 0,.slice none 0 0,.slice none 0 0,.slice none 0 0,.slice none 0 0,.slice none 0 0]],[]⟩ 16 (by kernel_rfl) (by kernel_rfl) (by kernel_rfl) (by kernel_rfl)) ?_
 intro W base args ds D r c w _ f s _
 have l:(DataW.weightsEach Try.prog (Try.f5.params.toList++Rows.namesReferSpec.plain.varTypes Try.prog) (ds++D)).all (·<=reachBytes)=true:=f
 have g:∀(j:Nat) t v,Try.f5.params[j]?=some t->args[j]?=some v->Value.okWide Try.prog W .any base t v:=c
 have k:=w
 obtain ⟨p,q,o,G,rfl,_,_⟩:=w
 have z:DataW.TrodAll enc Try.prog W 0 (fun _=>true) true Try.f5.params.toList args.toList ds p:=o
 rw[Try.params5] at z g l
 obtain ⟨v0,y,rfl,rfl,h0⟩:=trodAll_one z
 obtain ⟨rfl,rfl⟩:=trodVars_none G
 obtain ⟨cs,rfl,m⟩:=okWide_struct qB (g 0 35 v0 rfl rfl)
 rw[N6] at m
 have u:=h0
 obtain ⟨fuel,K⟩:=h0
 clear o c f
 simp only[zn] at k
 have I:Wt 35 y:=fun n B=>by simpa using yL.1 l n (yC (j:=0) (t:=35) (d:=y) rfl rfl _ B)
 obtain ⟨L,x,A,J,E⟩:=Ou (H:=H) (enc:=enc) (W:=W) (cs:=cs.toList) K I (by simpa using m)
 have M:=N7 s
 have i:=Lt A (fun b hb=>hb) M
 rw[show cs.toList.toArray=cs by simp] at i
 refine i.mono fun e W' ⟨N,hb⟩=>?_
 subst N
 exact ⟨_,rfl,_,_,_,[],_,[],k,trodAll_mk1 (shut_bool qC true),trodAll_mk1 (Below.trod To (by kernel_rfl) (yv (by kernel_rfl)) u hb (fun x F=>by simpa using k.lt x F)),rfl,hb.frame _,fun h=>by cases h⟩
theorem namesRefer_holds:Rows.NamesReferSaid:=
 OpenClaim.holds_of_wide 5 Try.f5 rfl rfl rfl rfl rfl rfl rfl ⟨rfl,rfl,rfl,rfl,rfl⟩ rfl rfl rfl rfl rfl (by kernel_rfl) Try.func5 (by kernel_rfl)
  (yv (by kernel_rfl)) (by unfold Func.isWrapper;rw[yu (of_decide_eq_false (by kernel_rfl))];exact ⟨rfl,rfl⟩)
  (fun os a H enc _=>IZ os a H enc)
#print axioms namesRefer_holds
end Go.Proofs.Ytghepahgkcigpaa
