/- Parts of the proof, in short words: Zv Zw Ba Bg Bm Zz Bh Bi -/
import Derived.Test.YtghepahgkcigpaaRg0
import Derived.Test.YtghepahgkcigpaaRg30
import Derived.Test.YtghepahgkcigpaaRg22
import Derived.Test.YtghepahgkcigpaaRg9
import Derived.Test.YtghepahgkcigpaaRg8
import Derived.Test.YtghepahgkcigpaaRg26
import Derived.Test.YtghepahgkcigpaaRg13
import Derived.Test.YtghepahgkcigpaaRows
import Derived.ProofKit
import Derived.HandedShaped
set_option maxRecDepth 100000
set_option maxHeartbeats 64000000
set_option linter.unusedSimpArgs false
namespace Go.Proofs.Ytghepahgkcigpaa
open Go.RowKit
theorem OV{α β:Type}{f:α->Nat->β}{g:Nat->α->β}{l:List α}(h:∀i (hi:i < l.length),f l[i] i=g i l[i]):(l.zipIdx.map fun p=>f p.1 p.2)=l.mapIdx g:=by
 refine zM (by simp) fun i h1 h2=>?_
 rw[zS,zZ,xv]
 simpa using h i (by simpa using h1)
theorem SN:Fw LH:=⟨by decide,by decide,by decide,by decide,by decide,by decide,by decide,fun d hd=>by simp[LH] at hd⟩
theorem S5{x:An}(h:Fw x)(f:Int->Ex->Ex)(g:Int->Rf->Rf):Fw (x.mp f g):=by
 refine ⟨?_,?_,?_,?_,?_,?_,?_,?_⟩
 ·simpa[An.mp] using h.lets
 ·simpa[An.mp] using h.crops
 ·simpa[An.mp] using h.reaches
 ·simpa[An.mp] using h.farms
 ·simpa[An.mp] using h.rots
 ·simpa[An.mp] using h.rights
 ·simpa[An.mp] using h.duties
 ·intro d hd
  simp only[An.mp] at hd
  obtain ⟨i,hi,rfl⟩:=xV hd
  rw[zZ]
  have:=h.turns _ (yy (l:=x.rots) (n:=i) (by simpa using hi))
  simpa[B7.mp] using this
def MA(x:An):An:=if Au x=0 then A8 x else LH
theorem TD{x:An}(h:Fw x):Fw (MA x):=by
 unfold MA
 split
 ·exact S5 h _ _
 ·exact SN
def Oa(w:World)(b:Nat):Prop:=b < w.heap.size
theorem DT.wide{N N':NP}{w w':World}{cs:LV}{y:An}(h:DT N w cs y)(a:∀b,N b->N' b)(hb:∀b,N b->w'.heap[b]?=w.heap[b]?):DT N' w' cs y:=by
 obtain ⟨L,c⟩:=h
 exact ⟨L,c.same a hb⟩
theorem NW{w w':World}{x:An}{e:Ending}(h:ER w x e w'):Below w.heap.size w w'∧∃a:LV,e=.returned (.tuple #[.agg a.toArray,.int .i64 (Au x)])∧DT (Oa w') w' a (MA x):=by
 obtain ⟨hb,⟨h1,h2⟩|⟨h1,a,h2,L,N,h3,h4,h5⟩⟩:=h
 ·refine ⟨hb,Bo,h2,?_⟩
  unfold MA;rw[yu h1];exact RI _ _
 ·refine ⟨hb,a,by rw[h1];exact h2,?_⟩
  unfold MA;rw[yx h1]
  exact ⟨L,h4.same (fun b hb=>(h5 b hb).2) (fun _ _=>rfl)⟩
structure UC (t:Tb):Prop where
 lets:t.lets.Nodup
 crops:t.crops.Nodup
 reaches:t.reaches.Nodup
 farms:t.farms.Nodup
section
variable{t:Tb}
end
def Cr(_:Int)(r:Rf):Rf:=⟨r.name,0⟩
theorem CT{α:Type}{F:Nat->α->α}(h:∀i a,F i (F i a)=F i a)(l:List α):(l.mapIdx F).mapIdx F=l.mapIdx F:=by
 refine zM (by simp) fun i h1 h2=>?_
 simp[h]
theorem BH{α β:Type}{F:Nat->α->α}{k:α->β}(h:∀i a,k (F i a)=k a)(l:List α):(l.mapIdx F).map k=l.map k:=by
 refine zM (by simp) fun i h1 h2=>?_
 simp[h]
section
variable{t:Tb}
theorem LY(c:Int)(r:Rf):gT t c (gT t c r)=gT t c r:=by
 unfold gT
 by_cases h:c=0
 ·simp only[yx h]
 ·simp only[yu h]
theorem SU(c:Int)(r:Rf):(gT t c r).name=r.name:=by
 unfold gT;split<;>rfl
mutual
theorem LZ:∀e:Ex,G0 t (G0 t e)=G0 t e
 |.mk op n u rn ri args=>by
  rw[G0,G0,M0 args]
  congr 1
  by_cases h:op=2
  ·rw[yx h,yx h]
  ·rw[yu h,yu h]
theorem M0:∀l:List Ex,Eu t (Eu t l)=Eu t l
 |[]=>by rw[Eu,Eu]
 |e::r=>by rw[Eu,Eu,LZ e,M0 r]
end
theorem IC(lt:Int)(e:Ex):fT t lt (fT t lt e)=fT t lt e:=by
 unfold fT
 by_cases h:D8 e=true
 ·simp only[yx h]
 ·simp only[yu h,LF,LZ]
theorem Ud(x:An):(x.mp (fT t) (gT t)).mp (fT t) (gT t)=x.mp (fT t) (gT t):=by
 have e1:=CT (F:=Dx.mp (fT t)) (fun i d=>by unfold Dx.mp;simp only[IC]) x.lets
 have e2:=CT (F:=BY.mp (fT t)) (fun i d=>by unfold BY.mp;simp only[IC]) x.crops
 have e:=CT (F:=Ax.mp (fT t) (gT t)) (fun i d=>by unfold Ax.mp;simp only[IC,LY]) x.reaches
 have f:=CT (F:=BL.mp (fT t) (gT t)) (fun i d=>by unfold BL.mp;simp only[IC,LY]) x.farms
 have b:=CT (F:=B7.mp (fT t) (gT t)) (fun i d=>by unfold B7.mp;simp only[IC,LY];rw[CT (F:=Bt.mp (fT t) (gT t)) (fun i d=>by unfold Bt.mp;simp only[IC,LY])]) x.rots
 have c:=CT (F:=AG.mp (fT t) (gT t)) (fun i d=>by unfold AG.mp;simp only[IC,LY]) x.rights
 have a:=CT (F:=Ce.mp (fT t) (gT t)) (fun i d=>by unfold Ce.mp;simp only[IC,LY]) x.duties
 unfold An.mp
 simp only[IC,e1,e2,e,f,b,c,a]
theorem PL(x:An){f:Int->Ex->Ex}{g:Int->Rf->Rf}:Tb.of (x.mp f g)=Tb.of x:=by
 unfold Tb.of An.mp
 simp only
 rw[BH (F:=Dx.mp f) (k:=fun d:Dx=>d.name) (fun _ _=>rfl),BH (F:=BY.mp f) (k:=fun d:BY=>d.name) (fun _ _=>rfl),BH (F:=Ax.mp f g) (k:=fun d:Ax=>d.name) (fun _ _=>rfl),BH (F:=BL.mp f g) (k:=fun d:BL=>d.name) (fun _ _=>rfl)]
theorem Qv(x:An){f:Int->Ex->Ex}{g:Int->Rf->Rf}:Cn (x.mp f g)=Cn x:=by
 unfold Cn An.mp
 simp only
 rw[BH (F:=B7.mp f g) (k:=fun d:B7=>d.name) (fun _ _=>rfl),BH (F:=AG.mp f g) (k:=fun d:AG=>d.name) (fun _ _=>rfl)]
theorem M1(x:An){f:Int->Ex->Ex}{g:Int->Rf->Rf}:(x.mp f g).duties.map (·.name)=x.duties.map (·.name):=by
 unfold An.mp
 simp only
 rw[BH (F:=Ce.mp f g) (k:=fun d:Ce=>d.name) (fun _ _=>rfl)]
theorem Sa(x:An){f:Int->Ex->Ex}{g:Int->Rf->Rf}:Cu (x.mp f g)=Cu x:=by
 have h:=PL x (f:=f) (g:=g)
 unfold Tb.of at h
 simp only[Tb.mk.injEq] at h
 obtain ⟨h1,h2,h3,h4⟩:=h
 have h5:(x.mp f g).rots.map (·.name)=x.rots.map (·.name):=by
  unfold An.mp;simp only
  rw[BH (F:=B7.mp f g) (k:=fun d:B7=>d.name) (fun _ _=>rfl)]
 have h6:(x.mp f g).rights.map (·.name)=x.rights.map (·.name):=by
  unfold An.mp;simp only
  rw[BH (F:=AG.mp f g) (k:=fun d:AG=>d.name) (fun _ _=>rfl)]
 unfold Cu
 rw[h1,h2,h3,h4,h5,h6,M1]
 rfl
theorem SV(x:An){f:Int->Ex->Ex}{g:Int->Rf->Rf}(h:EJ x):EJ (x.mp f g):=by
 have k:=PL x (f:=f) (g:=g)
 unfold Tb.of at k
 simp only[Tb.mk.injEq] at k
 obtain ⟨h1,h2,h3,h4⟩:=k
 unfold EJ
 rw[h1,h2,h3,h4,Qv,M1]
 exact h
theorem Sb(x:An)(h:CC t x=true):CC t (x.mp (fT t) (gT t))=true:=by
 unfold CC at h ⊢
 rw[yL] at h ⊢
 have e:(x.mp (fT t) (gT t)).reaches.zipIdx=x.reaches.zipIdx.map fun p=>(Ax.mp (fT t) (gT t) p.2 p.1,p.2):=BB _ _
 rw[e]
 intro q b
 obtain ⟨p,a,rfl⟩:=zw.1 b
 have:=h p a
 unfold JD at this ⊢
 exact Gr this
end
theorem NZ{x:An}(h:Au x=0):Au (A8 x)=0:=by
 obtain ⟨h1,h2,h3,h4,h5⟩:=Ed h
 have e:Tb.of (A8 x)=Tb.of x:=PL x
 unfold Au
 rw[e,show Bq (A8 x)=true from Mq h1,show Cu (A8 x)=true from (Sa x).trans h2,show CC (Tb.of x) (A8 x)=true from Sb x h4,show CK (Tb.of x) (A8 x)=true from IU h5]
 have a:EJ (A8 x):=SV x h3
 rw[yx rfl,yx rfl,yx a];rfl
theorem H4(x:An):A8 (A8 x)=A8 x:=by
 have e:Tb.of (A8 x)=Tb.of x:=PL x
 show (A8 x).mp (fT (Tb.of (A8 x))) (gT (Tb.of (A8 x)))=_
 rw[e]
 exact Ud x
theorem Sc{x:An}(h:Au x=0):Dg (A8 x)=0:=by
 unfold Dg
 rw[yx (NZ h),H4,yx rfl]
theorem O0{x:An}(h:Au x≠0):Dg x=Au x:=by
 unfold Dg
 rw[yu h]
section
variable{t:Tb}
mutual
theorem M3:∀e:Ex,AM Cr (G0 t e)=AM Cr e
 |.mk op n u rn ri args=>by
  rw[G0,AM,AM,M4 args]
  by_cases h:op=2
  ·simp only[yx h,Cr]
  ·simp only[yu h]
theorem M4:∀l:List Ex,MB Cr (Eu t l)=MB Cr l
 |[]=>by rw[Eu]
 |e::r=>by rw[Eu,MB,MB,M3 e,M4 r]
end
theorem EU(lt:Int)(e:Ex):AM Cr (fT t lt e)=AM Cr e:=by
 unfold fT
 split
 ·rfl
 ·exact M3 e
theorem Hq(c d:Int)(r:Rf):Cr c (gT t d r)=Cr c r:=by
 unfold Cr
 rw[SU]
theorem ME(r:Rf):gT t 0 r=r:=rfl
theorem SW(x:An):Jq Cr (x.mp (fT t) (gT t))=Jq Cr x:=by
 have e1:=BH (F:=Dx.mp (fT t)) (k:=I7 Cr) (fun i d=>by unfold Dx.mp I7;simp only[EU]) x.lets
 have e2:=BH (F:=BY.mp (fT t)) (k:=EN Cr) (fun i d=>by unfold BY.mp EN;simp only[EU]) x.crops
 have e:((x.reaches.mapIdx (Ax.mp (fT t) (gT t))).zipIdx.map fun p=>CM Cr p.2 p.1)=x.reaches.zipIdx.map fun p=>CM Cr p.2 p.1:=by
  rw[BB,List.map_map]
  refine List.map_congr_left fun p _=>?_
  unfold Ax.mp CM
  simp only[Function.comp_apply,EU]
  congr 1
  by_cases h:p.2=0
  ·simp only[yx h,ME]
  ·simp only[yu h,Hq]
 have f:=BH (F:=BL.mp (fT t) (gT t)) (k:=DH Cr) (fun i d=>by
  unfold BL.mp DH;simp only[EU,Hq]
  by_cases h:d.river=true
  ·simp only[yx h,ME]
  ·simp only[yu h]) x.farms
 have b:=BH (F:=B7.mp (fT t) (gT t)) (k:=Ge Cr) (fun i d=>by
  unfold B7.mp Ge;simp only[EU,Hq]
  rw[BH (F:=Bt.mp (fT t) (gT t)) (k:=FE Cr) (fun i d=>by unfold Bt.mp FE;simp only[EU,Hq])]) x.rots
 have c:=BH (F:=AG.mp (fT t) (gT t)) (k:=Cx Cr) (fun i d=>by
  unfold AG.mp Cx;simp only[EU,Hq]
  by_cases h:d.kind=1
  ·simp only[yx h,ME]
  ·simp only[yu h]) x.rights
 have a:=BH (F:=Ce.mp (fT t) (gT t)) (k:=Du Cr) (fun i d=>by unfold Ce.mp Du;simp only[EU,Hq]) x.duties
 unfold Jq An.mp
 simp only[EU,e1,e2,e,f,b,c,a]
end
theorem L3(x:An):Jq Cr (A8 x)=Jq Cr x:=SW x
def PM(t t':Tb)(g:Int->Rf->Rf)(d:Int):Prop:=∀(j:Nat) (r:Rf),TQ ((t.at d).take j) r=true->TQ ((t'.at d).take j) (g d r)=true∧TS ((t'.at d).take j) (g d r)=g d (TS ((t.at d).take j) r)
structure UG (t t':Tb) (g:Int->Rf->Rf):Prop where
 at0:PM t t' g 0
 at1:PM t t' g 1
 at2:PM t t' g 2
 at3:PM t t' g 3
section
variable{t t':Tb}{g:Int->Rf->Rf}
end
def gM(g:Int->Rf->Rf)(c:Int)(r:Rf):Rf:=if c=0 then r else if c=3 then g 1 r else if c=5 then g 3 r else g 2 r
theorem SX(g:Int->Rf->Rf)(x:An):Jq g x=x.mp (fun _=>AM g) (gM g):=by
 have e1:x.lets.map (I7 g)=x.lets.mapIdx (Dx.mp fun _=>AM g):=Dz fun i hi=>rfl
 have e2:x.crops.map (EN g)=x.crops.mapIdx (BY.mp fun _=>AM g):=Dz fun i hi=>rfl
 have e3:(x.reaches.zipIdx.map fun p=>CM g p.2 p.1)=x.reaches.mapIdx (Ax.mp (fun _=>AM g) (gM g)):=by
  refine OV (f:=fun d i=>CM g i d) fun i hi=>?_
  unfold CM Ax.mp gM
  by_cases h:i=0
  ·simp[h]
  ·simp[h]
 have e4:x.farms.map (DH g)=x.farms.mapIdx (BL.mp (fun _=>AM g) (gM g)):=Dz fun i hi=>by
  unfold DH BL.mp gM
  by_cases h:(x.farms[i]).river=true
  ·simp[h]
  ·simp[h]
 have et:∀l:List Bt,l.map (FE g)=l.mapIdx (Bt.mp (fun _=>AM g) (gM g)):=fun l=>Dz fun i hi=>rfl
 have e5:x.rots.map (Ge g)=x.rots.mapIdx (B7.mp (fun _=>AM g) (gM g)):=Dz fun i hi=>by
  unfold Ge B7.mp
  rw[et]
  rfl
 have e6:x.rights.map (Cx g)=x.rights.mapIdx (AG.mp (fun _=>AM g) (gM g)):=Dz fun i hi=>by
  unfold Cx AG.mp gM
  by_cases h:(x.rights[i]).kind=1
  ·simp[h]
  ·simp[h]
 have e7:x.duties.map (Du g)=x.duties.mapIdx (Ce.mp (fun _=>AM g) (gM g)):=Dz fun i hi=>rfl
 unfold Jq An.mp
 rw[e1,e2,e3,e4,e5,e6,e7]
section
variable{t:Tb}(c k:Nat)(new:ByteArray)
end
theorem M5{w:World}{a ms:LV}{x:An}(h1:DT (Oa w) w a x)(h2:DT (Oa w) w ms x)(b:Fw x):Calls Try.prog 13 #[.agg a.toArray,.agg ms.toArray] w fun e w'=>e=.returned (.bool true)∧Below w.heap.size w w':=by
 obtain ⟨L,d⟩:=h1
 obtain ⟨M,c⟩:=h2
 have h:=RQ d c (fun _ h=>h) b b
 rw[(Qq x x).2 ⟨rfl,rfl⟩] at h
 exact h
set_option linter.unusedSimpArgs false
theorem Qw{W:World}{c:Int}{B o:Nat}{p:LV}{r:Rf}{s:LV}{ty:TypeId}(f:W.heap[B]?=some (.cells (p++(Ah r++s)).toArray ty (0,0)))(d:p.length=o):
  Calls Try.prog 19 #[.int .i64 c,.pointer (some ⟨B,o,none⟩)] W fun e W'=>e=.returned (.tuple #[])∧AF W W' B (p++(Ah (Cr c r)++s)) ty:=by
 obtain ⟨rn,ri⟩:=r
 have h:Hid (W.heap[B]?=some (.cells ((p++[Value.string rn])++(iV ri::s)).toArray ty (0,0))):=yb (by simpa[Ah] using f)
 have g:Hid ((p++[Value.string rn]).length=o+1):=yb (by simp[d])
 clear f d
 go_enter Try.func19,Try.ntmps19
 go_wp2_with (first|(refine Ao rfl 3 _ _ rfl B (o+1) rfl (iV 0) rfl (by kernel_rfl) (p:=p++[Value.string rn]) (m:=iV ri) (q:=s) (t:=ty) h.o g.o (by kernel_rfl) (by kernel_rfl) ?_;intro i a;have b:Hid (AF W i B (p++(Ah (Cr c ⟨rn,ri⟩)++s)) ty):=yb (by simpa[Ah,Cr] using a);clear a))
 refine xT (zf rfl _ _ _) rfl ⟨rfl,b.o⟩
theorem SY:Jo 19 #[] (fun _=>False) Cr (fun _ _=>true) (fun _ _=>True) where
 stab _ _ _ _ _ _:=trivial
 lt _ _ _ _ d:=d.elim
 enter args w:=by kernel_rfl
 name c r h:=h
 call b W c B o p r s t _ hW hp _ _ _ _:=(Qw (c:=c) hW hp).mono fun e W' a=>⟨a.1,trivial,a.2.os,a.2.tape,a.2.output,a.2.size,a.2.row,fun k d _=>a.2.block k d⟩
theorem O1{N:NP}{w:World}{L:Bh}{cs:LV}{x:An}(h:B8 N w L cs x)(hN:∀b,N b->b < w.heap.size)(a:Sh x):
  Calls Try.prog 17 #[.agg cs.toArray,.func (.func 19) #[] #[]] w fun e w'=>∃ps:LV,e=.returned (.agg ps.toArray)∧DT (Oa w') w' ps (Jq Cr x)∧Below w.heap.size w w':=by
 refine (P1 (b:=true) (G:=fun _=>False) SY (h.same (N':=GF (fun _=>False) w) (fun b hb=>⟨fun h=>h,hN b hb⟩) (fun _ _=>rfl)) a (fun _ h=>h) (fun _ h=>h.elim) trivial).mono ?_
 rintro e w' ⟨ps,rfl,d,_,hb⟩
 exact ⟨ps,rfl,d.wide (fun b hb=>hb.2) (fun _ _=>rfl),hb.os,hb.tape,hb.output,hb.size,fun k c=>hb.block k c (fun h=>h)⟩
theorem Sd{N:NP}{w:World}{L:Bh}{cs:LV}{x:An}(h:B8 N w L cs x)(hN:∀b,N b->b < w.heap.size)(hg:GV w):
  Calls Try.prog 6 #[.agg cs.toArray] w fun e w'=>e=.returned (.bool true)∧Below w.heap.size w w':=by
 have g:Hid (∀W,Below w.heap.size w W->B8 N W L cs x∧(∀b,N b->b < W.heap.size)∧GV W):=yb (fun W f=>⟨h.same (fun _ h=>h) (fun b hb=>f.block b (hN b hb)),fun b hb=>yp (hN b hb) f.size,hg.below f hg.1⟩)
 have l:=yb (DT.len ⟨L,h⟩)
 clear h hN hg
 go_enter Try.func6,Try.ntmps6
 refine Ag fun K a=>?_
 go_wp2_with (first|(refine F8 rfl 35 _ rfl cs.toArray rfl ?_))
 refine a.o _ _ ?_
 clear a K
 obtain ⟨P,D⟩:∃z:World,z=w.alloc (.cells cs.toArray 35):=⟨_,rfl⟩
 rw[<-D]
 have Y:Hid (Below w.heap.size w P):=yb (by rw[D];exact (yg _ _).alloc (ye _) _)
 have S:Hid (∀W,Below P.heap.size P W->W.rangeAt w.heap.size 0 cs∧Below w.heap.size w W):=yb (fun W f=>by
  have hz:P.heap.size=w.heap.size+1:=by rw[D];simp
  have hx:P.heap[w.heap.size]?=some (.cells cs.toArray 35 (0,0)):=by rw[D];exact World.alloc_heap_new _ _
  exact ⟨Ay ((f.block _ (by omega)).trans hx),Y.o.trans (f.mono Y.o.size)⟩)
 have ba:Hid (P.heap.size=w.heap.size+1):=yb (by rw[D];simp)
 clear D
 refine Ag fun K a=>?_
 go_wp2_with (first|(go_at_call 9;refine (RZ (g.o P Y.o).2.2).mono ?_;rintro e w1 ⟨rfl,a6⟩;have a2:=yb a6;clear a6))
 refine a.o _ _ ?_
 clear a K
 have k:=yb (S.o w1 a2.o)
 refine Ag fun K a=>?_
 cases hq:ES x
 ·clear a
  go_wp2_with (first
   |(refine yj rfl 35 _ rfl w.heap.size 0 rfl cs _ k.o.1 qB rfl (BW (n:=26) (by kernel_rfl) l.o) ?_)
   |(go_at_call 10;refine (PG (g.o w1 k.o.2).1 (g.o w1 k.o.2).2.1).mono ?_;rintro e w2 ⟨rfl,C⟩;rw[hq];have F:=yb C;clear C))
  go_ret
  exact ⟨rfl,k.o.2.trans (F.o.mono k.o.2.size)⟩
 have ab:=yb hq
 go_wp2_with (first
  |(refine yj rfl 35 _ rfl w.heap.size 0 rfl cs _ k.o.1 qB rfl (BW (n:=26) (by kernel_rfl) l.o) ?_)
  |(go_at_call 10;refine (PG (g.o w1 k.o.2).1 (g.o w1 k.o.2).2.1).mono ?_;rintro e w2 ⟨rfl,C⟩;rw[hq];have F:Hid (Below P.heap.size P w2):=yb (a2.o.trans (C.mono a2.o.size));clear C))
 refine a.o _ _ ?_
 clear a K hq
 have U:=yb (S.o w2 F.o)
 have ah:=yb (SE ab.o)
 have bw:=yb (TD ah.o)
 have a0:=yb (RM ab.o)
 have HC:=yb (DG (g.o w2 U.o.2).1 (g.o w2 U.o.2).2.1 a0.o.1 (g.o w2 U.o.2).2.2 a0.o.2)
 refine Ag fun K a=>?_
 go_wp2_with (first
  |(refine yj rfl 35 _ rfl w.heap.size 0 rfl cs _ U.o.1 qB rfl (BW (n:=26) (by kernel_rfl) l.o) ?_)
  |(go_at_call 11;refine HC.o.mono ?_;intro e w3 s;obtain ⟨a7,t,rfl,a1⟩:=NW s;have X:=yb a1;have ai:=yb a7;have E:=yb a1.len;have bk:=yb a1.one;clear s a7 a1)
  |(refine Aj rfl 35 _ _ rfl w3.heap.size rfl t rfl (World.alloc_heap_new _ _) (by rw[E.o];rfl) (BW (n:=26) (by kernel_rfl) E.o) bk.o ?_;intro w4 b3;have I:=yb b3;clear b3))
 refine a.o _ _ ?_
 clear a K
 have H:Hid (Below w3.heap.size w3 w4):=yb (I.o.below ((yg _ _).alloc (ye _) _) (ye _))
 have Z:Hid (Below P.heap.size P w4):=yb (F.o.trans ((ai.o.trans (H.o.mono ai.o.size)).mono F.o.size))
 have A:=yb (S.o w4 Z.o)
 have J:=yb a0.o.1
 have av:=yb a0.o.2
 by_cases m:Au x=0
 rotate_left
 ·have aj:=yb (Hn (g.o w4 A.o.2).1 (g.o w4 A.o.2).2.1 J.o (g.o w4 A.o.2).2.2 av.o)
  have ax:Hid (Dg x=Au x):=yb (O0 m)
  have bs:(Au x !=0)=true:=by simpa using m
  rw[ax.o] at aj
  generalize Au x=c at bs aj
  clear m ax
  go_wp2_with (first
   |(refine yj rfl 35 _ rfl w.heap.size 0 rfl cs _ A.o.1 qB rfl (BW (n:=26) (by kernel_rfl) l.o) ?_)
   |(go_at_call 14;refine aj.o.mono ?_;rintro e w5 ⟨rfl,u⟩;have Q:=yb u;clear u))
  go_ret
  exact ⟨rfl,A.o.2.trans (Q.o.mono A.o.2.size)⟩
 have ad:MA x=A8 x:=by unfold MA;rw[yx m]
 rw[ad] at X
 rw[m]
 have al:=yb (NZ m);have b5:=yb (H4 x);have bb:=yb (Sc m);have au:=yb (L3 x)
 have a8:Hid (I1 (A8 x)):=yb (SQ J.o)
 have ag:Hid (∀e∈AL (A8 x),AR e.1<=1000000):=yb (SS av.o)
 have aw:Hid (Fw (A8 x)):=yb (S5 ah.o _ _)
 have bi:Hid (Fw (Jq Cr x)):=yb (by rw[SX];exact S5 ah.o _ _)
 clear ad m
 obtain ⟨y,hy⟩:∃y,y=A8 x:=⟨_,rfl⟩
 rw[<-hy] at X al b5 bb au a8 ag aw
 clear hy
 have q:Hid (w3.heap.size < w4.heap.size):=yb (yf.1 I.o.row).1
 have ay:Hid (DT (Oa w3) w4 t y):=yb (X.o.wide (fun _ h=>h) (fun b hb=>H.o.block b hb))
 have b8:Hid (w4.rangeAt w3.heap.size 0 t):=yb (Ay I.o.row)
 have b4:Hid (Calls Try.prog 11 #[.agg t.toArray] w4 (ER w4 y)):=yb (by
  obtain ⟨M,hu⟩:=ay.o
  exact DG hu (fun b hb=>Nat.lt_trans hb q.o) a8.o (g.o w4 A.o.2).2.2 ag.o)
 have ac:MA y=y:=by unfold MA;rw[yx al.o,b5.o]
 have bh:=yb ac
 clear ac
 refine Ag fun K a=>?_
 go_wp2
 refine a.o _ _ ?_
 clear a K
 refine Ag fun K a=>?_
 go_wp2_with (first
  |(refine yj rfl 35 _ rfl w3.heap.size 0 rfl t _ b8.o qB rfl (BW (n:=26) (by kernel_rfl) E.o) ?_)
  |(go_at_call 11;refine b4.o.mono ?_;intro e w5 s;obtain ⟨u,ms,rfl,O⟩:=NW s;rw[bh.o] at O;rw[al.o];have b7:=yb O;have Q:=yb u;have af:=yb O.len;have bm:=yb O.one;clear s u O)
  |(refine Aj rfl 35 _ _ rfl w5.heap.size rfl ms rfl (World.alloc_heap_new _ _) (by rw[af.o];rfl) (BW (n:=26) (by kernel_rfl) af.o) bm.o ?_;intro d az;have aa:=yb az;clear az))
 refine a.o _ _ ?_
 clear a K
 have T:Hid (Below w5.heap.size w5 d):=yb (aa.o.below ((yg _ _).alloc (ye _) _) (ye _))
 have p:Hid (Below w4.heap.size w4 d):=yb (Q.o.trans (T.o.mono Q.o.size))
 have ae:Hid (w5.heap.size < d.heap.size):=yb (yf.1 aa.o.row).1
 have G:=yb p.o.size
 have R:Hid (d.rangeAt w.heap.size 0 cs∧Below w.heap.size w d):=yb (S.o d (Z.o.trans (p.o.mono Z.o.size)))
 have ar:Hid (DT (Oa d) d t y):=yb (ay.o.wide (fun b hb=>by unfold Oa at hb ⊢;have:=q.o;have:=G.o;omega) (fun b hb=>p.o.block b (by unfold Oa at hb;have:=q.o;omega)))
 have bo:Hid (DT (Oa d) d ms y):=yb (b7.o.wide (fun b hb=>Nat.lt_trans hb ae.o) (fun b hb=>T.o.block b hb))
 have am:Hid (∀W,Below d.heap.size d W->W.rangeAt w3.heap.size 0 t):=yb (fun W f=>Ay ((f.block _ (by have:=q.o;have:=G.o;omega)).trans ((p.o.block _ q.o).trans I.o.row)))
 have bg:Hid (∀W,Below d.heap.size d W->W.rangeAt w5.heap.size 0 ms):=yb (fun W f=>Ay ((f.block _ ae.o).trans aa.o.row))
 have bn:Hid (w.heap.size < d.heap.size):=yb (by have h1:=Z.o.size;have h2:=ba.o;have h3:=G.o;omega)
 have bt:Hid (∀W,Below d.heap.size d W->W.rangeAt w.heap.size 0 cs):=yb (fun W f=>A2 R.o.1 (f.block _ bn.o))
 have ak:Hid (∀W,Below d.heap.size d W->B8 N W L cs x∧(∀b,N b->b < W.heap.size)∧GV W):=yb (fun W f=>g.o W (R.o.2.trans (f.mono R.o.2.size)))
 have ap:Hid (∀(l1 l2:LV),DT (Oa d) d l1 y->DT (Oa d) d l2 y->∀W,Below d.heap.size d W->Calls Try.prog 13 #[.agg l1.toArray,.agg l2.toArray] W fun e w'=>e=.returned (.bool true)∧Below W.heap.size W w'):=yb (fun l1 l2 ha hb W f=>
  M5 (ha.wide (fun b h=>yp h f.size) (fun b h=>f.block b h)) (hb.wide (fun b h=>yp h f.size) (fun b h=>f.block b h)) aw.o)
 have b9:Hid (∀W,Below d.heap.size d W->Calls Try.prog 14 #[.agg t.toArray] W fun e w'=>e=.returned (iV 0)∧Below W.heap.size W w'):=yb (fun W f=>by
  obtain ⟨M,hu⟩:=ar.o.wide (N':=Oa W) (fun b h=>yp h f.size) (fun b h=>f.block b h)
  have h:=Hn hu (fun b hb=>hb) a8.o (ak.o W f).2.2 ag.o
  rw[bb.o] at h
  exact h)
 have bp:Hid (∀W,Below d.heap.size d W->Calls Try.prog 17 #[.agg t.toArray,.func (.func 19) #[] #[]] W fun e w'=>∃ps:LV,e=.returned (.agg ps.toArray)∧DT (Oa w') w' ps (Jq Cr x)∧Below W.heap.size W w'):=yb (fun W f=>by
  obtain ⟨M,hu⟩:=ar.o.wide (N':=Oa W) (fun b h=>yp h f.size) (fun b h=>f.block b h)
  have h:=O1 hu (fun b hb=>hb) (S8 a8.o)
  rw[au.o] at h
  exact h)
 have bu:Hid (∀W,Below d.heap.size d W->Calls Try.prog 17 #[.agg cs.toArray,.func (.func 19) #[] #[]] W fun e w'=>∃ps:LV,e=.returned (.agg ps.toArray)∧DT (Oa w') w' ps (Jq Cr x)∧Below W.heap.size W w'):=yb (fun W f=>O1 (ak.o W f).1 (ak.o W f).2.1 (S8 J.o))
 clear g S HC X b8 b4 b7 I aa p T Q H ai F a2 Y k U
 refine Ag fun K a=>?_
 go_wp2
 refine a.o _ _ ?_
 clear a K
 refine Ag fun K a=>?_
 refine wp_region_noPanic ?_
 refine BT (by kernel_rfl) (fun W=>Below d.heap.size d W) 21 ?_
 have r:Hid (Below d.heap.size d d.drew):=yb (yg _ _).drew
 refine A3 (i:=0) (by kernel_rfl) rfl (fun K a=>?_)
 go_simp
 refine a.o _ _ (fun _=>r.o) ?_
 clear a K
 refine A3 (i:=1) (by kernel_rfl) rfl (fun K a=>?_)
 go_simp
 refine a.o _ _ (fun _=>r.o) ?_
 clear a K
 refine A3 (i:=2) (by kernel_rfl) rfl (fun K a=>?_)
 go_simp
 refine a.o _ _ (fun _=>r.o) ?_
 clear a K
 refine Ae (i:=3) (v:=.agg (t).toArray) rfl (by kernel_rfl) (by kernel_rfl) (by kernel_rfl) (fun _ _ _ h=>h) (by kernel_rfl) (yK (by rfl) 35 _ rfl (w3.heap.size) 0 (by kernel_rfl) (t) _ (fun W f=>(am.o W f)) qB rfl (BW (n:=26) (by kernel_rfl) E.o)) r.o ?_
 refine Ae (i:=4) (v:=.agg (ms).toArray) rfl (by kernel_rfl) (by kernel_rfl) (by kernel_rfl) (fun _ _ _ h=>h) (by kernel_rfl) (yK (by rfl) 35 _ rfl (w5.heap.size) 0 (by kernel_rfl) (ms) _ (fun W f=>(bg.o W f)) qB rfl (BW (n:=26) (by kernel_rfl) af.o)) r.o ?_
 refine A3 (i:=5) (by kernel_rfl) rfl (fun K a=>?_)
 go_simp
 refine (ap.o t ms ar.o bo.o d.drew r.o).mono ?_
 rintro e v1 ⟨rfl,a6⟩
 have B:Hid (Below d.heap.size d v1):=yb (r.o.trans (a6.mono r.o.size))
 refine a.o _ _ (fun _=>B.o) ?_
 clear a K
 refine A3 (i:=6) (by kernel_rfl) rfl (fun K a=>?_)
 go_simp
 refine a.o _ _ (fun _=>B.o) ?_
 clear a K
 refine A3 (i:=7) (by kernel_rfl) rfl (fun K a=>?_)
 go_simp
 refine a.o _ _ (fun _=>B.o) ?_
 clear a K
 refine Ae (i:=8) (v:=.agg (t).toArray) rfl (by kernel_rfl) (by kernel_rfl) (by kernel_rfl) (fun _ _ _ h=>h) (by kernel_rfl) (yK (by rfl) 35 _ rfl (w3.heap.size) 0 (by kernel_rfl) (t) _ (fun W f=>(am.o W f)) qB rfl (BW (n:=26) (by kernel_rfl) E.o)) B.o ?_
 refine A3 (i:=9) (by kernel_rfl) rfl (fun K a=>?_)
 go_simp
 refine (b9.o v1 B.o).mono ?_
 rintro e v2 ⟨rfl,C⟩
 have j:Hid (Below d.heap.size d v2):=yb (B.o.trans (C.mono B.o.size))
 refine a.o _ _ (fun _=>j.o) ?_
 clear a K
 refine A3 (i:=10) (by kernel_rfl) rfl (fun K a=>?_)
 go_simp
 refine a.o _ _ (fun _=>j.o) ?_
 clear a K
 refine A3 (i:=11) (by kernel_rfl) rfl (fun K a=>?_)
 go_simp
 refine a.o _ _ (fun _=>j.o) ?_
 clear a K
 refine A3 (i:=12) (by kernel_rfl) rfl (fun K a=>?_)
 go_simp
 refine a.o _ _ (fun _=>j.o) ?_
 clear a K
 refine Ae (i:=13) (v:=.agg (t).toArray) rfl (by kernel_rfl) (by kernel_rfl) (by kernel_rfl) (fun _ _ _ h=>h) (by kernel_rfl) (yK (by rfl) 35 _ rfl (w3.heap.size) 0 (by kernel_rfl) (t) _ (fun W f=>(am.o W f)) qB rfl (BW (n:=26) (by kernel_rfl) E.o)) j.o ?_
 refine A0 (i:=14) (v:=.func (.func 19) #[] #[]) rfl (by kernel_rfl) (by kernel_rfl) (by kernel_rfl) (fun _ _ _ h=>h) (by kernel_rfl) (Or.inl ⟨by rfl,?_⟩) (fun _=>j.o) ?_
 ·intro w _;go_simp
 refine Ae (i:=16) (v:=.agg (cs).toArray) rfl (by kernel_rfl) (by kernel_rfl) (by kernel_rfl) (fun _ _ _ h=>h) (by kernel_rfl) (yK (by rfl) 35 _ rfl (w.heap.size) 0 (by kernel_rfl) (cs) _ (fun W f=>(bt.o W f)) qB rfl (BW (n:=26) (by kernel_rfl) l.o)) j.o ?_
 refine A0 (i:=17) (v:=.func (.func 19) #[] #[]) rfl (by kernel_rfl) (by kernel_rfl) (by kernel_rfl) (fun _ _ _ h=>h) (by kernel_rfl) (Or.inl ⟨by rfl,?_⟩) (fun _=>j.o) ?_
 ·intro w _;go_simp
 refine A3 (i:=15) (by kernel_rfl) rfl (fun K a=>?_)
 go_simp
 refine (bp.o v2 j.o).mono ?_
 rintro e v3 ⟨ps,rfl,be,a7⟩
 have V:Hid (Below d.heap.size d v3):=yb (j.o.trans (a7.mono j.o.size))
 have bd:=yb be
 refine a.o _ _ (fun _=>V.o) ?_
 clear a K
 refine A3 (i:=18) (by kernel_rfl) rfl (fun K a=>?_)
 go_simp
 refine (bu.o v3 V.o).mono ?_
 rintro e v4 ⟨qs,rfl,bv,aq⟩
 have an:Hid (Below d.heap.size d v4):=yb (V.o.trans (aq.mono V.o.size))
 have bq:=yb bv
 have bj:=yb (bd.o.wide (N':=Oa v4) (fun b hb=>yp hb aq.size) (fun b hb=>aq.block b hb))
 refine a.o _ _ (fun _=>an.o) ?_
 clear a K
 refine A3 (i:=19) (by kernel_rfl) rfl (fun K a=>?_)
 go_simp
 refine (M5 bj.o bq.o bi.o).mono ?_
 rintro e v5 ⟨rfl,u⟩
 have ao:Hid (Below d.heap.size d v5):=yb (an.o.trans (u.mono an.o.size))
 refine a.o _ _ (fun _=>ao.o) ?_
 clear a K
 refine A3 (i:=20) (by kernel_rfl) rfl (fun K a=>?_)
 go_simp
 refine a.o _ _ (fun _=>ao.o) ?_
 clear a K
 refine A3 (i:=21) (by kernel_rfl) rfl (fun K a=>?_)
 go_simp
 refine a.o _ _ (by intro h;cases h) ?_
 clear a K
 refine BS (by kernel_rfl) ?_
 refine NoPanic.normal ?_
 refine a.o _ _ ?_
 go_wp2
 go_ret
 exact ⟨rfl,R.o.2.trans (ao.o.mono R.o.2.size)⟩
end Go.Proofs.Ytghepahgkcigpaa
namespace Go.Proofs.Ytghepahgkcigpaa
open Go.RowKit Go.ChangeShapes Go.WideShapes Go.ChangeAt
theorem own:ownKnob Try.prog.godebug=none:=by kernel_rfl
theorem SZ:laidOutB Try.prog=true:=by kernel_rfl
theorem MH{W:World}(h:W.ShapedOpen Try.prog):GV W:=by
 obtain ⟨m,a⟩:∃m,W.cell? (aV 0 0)=some (iV m):=Try.laysM144.s1_3 W h
 exact ⟨PO a,m,a⟩
theorem J2(os:Os)(a:os.Started)(H:Type)(enc:TypeId × Value->H):
  ReturnsInHanded {} Try.checked os 6 .any (Rows.namesOnceSpec.pre6 enc Try.prog Try.f6 Rows.namesOnceRow.domain false) (Rows.namesOnceSpec.post enc Try.prog Try.f6 false true false false):=by
 refine returnsInHanded_of_change_shaped (C:=Try.checked) own a (by kernel_rfl) Try.func6
  (ChangeSpec.witness6 (enc:=enc) (C:=Try.checked) false ⟨#[],#[.agg #[.string ByteArray.empty,iV 0,iV 0,iV 0,.string ByteArray.empty,iV 0,.slice none 0 0,iV 0,iV 0,iV 0,.string ByteArray.empty,iV 0,.slice none 0 0,iV 0,iV 0,iV 0,.string ByteArray.empty,iV 0,.slice none 0 0,.slice none 0 0,.slice none 0 0,.slice none 0 0,.slice none 0 0,.slice none 0 0,.slice none 0 0,.slice none 0 0]],[]⟩ 16 (by kernel_rfl) (by kernel_rfl) (by kernel_rfl) (by kernel_rfl)) ?_
 intro W base args ds D r c w _ f s _
 have l:(DataW.weightsEach Try.prog (Try.f6.params.toList++Rows.namesOnceSpec.plain.varTypes Try.prog) (ds++D)).all (·<=reachBytes)=true:=f
 have g:∀(j:Nat) t v,Try.f6.params[j]?=some t->args[j]?=some v->Value.okWide Try.prog W .any base t v:=c
 have k:=w
 obtain ⟨p,q,o,G,rfl,_,_⟩:=w
 have z:DataW.TrodAll enc Try.prog W 0 (fun _=>true) true Try.f6.params.toList args.toList ds p:=o
 rw[Try.params6] at z g l
 obtain ⟨v0,y,rfl,rfl,h0⟩:=trodAll_one z
 obtain ⟨rfl,rfl⟩:=trodVars_none G
 obtain ⟨cs,rfl,m⟩:=okWide_struct qB (g 0 35 v0 rfl rfl)
 rw[MG] at m
 have u:=h0
 obtain ⟨fuel,K⟩:=h0
 clear o c f
 simp only[zn] at k
 have I:Wt 35 y:=fun n B=>by simpa using yL.1 l n (yC (j:=0) (t:=35) (d:=y) rfl rfl _ B)
 obtain ⟨L,x,A,J,E⟩:=O8 (H:=H) (enc:=enc) (W:=W) (cs:=cs.toList) K I (by simpa using m)
 have M:=MH s
 have i:=Sd A (fun b hb=>hb) M
 rw[show cs.toList.toArray=cs by simp] at i
 refine i.mono fun e W' ⟨N,hb⟩=>?_
 subst N
 exact ⟨_,rfl,_,_,_,[],_,[],k,trodAll_mk1 (shut_bool qC true),trodAll_mk1 (Below.trod SZ (by kernel_rfl) (yv (by kernel_rfl)) u hb (fun x F=>by simpa using k.lt x F)),rfl,hb.frame _,fun h=>by cases h⟩
theorem namesOnce_holds:Rows.NamesOnceSaid:=
 OpenClaim.holds_of_wide 6 Try.f6 rfl rfl rfl rfl rfl rfl rfl ⟨rfl,rfl,rfl,rfl,rfl⟩ rfl rfl rfl rfl rfl (by kernel_rfl) Try.func6 (by kernel_rfl)
  (yv (by kernel_rfl)) (by unfold Func.isWrapper;rw[yu (of_decide_eq_false (by kernel_rfl))];exact ⟨rfl,rfl⟩)
  (fun os a H enc _=>J2 os a H enc)
#print axioms namesOnce_holds
end Go.Proofs.Ytghepahgkcigpaa
