/- Parts of the proof, in short words: Ra Rb Rc Rd Re Rf Rg Ri Rk Rm Yc Yd Yf Yp Yj Rh Rs Rj -/
import Derived.Test.YtghepahgkcigpaaRf0
import Derived.Test.YtghepahgkcigpaaRf5
import Derived.Test.YtghepahgkcigpaaRf6
import Derived.Test.YtghepahgkcigpaaRf4
import Derived.BigFrameIn
import Derived.Test.YtghepahgkcigpaaRf3
set_option maxRecDepth 100000
set_option maxHeartbeats 16000000
set_option linter.unusedSimpArgs false
namespace Go.Proofs.Ytghepahgkcigpaa
open Go.RowKit
structure Tb where
 lets:List ByteArray
 crops:List ByteArray
 reaches:List ByteArray
 farms:List ByteArray
def Tb.of(x:Aq):Tb:=⟨x.lets.map (·.name),x.crops.map (·.name),x.reaches.map (·.name),x.farms.map (·.name)⟩
def Tb.tab(t:Tb)(c:Int):LB:=if c=3 then t.crops else if c=4 then t.reaches else if c=6 then t.reaches else if c=5 then t.farms else t.lets
def CF(to:Int):Int:=if to=2 then 1 else to
def early(to:Int):Bool:=decide (to=2)||decide (to=6)
def Gq(t:Tb)(to at_:Int)(r:Rf):Bool:=
 if to=0 then decide (r.name.size=0∧r.n=0) else match AO (t.tab (CF to)) r.name with
  |some i=>!early to||decide ((i:Int) < at_)
  |none=>false
def Ft(t:Tb)(c:Int)(s:ByteArray):Int:=match AO (t.tab c) s with
 |some i=>(i:Int)
 |none=>0
def gT(t:Tb)(to:Int)(r:Rf):Rf:=if to=0 then r else {r with n:=Ft t (CF to) r.name}
mutual
def Il(t:Tb):Ex->Ex
 |.mk op n u rn ri args=>.mk op n u rn (if op=2 then Ft t 1 rn else ri) (Gr t args)
def Gr(t:Tb):List Ex->List Ex
 |[]=> []
 |e::r=>Il t e::Gr t r
end
theorem Mx(t:Tb):∀l:List Ex,Gr t l=l.map (Il t)
 |[]=>rfl
 |e::r=>by rw[Gr,Mx t r];rfl
def fT(t:Tb)(_:Int)(e:Ex):Ex:=if Cv e then e else Il t e
mutual
def Rb(t:Tb)(lt:Int):Ex->Bool
 |.mk op _ _ rn ri args=>Mp op args.length&&(Gq t (Jq op lt) (N8 op lt) ⟨rn,ri⟩&&PL t lt args)
def PL(t:Tb)(lt:Int):List Ex->Bool
 |[]=>true
 |e::r=>Rb t lt e&&PL t lt r
end
def AJ(t:Tb)(e:JS):Bool:=Cv e.1||Rb t e.2 e.1
def Im(t:Tb)(d:BL):Bool:=Gq t 4 0 d.on&&Gq t (if d.river then 0 else 3) 0 d.crop
def Kz(t:Tb)(d:B9):Bool:=Gq t 4 0 d.on&&d.turns.all fun k=>Gq t 5 0 k.farm
def Gs(t:Tb)(d:AG):Bool:=Gq t 5 0 d.farm&&Gq t (if d.kind=1 then 0 else 4) 0 d.reach
def Io(t:Tb)(d:BR):Bool:=Gq t 5 0 d.farm&&Gq t 4 0 d.reach
def Cs(t:Tb)(x:Aq):Bool:=(AK x).all (AJ t)&&(C9 x&&(x.farms.all (Im t)&&(x.rots.all (Kz t)&&(x.rights.all (Gs t)&&x.duties.all (Io t)))))
def Gt(t:Tb)(p:Aw × Nat):Bool:=Gq t (if p.2=0 then 0 else 6) p.2 p.1.frm
def CQ(t:Tb)(x:Aq):Bool:=x.reaches.zipIdx.all (Gt t)
def BA(x:Aq):Bool:=Kn x&&(FU x.rots&&EH x)
def Da(x:Aq):LB:=x.rots.map (·.name)++x.rights.map (·.name)
def D5(x:Aq):Bool:=AA x.name&&((x.lets.map (·.name)).all AA&&((x.crops.map (·.name)).all AA&&((x.reaches.map (·.name)).all AA&&((x.farms.map (·.name)).all AA&&((x.rots.map (·.name)).all AA&&((x.rights.map (·.name)).all AA&&(x.duties.map (·.name)).all AA))))))
def FM(x:Aq):Prop:=(x.lets.map (·.name)).Nodup∧(x.crops.map (·.name)).Nodup∧(x.reaches.map (·.name)).Nodup∧(x.farms.map (·.name)).Nodup∧(Da x).Nodup∧(x.duties.map (·.name)).Nodup
instance (x:Aq):Decidable (FM x):=by unfold FM;infer_instance
def Ad(x:Aq):Aq:=x.mp (fT (Tb.of x)) (gT (Tb.of x))
def Ay(x:Aq):Int:=
 if BA x then (if D5 x then (if FM x then (if CQ (Tb.of x) x&&Cs (Tb.of x) x then 0 else 170) else 171) else 170) else 2
def J7(t:Tb)(u:Us):Bool:=Gq t u.to u.at_ ⟨u.name,u.n⟩
def IC(t:Tb)(p:List Us × Bool):Prop:=p.2=true∧∀u∈p.1,J7 t u=true
theorem ND(t:Tb):∀l:List (List Us × Bool),IC t (BK l)↔∀p∈l,IC t p
 |[]=>by simp[IC,BK]
 |x::r=>by
  have ih:=ND t r
  simp only[zV,<-ih]
  have e:BK (x::r)=if x.2 then (x.1++(BK r).1,(BK r).2) else (x.1,false):=rfl
  rw[e]
  unfold IC
  by_cases h:x.2=true
  ·simp only[h,zY,yo,qb]
   constructor
   ·rintro ⟨h1,h2⟩;exact ⟨fun u a=>h2 u (.inl a),h1,fun u a=>h2 u (.inr a)⟩
   ·rintro ⟨h1,h2,h3⟩;exact ⟨h2,fun u a=>a.elim (h1 u) (h3 u)⟩
  ·simp[h]
mutual
theorem LS(t:Tb){w:World}{C:Addr->Prop}(lt:Int):∀(e:Ex) (b o:Nat),Qh w C e b o->(IC t (Cf w lt e b o)↔Rb t lt e=true)
 |.mk op n u rn ri args,b,o,h=>by
  rw[Qh] at h
  obtain ⟨a,cap,h1,h2,h3,h4⟩:=h
  rw[Cf,Rb]
  by_cases hs:Mp op args.length=true
  ·rw[yx hs,hs,h2.1]
   have ih:=LU t lt args a args.length cap 0 h4
   unfold IC at ih ⊢
   simp only[zV,qi,yt,<-ih,J7]
   constructor
   ·rintro ⟨f,d,c⟩;exact ⟨d,f,c⟩
   ·rintro ⟨d,f,c⟩;exact ⟨f,d,c⟩
  ·rw[yu hs]
   simp[IC,hs]
theorem LU(t:Tb){w:World}{C:Addr->Prop}(lt:Int):∀(l:List Ex) (a:Option Addr) (n cap i:Nat),JB w C a i l->(IC t (BD w lt l (some (.slice a n cap)) i)↔PL t lt l=true)
 |[],a,n,cap,i,h=>by simp[BD,PL,IC]
 |e::r,a,n,cap,i,h=>by
  rw[JB] at h
  obtain ⟨⟨b,o,rfl,h1⟩,h2⟩:=h
  have k:=LS t lt e b (o+i*6) h1
  have j:=LU t lt r (some ⟨b,o,none⟩) n cap (i+1) h2
  rw[BD,PL,yt,<-k,<-j]
  unfold IC
  by_cases g:(Cf w lt e b (o+i*6)).2=true
  ·simp only[g,zY,qb,yo]
   constructor
   ·rintro ⟨f,d⟩;exact ⟨fun u c=>d u (.inl c),f,fun u c=>d u (.inr c)⟩
   ·rintro ⟨f,d,m⟩;exact ⟨d,fun u c=>c.elim (f u) (m u)⟩
  ·simp[g]
end
theorem NF{α β γ:Type}{R:α->β->Prop}{f:α->β->γ}{p:γ->Prop}{q:β->Prop}(h:∀a b,R a b->(p (f a b)↔q b)):∀ {l:List α} {m:List β},Au R l m->((∀c∈List.zipWith f l m,p c)↔∀b∈m,q b)
 |[],[],_=>by simp
 |a::l,b::m,hA=>by
  rw[Au] at hA
  simp only[xO,zV,h a b hA.1,NF h hA.2]
 |[],b::m,hA=>by simp[Au] at hA
 |a::l,[],hA=>by simp[Au] at hA
theorem RI{N:NP}{w:World}{C D:Addr->Prop}(t:Tb)(a:Array Value)(e:JS)(h:U9 N w C D a e):IC t (Cq w a e)↔AJ t e=true:=by
 obtain ⟨b,o,cs,rfl,_,_,c,_⟩:=h
 unfold Cq AJ
 by_cases hl:Cv e.1=true
 ·simp[hl,IC]
 ·rw[yu hl,xY,or_iff_right hl]
  exact LS t e.2 e.1 b o c
theorem Qv{f:Nat->List Us}{n:Nat}{p:Us->Prop}:(∀u∈(List.range n).flatMap f,p u)↔∀i,i < n->∀u∈f i,p u:=by
 constructor
 ·intro h i hi u a;exact h u (yN.2 ⟨i,yZ.2 hi,a⟩)
 ·intro h u a
  obtain ⟨i,hi,a⟩:=yN.1 a
  exact h i (yZ.1 hi) u a
theorem G0{α:Type}{l:List α}{n:Nat}(a:n=l.length){f:Nat->List Us}{p:Us->Prop}{q:α->Bool}(h:∀i (hi:i < l.length),(∀u∈f i,p u)↔q l[i]=true):(∀u∈(List.range n).flatMap f,p u)↔l.all q=true:=by
 rw[Qv,yL]
 constructor
 ·intro k d hd
  obtain ⟨i,hi,rfl⟩:=zg.1 hd
  exact (h i hi).1 (k i (by omega))
 ·intro k i hi
  exact (h i (by omega)).2 (k _ (yy (by omega)))
theorem G1{N:NP}{w:World}{C D:Addr->Prop}{Bu:Nat}{L:Bz}{x:Aq}(t:Tb)(h:Km N w C D Bu L x):IC t (Ca w L x)↔Cs t x=true:=by
 unfold Ca E8 Cs
 rw[ND]
 simp only[yo,zt,or_imp,forall_and,forall_eq,yt]
 refine and_congr ?_ ?_
 ·rw[yL]
  exact NF (RI t) h.top
 ·unfold IC
  simp only
  refine and_congr_right fun a=>?_
  rw[yx a]
  unfold Ci
  simp only[yo,or_imp,forall_and]
  rw[G0 h.nfarms (q:=Im t) fun i hi=>?_,G0 h.nrots (q:=Kz t) fun i hi=>?_,G0 h.nrights (q:=Gs t) fun i hi=>?_,G0 h.nduties (q:=Io t) fun i hi=>?_]
  ·simp only[and_assoc]
  ·unfold DK;rw[yk hi];simp[Io,J7,CV]
  ·unfold CP;rw[yk hi];simp[Gs,J7,CV]
  ·unfold Gm;rw[yk hi]
   simp only[zV,Kz,yt,J7,CV]
   refine and_congr Iff.rfl ?_
   refine G0 (h.nturns i hi) fun k a=>?_
   unfold EM;rw[yk a];simp[CV]
  ·unfold E1;rw[yk hi];simp[Im,J7,CV]
def NG(W:World)(b:Nat):Nat:=match W.heap[b]? with
 |some (.cells _ t _)=>t
 |_=>0
theorem DN{W:World}{b t:Nat}(h:Ty W b t):NG W b=t:=by
 obtain ⟨c,e⟩:=h
 unfold NG;rw[e]
def EP(W:World)(b o:Nat):Int:=
 if Fx (NG W b) (o+1)=1 then (match W.cell? ⟨b,o - 3,none⟩ with
  |some (.int _ z)=>if z=2 then 1 else 0
  |_=>0)
 else if NG W b=51 then (if o < 51 then 0 else 6)
 else if NG W b=59 then (if o % 12=1 then 4 else match W.cell? ⟨b,o - 7,none⟩ with
  |some (.bool r)=>if r then 0 else 3
  |_=>3)
 else if NG W b=64 then 4
 else if NG W b=66 then 5
 else if NG W b=68 then (if o % 37=2 then 5 else match W.cell? ⟨b,o - 4,none⟩ with
  |some (.int _ z)=>if z=1 then 0 else 4
  |_=>4)
 else (if o % 11=1 then 5 else 4)
def Uc(t q:Nat):Prop:=Fx t q=2∨(Fx t q=1∧FT t q=4)
def Ip(B:Nat)(W:World)(b q:Nat):Prop:=B<=b∧∃o t,q=o+1∧Ty W b t∧Uc t (o+1)∧EP W b o≠0
structure Na (B:Nat) (W:World) (u:Us):Prop where
 base:B<=u.b
 t:∃t,Ty W u.b t∧Uc t (u.o+1)∧¬ Uc t u.o
 name:W.cell? ⟨u.b,u.o,none⟩=some (.string u.name)
 len:u.name.size<=maxLen
 n:W.cell? ⟨u.b,u.o+1,none⟩=some (.int .i64 u.n)
 cat:EP W u.b u.o=CF u.to
 to:u.to=0∨u.to=1∨u.to=2∨u.to=3∨u.to=4∨u.to=5∨u.to=6
theorem LW{u:Us}:CF u.to=0↔u.to=0:=by
 unfold CF;split<;>omega
structure RJ (B:Nat) (W4:World) (t:Tb) (X:List Us) (k:Nat) (O:Nat->Prop) (W:World):Prop where
 os:W.os=W4.os
 tape:W.tape=W4.tape
 output:W.output=W4.output
 size:W4.heap.size<=W.heap.size
 own:∀b,O b->W4.heap.size<=b
 ty:∀(b:Nat) (c:Array Value) (t:TypeId),W4.heap[b]?=some (.cells c t (0,0))->∃c':Array Value,c'.size=c.size∧W.heap[b]?=some (.cells c' t (0,0))
 same:∀b:Nat,b < W4.heap.size->(∀q,¬ Ip B W4 b q)->W.heap[b]?=W4.heap[b]?
 cells:∀b q,b < W4.heap.size->¬ Ip B W4 b q->W.cell? ⟨b,q,none⟩=W4.cell? ⟨b,q,none⟩
 nums:∀b q,Ip B W4 b q->(∃z,W4.cell? ⟨b,q,none⟩=some (.int .i64 z))->∃z,W.cell? ⟨b,q,none⟩=some (.int .i64 z)
 done:∀j (h:j < X.length),j < k->J7 t X[j]=true∧(X[j].to≠0->X[j].b < W4.heap.size∧W.cell? ⟨X[j].b,X[j].o+1,none⟩=some (.int .i64 (Ft t (CF X[j].to) X[j].name)))
section
variable{B:Nat}{W4 W w':World}{t:Tb}{X:List Us}{k:Nat}{O:NP}
theorem RJ.start(B:Nat)(W4:World)(t:Tb)(X:List Us):RJ B W4 t X 0 (fun _=>False) W4:=
 ⟨rfl,rfl,rfl,ye _,fun _ h=>h.elim,fun _ c _ h=>⟨c,rfl,h⟩,fun _ _ _=>rfl,fun _ _ _ _=>rfl,fun _ _ _ h=>h,fun _ _ h=>by omega⟩
theorem RJ.tyT(h:RJ B W4 t X k O W){b ty:Nat}(hb:Ty W4 b ty):Ty W b ty:=by
 obtain ⟨c,e⟩:=hb
 obtain ⟨a,_,e'⟩:=h.ty b c ty e
 exact ⟨a,e'⟩
theorem RJ.move{g:NP}(h:RJ B W4 t X k O W)(n:W.heap.size<=w'.heap.size)(r:w'.os=W.os)(p:w'.tape=W.tape)(o:w'.output=W.output)(d:∀b,b < W4.heap.size->w'.heap[b]?=W.heap[b]?)(i:∀b,g b->W4.heap.size<=b):RJ B W4 t X k g w':=by
 refine ⟨r.trans h.os,p.trans h.tape,o.trans h.output,yr h.size n,i,fun b c ty hb=>?_,fun b hb a=>(d b hb).trans (h.same b hb a),fun b q hb a=>(Ab (d b hb)).trans (h.cells b q hb a),fun b q a hi=>?_,fun j m f=>?_⟩
 ·obtain ⟨l,e1,e2⟩:=h.ty b c ty hb
  exact ⟨l,e1,(d b (yf.1 hb).1).trans e2⟩
 ·obtain ⟨z,e⟩:=h.nums b q a hi
  obtain ⟨_,_,ty,_,h1,_⟩:=a
  exact ⟨z,(Ab (d b h1.lt)).trans e⟩
 ·obtain ⟨h1,h2⟩:=h.done j m f
  refine ⟨h1,fun h3=>?_⟩
  have h4:=h2 h3
  exact ⟨h4.1,(Ab (d _ h4.1)).trans h4.2⟩
theorem RJ.stays:Dl (RJ B W4 t X):=by
 intro k O W j W' h e c g f d i
 refine h.move e c g f (fun b hb=>d b (fun a=>by have:=h.own b a;omega) (yp hb h.size)) (fun b hb=>?_)
 rcases i b hb with h1|h1
 ·exact h.own b h1
 ·have:=h.size;omega
theorem RJ.below{a:Nat}(h:RJ B W4 t X k O W)(hb:Below a W w')(d:W4.heap.size<=a):RJ B W4 t X k O w':=
 h.move hb.size hb.os hb.tape hb.output (fun b c=>hb.block b (by omega)) h.own
theorem Na.notName{u:Us}(h:Na B W4 u):¬ Ip B W4 u.b u.o:=by
 rintro ⟨_,o,ty,e,h1,h2,_⟩
 obtain ⟨c,d,f,a⟩:=h.t
 obtain rfl:=h1.inj d
 rw[<-e] at h2
 exact a h2
theorem Na.lt{u:Us}(h:Na B W4 u):u.b < W4.heap.size:=by
 obtain ⟨a,c,e,d⟩:=h.t
 exact c.lt
theorem Na.num{u:Us}(h:Na B W4 u)(h0:u.to≠0):Ip B W4 u.b (u.o+1):=by
 obtain ⟨a,d,c,f⟩:=h.t
 exact ⟨h.base,u.o,a,rfl,d,c,by rw[h.cat];exact fun e=>h0 (LW.1 e)⟩
theorem Na.notNum{u:Us}(h:Na B W4 u)(h0:u.to=0):¬ Ip B W4 u.b (u.o+1):=by
 rintro ⟨_,o,ty,e,h1,h2,h3⟩
 obtain rfl:o=u.o:=by omega
 rw[h.cat] at h3
 exact h3 (LW.2 h0)
theorem RJ.read{u:Us}(h:RJ B W4 t X k O W)(a:Na B W4 u):W.cell? ⟨u.b,u.o,none⟩=some (.string u.name)∧(∃z,W.cell? ⟨u.b,u.o+1,none⟩=some (.int .i64 z)∧(u.to=0->z=u.n))∧W.frozen? ⟨u.b,u.o+1,none⟩=false:=by
 refine ⟨(h.cells _ _ a.lt a.notName).trans a.name,?_,?_⟩
 ·by_cases h0:u.to=0
  ·exact ⟨u.n,(h.cells _ _ a.lt (a.notNum h0)).trans a.n,fun _=>rfl⟩
  ·obtain ⟨z,d⟩:=h.nums _ _ (a.num h0) ⟨_,a.n⟩
   exact ⟨z,d,fun e=>absurd e h0⟩
 ·obtain ⟨c,f,i,g⟩:=a.t
  exact (h.tyT f).frozen
theorem RJ.skip{u:Us}(h:RJ B W4 t X k O W)(b:X[k]?=some u)(h0:u.to=0)(a:J7 t u=true):RJ B W4 t X (k+1) O W:=by
 obtain ⟨hl,rfl⟩:=yD.1 b
 refine ⟨h.os,h.tape,h.output,h.size,h.own,h.ty,h.same,h.cells,h.nums,fun j c d=>?_⟩
 by_cases e:j=k
 ·subst e;exact ⟨a,fun h=>absurd h0 h⟩
 ·exact h.done j c (by omega)
theorem RJ.next{u:Us}(h:RJ B W4 t X k O W)(s:∀u∈X,Na B W4 u)(y:X[k]?=some u)(h0:u.to≠0)(r:J7 t u=true):RJ B W4 t X (k+1) O (W.setCell ⟨u.b,u.o+1,none⟩ (.int .i64 (Ft t (CF u.to) u.name))):=by
 obtain ⟨hl,rfl⟩:=yD.1 y
 have g:=s _ (yy hl)
 obtain ⟨_,⟨z,A,_⟩,_⟩:=h.read g
 obtain ⟨i,F,G,m⟩:=Af (iV (Ft t (CF X[k].to) X[k].name)) A
 have v:=g.num h0
 have a:∀b q,(b≠X[k].b∨q≠X[k].o+1)->(W.setCell ⟨X[k].b,X[k].o+1,none⟩ (iV (Ft t (CF X[k].to) X[k].name))).cell? (aV b q)=W.cell? (aV b q):=fun b q d=>
  World.cell?_setCell_other _ _ _ _ (fun e=>by cases e;simp at d)
 refine ⟨i.os.trans h.os,i.tape.trans h.tape,i.output.trans h.output,yr h.size i.size,h.own,fun b c ty hb=>?_,fun b hb d=>?_,fun b q hb d=>?_,fun b q d hi=>?_,fun j x E=>?_⟩
 ·obtain ⟨w,e1,e2⟩:=h.ty b c ty hb
  by_cases l:b=X[k].b
  ·subst l
   exact ⟨_,by rw[Array.size_setIfInBounds];exact e1,za W _ _ w ty _ e2⟩
  ·exact ⟨w,e1,(yY W _ b _ l).trans e2⟩
 ·have l:b≠X[k].b:=fun e=>d _ (e▸v)
  exact (yY W _ b _ l).trans (h.same b hb d)
 ·rw[a b q (by by_cases e:b=X[k].b;exact .inr (fun e2=>d (by rw[e,e2];exact v));exact .inl e)]
  exact h.cells b q hb d
 ·by_cases e:b=X[k].b∧q=X[k].o+1
  ·obtain ⟨rfl,rfl⟩:=e
   exact ⟨_,m⟩
  ·rw[a b q (by by_cases e2:b=X[k].b;exact .inr (fun n=>e ⟨e2,n⟩);exact .inl e2)]
   exact h.nums b q d hi
 ·by_cases e:j=k
  ·subst e;exact ⟨r,fun _=>⟨g.lt,m⟩⟩
  ·obtain ⟨C,D⟩:=h.done j x (by omega)
   refine ⟨C,fun h3=>?_⟩
   have f:=s _ (yy x)
   by_cases e:X[j].b=X[k].b∧X[j].o+1=X[k].o+1
   ·obtain ⟨e1,e2⟩:=e
    have e2:X[j].o=X[k].o:=by omega
    have hc:CF X[j].to=CF X[k].to:=by rw[<-f.cat,<-g.cat,e1,e2]
    have p:X[j].name=X[k].name:=by
     have h1:=f.name
     rw[e1,e2,g.name] at h1
     exact (Value.string.inj (yh h1)).symm
    refine ⟨f.lt,?_⟩
    rw[e1,e2,hc,p];exact m
   ·rw[a _ _ (by by_cases e2:X[j].b=X[k].b;exact .inr (fun n=>e ⟨e2,n⟩);exact .inl e2)]
    exact D h3
end
section
variable{W:World}{g:Nat}
theorem OZ(h:Ty W g 51)(i:Nat):EP W g (i*51+1)=if i=0 then 0 else 6:=by
 have e:Fx 51 (i*51+1+1)=2:=by rw[zN,(D3 BY i (1+1)).1];rfl
 unfold EP
 rw[DN h,e,yu (by decide),yx rfl]
 by_cases hi:i=0
 ·subst hi;rfl
 ·rw[yu hi,yu (by omega)]
theorem SS(h:Ty W g 59)(i:Nat):EP W g (i*12+1)=4:=by
 have e:Fx 59 (i*12+1+1)=2:=by rw[zN,(D3 F6 i (1+1)).1];rfl
 unfold EP
 rw[DN h,e,yu (by decide),yu (by decide),yx rfl,yx (by omega)]
theorem Qw(h:Ty W g 59)(i:Nat){r:Bool}(a:W.cell? ⟨g,i*12+3,none⟩=some (.bool r)):EP W g (i*12+10)=if r then 0 else 3:=by
 have e:Fx 59 (i*12+10+1)=2:=by rw[zN,(D3 F6 i (10+1)).1];rfl
 unfold EP
 rw[DN h,e,yu (by decide),yu (by decide),yx rfl,yu (by omega),show i*12+10 - 7=i*12+3 by omega,a]
theorem RM(h:Ty W g 64)(i:Nat):EP W g (i*23+1)=4:=by
 have e:Fx 64 (i*23+1+1)=2:=by rw[zN,(D3 Fy i (1+1)).1];rfl
 unfold EP
 rw[DN h,e,yu (by decide),yu (by decide),yu (by decide),yx rfl]
theorem Qx(h:Ty W g 66)(i:Nat):EP W g (i*8)=5:=by
 have e:Fx 66 (i*8+1)=2:=by rw[(D3 Kk i 1).1];rfl
 unfold EP
 rw[DN h,e,yu (by decide),yu (by decide),yu (by decide),yu (by decide),yx rfl]
theorem SU(h:Ty W g 68)(i:Nat):EP W g (i*37+2)=5:=by
 have e:Fx 68 (i*37+2+1)=2:=by rw[zN,(D3 BZ i (2+1)).1];rfl
 unfold EP
 rw[DN h,e,yu (by decide),yu (by decide),yu (by decide),yu (by decide),yu (by decide),yx rfl,yx (by omega)]
theorem SV(h:Ty W g 68)(i:Nat){k:IntKind}{z:Int}(a:W.cell? ⟨g,i*37,none⟩=some (.int k z)):EP W g (i*37+4)=if z=1 then 0 else 4:=by
 have e:Fx 68 (i*37+4+1)=2:=by rw[zN,(D3 BZ i (4+1)).1];rfl
 unfold EP
 rw[DN h,e,yu (by decide),yu (by decide),yu (by decide),yu (by decide),yu (by decide),yx rfl,yu (by omega),show i*37+4 - 4=i*37 by omega,a]
theorem SW(h:Ty W g 70)(i:Nat):EP W g (i*11+1)=5:=by
 have e:Fx 70 (i*11+1+1)=2:=by rw[zN,(D3 Gl i (1+1)).1];rfl
 unfold EP
 rw[DN h,e,yu (by decide),yu (by decide),yu (by decide),yu (by decide),yu (by decide),yu (by decide),yx (by omega)]
theorem SX(h:Ty W g 70)(i:Nat):EP W g (i*11+3)=4:=by
 have e:Fx 70 (i*11+3+1)=2:=by rw[zN,(D3 Gl i (3+1)).1];rfl
 unfold EP
 rw[DN h,e,yu (by decide),yu (by decide),yu (by decide),yu (by decide),yu (by decide),yu (by decide),yu (by omega)]
theorem PM{o:Nat}(h:Gk W g o){k:IntKind}{op:Int}(b:W.cell? ⟨g,o,none⟩=some (.int k op)):EP W g (o+3)=if op=2 then 1 else 0:=by
 obtain ⟨t,ty,a⟩:=h
 have e:Fx t (o+3+1)=1:=(a 4 (by omega)).1
 unfold EP
 rw[DN ty,e,yx rfl,show o+3 - 3=o by omega,b]
theorem KA(h:Ty W g 26)(i:Nat):Gk W g (i*6):=
 ⟨_,h,fun j a=>⟨by simp[Fx],by simp only[FT];simp;omega⟩⟩
end
section
variable{B:Nat}{W:World}{M:NP}
theorem ER{to at_:Int}{r:Rf}{b o:Nat}(e:B<=b)(a:RV W to r b o)(c:OG W b o)(hc:EP W b o=CF to)(d:to=0∨to=1∨to=2∨to=3∨to=4∨to=5∨to=6):Na B W ⟨b,o,to,at_,r.name,r.n⟩:=by
 obtain ⟨t,ty,h1,h2⟩:=c
 refine ⟨e,⟨t,ty,.inl h2,?_⟩,a.2.1,a.1,a.2.2,hc,d⟩
 rintro (h|h)
 ·rw[h1] at h;cases h
 ·rw[h1] at h;cases h.1
mutual
theorem NH(hM:∀g,M g->B<=g)(lt:Int):∀(e:Ex) (b o:Nat) (cs:LV),B<=b->I1 W M e cs->W.rangeAt b o cs->Gk W b o->∀u∈(Cf W lt e b o).1,Na B W u
 |.mk op n u rn ri args,b,o,cs,hb,hv,hr,hp=>by
  rw[I1] at hv
  obtain ⟨a,cap,rfl,h2,h3,h4⟩:=hv
  obtain ⟨p,r1,r2,j,l,m⟩:=Ce hr
  intro v c
  rw[Cf] at c
  by_cases hs:Mp op args.length=true
  ·rw[yx hs,m] at c
   simp only[yJ] at c
   rcases c with rfl|c
   ·have hc:=PM hp p
    obtain ⟨t,ty,i⟩:=hp
    have f:=i 3 (by omega);have k:=i 4 (by omega)
    refine ⟨hb,⟨t,ty,.inr k,?_⟩,j,h3,l,?_,?_⟩
    ·rintro (h|h)
     ·simp only at h;rw[f.1] at h;cases h
     ·simp only at h;rw[f.2] at h;exact absurd h.2 (by decide)
    ·simp only;rw[hc];unfold Jq CF
     by_cases d:op=2
     ·simp only[d,zY];split<;>simp
     ·simp[d]
    ·simp only;unfold Jq
     by_cases d:op=2
     ·simp only[d,zY];split<;>simp
     ·simp[d]
   ·exact NI hM lt args a args.length cap 0 h4 v c
  ·rw[yu hs] at c;cases c
theorem NI(hM:∀g,M g->B<=g)(lt:Int):∀(l:List Ex) (a:Option Addr) (n cap i:Nat),Dt W M a i l->∀u∈(BD W lt l (some (.slice a n cap)) i).1,Na B W u
 |[],a,n,cap,i,h=>by intro v b;rw[BD] at b;cases b
 |e::r,a,n,cap,i,h=>by
  rw[Dt] at h
  obtain ⟨⟨g,cs,rfl,h1,h2,h3,h4⟩,h5⟩:=h
  have c:=NH hM lt e g (0+i*6) cs (hM g h1) h4 (by rw[yA];exact h3) (by rw[yA];exact KA h2 i)
  have d:=NI hM lt r (some ⟨g,0,none⟩) n cap (i+1) h5
  intro v b
  rw[BD] at b
  split at b
  ·rcases yo.1 b with b|b
   ·exact c v b
   ·exact d v b
  ·exact c v b
end
theorem ID{u:Us}:∀ {l:List (List Us × Bool)},u∈(BK l).1->∃p∈l,u∈p.1
 |[],h=>by simp[BK] at h
 |x::r,h=>by
  have e:BK (x::r)=if x.2 then (x.1++(BK r).1,(BK r).2) else (x.1,false):=rfl
  rw[e] at h
  split at h
  ·rcases yo.1 h with h|h
   ·exact ⟨x,by simp,h⟩
   ·obtain ⟨p,h1,h2⟩:=ID h
    exact ⟨p,by simp[h1],h2⟩
  ·exact ⟨x,by simp,h⟩
theorem PN{α β:Type}{R:α->β->Prop}{f:α->β->List Us × Bool}{P:Us->Prop}(h:∀a b,R a b->∀u∈(f a b).1,P u):∀ {l:List α} {m:List β},Au R l m->∀p∈List.zipWith f l m,∀u∈p.1,P u
 |[],_,_=>by simp
 |_::_,[],_=>by simp
 |a::l,b::m,hA=>by
  rw[Au] at hA
  simp only[xO,zV]
  exact ⟨h a b hA.1,PN h hA.2⟩
def Iq(h:Ah)(l:List Aw)(i:Nat):List Us:=match l[i]? with
 |some d=> [⟨(h.at 51 i 1).block,(h.at 51 i 1).off,if i=0 then 0 else 6,i,d.frm.name,d.frm.n⟩]
 |none=> []
def EI(L:Bz)(x:Aq):List Us:=(List.range L.reaches.n).flatMap (Iq L.reaches x.reaches)
def CG(W:World)(L:Bz)(x:Aq):List Us:=EI L x++(Ca W L x).1
theorem PO{N:NP}{L:Bz}{x:Aq}(hN:∀g,N g->B<=g)(hM:∀g,M g->B<=g)(hs:N L.s)(h:Cg N (ET M W) (RV W) W L x):∀u∈CG W L x,Na B W u:=by
 intro u d
 rcases yo.1 d with d|d
 ·obtain ⟨i,hi,d⟩:=yN.1 d
  have hl:i < x.reaches.length:=by rw[<-h.reaches.1];exact yZ.1 hi
  unfold Iq at d
  rw[yk hl] at d
  simp only[zt] at d
  obtain ⟨g,l,j,ty,_,n,_⟩:=h.reaches.2.2 i hl
  rw[AU l,yA] at d
  rw[d]
  exact ER (hN g j) n (BT ty BY i 1 rfl rfl) (by rw[OZ ty];split<;>rfl) (by split<;>simp)
 ·obtain ⟨p,q,d⟩:=ID d
  unfold E8 at q
  rcases yo.1 q with q|q
  ·refine PN (R:=U6 N (ET M W) W) (f:=Cq W) (P:=Na B W) (fun a e C u d=>?_) (h.all2 hs) p q u d
   obtain ⟨b,o,rfl,hb,t,c,y,w⟩:=C
   unfold Cq at d
   split at d
   ·cases d
   ·exact NH hM e.2 e.1 b o c (hN b hb) w y t u d
  ·simp only[zt] at q
   rw[q] at d
   simp only at d
   split at d
   ·unfold Ci at d
    simp only[yo] at d
    rcases d with ((d|d)|d)|d
    ·obtain ⟨i,hi,d⟩:=yN.1 d
     have hl:i < x.farms.length:=by rw[<-h.farms.1];exact yZ.1 hi
     obtain ⟨g,l,j,ty,_,n,A,_,m⟩:=h.farms.2.2 i hl
     unfold E1 at d
     rw[yk hl] at d
     simp only[CV,AU l,yA,yJ,zl,xp] at d
     rcases d with rfl|rfl
     ·exact ER (hN g j) n (BT ty F6 i 1 rfl rfl) (by rw[SS ty];rfl) (by simp)
     ·exact ER (hN g j) m (BT ty F6 i 10 rfl rfl) (by rw[Qw ty i A];split<;>rfl) (by split<;>simp)
    ·obtain ⟨i,hi,d⟩:=yN.1 d
     have hl:i < x.rots.length:=by rw[<-h.rots.1];exact yZ.1 hi
     obtain ⟨g,l,j,ty,_,n,_,_,_,_,_,z⟩:=h.rots.2.2 i hl
     unfold Gm at d
     rw[yk hl] at d
     simp only[CV,AU l,yA,yJ] at d
     rcases d with rfl|d
     ·exact ER (hN g j) n (BT ty Fy i 1 rfl rfl) (by rw[RM ty];rfl) (by simp)
     ·obtain ⟨k,v,d⟩:=yN.1 d
      have r:k < (x.rots[i]).turns.length:=by rw[<-z.1];exact yZ.1 v
      obtain ⟨g,l,j,ty,n,_⟩:=z.2.2 k r
      unfold EM at d
      rw[yk r] at d
      simp only[CV,AU l,yA,xR,zt] at d
      rw[d]
      exact ER (hN g j) n (LD ty Kk k rfl rfl) (by rw[Qx ty];rfl) (by simp)
    ·obtain ⟨i,hi,d⟩:=yN.1 d
     have hl:i < x.rights.length:=by rw[<-h.rights.1];exact yZ.1 hi
     obtain ⟨g,l,j,ty,v,_,n,m,_⟩:=h.rights.2.2 i hl
     unfold CP at d
     rw[yk hl] at d
     simp only[CV,AU l,yA,yJ,zl,xp] at d
     rcases d with rfl|rfl
     ·exact ER (hN g j) n (BT ty BZ i 2 rfl rfl) (by rw[SU ty];rfl) (by simp)
     ·exact ER (hN g j) m (BT ty BZ i 4 rfl rfl) (by rw[SV ty i v];split<;>rfl) (by split<;>simp)
    ·obtain ⟨i,hi,d⟩:=yN.1 d
     have hl:i < x.duties.length:=by rw[<-h.duties.1];exact yZ.1 hi
     obtain ⟨g,l,j,ty,_,n,m,_⟩:=h.duties.2.2 i hl
     unfold DK at d
     rw[yk hl] at d
     simp only[CV,AU l,yA,yJ,zl,xp] at d
     rcases d with rfl|rfl
     ·exact ER (hN g j) n (BT ty Gl i 1 rfl rfl) (by rw[SW ty];rfl) (by simp)
     ·exact ER (hN g j) m (BT ty Gl i 3 rfl rfl) (by rw[SX ty];rfl) (by simp)
   ·cases d
end
section
variable{B:Nat}{W W':World}{N M:NP}{L:Bz}{x:Aq}{t:Tb}{X:List Us}{k:Nat}{O:NP}
def CR(B:Nat)(W:World)(p:Addr):Prop:=∃b q,p=⟨b,q,none⟩∧b < W.heap.size∧¬ Ip B W b q
def DR(W:World)(p:Addr):Prop:=∃b q,p=⟨b,q,none⟩∧b < W.heap.size∧∃z,W.cell? ⟨b,q,none⟩=some (.int .i64 z)
theorem RJ.hd(h:RJ B W t X k O W'):UM W (CR B W) (DR W) W':=by
 constructor
 ·rintro p ⟨b,q,rfl,h1,h2⟩;exact h.cells b q h1 h2
 ·rintro p ⟨b,q,rfl,h1,h2⟩
  by_cases a:Ip B W b q
  ·exact h.nums b q a h2
  ·rw[h.cells b q h1 a];exact h2
theorem P0{b q ty:Nat}(h:Ty W b ty)(c:¬ Uc ty q):¬ Ip B W b q:=by
 rintro ⟨_,o,a,rfl,h1,h2,_⟩
 obtain rfl:=h.inj h1
 exact c h2
theorem G2{b q:Nat}(h:Nk W b q):¬ Ip B W b q:=by
 obtain ⟨ty,h1,h2⟩:=h
 exact P0 h1 (by rintro (h|h);rw[h2] at h;cases h;rw[h2] at h;cases h.1)
theorem Fc{b o:Nat}(h:Gk W b o){j:Nat}(a:j < 6)(h4:j≠4):¬ Ip B W b (o+j):=by
 obtain ⟨ty,h1,h2⟩:=h
 refine P0 h1 ?_
 rintro (h|h)
 ·rw[(h2 j a).1] at h;cases h
 ·rw[(h2 j a).2] at h;exact h4 h.2
theorem KB{b o:Nat}(h:Gk W b o){d:IntKind}{op:Int}(c:W.cell? ⟨b,o,none⟩=some (.int d op))(h2:op≠2):¬ Ip B W b (o+4):=by
 rintro ⟨_,f,a,e,h1,_,h3⟩
 obtain rfl:f=o+3:=by omega
 rw[PM h c,yu h2] at h3
 exact h3 rfl
mutual
theorem RN:∀(e:Ex) (b o:Nat) (cs:LV),I1 W M e cs->W.rangeAt b o cs->Gk W b o->Qh W (CR B W) e b o
 |.mk op n u rn ri args,b,o,cs,hv,hr,hp=>by
  rw[I1] at hv
  obtain ⟨a,cap,rfl,h2,h3,h4⟩:=hv
  obtain ⟨c,r1,r2,f,g,d⟩:=Ce hr
  rw[Qh]
  exact ⟨a,cap,⟨c,_,_,rfl,hp.lt,Fc (j:=0) hp (by omega) (by omega)⟩,⟨d,_,_,rfl,hp.lt,Fc hp (by omega) (by omega)⟩,h2,PQ args a 0 h4⟩
theorem PQ:∀(l:List Ex) (a:Option Addr) (i:Nat),Dt W M a i l->JB W (CR B W) a i l
 |[],a,i,h=>by rw[JB];trivial
 |e::r,a,i,h=>by
  rw[Dt] at h
  rw[JB]
  obtain ⟨⟨g,cs,rfl,h1,h2,h3,h4⟩,h5⟩:=h
  exact ⟨⟨g,0,rfl,by rw[yA];exact RN e g (i*6) cs h4 h3 (KA h2 i)⟩,PQ r _ (i+1) h5⟩
end
theorem Fz{f:Nat->List Us}{c:Nat}(n:Nat)(h:∀i,(f i).length<=c):((List.range n).flatMap f).length<=n*c:=by
 induction n with
 |zero=>simp
 |succ n ih=>rw[Al,ym,Nat.succ_mul];have:=h n;omega
theorem NJ{f:Nat->List Us}{c:Nat}(n:Nat)(h:∀i,i < n->(f i).length<=c):((List.range n).flatMap f).length<=n*c:=by
 induction n with
 |zero=>simp
 |succ n ih=>rw[Al,ym,Nat.succ_mul];have:=h n (by omega);have:=ih (fun i hi=>h i (by omega));omega
theorem Es(h:BA x=true):x.lets.length<=64∧x.crops.length<=32∧x.reaches.length<=64∧x.farms.length<=600∧x.rots.length<=64∧x.rights.length<=256∧x.duties.length<=256∧(∀d∈x.rots,d.turns.length<=64)∧∀e∈AK x,B6 e.1<=8:=by
 unfold BA Kn FU EH at h
 simp only[yt,yW,yL] at h
 obtain ⟨⟨h1,h2,h3,h4,h5,h6,c⟩,a,b⟩:=h
 exact ⟨h1,h2,h3,h4,h5,h6,c,a,b⟩
theorem NK(h:x.lets.length<=64):∀e∈AK x,0<=e.2∧e.2<=1000000:=by
 intro e b
 unfold AK I9 F3 D9 F4 GB CY DH DJ at b
 simp only[yo,yJ,zl,xp,yN,Prod.exists] at b
 rcases b with (rfl|rfl|rfl)|⟨d,i,a,rfl⟩|⟨d,i,a,rfl⟩|⟨d,i,a,rfl|rfl|rfl|rfl|rfl|rfl|rfl|rfl⟩|⟨d,i,a,rfl⟩|⟨d,i,a,(rfl|rfl|rfl)|⟨f,g,c,rfl⟩⟩|⟨d,i,a,rfl|rfl|rfl|rfl|rfl⟩|⟨d,i,a,rfl⟩
 all_goals first|exact ⟨by omega,by omega⟩|skip
 have:=List.mem_zipIdx a
 simp only
 omega
theorem NL(h:Cg N (ET M W) (RV W) W L x)(d:BA x=true):(Ci L x).length<=1000000:=by
 obtain ⟨e,p,l,j,f,m,g,b,_⟩:=Es d
 unfold Ci
 simp only[ym]
 have e1:((List.range L.farms.n).flatMap (E1 L.farms x.farms)).length<=L.farms.n*2:=Fz _ fun i=>by unfold E1;split<;>simp
 have e2:((List.range L.rots.n).flatMap (Gm L x.rots)).length<=L.rots.n*66:=NJ _ fun i hi=>by
  have hl:i < x.rots.length:=by rw[<-h.rots.1];exact hi
  obtain ⟨_,_,_,_,_,_,_,_,_,_,_,c⟩:=h.rots.2.2 i hl
  have a:((List.range (A2 L i).n).flatMap (EM (A2 L i) (x.rots[i]).turns)).length<=(A2 L i).n*1:=Fz _ fun k=>by unfold EM;split<;>simp
  have:=b _ (yy hl)
  have:=c.1
  unfold Gm
  rw[yk hl]
  simp only[yE]
  omega
 have a:((List.range L.rights.n).flatMap (CP L.rights x.rights)).length<=L.rights.n*2:=Fz _ fun i=>by unfold CP;split<;>simp
 have o:((List.range L.duties.n).flatMap (DK L.duties x.duties)).length<=L.duties.n*2:=Fz _ fun i=>by unfold DK;split<;>simp
 have:=h.farms.1;have:=h.rots.1;have:=h.rights.1;have:=h.duties.1
 omega
theorem RO(hs:N L.s)(h:Cg N (ET M W) (RV W) W L x){Bu:Nat}(q:Bu < W.heap.size)(n:W.cell? ⟨Bu,0,none⟩=some (.pointer (some ⟨L.s,0,none⟩)))(t:BA x=true):Km M W (CR B W) (DR W) Bu L x:=by
 have k:∀ {hd:Ah} {g sz i off:Nat},hd.a=some (aV g 0)->hd.at sz i off=(aV g (i*sz+off)):=fun f=>by rw[AU f,yA]
 refine ⟨h.ok,h.heads (fun _ _ _=>rfl) n,⟨Bu,0,rfl,q,?_⟩,fun j h1 h2=>⟨L.s,j,rfl,h.ty.lt,P0 h.ty ?_⟩,fun i hi=>?_,fun i hi=>?_,fun i hi=>?_,?_,h.farms.1,h.rots.1,fun i hi=>?_,h.rights.1,h.duties.1,NK (Es t).1,NL h t⟩
 ·rintro ⟨_,o,ty,e,_⟩;omega
 ·have:j=19∨j=20∨j=21∨j=22∨j=23∨j=24∨j=25:=by omega
  rcases this with rfl|rfl|rfl|rfl|rfl|rfl|rfl<;>(intro v;revert v;unfold Uc;decide)
 ·obtain ⟨g,f,r,ty,_⟩:=h.rots.2.2 i (by rw[<-h.rots.1];exact hi)
  rw[k f]
  exact ⟨_,_,rfl,ty.lt,G2 (Dn ty Fy i 22 rfl)⟩
 ·obtain ⟨g,f,r,ty,_,_,m,_⟩:=h.farms.2.2 i hi
  rw[k f]
  exact ⟨⟨_,_,rfl,ty.lt,G2 (Dn ty F6 i 3 rfl)⟩,m⟩
 ·obtain ⟨g,f,r,ty,m,_⟩:=h.rights.2.2 i hi
  rw[k f]
  exact ⟨⟨_,_,rfl,ty.lt,G2 (Dn ty BZ i 0 rfl)⟩,m⟩
 ·refine Au.mono (fun a e A=>?_) (h.all2 hs)
  obtain ⟨b,o,rfl,hb,d,c,l,p⟩:=A
  have u:=RN (B:=B) e.1 b o c p l d
  have m:=p.exV (N:=M) (fun _ h _=>h)
  obtain ⟨a,cap,rfl,e1,e2,D⟩:=m.cells
  obtain ⟨z,r1,r2,C,w,E⟩:=Ce l
  exact ⟨b,o,_,rfl,l,m,u,⟨_,_,rfl,d.lt,Fc d (by omega) (by omega)⟩,⟨_,_,rfl,d.lt,Fc d (by omega) (by omega)⟩,⟨_,_,rfl,d.lt,Fc d (by omega) (by omega)⟩,⟨_,_,rfl,d.lt,_,w⟩,
   fun h0=>⟨_,_,rfl,d.lt,KB d z (by rw[h0];decide)⟩⟩
 ·obtain ⟨_,_,_,_,_,_,_,_,_,_,_,y⟩:=h.rots.2.2 i hi
  exact y.1
end
section
variable{B:Nat}{W W':World}{N M:NP}{E:Int->Ex->Nat->Nat->Prop}{R:Int->Rf->Nat->Nat->Prop}{L:Bz}{x:Aq}{t:Tb}{X:List Us}{O:NP}
theorem IE:∀ {l:List (List Us × Bool)},(BK l).2=true->∀p∈l,p.2=true∧∀u∈p.1,u∈(BK l).1
 |[],_=>by simp
 |y::r,h=>by
  have e:BK (y::r)=if y.2 then (y.1++(BK r).1,(BK r).2) else (y.1,false):=rfl
  rw[e] at h ⊢
  by_cases h1:y.2=true
  ·rw[yx h1] at h ⊢
   have ih:=IE h
   intro p a
   rcases yJ.1 a with rfl|a
   ·exact ⟨h1,fun u b=>yo.2 (.inl b)⟩
   ·exact ⟨(ih p a).1,fun u b=>yo.2 (.inr ((ih p a).2 u b))⟩
  ·rw[yu h1] at h;cases h
theorem LX{α β γ:Type}{R R':α->β->Prop}{f:α->β->γ}{Q:γ->Prop}(h:∀a b,R a b->Q (f a b)->R' a b):∀ {l:List α} {m:List β},Au R l m->(∀p∈List.zipWith f l m,Q p)->Au R' l m
 |[],[],_,_=>trivial
 |a::l,b::m,hA,hq=>by
  rw[Au] at hA
  simp only[xO,zV] at hq
  exact ⟨h a b hA.1 hq.1,LX h hA.2 hq.2⟩
 |[],_::_,hA,_=>by simp[Au] at hA
 |_::_,[],hA,_=>by simp[Au] at hA
def Ud(W:World)(X:List Us)(M:NP)(lt:Int)(e:Ex)(b o:Nat):Prop:=ET M W lt e b o∧(Cv e=false->(Cf W lt e b o).2=true∧∀u∈(Cf W lt e b o).1,u∈X)
def Ue(X:List Us)(R:Int->Rf->Nat->Nat->Prop)(to:Int)(r:Rf)(b o:Nat):Prop:=R to r b o∧∃at_,(⟨b,o,to,at_,r.name,r.n⟩:Us)∈X
theorem Cg.linkE(h:Cg N (ET M W) R W L x)(hs:N L.s)(l:(Ca W L x).2=true)(g:∀u∈(Ca W L x).1,u∈X):Cg N (Ud W X M) R W L x:=by
 have j:=IE l
 refine h.told (LX (f:=Cq W) (Q:=fun p=>p.2=true∧∀u∈p.1,u∈X) (fun a e k c=>?_) (h.all2 hs) (fun p d=>?_))
 ·obtain ⟨b,o,rfl,hb,d,m⟩:=k
  refine ⟨b,o,rfl,m,fun hl=>?_⟩
  unfold Cq at c
  rw[hl] at c
  exact c
 ·obtain ⟨h1,h2⟩:=j p (yo.2 (.inl d))
  exact ⟨h1,fun u i=>g u (h2 u i)⟩
theorem Cn{f:Nat->List Us}{n i:Nat}{u:Us}(hi:i < n)(a:u∈f i):u∈(List.range n).flatMap f:=yN.2 ⟨i,yZ.2 hi,a⟩
theorem Cg.linkR(h:Cg N E R W L x)(t:∀u∈EI L x,u∈X)(l:∀u∈Ci L x,u∈X):Cg N E (Ue X R) W L x:=by
 have c:∀ {hd:Ah} {g sz i off:Nat},hd.a=some (aV g 0)->hd.at sz i off=(aV g (i*sz+off)):=fun b=>by rw[AU b,yA]
 have p:∀u∈(List.range L.farms.n).flatMap (E1 L.farms x.farms),u∈X:=fun u j=>l u (by unfold Ci;simp only[yo];exact .inl (.inl (.inl j)))
 have q:∀u∈(List.range L.rots.n).flatMap (Gm L x.rots),u∈X:=fun u j=>l u (by unfold Ci;simp only[yo];exact .inl (.inl (.inr j)))
 have s:∀u∈(List.range L.rights.n).flatMap (CP L.rights x.rights),u∈X:=fun u j=>l u (by unfold Ci;simp only[yo];exact .inl (.inr j))
 have r:∀u∈(List.range L.duties.n).flatMap (DK L.duties x.duties),u∈X:=fun u j=>l u (by unfold Ci;simp only[yo];exact .inr j)
 refine ⟨h.ty,h.name,h.season,h.cap,h.start,h.hlets,h.hcrops,h.hreaches,h.hfarms,h.hrots,h.hrights,h.hduties,h.lets,h.crops,⟨h.reaches.1,h.reaches.2.1,fun i hi=>?_⟩,⟨h.farms.1,h.farms.2.1,fun i hi=>?_⟩,⟨h.rots.1,h.rots.2.1,fun i hi=>?_⟩,⟨h.rights.1,h.rights.2.1,fun i hi=>?_⟩,⟨h.duties.1,h.duties.2.1,fun i hi=>?_⟩⟩
 ·obtain ⟨g,b,f,ty,h1,e,h2⟩:=h.reaches.2.2 i hi
  refine ⟨g,b,f,ty,h1,⟨e,⟨i,t _ (Cn (by rw[h.reaches.1];exact hi) ?_)⟩⟩,h2⟩
  unfold Iq;rw[yk hi];simp[c b]
 ·obtain ⟨g,b,f,ty,h1,e,h2,h3,d⟩:=h.farms.2.2 i hi
  refine ⟨g,b,f,ty,h1,⟨e,⟨0,p _ (Cn (by rw[h.farms.1];exact hi) ?_)⟩⟩,h2,h3,⟨d,⟨0,p _ (Cn (by rw[h.farms.1];exact hi) ?_)⟩⟩⟩
  ·unfold E1;rw[yk hi];simp[c b,CV]
  ·unfold E1;rw[yk hi];simp[c b,CV]
 ·obtain ⟨g,b,f,ty,h1,e,h2,h3,h4,h5,h6,m⟩:=h.rots.2.2 i hi
  refine ⟨g,b,f,ty,h1,⟨e,⟨0,q _ (Cn (by rw[h.rots.1];exact hi) ?_)⟩⟩,h2,h3,h4,h5,h6,m.1,m.2.1,fun k o=>?_⟩
  ·unfold Gm;rw[yk hi];simp[c b,CV]
  ·obtain ⟨g,b,f,ty,e,h1⟩:=m.2.2 k o
   refine ⟨g,b,f,ty,⟨e,⟨0,q _ (Cn (i:=i) (by rw[h.rots.1];exact hi) ?_)⟩⟩,h1⟩
   unfold Gm;rw[yk hi]
   refine yJ.2 (.inr (Cn (i:=k) (by rw[m.1];exact o) ?_))
   unfold EM;rw[yk o];simp[c b,CV]
 ·obtain ⟨g,b,f,ty,h0,h1,e,d,h2⟩:=h.rights.2.2 i hi
  refine ⟨g,b,f,ty,h0,h1,⟨e,⟨0,s _ (Cn (by rw[h.rights.1];exact hi) ?_)⟩⟩,⟨d,⟨0,s _ (Cn (by rw[h.rights.1];exact hi) ?_)⟩⟩,h2⟩
  ·unfold CP;rw[yk hi];simp[c b,CV]
  ·unfold CP;rw[yk hi];simp[c b,CV]
 ·obtain ⟨g,b,f,ty,h1,e,d,h2⟩:=h.duties.2.2 i hi
  refine ⟨g,b,f,ty,h1,⟨e,⟨0,r _ (Cn (by rw[h.duties.1];exact hi) ?_)⟩⟩,⟨d,⟨0,r _ (Cn (by rw[h.duties.1];exact hi) ?_)⟩⟩,h2⟩
  ·unfold DK;rw[yk hi];simp[c b,CV]
  ·unfold DK;rw[yk hi];simp[c b,CV]
theorem RJ.at(h:RJ B W t X X.length O W'){u:Us}(c:u∈X)(h0:u.to≠0):W'.cell? ⟨u.b,u.o+1,none⟩=some (.int .i64 (Ft t (CF u.to) u.name)):=by
 obtain ⟨j,a,rfl⟩:=zg.1 c
 exact ((h.done j a a).2 h0).2
theorem NM(t:Tb)(l:List Ex):(Gr t l).length=l.length:=by rw[Mx];simp
mutual
theorem PR(h:RJ B W t X X.length O W')(lt:Int):∀(e:Ex) (b o:Nat) (cs:LV),I1 W M e cs->W.rangeAt b o cs->Gk W b o->(Cf W lt e b o).2=true->(∀u∈(Cf W lt e b o).1,u∈X)->∃c,W'.rangeAt b o c∧I1 W' M (Il t e) c
 |.mk op n u rn ri args,b,o,cs,hv,hr,hp,ho,hX=>by
  rw[I1] at hv
  obtain ⟨a,cap,rfl,h2,h3,h4⟩:=hv
  obtain ⟨i,r1,r2,k,m,g⟩:=Ce hr
  have hc:∀j,j < 6->j≠4->W'.cell? ⟨b,o+j,none⟩=W.cell? ⟨b,o+j,none⟩:=fun j l h4=>h.cells b _ hp.lt (Fc hp l h4)
  rw[Cf] at ho hX
  by_cases hs:Mp op args.length=true
  ·rw[yx hs] at ho hX
   rw[g] at ho hX
   simp only[zV] at hX
   have f:=NO h lt args a args.length cap 0 h4 ho hX.2
   have d:W'.cell? ⟨b,o+4,none⟩=some (.int .i64 (if op=2 then Ft t 1 rn else ri)):=by
    by_cases h5:op=2
    ·have h6:=h.at hX.1 (by simp only[Jq,h5,zY];split<;>simp)
     rw[yx h5]
     simp only[Jq,h5,zY,zN] at h6
     rw[h6]
     split<;>rfl
    ·rw[yu h5]
     exact (h.cells b _ hp.lt (KB hp i h5)).trans m
   refine ⟨[iV op,iV n,iV u,.string rn,iV (if op=2 then Ft t 1 rn else ri),.slice a args.length cap],?_,?_⟩
   ·exact A5 ((hc 0 (by omega) (by omega)).trans i) (A5 ((hc 1 (by omega) (by omega)).trans r1) (A5 ((hc 2 (by omega) (by omega)).trans r2) (A5 ((hc 3 (by omega) (by omega)).trans k) (A5 d (C8 ((hc 5 (by omega) (by omega)).trans g))))))
   ·rw[Il,I1]
    exact ⟨a,cap,by rw[NM],by rw[NM];exact h2,h3,f⟩
  ·rw[yu hs] at ho;cases ho
theorem NO(h:RJ B W t X X.length O W')(lt:Int):∀(l:List Ex) (a:Option Addr) (n cap i:Nat),Dt W M a i l->(BD W lt l (some (.slice a n cap)) i).2=true->(∀u∈(BD W lt l (some (.slice a n cap)) i).1,u∈X)->Dt W' M a i (Gr t l)
 |[],a,n,cap,i,_,_,_=>by rw[Gr,Dt];trivial
 |e::r,a,n,cap,i,hr,ho,hX=>by
  rw[Dt] at hr
  obtain ⟨⟨g,cs,rfl,h1,h2,h3,h4⟩,h5⟩:=hr
  rw[BD] at ho hX
  by_cases b:(Cf W lt e g (0+i*6)).2=true
  ·rw[yx b] at ho hX
   simp only[yo,or_imp,forall_and] at hX
   obtain ⟨c,c1,c2⟩:=PR h lt e g (0+i*6) cs h4 (by rw[yA];exact h3) (by rw[yA];exact KA h2 i) b hX.1
   rw[yA] at c1
   rw[Gr,Dt]
   exact ⟨⟨g,c,rfl,h1,h.tyT h2,c1,c2⟩,NO h lt r (some ⟨g,0,none⟩) n cap (i+1) h5 ho hX.2⟩
  ·rw[yu b] at ho;cases ho
end
theorem Qy{e:Ex}(h:Cv e=true):e.op=0∧e.args=[]:=by
 unfold Cv Fv at h
 simp only[yt,yW] at h
 exact ⟨h.1,List.eq_nil_of_length_eq_zero h.2.2.2.2⟩
theorem RP(h:RJ B W t X X.length O W'){lt:Int}{e:Ex}{b o:Nat}(hl:Cv e=true)(s:ET M W lt e b o)(d:Gk W b o):ET M W' lt e b o:=by
 obtain ⟨c,m,f⟩:=s
 obtain ⟨g,k⟩:=Qy hl
 cases e with
 |mk op n u rn ri args=>
 simp only[Ex.op,Ex.args] at g k
 subst k
 rw[I1] at f
 obtain ⟨a,cap,rfl,h2,h3,h4⟩:=f
 obtain ⟨i,r1,r2,l,q,r⟩:=Ce m
 have hc:∀j,j < 6->j≠4->W'.cell? (aV b (o+j))=W.cell? (aV b (o+j)):=fun j p h4=>h.cells b _ d.lt (Fc d p h4)
 refine ⟨_,A5 ((hc 0 (by omega) (by omega)).trans i) (A5 ((hc 1 (by omega) (by omega)).trans r1) (A5 ((hc 2 (by omega) (by omega)).trans r2) (A5 ((hc 3 (by omega) (by omega)).trans l) (A5 ((h.cells b _ d.lt (KB d i (by rw[g];decide))).trans q) (C8 ((hc 5 (by omega) (by omega)).trans r)))))),?_⟩
 rw[I1]
 exact ⟨a,cap,rfl,h2,h3,by rw[Dt];trivial⟩
theorem Qz(hN:∀g,N g->B<=g)(hM:∀g,M g->B<=g)(hs:N L.s)(h:Cg N (ET M W) (RV W) W L x)(d:RJ B W t (CG W L x) (CG W L x).length O W')(p:(Ca W L x).2=true):Cg N (ET M W') (RV W') W' L (x.mp (fT t) (gT t)):=by
 have q:C9 x=true:=by
  have:=IE p (if C9 x then Ci L x else [],C9 x) (yo.2 (.inr (by simp)))
  exact this.1
 have j:∀u∈Ci L x,u∈CG W L x:=fun u l=>yo.2 (.inr ((IE p (if C9 x then Ci L x else [],C9 x) (yo.2 (.inr (by simp)))).2 u (by rw[yx q];exact l)))
 refine ((h.linkE (X:=CG W L x) hs p (fun u l=>yo.2 (.inr l))).linkR (X:=CG W L x) (fun u l=>yo.2 (.inl l)) j).map (fun b ty _ h=>d.tyT h) (fun b o _ h=>d.cells b o h.lt (G2 h)) (fun lt e b o _ i m=>?_) (fun to r b o _ i f=>?_)
 ·obtain ⟨m,a⟩:=m
  unfold fT
  by_cases hl:Cv e=true
  ·rw[yx hl];exact RP d hl m i
  ·rw[yu hl]
   obtain ⟨v,w⟩:=a (by simpa using hl)
   obtain ⟨c,c1,c2⟩:=m
   exact PR d lt e b o c c2 c1 i v w
 ·obtain ⟨f,a⟩:=f
  have k:¬ Ip B W b o:=by
   obtain ⟨ty,p1,p2,_⟩:=i
   exact G2 ⟨ty,p1,p2⟩
  unfold gT
  by_cases h0:to=0
  ·rw[yx h0]
   refine ⟨f.1,(d.cells b o i.lt k).trans f.2.1,(d.cells b _ i.lt ?_).trans f.2.2⟩
   obtain ⟨at_,n⟩:=a
   exact (PO hN hM hs h _ n).notNum h0
  ·rw[yu h0]
   obtain ⟨at_,n⟩:=a
   exact ⟨f.1,(d.cells b o i.lt k).trans f.2.1,d.at n h0⟩
end
end Go.Proofs.Ytghepahgkcigpaa
namespace Go.Proofs.Ytghepahgkcigpaa
open Go.RowKit
attribute [local go_sem] Oper.semAt_some
def J8(B:Nat):Deferred:={target:=.fn (.func 24) #[.pointer (some ⟨B+1,0,none⟩),.pointer (some ⟨B+2,0,none⟩)],args:=#[]}
def JD(D:Nat):Deferred:={target:=.collected D,args:=#[]}
def P1(B:Nat)(w':World)(cs:LV)(x:Aq):Prop:=∃(L:Bz) (N:NP),cs.length=26∧BC N w' L cs x∧∀b,N b->B<=b∧b < w'.heap.size
def FA(w:World)(x:Aq)(e:Ending)(w':World):Prop:=
 Below w.heap.size w w'∧((Ay x≠0∧e=.returned (.tuple #[.agg Bt.toArray,.int .i64 (Ay x)]))∨(Ay x=0∧∃cs,e=.returned (.tuple #[.agg cs.toArray,.int .i64 0])∧P1 w.heap.size w' cs (Ad x)))
structure JE (w W:World):Prop where
 below:Below w.heap.size w W
 x:∃row:Array Value,row.size=26∧W.heap[w.heap.size+1]?=some (.cells row 35 (0,0))
 e:∃v:Value,W.heap[w.heap.size+2]?=some (.cells #[v] 38 (0,0))
theorem JE.up{w W W':World}(h:JE w W)(hb:Below (w.heap.size+3) W W'):JE w W':=by
 obtain ⟨row,h1,h2⟩:=h.x
 obtain ⟨v,h3⟩:=h.e
 exact ⟨h.below.trans (hb.mono (by omega)),⟨row,h1,(hb.block _ (by omega)).trans h2⟩,⟨v,(hb.block _ (by omega)).trans h3⟩⟩
def Ll(B:Nat)(tm:Array Value):Prop:=tm.getD 2 undef=.pointer (some ⟨B+1,0,none⟩)∧tm.getD 3 undef=.pointer (some ⟨B+2,0,none⟩)
structure KC (Q:Exit->Act->World->Prop) (w:World) (x:Aq):Prop where
 fail:∀tm W,Ll w.heap.size tm->JE w W->Ay x≠0->Q (.panic (Ek (Ay x))) {tmps:=tm,defers:=[J8 w.heap.size]} W
 failD:∀D tm W,Ll w.heap.size tm->JE w W->Ay x≠0->w.heap.size+3<=D->W.heap[D]?=some (.deferred (some []))->Q (.panic (Ek (Ay x))) {tmps:=tm,defers:=[JD D,J8 w.heap.size]} W
 done:∀D tm W cs,Ll w.heap.size tm->Below w.heap.size w W->W.heap[w.heap.size+1]?=some (.cells cs.toArray 35 (0,0))->W.heap[w.heap.size+2]?=some (.cells #[.int .i64 0] 38 (0,0))->Ay x=0->w.heap.size+3<=D->W.heap[D]?=some (.deferred (some []))->
  P1 w.heap.size (W.putObj D (.deferred none)) cs (Ad x)->Q .ret {tmps:=tm,defers:=[JD D,J8 w.heap.size]} W
theorem NQ{W:World}{tm:Array Value}{B:Nat}{cs:LV}{z:Int}(h:Ll B tm)(h1:W.heap[B+1]?=some (.cells cs.toArray 35 (0,0)))(a:cs.length=26)(h2:W.heap[B+2]?=some (.cells #[.int .i64 z] 38 (0,0))):
  (results Try.f11 tm).run Try.prog W=.ok (.tuple #[.agg cs.toArray,.int .i64 z]) W:=by
 obtain ⟨c,b⟩:=h
 rw[yG] at c b
 have e:W.rangeAt (B+1) 0 cs:=by
  have:=yR h1 0 cs.length
  simpa using this
 have g:=xX (P:=Try.prog) W (B+1) 0 35 cs _ e qB rfl (by rw[a];kernel_rfl)
 have c2:W.cell? (aV (B+2) 0)=some (iV z):=by simp[World.cell?,h2]
 have f:(loadVar 38 (aV (B+2) 0)).run Try.prog W=.ok (iV z) W:=by
  have d:(isAgg 38).run Try.prog W=.ok false W:=by kernel_rfl
  simp[loadVar,d,go_sem,c2]
 simp[results,Try.results11,c,b,asAddr,g,f]
theorem Jt{w W:World}{x:Aq}{tm:Array Value}(g:Ll w.heap.size tm)(d:JE w W)(h0:Ay x≠0):LeavesInM Fence.wide 10 Try.prog Try.f11 tm (FA w x) [J8 w.heap.size] (.panicking (Ek (Ay x))) W:=by
 obtain ⟨row,c,a⟩:=d.x
 obtain ⟨v,f⟩:=d.e
 refine ⟨by simp,.inr ⟨by simp[Fence.wide],_,_,_,_,rfl,by rfl,fun _ _=>trivial,?_⟩⟩
 refine (Lk 9 (w.heap.size+1) (w.heap.size+2) (by omega) (Ay x) row v W a c f).mono ?_
 rintro e h w' ⟨rfl,rfl,rfl⟩
 have e1:((W.setRow (w.heap.size+1) Bt.toArray).setCell (aV (w.heap.size+2) 0) (iV (Ay x))).heap[w.heap.size+1]?=some (.cells Bt.toArray 35 (0,0)):=by
  rw[yY _ _ _ _ (by simp)]
  simp[World.setRow,yO,a]
 have e2:((W.setRow (w.heap.size+1) Bt.toArray).setCell (aV (w.heap.size+2) 0) (iV (Ay x))).heap[w.heap.size+2]?=some (.cells #[iV (Ay x)] 38 (0,0)):=by
  have:=za (W.setRow (w.heap.size+1) Bt.toArray) (w.heap.size+2) 0 #[v] 38 (iV (Ay x)) (by simp[World.setRow,yO,f])
  rw[this];rfl
 refine ⟨_,NQ g e1 rfl e2,?_,.inl ⟨h0,rfl⟩⟩
 refine d.below.trans ⟨rfl,rfl,rfl,by simp[World.setRow],fun b hb=>?_⟩
 rw[yY _ _ _ _ (by simp;omega)]
 simp only[World.setRow,yO,yu (show ¬ w.heap.size+1=b by omega)]
theorem RQ(w:World)(x:Aq):KC (bodyPostM Fence.wide 10 Try.prog Try.f11 (FA w x)) w x:=by
 refine ⟨fun tm W a d h0=>Jt a d h0,fun D tm W a d h0 g hd=>?_,fun D tm W cs a hb h1 h2 h0 g hd hs=>?_⟩
 ·refine ⟨by simp,.inl ⟨D,_,rfl,run_takeDeferred hd,Jt a (d.up ⟨rfl,rfl,rfl,by simp,fun b hb=>World.putObj_heap_other (by omega)⟩) h0⟩⟩
 ·refine ⟨by simp,.inl ⟨D,_,rfl,run_takeDeferred hd,?_⟩⟩
  refine ⟨by simp,.inr ⟨by simp[Fence.wide],_,_,_,_,rfl,by rfl,fun _ _=>trivial,?_⟩⟩
  refine (RH 9 _ _ _).mono ?_
  rintro e h w' ⟨rfl,rfl,rfl⟩
  have c:=hs
  obtain ⟨L,N,f,_⟩:=c
  exact ⟨_,NQ a ((World.putObj_heap_other (by omega)).trans h1) f ((World.putObj_heap_other (by omega)).trans h2),hb.trans ⟨rfl,rfl,rfl,by simp,fun b hb=>World.putObj_heap_other (by omega)⟩,.inr ⟨h0,cs,rfl,hs⟩⟩
def UR:Code->Code
 |.seq _ y=>y
 |c=>c
def DO:Nat->Code->Code
 |0,c=>c
 |k+1,c=>DO k (UR c)
end Go.Proofs.Ytghepahgkcigpaa
namespace Go.Proofs.Ytghepahgkcigpaa
open Go.RowKit
theorem KD(s:Nat)(w:World):Calls Try.prog 51 #[.pointer (some ⟨s,0,none⟩)] w fun x w'=>x=.returned (.func (.func 81) #[] #[.pointer (some ⟨w.heap.size,0,none⟩)])∧w'=w.alloc (.cells #[.pointer (some ⟨s,0,none⟩)] 52):=by
 have a:∀(fn:Fn) (first cap:Array Value) (w:World),(Instr.makeFunc fn first cap).run Try.prog w=.ok (.func fn first cap) w:=fun _ _ _ _=>rfl
 go_enter Try.func51,Try.ntmps51
 go_wp2
 go_ret
 exact ⟨rfl,rfl⟩
section
variable{B:Nat}{W W':World}{N N' M:NP}{E:Int->Ex->Nat->Nat->Prop}{R:Int->Rf->Nat->Nat->Prop}{L:Bz}{x:Aq}
theorem Cg.ren(h:Cg N E R W L x)(hN:∀g t,N g->Ty W g t->t≠35->t≠38->N' g):Cg N' E R W L x:=by
 refine ⟨h.ty,h.name,h.season,h.cap,h.start,h.hlets,h.hcrops,h.hreaches,h.hfarms,h.hrots,h.hrights,h.hduties,⟨h.lets.1,h.lets.2.1,fun i hi=>?_⟩,⟨h.crops.1,h.crops.2.1,fun i hi=>?_⟩,⟨h.reaches.1,h.reaches.2.1,fun i hi=>?_⟩,⟨h.farms.1,h.farms.2.1,fun i hi=>?_⟩,⟨h.rots.1,h.rots.2.1,fun i hi=>?_⟩,⟨h.rights.1,h.rights.2.1,fun i hi=>?_⟩,⟨h.duties.1,h.duties.2.1,fun i hi=>?_⟩⟩
 ·obtain ⟨g,a,b,ty,h1⟩:=h.lets.2.2 i hi
  exact ⟨g,a,hN g _ b ty (by decide) (by decide),ty,h1⟩
 ·obtain ⟨g,a,b,ty,h1⟩:=h.crops.2.2 i hi
  exact ⟨g,a,hN g _ b ty (by decide) (by decide),ty,h1⟩
 ·obtain ⟨g,a,b,ty,h1⟩:=h.reaches.2.2 i hi
  exact ⟨g,a,hN g _ b ty (by decide) (by decide),ty,h1⟩
 ·obtain ⟨g,a,b,ty,h1⟩:=h.farms.2.2 i hi
  exact ⟨g,a,hN g _ b ty (by decide) (by decide),ty,h1⟩
 ·obtain ⟨g,a,b,ty,h1,h2,h3,h4,h5,h6,e,c⟩:=h.rots.2.2 i hi
  refine ⟨g,a,hN g _ b ty (by decide) (by decide),ty,h1,h2,h3,h4,h5,h6,e,c.1,c.2.1,fun k d=>?_⟩
  obtain ⟨g,a,b,ty,h1⟩:=c.2.2 k d
  exact ⟨g,a,hN g _ b ty (by decide) (by decide),ty,h1⟩
 ·obtain ⟨g,a,b,ty,h1⟩:=h.rights.2.2 i hi
  exact ⟨g,a,hN g _ b ty (by decide) (by decide),ty,h1⟩
 ·obtain ⟨g,a,b,ty,h1⟩:=h.duties.2.2 i hi
  exact ⟨g,a,hN g _ b ty (by decide) (by decide),ty,h1⟩
theorem KE{b ty:Nat}{v:Value}(h:W.heap[b]?=some (.cells #[v] ty (0,0)))(e:∀k z,v≠.int k z)(a:∀q,Fx ty q=1∧FT ty q=q % 6)(q:Nat):¬ Ip B W b q:=by
 rintro ⟨_,o,d,rfl,h1,h2,h3⟩
 have c:Ty W b ty:=⟨_,h⟩
 obtain rfl:=c.inj h1
 apply h3
 unfold EP
 rw[DN c,(a _).1,yx rfl]
 rcases h2 with h2|h2
 ·rw[(a _).1] at h2;cases h2
 ·rw[(a _).2] at h2
  by_cases h5:o - 3=0
  ·rw[h5]
   simp only[World.cell?,h]
   simp
   cases v<;>simp_all
  ·have:W.cell? ⟨b,o - 3,none⟩=none:=by
    simp only[World.cell?,h]
    simp;omega
   rw[this]
theorem KF{b:Nat}(h:∀t,¬ Ty W b t)(q:Nat):¬ Ip B W b q:=by
 rintro ⟨_,o,a,rfl,h1,h2,h3⟩
 exact h _ h1
def Be(W:World)(b:Nat)(a:LB):Prop:=∃m,W.heap[b]?=some (.cells #[.map (some m)] 90 (0,0))∧Cb W m a
theorem Ho{t:Nat}(h:t≠35∧t≠55∧t≠57∧t≠51∧t≠59∧t≠64∧t≠66∧t≠68∧t≠70)(q:Nat):Fx t q=1∧FT t q=q % 6:=by
 obtain ⟨h1,h2,h3,h4,h5,h6,c,a,b⟩:=h
 unfold Fx FT
 rw[yu h1,yu h1,yu h2,yu h2,yu h3,yu h3,yu h4,yu h4,yu h5,yu h5,yu h6,yu h6,yu c,yu c,yu a,yu a,yu b,yu b]
 exact ⟨rfl,rfl⟩
theorem Be.read{t:Tb}{X:List Us}{k b:Nat}{O:NP}{d:LB}(h:Be W b d)(e:RJ B W t X k O W'):∃m es a,W'.cell? ⟨b,0,none⟩=some (.map (some m))∧Cb W' m d∧W'.heap[m]?=some (.map es a)∧es.size=d.length:=by
 obtain ⟨m,h1,h2⟩:=h
 have e1:W'.heap[b]?=W.heap[b]?:=e.same b (yf.1 h1).1 (KE h1 (by simp) (Ho (by decide)))
 obtain ⟨es,a,h3,h4⟩:=h2.size
 have e2:W'.heap[m]?=W.heap[m]?:=e.same m h2.lt (KF fun t ⟨c,hc⟩=>by rw[h3] at hc;cases hc)
 exact ⟨m,es,a,by simp[World.cell?,e1,h1],h2.block e2,e2.trans h3,h4⟩
theorem KG{t:Tb}{X:List Us}{k b ty:Nat}{v:Value}{O:NP}(h:W.heap[b]?=some (.cells #[v] ty (0,0)))(d:∀k z,v≠.int k z)(a:∀q,Fx ty q=1∧FT ty q=q % 6)(c:RJ B W t X k O W'):W'.cell? ⟨b,0,none⟩=some v:=by
 have e1:W'.heap[b]?=W.heap[b]?:=c.same b (yf.1 h).1 (KE h d a)
 simp[World.cell?,e1,h]
mutual
theorem My(lt:Int):∀(e:Ex) (b o:Nat),∀u∈(Cf W lt e b o).1,u.to≠6
 |.mk op n u rn ri args,b,o=>by
  intro v a
  rw[Cf] at a
  by_cases hs:Mp op args.length=true
  ·rw[yx hs] at a
   rcases yJ.1 a with rfl|a
   ·simp only;unfold Jq;split
    ·split<;>decide
    ·decide
   ·exact PS lt args _ 0 v a
  ·rw[yu hs] at a;cases a
theorem PS(lt:Int):∀(l:List Ex) (a:Option Value) (i:Nat),∀u∈(BD W lt l a i).1,u.to≠6
 |[],a,i=>by intro v d;rw[BD] at d;cases d
 |e::r,a,i=>by
  intro v d
  by_cases f:∃b o n c,a=some (.slice (some ⟨b,o,none⟩) n c)
  ·obtain ⟨b,o,n,c,rfl⟩:=f
   rw[BD] at d
   split at d
   ·rcases yo.1 d with d|d
    ·exact My lt e _ _ v d
    ·exact PS lt r _ _ v d
   ·exact My lt e _ _ v d
  ·have e0:BD W lt (e::r) a i=([],false):=by
    rw[BD]
    intro b o n c h
    exact f ⟨b,o,n,c,h⟩
   rw[e0] at d;cases d
end
theorem SY:∀u∈(Ca W L x).1,u.to≠6:=by
 intro u a
 obtain ⟨p,b,a⟩:=ID a
 unfold E8 at b
 rcases yo.1 b with b|b
 ·obtain ⟨i,hi,rfl⟩:=zg.1 b
  simp only[Dp,List.getElem_zipWith] at a
  unfold Cq at a
  split at a
  ·cases a
  ·exact My _ _ _ _ u a
 ·simp only[zt] at b
  rw[b] at a
  simp only at a
  split at a
  ·unfold Ci at a
   simp only[yo] at a
   rcases a with ((a|a)|a)|a
   ·obtain ⟨i,hi,a⟩:=yN.1 a
    unfold E1 at a
    split at a
    ·simp only[CV,yJ,zl,xp] at a
     rcases a with rfl|rfl
     ·simp
     ·simp only;split<;>simp
    ·cases a
   ·obtain ⟨i,hi,a⟩:=yN.1 a
    unfold Gm at a
    split at a
    ·simp only[CV,yJ] at a
     rcases a with rfl|a
     ·simp
     ·obtain ⟨k,c,a⟩:=yN.1 a
      unfold EM at a
      split at a
      ·simp only[CV,zt] at a
       rw[a];simp
      ·cases a
    ·cases a
   ·obtain ⟨i,hi,a⟩:=yN.1 a
    unfold CP at a
    split at a
    ·simp only[CV,yJ,zl,xp] at a
     rcases a with rfl|rfl
     ·simp
     ·simp only;split<;>simp
    ·cases a
   ·obtain ⟨i,hi,a⟩:=yN.1 a
    unfold DK at a
    split at a
    ·simp only[CV,yJ,zl,xp] at a
     rcases a with rfl|rfl<;>simp
    ·cases a
  ·cases a
end
structure I3 (w:World) (x:Aq) (W5:World) (L:Bz) (N M:Nat->Prop) (bl bc br bf Bf Bu:Nat):Prop where
 amid:JE w W5
 lets:Be W5 bl (x.lets.map (·.name))
 crops:Be W5 bc (x.crops.map (·.name))
 reaches:Be W5 br (x.reaches.map (·.name))
 farms:Be W5 bf (x.farms.map (·.name))
 find:W5.heap[Bf]?=some (.cells #[.func (.func 49) #[] #[]] 100 (0,0))
 box:W5.heap[Bu]?=some (.cells #[.pointer (some ⟨L.s,0,none⟩)] 52 (0,0))
 ps:Cg N (ET M W5) (RV W5) W5 L x
 hN:∀g,N g->w.heap.size<=g∧g < W5.heap.size
 hM:∀g,M g->w.heap.size+3<=g∧g < W5.heap.size
 hs:N L.s
 ls:L.s=w.heap.size+1
 fits:BA x=true
 wr:Ay x=if CQ (Tb.of x) x&&Cs (Tb.of x) x then 0 else 170
section
variable{w W5 W:World}{x:Aq}{L:Bz}{N M:NP}{bl bc br bf Bf Bu k:Nat}{t:Tb}{X:List Us}{O:NP}
theorem RJ.amid(c:JE w W5)(h:RJ w.heap.size W5 t X k O W):JE w W:=by
 refine ⟨c.below.trans ⟨h.os,h.tape,h.output,h.size,fun b hb=>h.same b (by have:=c.below.size;omega) (fun q d=>by have:=d.1;omega)⟩,?_,?_⟩
 ·obtain ⟨row,h1,h2⟩:=c.x
  obtain ⟨a,e1,e2⟩:=h.ty _ _ _ h2
  exact ⟨a,by omega,e2⟩
 ·obtain ⟨v,h2⟩:=c.e
  obtain ⟨a,e1,e2⟩:=h.ty _ _ _ h2
  obtain ⟨v',rfl⟩:∃v',a=#[v']:=by
   have:a.size=1:=e1
   exact ⟨a[0],by ext i h1 h2;omega;simp at h2;subst h2;rfl⟩
  exact ⟨v',e2⟩
theorem I3.uok(h:I3 w x W5 L N M bl bc br bf Bf Bu):∀u∈CG W5 L x,Na w.heap.size W5 u:=PO (fun g a=>(h.hN g a).1) (fun g a=>by have:=(h.hM g a).1;omega) h.hs h.ps
theorem I3.uses(h:I3 w x W5 L N M bl bc br bf Bf Bu):Km M W5 (CR w.heap.size W5) (DR W5) Bu L x:=
 RO h.hs h.ps (yf.1 h.box).1 (by simp[World.cell?,h.box]) h.fits
theorem I3.bad(h:I3 w x W5 L N M bl bc br bf Bf Bu){u:Us}(a:u∈CG W5 L x)(hb:J7 (Tb.of x) u=false):Ay x=170:=by
 rw[h.wr]
 rcases yo.1 a with a|a
 ·have:CQ (Tb.of x) x=false:=by
   obtain ⟨i,hi,a⟩:=yN.1 a
   have hl:i < x.reaches.length:=by rw[<-h.ps.reaches.1];exact yZ.1 hi
   unfold Iq at a
   rw[yk hl] at a
   simp only[zt] at a
   unfold CQ
   rw[xr]
   refine ⟨(x.reaches[i],i),zg.2 ⟨i,by simpa using hl,by simp⟩,?_⟩
   rw[a] at hb
   unfold J7 at hb
   unfold Gt
   rw[hb];simp
  rw[this];rfl
 ·have:Cs (Tb.of x) x=false:=by
   rw[yi]
   intro b
   have:=((G1 (Tb.of x) h.uses).2 b).2 u a
   rw[hb] at this;cases this
  rw[this];simp
theorem I3.bad2(h:I3 w x W5 L N M bl bc br bf Bf Bu)(hb:(Ca W5 L x).2=false):Ay x=170:=by
 rw[h.wr]
 have:Cs (Tb.of x) x=false:=by
  rw[yi]
  intro a
  have:=((G1 (Tb.of x) h.uses).2 a).1
  rw[hb] at this;cases this
 rw[this];simp
theorem I3.good(h:I3 w x W5 L N M bl bc br bf Bf Bu)(f:RJ w.heap.size W5 (Tb.of x) (CG W5 L x) (CG W5 L x).length O W)(e:(Ca W5 L x).2=true):Ay x=0:=by
 have a:∀u∈CG W5 L x,J7 (Tb.of x) u=true:=fun u b=>by
  obtain ⟨j,c,rfl⟩:=zg.1 b
  exact (f.done j c c).1
 rw[h.wr,(G1 (Tb.of x) h.uses).1 ⟨e,fun u b=>a u (yo.2 (.inr b))⟩]
 have:CQ (Tb.of x) x=true:=by
  unfold CQ
  rw[yL]
  intro p d
  obtain ⟨i,hi,rfl⟩:=zg.1 d
  have hl:i < x.reaches.length:=by simpa using hi
  have:=a ⟨(L.reaches.at 51 i 1).block,(L.reaches.at 51 i 1).off,if i=0 then 0 else 6,i,x.reaches[i].frm.name,x.reaches[i].frm.n⟩ (yo.2 (.inl (Cn (i:=i) (by rw[h.ps.reaches.1];exact hl) (by unfold Iq;rw[yk hl];simp))))
  rw[xv]
  unfold J7 at this
  simpa[Gt] using this
 rw[this];rfl
theorem I3.src(h:I3 w x W5 L N M bl bc br bf Bf Bu)(i:RJ w.heap.size W5 (Tb.of x) (CG W5 L x) (CG W5 L x).length O W)(m:(Ca W5 L x).2=true):
  ∃cs,cs.length=26∧W.rangeAt L.s 0 cs∧BC (fun g=>w.heap.size<=g∧g < W5.heap.size∧g≠w.heap.size+1∧g≠w.heap.size+2) W L cs (Ad x):=by
 have h1:=Qz (fun g d=>(h.hN g d).1) (fun g d=>by have:=(h.hM g d).1;omega) h.hs h.ps i m
 have f:=i.amid h.amid
 obtain ⟨row,_,l⟩:=f.x
 obtain ⟨v,n⟩:=f.e
 refine Cg.srcV ((h1.imp (E':=EV (fun g=>w.heap.size<=g∧g < W5.heap.size∧g≠w.heap.size+1∧g≠w.heap.size+2) W) (fun _ _ _ h=>h) (fun _ _ _ _=>rfl) (fun lt e b o _ _ p=>?_) (fun _ _ _ _ _ _ h=>h)).ren fun g ty d a n1 n2=>?_)
 ·obtain ⟨c,c1,c2⟩:=p
  exact ⟨c,c1,c2.exV (fun b hb _=>by have:=h.hM b hb;refine ⟨?_,?_,?_,?_⟩<;>omega)⟩
 ·obtain ⟨j,k⟩:=h.hN g d
  refine ⟨j,k,fun e=>?_,fun e=>?_⟩
  ·subst e;exact n1 (a.inj ⟨_,l⟩)
  ·subst e;exact n2 (a.inj ⟨_,n⟩)
end
section
variable{N:NP}{E E':Int->Ex->Nat->Nat->Prop}{R R':Int->Rf->Nat->Nat->Prop}{w W:World}{L:Bz}{x:Aq}
theorem Cg.moved(h:Cg N E R W L x){Bx:Nat}(b:Ty W Bx 35)(a:∀q,q < 26->W.cell? ⟨Bx,q,none⟩=W.cell? ⟨L.s,q,none⟩)(c:∀lt e o,o+6<=26->E lt e L.s o->E lt e Bx o):Cg N E R W {L with s:=Bx} x:=
 ⟨b,⟨h.name.1,(a 0 (by omega)).trans h.name.2⟩,c _ _ _ (by omega) h.season,c _ _ _ (by omega) h.cap,c _ _ _ (by omega) h.start,(a _ (by omega)).trans h.hlets,(a _ (by omega)).trans h.hcrops,(a _ (by omega)).trans h.hreaches,(a _ (by omega)).trans h.hfarms,(a _ (by omega)).trans h.hrots,(a _ (by omega)).trans h.hrights,(a _ (by omega)).trans h.hduties,h.lets,h.crops,h.reaches,h.farms,h.rots,h.rights,h.duties⟩
theorem RR{M:NP}{Bx s:Nat}(b:∀q,q < 26->W.cell? ⟨Bx,q,none⟩=W.cell? ⟨s,q,none⟩)(lt:Int)(e:Ex)(o:Nat)(g:o+6<=26)(h:ET M W lt e s o):ET M W lt e Bx o:=by
 obtain ⟨c,h1,h2⟩:=h
 obtain ⟨a,cap,rfl,_⟩:=(h2.exV (N:=M) (fun _ h _=>h)).cells
 refine ⟨_,fun j v d=>?_,h2⟩
 have f:=(yD.1 d).1
 simp only[yE,yI] at f
 rw[b _ (by omega)]
 exact h1 j v d
theorem Be.same{b:Nat}{a:LB}{w':World}(h:Be w b a)(hb:∀(c:Nat) (o:Obj),w.heap[c]?=some o->(∀row:Array Value,o≠Obj.cells row 35 (0,0))->w'.heap[c]?=w.heap[c]?):Be w' b a:=by
 obtain ⟨m,h1,h2⟩:=h
 obtain ⟨es,d,h3,_⟩:=h2.size
 exact ⟨m,(hb b _ h1 (by rintro row e;cases e)).trans h1,h2.block (hb m _ h3 (by rintro row e;cases e))⟩
end
def RL(B:Nat)(W5:World)(t:Tb)(X:List Us)(n:Nat)(o:Obj)(k:Nat)(wr:World):Prop:=wr.heap.size=n∧RJ B W5 t X k (fun _=>False) (wr.alloc o)
section
variable{B:Nat}{W5 wr w':World}{t:Tb}{X:List Us}{n k:Nat}{o:Obj}
theorem RL.heap(h:RL B W5 t X n o k wr){b:Nat}(hb:b < n):(wr.alloc o).heap[b]?=wr.heap[b]?:=yQ _ _ _ (by rw[h.1];exact hb)
theorem RL.cell(h:RL B W5 t X n o k wr){b q:Nat}(hb:b < n):(wr.alloc o).cell? ⟨b,q,none⟩=wr.cell? ⟨b,q,none⟩:=Ab (h.heap hb)
theorem RL.drew(h:RL B W5 t X n o k wr):RL B W5 t X n o k wr.drew:=⟨h.1,h.2.move (ye _) rfl rfl rfl (fun _ _=>rfl) (fun _ h=>h.elim)⟩
theorem Lm{b q:Nat}{v:Value}(hb:b < wr.heap.size):(wr.setCell ⟨b,q,none⟩ v).alloc o=(wr.alloc o).setCell ⟨b,q,none⟩ v:=by
 unfold World.setCell World.alloc
 simp only[World.mk.injEq,and_true]
 apply Array.ext_getElem?
 intro i
 simp only[Array.getElem?_push,yO,Array.size_modify]
 by_cases h1:i=wr.heap.size
 ·subst h1;simp[show ¬ b=wr.heap.size by omega]
 ·simp[h1]
theorem RL.next{u:Us}(h:RL B W5 t X n o k wr)(c:∀u∈X,Na B W5 u)(d:X[k]?=some u)(hb:u.b < n)(h0:u.to≠0)(a:J7 t u=true):RL B W5 t X n o (k+1) (wr.setCell ⟨u.b,u.o+1,none⟩ (.int .i64 (Ft t (CF u.to) u.name))):=by
 refine ⟨by simpa using h.1,?_⟩
 rw[Lm (by rw[h.1];exact hb)]
 exact h.2.next c d h0 a
theorem RL.skip{u:Us}(h:RL B W5 t X n o k wr)(b:X[k]?=some u)(h0:u.to=0)(a:J7 t u=true):RL B W5 t X n o (k+1) wr:=⟨h.1,h.2.skip b h0 a⟩
theorem RL.read{u:Us}(h:RL B W5 t X n o k wr)(a:Na B W5 u)(hb:u.b < n):wr.cell? ⟨u.b,u.o,none⟩=some (.string u.name)∧(∃z,wr.cell? ⟨u.b,u.o+1,none⟩=some (.int .i64 z)∧(u.to=0->z=u.n))∧wr.frozen? ⟨u.b,u.o+1,none⟩=false:=by
 obtain ⟨h1,h2,h3⟩:=h.2.read a
 rw[h.cell hb] at h1 h2
 refine ⟨h1,h2,?_⟩
 unfold World.frozen? at h3 ⊢
 rw[h.heap hb] at h3
 exact h3
end
section
variable{w W5 wr:World}{x:Aq}{L:Bz}{N M:NP}{bl bc br bf Bf Bu k n:Nat}{t:Tb}{X:List Us}{o:Obj}
theorem RL.amid(c:JE w W5)(h:RL w.heap.size W5 t X n o k wr)(d:w.heap.size+3<=n):JE w wr:=by
 have a:=RJ.amid c h.2
 obtain ⟨row,h1,h2⟩:=a.x
 obtain ⟨v,h3⟩:=a.e
 rw[h.heap (by omega)] at h2 h3
 refine ⟨⟨a.below.os,a.below.tape,a.below.output,by rw[h.1];omega,fun b hb=>?_⟩,⟨row,h1,h2⟩,⟨v,h3⟩⟩
 rw[<-h.heap (by omega)]
 exact a.below.block b hb
theorem KH{f:Nat->List Us}{g:Nat->Us}:∀n,(∀i,i < n->f i=[g i])->(List.range n).flatMap f=(List.range n).map g
 |0,_=>rfl
 |n+1,h=>by rw[Al,KH n (fun i hi=>h i (by omega)),h n (by omega),List.range_succ];simp
theorem KI{E:Int->Ex->Nat->Nat->Prop}{R:Int->Rf->Nat->Nat->Prop}(h:Cg N E R W5 L x):(EI L x).length=x.reaches.length:=by
 unfold EI
 rw[KH (g:=fun i=>⟨(L.reaches.at 51 i 1).block,(L.reaches.at 51 i 1).off,if i=0 then 0 else 6,i,(x.reaches.map (·.frm.name)).getD i ⟨#[]⟩,(x.reaches.map (·.frm.n)).getD i 0⟩) _ (fun i hi=>by
  have hl:i < x.reaches.length:=by rw[<-h.reaches.1];exact hi
  unfold Iq;rw[yk hl];simp[xe,hl])]
 simp[h.reaches.1]
theorem P2{E:Int->Ex->Nat->Nat->Prop}{R:Int->Rf->Nat->Nat->Prop}(h:Cg N E R W5 L x){i g:Nat}(hi:i < x.reaches.length)(b:L.reaches.a=some ⟨g,0,none⟩):(CG W5 L x)[i]?=some ⟨g,i*51+1,if i=0 then 0 else 6,i,x.reaches[i].frm.name,x.reaches[i].frm.n⟩:=by
 unfold CG
 rw[zx (by rw[KI h];exact hi)]
 unfold EI
 rw[KH (g:=fun i=>⟨(L.reaches.at 51 i 1).block,(L.reaches.at 51 i 1).off,if i=0 then 0 else 6,i,(x.reaches.map (·.frm.name)).getD i ⟨#[]⟩,(x.reaches.map (·.frm.n)).getD i 0⟩) _ (fun i hi=>by
  have hl:i < x.reaches.length:=by rw[<-h.reaches.1];exact hi
  unfold Iq;rw[yk hl];simp[xe,hl])]
 rw[xQ,List.getElem?_range (by rw[h.reaches.1];exact hi)]
 simp[xe,hi,AU b]
end
structure Gu (w:World) (x:Aq) (L:Bz) (cs:List Value) (N:Nat->Prop) (V:World):Prop where
 amid:JE w V
 par:V.heap[w.heap.size]?=some (.cells cs.toArray 35 (0,0))
 src:BC N w L cs x
 hN:∀b,N b->b < w.heap.size
 slim:IB x
section
variable{w V V' w':World}{x:Aq}{L L0:Bz}{cs cs0:LV}{N:NP}
theorem Gu.up(h:Gu w x L cs N V)(hb:Below (w.heap.size+3) V V'):Gu w x L cs N V':=
 ⟨h.amid.up hb,(hb.block _ (by omega)).trans h.par,h.src,h.hN,h.slim⟩
theorem Gu.size(h:Gu w x L cs N V):w.heap.size+3<=V.heap.size:=by
 obtain ⟨v,a⟩:=h.amid.e
 have:=(yf.1 a).1
 omega
theorem Gu.at(h:Gu w x L cs N V):BC (fun b=>b < V.heap.size) V L cs x:=by
 have a:=h.size
 exact h.src.same (fun b hb=>by have:=h.hN b hb;omega) (fun b hb=>h.amid.below.block b (h.hN b hb))
theorem Gu.len(h:Gu w x L cs N V):cs.length=26:=by
 obtain ⟨c0,c1,c2,rfl,b,g1,a⟩:=h.src.cells
 obtain ⟨e,f,rfl,e0⟩:=b.cells
 obtain ⟨d,p1,rfl,e1⟩:=g1.cells
 obtain ⟨c,p2,rfl,e2⟩:=a.cells
 rfl
theorem Gu.range(h:Gu w x L cs N V):V.rangeAt w.heap.size 0 cs:=by
 have:=yR h.par 0 cs.length
 simpa using this
theorem CS(W:World){b c:Nat}(row:Array Value)(h:c≠b):(W.setRow b row).heap[c]?=W.heap[c]?:=by
 simp only[World.setRow,yO,yu (xj h)]
theorem FB(W:World)(b:Nat)(row:Array Value):(W.setRow b row).heap.size=W.heap.size:=by simp[World.setRow]
def Ju:Obj:=.cells #[.func (.func 49) #[] #[]] 100
def PT(b:Nat):Obj:=.cells #[.pointer (some ⟨b,0,none⟩)] 52
theorem TJ(h:Gu w x L0 cs0 N V){bl bc br bf:Nat}(h1:Be V bl (x.lets.map (·.name)))(h2:Be V bc (x.crops.map (·.name)))(h3:Be V br (x.reaches.map (·.name)))(h4:Be V bf (x.farms.map (·.name)))
 (T:BA x=true)(P:Ay x=if CQ (Tb.of x) x&&Cs (Tb.of x) x then 0 else 170)
 (y:cs.length=26)(hb:Below V.heap.size V w')(hs:L.s=V.heap.size)(J:w'.rangeAt L.s 0 cs)(A:Cg (fun g=>V.heap.size<=g∧g≠V.heap.size+1) (ET (fun g=>V.heap.size+2<=g) w') (RV w') w' L x):
  I3 w x (((w'.setRow (w.heap.size+1) cs.toArray).alloc Ju).alloc (PT (w.heap.size+1))) {L with s:=w.heap.size+1} (fun g=>(V.heap.size<=g∧g≠V.heap.size+1∧g < w'.heap.size)∨g=w.heap.size+1) (fun g=>V.heap.size+2<=g∧g < w'.heap.size) bl bc br bf w'.heap.size (w'.heap.size+1):=by
 have U:=h.size
 have R:=hb.size
 obtain ⟨row,I,v⟩:=h.amid.x
 obtain ⟨ve,C⟩:=h.amid.e
 have K:w'.heap[w.heap.size+1]?=some (.cells row 35 (0,0)):=(hb.block _ (by omega)).trans v
 generalize n:((w'.setRow (w.heap.size+1) cs.toArray).alloc Ju).alloc (PT (w.heap.size+1))=W5
 have a:(w'.setRow (w.heap.size+1) cs.toArray).heap.size=w'.heap.size:=FB _ _ _
 have M:W5.heap.size=w'.heap.size+2:=by rw[<-n];simp[a]
 have l:∀b,b < w'.heap.size->b≠w.heap.size+1->W5.heap[b]?=w'.heap[b]?:=fun b f m=>by
  rw[<-n,yQ _ _ _ (by simp[a];omega),yQ _ _ _ (by rw[a];omega),CS _ _ m]
 have B:W5.heap[w.heap.size+1]?=some (.cells cs.toArray 35 (0,0)):=by
  rw[<-n,yQ _ _ _ (by simp[a];omega),yQ _ _ _ (by rw[a];omega)]
  exact setRow_heap _ _ _ _ _ _ K
 have S:W5.heap[w'.heap.size]?=some Ju:=by
  rw[<-n,yQ _ _ _ (by simp[a])]
  have:=World.alloc_heap_new (w'.setRow (w.heap.size+1) cs.toArray) Ju
  rwa [a] at this
 have O:W5.heap[w'.heap.size+1]?=some (PT (w.heap.size+1)):=by
  rw[<-n]
  have:=World.alloc_heap_new ((w'.setRow (w.heap.size+1) cs.toArray).alloc Ju) (PT (w.heap.size+1))
  have D:((w'.setRow (w.heap.size+1) cs.toArray).alloc Ju).heap.size=w'.heap.size+1:=by simp[a]
  rwa [D] at this
 have z:W5.os=w'.os∧W5.tape=w'.tape∧W5.output=w'.output:=by rw[<-n];exact ⟨rfl,rfl,rfl⟩
 clear n a
 have u:Below w.heap.size w W5:=by
  have h0:=h.amid.below.trans (hb.mono (by omega))
  exact ⟨z.1.trans h0.os,z.2.1.trans h0.tape,z.2.2.trans h0.output,by omega,fun b f=>(l b (by omega) (by omega)).trans (h0.block b f)⟩
 have i:∀(c:Nat) (o:Obj),V.heap[c]?=some o->(∀row:Array Value,o≠Obj.cells row 35 (0,0))->W5.heap[c]?=V.heap[c]?:=fun c o hc F=>by
  have f:=(yf.1 hc).1
  have m:c≠w.heap.size+1:=fun e=>by
   rw[e,v] at hc
   exact F row (yh hc).symm
  rw[l c (by omega) m,hb.block c f]
 have j:∀q,q < 26->W5.cell? (aV (w.heap.size+1) q)=W5.cell? (aV L.s q):=fun q Q=>by
  have e1:W5.cell? (aV L.s q)=w'.cell? (aV L.s q):=Ab (l _ A.ty.lt (by omega))
  have e2:=J q cs[q] (yk (by omega))
  rw[yA] at e2
  rw[e1,e2]
  simp[World.cell?,B,y,Q]
 refine ⟨⟨u,⟨_,by simp[y],B⟩,⟨ve,(l _ (by omega) (by omega)).trans ((hb.block _ (by omega)).trans C)⟩⟩,h1.same i,h2.same i,h3.same i,h4.same i,S,O,?_,fun g k=>?_,fun g k=>?_,.inr rfl,rfl,T,P⟩
 ·have p1:Cg (fun g=>V.heap.size<=g∧g≠V.heap.size+1∧g < w'.heap.size) (ET (fun g=>V.heap.size+2<=g) w') (RV w') w' L x:=A.ren fun g t k E _ _=>⟨k.1,k.2,E.lt⟩
  have p:∀b,(V.heap.size<=b∧b≠V.heap.size+1∧b < w'.heap.size)∨b=L.s->W5.heap[b]?=w'.heap[b]?:=fun b d=>by
   rcases d with d|rfl
   ·exact l b d.2.2 (by omega)
   ·exact l _ A.ty.lt (by omega)
  have p2:Cg (fun g=>V.heap.size<=g∧g≠V.heap.size+1∧g < w'.heap.size) (ET (fun g=>V.heap.size+2<=g∧g < w'.heap.size) W5) (RV W5) W5 L x:=by
   refine p1.imp (fun b t d E=>E.same (p b d)) (fun b o d _=>Ab (p b d)) (fun lt e b o d _ H=>?_) (fun to r b o d _ G=>⟨G.1,(Ab (p b d)).trans G.2.1,(Ab (p b d)).trans G.2.2⟩)
   obtain ⟨c,c1,c2⟩:=H
   exact ⟨c,A3 c1 (p b d),c2.same (fun g k f=>⟨k,f⟩) (fun g k f=>l g f (by omega))⟩
  exact (p2.moved ⟨_,B⟩ j (fun lt e o F H=>RR j lt e o F H)).ren fun g t k _ _ _=>.inl k
 ·rcases k with k|rfl
  ·exact ⟨by omega,by omega⟩
  ·exact ⟨by omega,by omega⟩
 ·exact ⟨by omega,by omega⟩
end
theorem RS{α:Type}{w:World}{sz j:Nat}{f:α->ByteArray}{h:Ah}{l:List α}(h1:h.n=l.length)(h2:l.length<=140737488355328)
 (h3:∀i (hi:i < l.length),∃b o cs,h.a=some ⟨b,o,none⟩∧b < w.heap.size∧cs.length=sz∧w.rangeAt b (o+i*sz) cs∧(∀v∈cs,v.oneCell'=true)∧cs[j]?=some (.string (f l[i]))∧(f l[i]).size<=maxLen):AM w h sz j (l.map f):=by
 refine ⟨by rw[yP];exact h1,by rw[yP];exact h2,fun i hi=>?_⟩
 have c:i < l.length:=by simpa using hi
 obtain ⟨b,o,cs,e,g,p,m,d,q,k⟩:=h3 i c
 rw[zS]
 exact ⟨b,o,cs,e,g,p,m,d,q,k⟩
theorem LY{α:Type}{N:NP}{w:World}{sz j:Nat}{P:LV->α->Prop}{f:α->ByteArray}{h:Ah}{l:List α}(g:AF N w sz P h l)(hN:∀b,N b->b < w.heap.size)
 (m:∀cs d,P cs d->(∀v∈cs,v.oneCell'=true)∧cs[j]?=some (.string (f d))∧(f d).size<=maxLen):AM w h sz j (l.map f):=by
 obtain ⟨h1,h2,h3⟩:=g
 refine RS h1 h2 fun i hi=>?_
 obtain ⟨b,o,cs,e,k,r,q,a⟩:=h3 i hi
 obtain ⟨n,c,p⟩:=m _ _ a
 exact ⟨b,o,cs,e,hN b k,r,q,n,c,p⟩
structure Uf (w:World) (L:Bz) (x:Aq):Prop where
 lets:AM w L.lets 7 0 (x.lets.map (·.name))
 crops:AM w L.crops 7 0 (x.crops.map (·.name))
 reaches:AM w L.reaches 51 0 (x.reaches.map (·.name))
 farms:AM w L.farms 12 0 (x.farms.map (·.name))
 rots:AM w L.rots 23 0 (x.rots.map (·.name))
 rights:AM w L.rights 37 1 (x.rights.map (·.name))
 duties:AM w L.duties 11 0 (x.duties.map (·.name))
theorem BC.nms{N:NP}{w:World}{L:Bz}{cs:LV}{x:Aq}(h:BC N w L cs x)(hN:∀b,N b->b < w.heap.size):Uf w L x:=by
 refine ⟨LY h.lets hN fun cs d hd=>⟨PG cs d hd,?_⟩,LY h.crops hN fun cs d hd=>⟨Nl cs d hd,?_⟩,LY h.reaches hN fun cs d hd=>⟨J4 cs d hd,?_⟩,LY h.farms hN fun cs d hd=>⟨Nn cs d hd,?_⟩,?_,LY h.rights hN fun cs d hd=>⟨J5 cs d hd,?_⟩,LY h.duties hN fun cs d hd=>⟨No cs d hd,?_⟩⟩
 ·obtain ⟨h1,c,rfl,_⟩:=hd;exact ⟨rfl,h1⟩
 ·obtain ⟨h1,c,rfl,_⟩:=hd;exact ⟨rfl,h1⟩
 ·obtain ⟨h1,_,c0,c1,c2,g,l,p,r,q,rfl,_⟩:=hd;exact ⟨rfl,h1⟩
 ·obtain ⟨h1,_,_,c,rfl,_⟩:=hd;exact ⟨rfl,h1⟩
 ·obtain ⟨h1,h2,h3⟩:=h.rots
  refine RS h1 h2 fun i hi=>?_
  obtain ⟨b,o,cs,e,f,m,k,a⟩:=h3 i hi
  have n:=IA a
  obtain ⟨j,_,c0,c1,c2,rfl,_⟩:=a
  exact ⟨b,o,_,e,hN b f,m,k,n,rfl,j⟩
 ·obtain ⟨h1,_,_,c0,c1,c2,g,l,rfl,_⟩:=hd;exact ⟨rfl,h1⟩
 ·obtain ⟨h1,_,_,c,rfl,_⟩:=hd;exact ⟨rfl,h1⟩
theorem AM.up{w w':World}{h:Ah}{sz j:Nat}{a:LB}(f:AM w h sz j a)(hb:Below w.heap.size w w'):AM w' h sz j a:=by
 obtain ⟨h1,h2,h3⟩:=f
 refine ⟨h1,h2,fun i hi=>?_⟩
 obtain ⟨b,o,cs,e,c,k,g,d⟩:=h3 i hi
 exact ⟨b,o,cs,e,yp c hb.size,k,A3 g (hb.block b c),d⟩
structure PU (L:Bz) (x:Aq) (c:Nat->Option Value):Prop where
 name:c 0=some (.string x.name)
 lets:c 19=some L.lets.v
 crops:c 20=some L.crops.v
 reaches:c 21=some L.reaches.v
 farms:c 22=some L.farms.v
 rots:c 23=some L.rots.v
 rights:c 24=some L.rights.v
 duties:c 25=some L.duties.v
theorem BC.at{N:NP}{w:World}{L:Bz}{cs:LV}{x:Aq}(h:BC N w L cs x):PU L x (cs[·]?):=by
 obtain ⟨c0,c1,c2,rfl,a,g1,b⟩:=h.cells
 obtain ⟨d,e,rfl,e0⟩:=a.cells
 obtain ⟨c,p1,rfl,e1⟩:=g1.cells
 obtain ⟨f,p2,rfl,e2⟩:=b.cells
 exact ⟨rfl,rfl,rfl,rfl,rfl,rfl,rfl,rfl⟩
theorem Gu.cells{w V:World}{x:Aq}{L:Bz}{cs:LV}{N:NP}(h:Gu w x L cs N V):PU L x (fun q=>V.cell? ⟨w.heap.size,q,none⟩):=by
 have e:∀q,V.cell? (aV w.heap.size q)=cs[q]?:=fun q=>by simp[World.cell?,h.par]
 have:=h.src.at
 simp only[e]
 exact this
def Dk(B:Nat)(w:World)(v:Value)(l:LB):Prop:=w.ownsRow B 9 1 v l.length (l.map .string)∧∀s∈l,s.size<=maxLen
theorem G3(B:Nat)(w:World):Dk B w (.slice none 0 0) []:=⟨⟨rfl,.inl ⟨rfl,rfl⟩⟩,by simp⟩
theorem Dk.up{B:Nat}{w w':World}{v:Value}{l:LB}(h:Dk B w v l)(hb:Below w.heap.size w w'):Dk B w' v l:=by
 obtain ⟨⟨h1,h2⟩,h0⟩:=h
 refine ⟨⟨h1,h2.imp id ?_⟩,h0⟩
 rintro ⟨g,cap,a,h3,h4,h5,h6⟩
 exact ⟨g,cap,a,h3,h4,(hb.block g (yf.1 h5).1).trans h5,h6⟩
theorem IF{B:Nat}{c w w':World}{v:Value}{l:LB}(h:Below B c w)(i:B<=w.heap.size)(f:Dk B w v l)(a:w.grownBy w' v.ownBlock):Below B c w':=by
 refine h.trans ⟨a.os,a.tape,a.output,a.size,fun b hb=>a.block b (by omega) (fun e=>?_)⟩
 rcases f.1.2 with ⟨rfl,_⟩|⟨g,cap,d,rfl,h4,_⟩
 ·cases e
 ·simp only[Value.ownBlock,yV] at e
  omega
theorem Dk.nm{B:Nat}{w:World}{v:Value}{l:LB}(h:Dk B w v l)(hl:l.length<=140737488355328):∃h:Ah,v=h.v∧AM w h 1 0 l:=by
 obtain ⟨⟨h1,⟨rfl,h2⟩|⟨g,cap,b,rfl,h4,h5,h6,e,d,c⟩⟩,h0⟩:=h
 ·obtain rfl:=z6.1 h2
  exact ⟨⟨none,0,0⟩,rfl,rfl,by simp,fun i hi=>absurd hi (by simp)⟩
 ·refine ⟨⟨some (aV g 0),l.length,cap⟩,rfl,rfl,hl,fun i hi=>⟨g,0,[.string l[i]],rfl,(yf.1 h5).1,rfl,?_,by simp[Value.oneCell'],rfl,h0 _ (yy hi)⟩⟩
  refine C8 ?_
  have a:(l.map Value.string)[i]?=some (.string l[i]):=by simp[hi]
  rw[<-c,zH,yx (by omega)] at a
  simp only[World.cell?,h5]
  simpa using a
theorem Ck{ops:Array Oper}{rest:List Oper}{o:Oper}{a:Act}{Q:QT}{W:World}(B:Nat)(e:o.guard=none)(s x:Operand)(G:o.op=.call {callee:=.builtin .append,args:=#[s,x],argTypes:=#[43,43]})
 (v:Value)(l:LB)(hs:a.eval s=v)(d:Dk B W v l)(b c:Nat)(nm:ByteArray)(z:a.eval x=.slice (some ⟨b,0,none⟩) 1 c)(hb:W.heap[b]?=some (.cells #[.string nm] 9 (0,0)))(D:nm.size<=maxLen)(k:l.length+1<=1000000)(g:B<=W.heap.size)
 (h:∀(n:Option Addr) (c:Nat) w',Dk B w' (.slice n (l.length+1) c) (l++[nm])->W.grownBy w' v.ownBlock->wpList Try.prog ops Q rest (a.put o.dst (.slice n (l.length+1) c)) w'):wpList Try.prog ops Q (o::rest) a W:=by
 refine yF e fun K y=>?_
 have f:(Try.prog.info? 9).map (fun i=>(i.zero,i.size,i.bytes))=some (some (.string ⟨#[]⟩),1,16):=by kernel_rfl
 obtain ⟨H,hi,p,r,q⟩:=info_parts f
 have w:BS W (.slice (some (aV b 0)) 1 c) 1 1 [.string nm]:=by
  refine ⟨rfl,by simp[Value.oneCell'],_,_,rfl,.inr ⟨b,0,rfl,(yf.1 hb).1,fun j u t=>?_⟩⟩
  cases j with
  |zero=>cases t;simp[World.cell?,hb]
  |succ j=>simp at t
 have C:=GC (ops:=#[]) (E:=True) (Q:=Q) (K:=K) (o:=o) Try.underlying43 hi p r q rfl (by decide) (by decide) B e s x G v l.length _ hs d.1 _ 1 [.string nm] z w k g (fun n c w' A F=>y _ _ (h n c w' ⟨by
  rw[ym,zb]
  exact A,fun u m=>by
  rcases yo.1 m with m|m
  ·exact d.2 u m
  ·rw[zt.1 m];exact D⟩ F))
 rwa [yx (by simp[Region.wanted,e])] at C
theorem Ic{α:Type}{l:List α}{i:Nat}(h:i < l.length):l.take i++[l[i]]=l.take (i+1):=(yq h).symm
theorem RT{f:FuncId}{args:Array Value}{w:World}{a:LB}(h:Calls Try.prog f args w (Ea w a))(c:a.Nodup):Calls Try.prog f args w fun e w'=>(∃m,e=.returned (.map (some m)))∧Below w.heap.size w w':=
 h.mono fun e w' b=>by
  obtain ⟨h1,⟨_,m,h2,_⟩|⟨h2,_⟩⟩:=b
  ·exact ⟨⟨m,h2⟩,h1⟩
  ·exact absurd c h2
theorem Tv{f:FuncId}{args:Array Value}{w:World}{a:LB}(h:Calls Try.prog f args w (Ea w a))(c:¬ a.Nodup):Calls Try.prog f args w fun e w'=>e=.panicked (Ek 171)∧Below w.heap.size w w':=
 h.mono fun e w' b=>by
  obtain ⟨h1,⟨h2,_⟩|⟨_,h2⟩⟩:=b
  ·exact absurd h2 c
  ·exact ⟨h2,h1⟩
def P3(a:LB)(r:Rf):Int:=match AO a r.name with
 |some i=>(i:Int)
 |none=>r.n
def Du(a:LB)(r:Rf):Bool:=(AO a r.name).isSome
theorem Ie{s t:ByteArray}:s.toList=t.toList↔s=t:=by
 constructor
 ·intro h
  rw[zF,zF] at h
  cases s;cases t;congr 1;exact Array.toList_inj.1 h
 ·rintro rfl;rfl
def GF(F:NP)(W:World)(b:Nat):Prop:=¬ F b∧b < W.heap.size
def Bl(F:NP)(W W':World):Prop:=W.heap.size<=W'.heap.size∧∀b,b < W.heap.size->¬ F b->W'.heap[b]?=W.heap[b]?
theorem Bl.refl(F:NP)(W:World):Bl F W W:=⟨ye _,fun _ _ _=>rfl⟩
theorem Bl.trans{F:NP}{a b c:World}(h:Bl F a b)(k:Bl F b c):Bl F a c:=⟨yr h.1 k.1,fun i hi d=>(k.2 i (yp hi h.1) d).trans (h.2 i hi d)⟩
theorem Bl.below{F:NP}{W W':World}(h:Below W.heap.size W W'):Bl F W W':=⟨h.size,fun b hb _=>h.block b hb⟩
theorem Bl.wide{F F':NP}{W W':World}(h:Bl F W W')(a:∀b,b < W.heap.size->F b->F' b):Bl F' W W':=⟨h.1,fun b hb c=>h.2 b hb (fun k=>c (a b hb k))⟩
theorem GF.up{F F':NP}{W W':World}(hs:W.heap.size<=W'.heap.size)(a:∀b,F' b->F b∨W.heap.size<=b){b:Nat}(h:GF F W b):GF F' W' b:=
 ⟨fun k=>(a b k).elim h.1 (fun hb=>absurd h.2 (Nat.not_lt.2 hb)),yp h.2 hs⟩
theorem AW.flux{F F':NP}{W W':World}{e:Ex}{cs:LV}(h:AW (GF F W) W e cs)(a:Bl F W W')(c:∀b,F' b->F b∨W.heap.size<=b):AW (GF F' W') W' e cs:=
 h.same (fun _ hb=>hb.up a.1 c) (fun b hb=>a.2 b hb.2 hb.1)
theorem AW.flux'{F:NP}{W W':World}{e:Ex}{cs:LV}(h:AW (GF F W) W e cs)(a:Bl F W W'):AW (GF F W') W' e cs:=h.flux a (fun _ k=>.inl k)
structure AE (W W':World) (b:Nat) (c:List Value) (t:TypeId):Prop where
 os:W'.os=W.os
 tape:W'.tape=W.tape
 output:W'.output=W.output
 size:W'.heap.size=W.heap.size
 row:W'.heap[b]?=some (.cells c.toArray t (0,0))
 block:∀k,k≠b->W'.heap[k]?=W.heap[k]?
theorem AE.below{W W':World}{b:Nat}{c:LV}{t:TypeId}(h:AE W W' b c t){B:Nat}{a:World}(d:Below B a W)(hb:B<=b):Below B a W':=
 d.trans ⟨h.os,h.tape,h.output,by rw[h.size];exact ye _,fun k e=>h.block k (by omega)⟩
theorem AE.flux{W W':World}{b:Nat}{c:LV}{t:TypeId}(h:AE W W' b c t){F:NP}(a:F b):Bl F W W':=⟨by rw[h.size];exact ye _,fun k _ d=>h.block k (fun e=>d (e▸a))⟩
theorem AE.fresh{W W':World}{b:Nat}{c:LV}{t:TypeId}(h:AE W W' b c t){F:NP}{V:World}(a:Bl F V W)(hb:V.heap.size<=b):Bl F V W':=⟨by rw[h.size];exact a.1,fun k d e=>(h.block k (by omega)).trans (a.2 k d e)⟩
theorem Ax{W:World}{b:Nat}{c:LV}{t:TypeId}{fr:Nat × Nat}(h:W.heap[b]?=some (.cells c.toArray t fr)):W.rangeAt b 0 c:=fun j v a=>by
 simp only[World.cell?,h,yA];simpa using a
theorem J9{W:World}{b o n:Nat}{c:LV}{t:TypeId}(h:W.heap[b]?=some (.cells c.toArray t (0,0)))(d:o+n<=c.length):W.there b o n:=fun j a=>by
 constructor
 ·simp only[World.cell?,h]
  simp;omega
 ·simp[World.frozen?,h]
theorem Eh(b:Nat)(t:TypeId):∀(f:LV) (o:Nat) (w:World) (p m q:LV),w.heap[b]?=some (.cells (p++(m++q)).toArray t (0,0))->p.length=o->m.length=f.length->AE w (w.setCells b o f) b (p++(f++q)) t
 |[],o,w,p,m,q,h,d,hm=>by
  obtain rfl:m=[]:=z6.1 hm
  exact ⟨rfl,rfl,rfl,rfl,h,fun _ _=>rfl⟩
 |v::r,o,w,p,[],q,h,d,hm=>by simp at hm
 |v::r,o,w,p,x::m,q,h,d,hm=>by
  rw[World.setCells]
  have a:AE w (w.setCell ⟨b,o,none⟩ v) b ((p++[v])++(m++q)) t:=by
   refine ⟨rfl,rfl,rfl,by simp[World.setCell],?_,fun k e=>Below.heap_setCell w (aV b o) v k e⟩
   simp only[World.setCell,yO,h,zY]
   simp only[xL,yV]
   congr 1
   subst d
   simp
  have c:=Eh b t r (o+1) (w.setCell (aV b o) v) (p++[v]) m q a.row (by simp[d]) (by simpa using hm)
  refine ⟨c.os.trans a.os,c.tape.trans a.tape,c.output.trans a.output,c.size.trans a.size,?_,fun k e=>(c.block k e).trans (a.block k e)⟩
  have:=c.row
  simpa using this
theorem Ct{ops:Array Oper}{rest:List Oper}{op:Oper}{a:Act}{w:World}{Q:QT}(d:op.guard=none)(ty:TypeId)(x y:Operand)(j:op.op=.store ty x y)
 (b o:Nat)(f:a.eval x=.pointer (some ⟨b,o,none⟩))(c:LV)(g:a.eval y=.agg c.toArray){p m q:LV}{t:TypeId}(hb:w.heap[b]?=some (.cells (p++(m++q)).toArray t (0,0)))(e:p.length=o)(i:m.length=c.length)
 (hi:(Try.prog.info? ty).map (·.size)=some c.length)(h1:∀v∈c,v.oneCell'=true)
 (h:∀W',AE w W' b (p++(c++q)) t->wpList Try.prog ops Q rest (a.put op.dst undef) W'):wpList Try.prog ops Q (op::rest) a w:=by
 refine wpList_store_mid d ty x y j b o c.toArray f g (J9 hb (by simp;omega)) (by rw[yB];exact hi) (yU h1) ?_
 exact h _ (Eh b t c o w p m q hb e i)
mutual
def Tw(a:LB):Ex->Bool
 |.mk op _ _ rn ri args=>Mp op args.length&&((if op=2 then Du a ⟨rn,ri⟩ else decide (rn.size=0∧ri=0))&&Mz a args)
def Mz(a:LB):List Ex->Bool
 |[]=>true
 |e::r=>Tw a e&&Mz a r
end
mutual
def QA(a:LB):Ex->Ex
 |.mk op n u rn ri args=>.mk op n u rn (if op=2 then P3 a ⟨rn,ri⟩ else ri) (Jv a args)
def Jv(a:LB):List Ex->List Ex
 |[]=> []
 |e::r=>QA a e::Jv a r
end
theorem Ag{ops:Array Oper}{rest:List Oper}{op:Oper}{a:Act}{w:World}{Q:QT}(c:op.guard=none)(ty:TypeId)(x y:Operand)(i:op.op=.store ty x y)
 (b o:Nat)(f:a.eval x=.pointer (some ⟨b,o,none⟩))(v:Value)(g:a.eval y=v)(d:v.cells=#[v]){p q:LV}{m:Value}{t:TypeId}(hb:w.heap[b]?=some (.cells (p++(m::q)).toArray t (0,0)))(e:p.length=o)
 (hi:(Try.prog.info? ty).map (·.size)=some 1)(h1:v.oneCell'=true)
 (h:∀W',AE w W' b (p++(v::q)) t->wpList Try.prog ops Q rest (a.put op.dst undef) W'):wpList Try.prog ops Q (op::rest) a w:=by
 refine GJ c ty x y i b o v f g d (J9 hb (by simp;omega)) hi h1 ?_
 exact h _ (Eh b t [v] o w p [m] q hb e rfl)
theorem Ae{ops:Array Oper}{rest:List Oper}{op:Oper}{a:Act}{w:World}{Q:QT}(d:op.guard=none)(ty:TypeId)(x y:Operand)(j:op.op=.store ty x y)
 (b:Nat)(e:a.eval x=.pointer (some ⟨b,0,none⟩))(c:LV)(f:a.eval y=.agg c.toArray){m:Array Value}{t:TypeId}(hb:w.heap[b]?=some (.cells m t (0,0)))(i:m.size=c.length)
 (hi:(Try.prog.info? ty).map (·.size)=some c.length)(h1:∀v∈c,v.oneCell'=true)
 (h:∀W',AE w W' b c t->wpList Try.prog ops Q rest (a.put op.dst undef) W'):wpList Try.prog ops Q (op::rest) a w:=by
 refine Ct d ty x y j b 0 e c f (p:=[]) (m:=m.toList) (q:=[]) (by simpa using hb) rfl (by simpa using i) hi h1 fun W' g=>h W' ?_
 simpa using g
theorem BW{c:LV}(h:c.length=6):(Try.prog.info? 26).map (·.size)=some c.length:=by rw[h];kernel_rfl
def FL(F:NP)(l:List Nat)(k:Nat):Prop:=F k∨k∈l
structure US (w:World) (ls:List Value) (h0 h1 h2 h3:Ah) (t:Tb):Prop where
 cells:ls=[h0.v,h1.v,h2.v,h3.v]
 lets:AM w h0 1 0 t.lets
 crops:AM w h1 1 0 t.crops
 reaches:AM w h2 1 0 t.reaches
 farms:AM w h3 1 0 t.farms
theorem US.up{w w':World}{ls:LV}{h0 h1 h2 h3:Ah}{t:Tb}(h:US w ls h0 h1 h2 h3 t)(hb:Below w.heap.size w w'):US w' ls h0 h1 h2 h3 t:=
 ⟨h.cells,h.lets.up hb,h.crops.up hb,h.reaches.up hb,h.farms.up hb⟩
structure Bx (w:World) (tx:TypeId) (ls:List Value) (n:Nat) (row:List Value) (W:World):Prop where
 below:Below w.heap.size w W
 size:w.heap.size+3<=W.heap.size
 x:W.heap[w.heap.size]?=some (.cells row.toArray tx (0,0))
 l:W.heap[w.heap.size+1]?=some (.cells ls.toArray 109 (0,0))
 r:∃zr:List Value,zr.length=n∧W.heap[w.heap.size+2]?=some (.cells zr.toArray tx (0,0))
section
variable{w W W':World}{tx:TypeId}{ls row row':LV}{n:Nat}
theorem Bx.up(h:Bx w tx ls n row W)(hb:Below (w.heap.size+3) W W'):Bx w tx ls n row W':=by
 have:=h.size
 obtain ⟨b,a,c⟩:=h.r
 exact ⟨h.below.trans (hb.mono (by omega)),yr h.size hb.size,(hb.block _ (by omega)).trans h.x,(hb.block _ (by omega)).trans h.l,b,a,(hb.block _ (by omega)).trans c⟩
theorem Bx.call(h:Bx w tx ls n row W)(hb:Below W.heap.size W W'):Bx w tx ls n row W':=h.up (hb.mono h.size)
theorem Bx.wrote(h:Bx w tx ls n row W)(a:AE W W' w.heap.size row' tx):Bx w tx ls n row' W':=by
 obtain ⟨c,b,d⟩:=h.r
 exact ⟨a.below h.below (ye _),by rw[a.size];exact h.size,a.row,(a.block _ (by omega)).trans h.l,c,b,(a.block _ (by omega)).trans d⟩
theorem Bx.drew(h:Bx w tx ls n row W):Bx w tx ls n row W.drew:=h.up (yg _ _).drew
end
def VE(F:NP)(l:List Nat)(W:World)(css:List LV)(es:List Ex):Prop:=Au (fun c e=>AW (GF (FL F l) W) W e c) css es
section
variable{F:NP}{l l':List Nat}{W W':World}{css:List LV}{es:List Ex}{e:Ex}{c:LV}
theorem IG(hl:∀k∈l',k∈l∨W.heap.size<=k):∀b,FL F l' b->FL F l b∨W.heap.size<=b:=fun b hb=>hb.elim (fun h=>.inl (.inl h)) fun h=>(hl b h).elim (fun h=>.inl (.inr h)) .inr
theorem AW.fl(h:AW (GF (FL F l) W) W e c)(a:Bl (FL F l) W W')(hl:∀k∈l',k∈l∨W.heap.size<=k):AW (GF (FL F l') W') W' e c:=h.flux a (IG hl)
theorem VE.up(h:VE F l W css es)(a:Bl (FL F l) W W')(hl:∀k∈l',k∈l∨W.heap.size<=k):VE F l' W' css es:=Au.mono (fun _ _ b=>b.fl a hl) h
theorem VE.drew(h:VE F l W css es):VE F l W.drew css es:=h.up ⟨ye _,fun _ _ _=>rfl⟩ (fun _ h=>.inl h)
theorem Bl.call(h:Below W.heap.size W W'):Bl F W W':=Bl.below h
end
structure Vl (w:World) (tx:TypeId) (ls:List Value) (n:Nat) (row:List Value) (F:Nat->Prop) (l:List Nat) (css:List (List Value)) (es:List Ex) (A:Nat) (c:List Value) (e:Ex) (W:World):Prop where
 bx:Bx w tx ls n row W
 a:W.heap[A]?=some (.cells c.toArray 26 (0,0))
 la:w.heap.size+3<=A
 ve:VE F l W css es
 e:AW (GF (FL F l) W) W e c
def GU(a:LB)(e:Ex):Bool:=Cv e||Tw a e
def Dv(a:LB)(e:Ex):Ex:=if Cv e then e else QA a e
def QC(r:Rf):Bool:=decide (r.name.size=0∧r.n=0)
def GK(a:LB)(r:Rf):Rf:=⟨r.name,P3 a r⟩
def Hp(t:Tb)(d:BR):Bool:=(Du t.farms d.farm&&Du t.reaches d.reach)&&GU t.lets d.due
def GW(t:Tb)(d:BR):BR:=⟨d.name,GK t.farms d.farm,GK t.reaches d.reach,Dv t.lets d.due⟩
def G4(t:Tb)(d:AG):Bool:=(((((((Du t.farms d.farm&&decide (d.kind≥1))&&decide (d.kind<=3))&&(if d.kind=1 then QC d.reach else Du t.reaches d.reach))&&GU t.lets d.flow)&&GU t.lets d.frm)&&GU t.lets d.to)&&GU t.lets d.every)&&GU t.lets d.len
def G5(t:Tb)(d:AG):AG:=⟨d.kind,d.name,GK t.farms d.farm,if d.kind=1 then d.reach else GK t.reaches d.reach,d.rank,Dv t.lets d.flow,Dv t.lets d.frm,Dv t.lets d.to,Dv t.lets d.every,Dv t.lets d.len⟩
def Hq(t:Tb)(d:BL):Bool:=(Du t.reaches d.on&&(if d.river then QC d.crop else Du t.crops d.crop))&&GU t.lets d.area
def GX(t:Tb)(d:BL):BL:=⟨d.name,GK t.reaches d.on,d.river,Dv t.lets d.area,if d.river then d.crop else GK t.crops d.crop⟩
def Hr(t:Tb)(d:Br):Bool:=Du t.farms d.farm&&GU t.lets d.len
def II(t:Tb)(d:Br):Br:=⟨GK t.farms d.farm,Dv t.lets d.len⟩
def Ja(t:Tb)(d:B9):Bool:=(((Du t.reaches d.on&&GU t.lets d.flow)&&GU t.lets d.frm)&&GU t.lets d.to)&&d.turns.all (Hr t)
def IJ(t:Tb)(d:B9):B9:=⟨d.name,GK t.reaches d.on,d.rank,Dv t.lets d.flow,Dv t.lets d.frm,Dv t.lets d.to,d.turns.map (II t)⟩
def Et(t:Tb)(d:Aw)(i:Nat):Bool:=((((((((if i=0 then QC d.frm else Du (t.reaches.take i) d.frm)&&GU t.lets d.delay)&&GU t.lets d.cap)&&GU t.lets d.bank)&&GU t.lets d.siphon)&&GU t.lets d.evap0)&&GU t.lets d.seep0)&&GU t.lets d.evap1)&&GU t.lets d.seep1
def Eb(t:Tb)(d:Aw)(i:Nat):Aw:=⟨d.name,if i=0 then d.frm else GK (t.reaches.take i) d.frm,Dv t.lets d.delay,Dv t.lets d.cap,Dv t.lets d.bank,Dv t.lets d.siphon,Dv t.lets d.evap0,Dv t.lets d.evap1,Dv t.lets d.seep0,Dv t.lets d.seep1⟩
def MA(t:Tb)(d:Dm)(i:Nat):Bool:=GU (t.lets.take i) d.value
def IK(t:Tb)(d:Dm)(i:Nat):Dm:=⟨d.name,Dv (t.lets.take i) d.value⟩
def JU(t:Tb)(d:BQ):Bool:=GU t.lets d.need
def IL(t:Tb)(d:BQ):BQ:=⟨d.name,Dv t.lets d.need⟩
def JV(t:Tb)(x:Aq):Bool:=((((GU t.lets x.season&&GU t.lets x.cap)&&GU t.lets x.start)&&x.lets.zipIdx.all fun p=>MA t p.1 p.2)&&x.crops.all (JU t))
def Gv(t:Tb)(x:Aq):Bool:=((((JV t x&&x.reaches.zipIdx.all fun p=>Et t p.1 p.2)&&x.farms.all (Hq t))&&x.rots.all (Ja t))&&x.rights.all (G4 t))&&x.duties.all (Hp t)
theorem Fe:∀(l:LB) (s:ByteArray) (k:Nat),AO (l.take k) s=match AO l s with
  |some i=>if i < k then some i else none
  |none=>none
 |[],s,k=>by simp[AO]
 |x::r,s,0=>by
  rw[zG,AO]
  cases AO (x::r) s<;>simp
 |x::r,s,k+1=>by
  rw[List.take_succ_cons,AO,AO,Fe r s k]
  by_cases h:x=s
  ·simp[h]
  ·rw[yu h,yu h]
   cases AO r s with
   |none=>rfl
   |some i=>by_cases hi:i < k<;>simp[hi]
def Ov(t:Tb)(lt:Int):LB:=if 0 < lt then t.lets.take (lt - 1).toNat else t.lets
theorem KJ(l:LB)(r:Rf)(k:Nat):Du (l.take k) r=match AO l r.name with
  |some i=>decide ((i:Int) < (k:Int))
  |none=>false:=by
 unfold Du
 rw[Fe]
 cases AO l r.name with
 |none=>rfl
 |some i=>by_cases hi:i < k<;>simp[hi]
theorem IM(l:LB)(r:Rf):Du l r=match AO l r.name with
  |some _=>true
  |none=>false:=by
 unfold Du
 cases AO l r.name<;>rfl
theorem IP(t:Tb)(k:Int)(r:Rf):Gq t 0 k r=QC r:=rfl
theorem SZ(t:Tb)(lt:Int)(r:Rf):Gq t (Jq 2 lt) (N8 2 lt) r=Du (Ov t lt) r:=by
 unfold Ov Jq N8
 by_cases h:0 < lt
 ·simp only[yx h,zY]
  rw[KJ]
  obtain ⟨k,rfl⟩:∃k:Nat,lt=1+(k:Int):=⟨(lt - 1).toNat,by omega⟩
  have e:(1+(k:Int) - 1)=k:=by omega
  rw[e]
  simp only[Gq,Tb.tab,CF,early,Int.toNat_natCast]
  cases a:AO t.lets r.name<;>simp[a]
 ·simp only[yu h,zY]
  rw[IM]
  simp only[Gq,Tb.tab,CF,early]
  cases a:AO t.lets r.name<;>simp[a]
theorem RU(t:Tb)(k:Int)(r:Rf):Gq t 3 k r=Du t.crops r:=by rw[IM];simp only[Gq,Tb.tab,CF,early];cases a:AO t.crops r.name<;>simp[a]
theorem Hs(t:Tb)(k:Int)(r:Rf):Gq t 4 k r=Du t.reaches r:=by rw[IM];simp only[Gq,Tb.tab,CF,early];cases a:AO t.reaches r.name<;>simp[a]
theorem KK(t:Tb)(k:Int)(r:Rf):Gq t 5 k r=Du t.farms r:=by rw[IM];simp only[Gq,Tb.tab,CF,early];cases a:AO t.farms r.name<;>simp[a]
theorem RX(t:Tb)(k:Nat)(r:Rf):Gq t 6 k r=Du (t.reaches.take k) r:=by rw[KJ];simp only[Gq,Tb.tab,CF,early];cases a:AO t.reaches r.name<;>simp[a]
mutual
theorem PV(t:Tb)(lt:Int):∀e:Ex,Tw (Ov t lt) e=Rb t lt e
 |.mk op n u rn ri args=>by
  rw[Tw,Rb,NR t lt args]
  by_cases h:op=2
  ·subst h;rw[yx rfl,SZ]
  ·rw[yu h]
   have h1:Jq op lt=0:=by simp[Jq,h]
   rw[h1,IP];rfl
theorem NR(t:Tb)(lt:Int):∀l:List Ex,Mz (Ov t lt) l=PL t lt l
 |[]=>by rw[Mz,PL]
 |e::r=>by rw[Mz,PL,PV t lt e,NR t lt r]
end
theorem RY{t:Tb}{lt:Int}{r:Rf}(h:Du (Ov t lt) r=true):P3 (Ov t lt) r=Ft t 1 r.name:=by
 have e:t.tab 1=t.lets:=by simp[Tb.tab]
 unfold P3 Ft
 unfold Du at h
 unfold Ov at h ⊢
 by_cases hl:0 < lt
 ·rw[yx hl] at h ⊢
  rw[e]
  rw[Fe] at h ⊢
  cases a:AO t.lets r.name with
  |none=>rw[a] at h;cases h
  |some i=>
   rw[a] at h
   simp only at h ⊢
   by_cases hi:i < (lt - 1).toNat
   ·rw[yx hi]
   ·rw[yu hi] at h;cases h
 ·rw[yu hl] at h ⊢
  rw[e]
  cases a:AO t.lets r.name with
  |none=>rw[a] at h;cases h
  |some i=>rfl
mutual
theorem LZ(t:Tb)(lt:Int):∀e:Ex,Tw (Ov t lt) e=true->QA (Ov t lt) e=Il t e
 |.mk op n u rn ri args,h=>by
  rw[Tw] at h
  simp only[yt] at h
  rw[QA,Il,KL t lt args h.2.2]
  by_cases h2:op=2
  ·rw[yx h2,yx h2]
   have:=h.2.1
   rw[yx h2] at this
   rw[RY this]
  ·rw[yu h2,yu h2]
theorem KL(t:Tb)(lt:Int):∀l:List Ex,Mz (Ov t lt) l=true->Jv (Ov t lt) l=Gr t l
 |[],_=>by rw[Jv,Gr]
 |e::r,h=>by
  rw[Mz] at h
  simp only[yt] at h
  rw[Jv,Gr,LZ t lt e h.1,KL t lt r h.2]
end
theorem NS(t:Tb)(lt:Int)(e:Ex):GU (Ov t lt) e=AJ t (e,lt):=by
 unfold GU AJ
 rw[PV]
theorem RZ{t:Tb}{lt:Int}{e:Ex}(h:GU (Ov t lt) e=true):Dv (Ov t lt) e=fT t lt e:=by
 unfold Dv fT
 by_cases hl:Cv e=true
 ·rw[yx hl,yx hl]
 ·rw[yu hl,yu hl]
  unfold GU at h
  rw[xY] at h
  exact LZ t lt e (h.resolve_left hl)
theorem S5(t:Tb)(i:Nat):Ov t (1+(i:Int))=t.lets.take i:=by
 unfold Ov
 rw[yx (by omega)]
 congr 1
 omega
theorem Dq(t:Tb)(e:Ex):GU t.lets e=AJ t (e,0):=NS t 0 e
theorem TK(t:Tb)(i:Nat)(e:Ex):GU (t.lets.take i) e=AJ t (e,1+(i:Int)):=by rw[<-S5];exact NS t _ e
theorem AP{t:Tb}{e:Ex}(h:GU t.lets e=true):Dv t.lets e=fT t 0 e:=RZ (t:=t) (lt:=0) h
theorem T0{t:Tb}{i:Nat}{e:Ex}(h:GU (t.lets.take i) e=true):Dv (t.lets.take i) e=fT t (1+(i:Int)) e:=by
 rw[<-S5] at h ⊢
 exact RZ h
theorem Eu{t:Tb}{c:Int}{l:LB}{r:Rf}(hc:c≠0)(b:t.tab (CF c)=l)(h:Du l r=true):GK l r=gT t c r:=by
 unfold GK gT P3 Ft
 rw[yu hc,b]
 unfold Du at h
 cases a:AO l r.name with
 |none=>rw[a] at h;cases h
 |some i=>rfl
theorem QD{t:Tb}{k:Nat}{r:Rf}(h:Du (t.reaches.take k) r=true):GK (t.reaches.take k) r=gT t 6 r:=by
 unfold GK gT P3 Ft
 rw[yu (by decide)]
 have e:t.tab (CF 6)=t.reaches:=by simp[Tb.tab,CF]
 rw[e]
 unfold Du at h
 rw[Fe] at h ⊢
 cases a:AO t.reaches r.name with
 |none=>rw[a] at h;cases h
 |some i=>
  rw[a] at h
  simp only at h ⊢
  split at h
  ·rename_i hi;simp[hi]
  ·cases h
section
variable{t:Tb}
theorem T1{d:BR}(i:Nat)(h:Hp t d=true):GW t d=BR.mp (fT t) (gT t) i d:=by
 unfold Hp at h
 simp only[yt] at h
 unfold GW BR.mp
 rw[Eu (t:=t) (c:=5) (by decide) (by simp[Tb.tab,CF]) h.1.1,Eu (t:=t) (c:=4) (by decide) (by simp[Tb.tab,CF]) h.1.2,AP h.2]
theorem S6{d:AG}(i:Nat)(h:G4 t d=true):G5 t d=AG.mp (fT t) (gT t) i d:=by
 unfold G4 at h
 simp only[yt] at h
 obtain ⟨⟨⟨⟨⟨⟨⟨⟨h1,h2⟩,h3⟩,h4⟩,h5⟩,h6⟩,f⟩,b⟩,e⟩:=h
 unfold G5 AG.mp
 rw[Eu (t:=t) (c:=5) (by decide) (by simp[Tb.tab,CF]) h1,AP h5,AP h6,AP f,AP b,AP e]
 by_cases a:d.kind=1
 ·rw[yx a,yx a];rfl
 ·rw[yu a] at h4
  rw[yu a,yu a,Eu (t:=t) (c:=4) (by decide) (by simp[Tb.tab,CF]) h4]
theorem T2{d:BL}(i:Nat)(h:Hq t d=true):GX t d=BL.mp (fT t) (gT t) i d:=by
 unfold Hq at h
 simp only[yt] at h
 unfold GX BL.mp
 rw[Eu (t:=t) (c:=4) (by decide) (by simp[Tb.tab,CF]) h.1.1,AP h.2]
 by_cases a:d.river=true
 ·rw[yx a,yx a];rfl
 ·have h4:=h.1.2
  rw[yu a] at h4
  rw[yu a,yu a,Eu (t:=t) (c:=3) (by decide) (by simp[Tb.tab,CF]) h4]
theorem T3{d:Br}(i:Nat)(h:Hr t d=true):II t d=Br.mp (fT t) (gT t) i d:=by
 unfold Hr at h
 simp only[yt] at h
 unfold II Br.mp
 rw[Eu (t:=t) (c:=5) (by decide) (by simp[Tb.tab,CF]) h.1,AP h.2]
theorem Ec{α β:Type}{f:α->β}{g:Nat->α->β}:∀ {l:List α},(∀i (h:i < l.length),f l[i]=g i l[i])->l.map f=l.mapIdx g:=by
 intro l h
 refine zM (by simp) fun i h1 h2=>?_
 rw[zS,zZ]
 exact h i (by simpa using h1)
theorem TL{d:B9}(i:Nat)(h:Ja t d=true):IJ t d=B9.mp (fT t) (gT t) i d:=by
 unfold Ja at h
 simp only[yt,yL] at h
 obtain ⟨⟨⟨⟨h1,h2⟩,h3⟩,h4⟩,h5⟩:=h
 unfold IJ B9.mp
 rw[Eu (t:=t) (c:=4) (by decide) (by simp[Tb.tab,CF]) h1,AP h2,AP h3,AP h4,Ec fun i hi=>T3 i (h5 _ (yy hi))]
theorem S7{d:Aw}{i:Nat}(h:Et t d i=true):Eb t d i=Aw.mp (fT t) (gT t) i d:=by
 unfold Et at h
 simp only[yt] at h
 obtain ⟨⟨⟨⟨⟨⟨⟨⟨h0,h1⟩,h2⟩,h3⟩,h4⟩,h5⟩,h6⟩,c⟩,b⟩:=h
 unfold Eb Aw.mp
 rw[AP h1,AP h2,AP h3,AP h4,AP h5,AP h6,AP c,AP b]
 by_cases a:i=0
 ·rw[yx a,yx a];rfl
 ·rw[yu a] at h0
  rw[yu a,yu a,QD h0]
theorem TM{d:Dm}{i:Nat}(h:MA t d i=true):IK t d i=Dm.mp (fT t) i d:=by
 unfold IK Dm.mp
 rw[T0 h]
theorem T4{d:BQ}(i:Nat)(h:JU t d=true):IL t d=BQ.mp (fT t) i d:=by
 unfold IL BQ.mp
 rw[AP h]
end
theorem Ev{α:Type}{l:List α}{f:α × Nat->List JS}{p:JS->Bool}{q:α × Nat->Bool}(h:∀a,(f a).all p=q a):(l.zipIdx.flatMap f).all p=l.zipIdx.all q:=by
 rw[List.all_flatMap]
 congr 1
 funext a
 exact h a
theorem Ht{α:Type}{l:List α}{q:α->Bool}(k:Nat):(l.zipIdx k).all (fun a=>q a.1)=l.all q:=by
 induction l generalizing k with
 |nil=>rfl
 |cons x r ih=>rw[List.zipIdx_cons,ze,ze,ih]
theorem Gw{α:Type}{l:List α}{p q:α->Bool}:(l.all p&&l.all q)=l.all fun a=>p a&&q a:=by
 induction l with
 |nil=>rfl
 |cons x r ih=>
  simp only[ze,<-ih]
  cases p x<;>cases q x<;>simp
theorem Hu{α:Type}{l:List α}{p q:α->Bool}(h:∀a,p a=q a):l.all p=l.all q:=by rw[show p=q from funext h]
section
variable(t:Tb)
theorem P4(l:List Dm):(l.zipIdx.all fun p=>MA t p.1 p.2)=(I9 l).all (AJ t):=
 (Ev fun a=>by simp only[ze,zu,yT];exact (TK t a.2 a.1.value).symm).symm
theorem NT(l:List BQ):l.all (JU t)=(F3 l).all (AJ t):=by
 unfold F3
 rw[Ev (q:=fun a=>JU t a.1) fun a=>by simp only[ze,zu,yT];exact (Dq t a.1.need).symm,Ht]
theorem MB(l:List Aw):(l.zipIdx.all fun p=>Et t p.1 p.2)=(l.zipIdx.all (Gt t)&&(D9 l).all (AJ t)):=by
 unfold D9
 rw[Ev (q:=fun a=>AJ t (a.1.delay,0)&&(AJ t (a.1.cap,0)&&(AJ t (a.1.bank,0)&&(AJ t (a.1.siphon,0)&&(AJ t (a.1.evap0,0)&&(AJ t (a.1.evap1,0)&&(AJ t (a.1.seep0,0)&&AJ t (a.1.seep1,0)))))))) fun a=>by simp only[ze,zu,yT],Gw]
 refine Hu fun a=>?_
 have h0:Gt t a=(if a.2=0 then QC a.1.frm else Du (t.reaches.take a.2) a.1.frm):=by
  unfold Gt
  by_cases h:a.2=0
  ·rw[yx h,yx h];exact IP t _ _
  ·rw[yu h,yu h];exact RX t _ _
 rw[h0]
 unfold Et
 rw[xJ]
 simp only[Dq,yt,and_assoc,and_left_comm,and_comm]
theorem NU(l:List BL):l.all (Hq t)=(l.all (Im t)&&(F4 l).all (AJ t)):=by
 unfold F4
 rw[Ev (q:=fun a=>AJ t (a.1.area,0)) fun a=>by simp only[ze,zu,yT],Ht (q:=fun d:BL=>AJ t (d.area,0)),Gw]
 refine Hu fun d=>?_
 unfold Hq Im
 rw[Hs,Dq]
 congr 2
 by_cases h:d.river=true
 ·rw[yx h,yx h,IP]
 ·rw[yu h,yu h,RU]
theorem NV(l:List Br):l.all (Hr t)=((l.all fun k=>Gq t 5 0 k.farm)&&(CY l).all (AJ t)):=by
 unfold CY
 rw[Ev (q:=fun a=>AJ t (a.1.len,0)) fun a=>by simp only[ze,zu,yT],Ht (q:=fun d:Br=>AJ t (d.len,0)),Gw]
 refine Hu fun d=>?_
 unfold Hr
 rw[KK,Dq]
theorem P5(l:List B9):l.all (Ja t)=(l.all (Kz t)&&(GB l).all (AJ t)):=by
 unfold GB
 rw[Ev (q:=fun a=>(AJ t (a.1.flow,0)&&(AJ t (a.1.frm,0)&&AJ t (a.1.to,0)))&&(CY a.1.turns).all (AJ t)) fun a=>by simp only[zh,ze,zu,yT],Ht (q:=fun d:B9=>(AJ t (d.flow,0)&&(AJ t (d.frm,0)&&AJ t (d.to,0)))&&(CY d.turns).all (AJ t)),Gw]
 refine Hu fun d=>?_
 unfold Ja Kz
 rw[Hs,Dq,Dq,Dq,NV,xJ]
 simp only[yt,and_assoc,and_left_comm,and_comm]
theorem MD(l:List AG):l.all (G4 t)=((l.all fun d=>F8 d.kind)&&(l.all (Gs t)&&(DH l).all (AJ t))):=by
 unfold DH
 rw[Ev (q:=fun a=>AJ t (a.1.flow,0)&&(AJ t (a.1.frm,0)&&(AJ t (a.1.to,0)&&(AJ t (a.1.every,0)&&AJ t (a.1.len,0))))) fun a=>by simp only[ze,zu,yT],Ht (q:=fun d:AG=>AJ t (d.flow,0)&&(AJ t (d.frm,0)&&(AJ t (d.to,0)&&(AJ t (d.every,0)&&AJ t (d.len,0))))),Gw,Gw]
 refine Hu fun d=>?_
 unfold G4 Gs F8
 have h0:Gq t (if d.kind=1 then 0 else 4) 0 d.reach=(if d.kind=1 then QC d.reach else Du t.reaches d.reach):=by
  by_cases h:d.kind=1
  ·rw[yx h,yx h,IP]
  ·rw[yu h,yu h,Hs]
 rw[KK,h0,xJ]
 simp only[Dq,ge_iff_le,yt,and_assoc,and_left_comm,and_comm]
theorem NW(l:List BR):l.all (Hp t)=(l.all (Io t)&&(DJ l).all (AJ t)):=by
 unfold DJ
 rw[Ev (q:=fun a=>AJ t (a.1.due,0)) fun a=>by simp only[ze,zu,yT],Ht (q:=fun d:BR=>AJ t (d.due,0)),Gw]
 refine Hu fun d=>?_
 unfold Hp Io
 rw[Hs,KK,Dq]
theorem T5(x:Aq):Gv t x=(CQ t x&&Cs t x):=by
 unfold Gv JV Cs CQ AK C9
 rw[P4,NT,MB,NU,P5,MD,NW]
 simp only[zh,ze,zu,yT,Dq]
 generalize AJ t (x.season,0)=i
 generalize AJ t (x.cap,0)=f
 generalize AJ t (x.start,0)=b
 generalize (I9 x.lets).all (AJ t)=a3
 generalize (F3 x.crops).all (AJ t)=a4
 generalize (D9 x.reaches).all (AJ t)=a5
 generalize (F4 x.farms).all (AJ t)=a
 generalize (GB x.rots).all (AJ t)=g
 generalize (DH x.rights).all (AJ t)=e
 generalize (DJ x.duties).all (AJ t)=a9
 generalize (x.reaches.zipIdx).all (Gt t)=b0
 generalize (x.rights.all fun d=>F8 d.kind)=b1
 generalize x.farms.all (Im t)=b2
 generalize x.rots.all (Kz t)=c
 generalize x.rights.all (Gs t)=j
 generalize x.duties.all (Io t)=h
 rw[xJ]
 simp only[yt,and_assoc,and_left_comm,and_comm]
end
section
variable{P:Program}{ops:Array Oper}{rest:List Oper}{o:Oper}{a:Act}{w:World}{Q:QT}
end
section
variable{ops:Array Oper}{rest:List Oper}{o:Oper}{a:Act}{w:World}{Q:QT}{j:Nat}
end
theorem CT{W:World}{b o:Nat}{v:Value}(h:W.rangeAt b o [v]):W.cell? ⟨b,o,none⟩=some v:=h 0 v rfl
end Go.Proofs.Ytghepahgkcigpaa
namespace Go.Proofs.Ytghepahgkcigpaa
open Go.RowKit
attribute [local go_sem] Oper.semAt_some
theorem NX{s:ByteArray}(h:s.toList=[]):s=⟨#[]⟩:=by
 have h1:=(F5 s).2 h
 have:s.data.size=0:=h1
 cases s with
 |mk d=>simp only at this;rw[Array.size_eq_zero_iff] at this;rw[this]
theorem Sb{l:LB}{s:ByteArray}{i:Nat}(h:AO l s=some i):i < l.length:=by
 by_cases a:s∈l
 ·obtain ⟨j,h1,h2,_⟩:=Hj a
  rw[h] at h1
  cases h1;exact h2
 ·rw[F9 a] at h;cases h
theorem G8{t:Tb}{to at_:Int}{r:Rf}(h0:to≠0)(h:Gq t to at_ r=true):∃i:Nat,AO (t.tab (CF to)) r.name=some i∧Ft t (CF to) r.name=i∧(early to=true->(i:Int) < at_)∧i < (t.tab (CF to)).length:=by
 unfold Gq at h
 rw[yu h0] at h
 unfold Ft
 cases a:AO (t.tab (CF to)) r.name with
 |none=>rw[a] at h;cases h
 |some i=>
  rw[a] at h
  refine ⟨i,rfl,rfl,fun b=>?_,Sb a⟩
  simpa[b] using h
theorem G9{t:Tb}{to at_:Int}{r:Rf}(h0:to≠0)(h:Gq t to at_ r=false):∀i:Nat,AO (t.tab (CF to)) r.name=some i->early to=true∧¬ (i:Int) < at_:=by
 intro i a
 unfold Gq at h
 rw[yu h0,a] at h
 simp only[Bool.or_eq_false_iff,Bool.not_eq_false',xu] at h
 exact h
theorem FC{m:Nat}{W:World}{es:Array MapEntry}{a:Nat}(h:W.heap[m]?=some (.map es a))(ty:TypeId):(Builtin.len_ #[90] ty #[.map (some m)]).run Try.prog W=.ok (.int .i64 (es.size:Int)) W:=by
 simp[Builtin.len_,run_underlying qR,MapKept.run_getObj_map h,goInt,Result.andThen]
theorem Ui{Q:QT}{w W W5:World}{x:Aq}{L:Bz}{N M:NP}{bl bc br bf Bf:Nat}(hQ:KC Q w x)(hC:I3 w x W5 L N M bl bc br bf Bf W.heap.size)
 (dx:RJ w.heap.size W5 (Tb.of x) (CG W5 L x) (EI L x).length (fun _=>False) (W.alloc (.cells #[.pointer (some ⟨w.heap.size+1,0,none⟩)] 52)))
 (u0 u1 u8 u9 ef dw ej eg hm gg go f6 ed gl ew f4 gp eo g8 dp ep ff fm fy gb fb fe fi ey ft dn f8 eb gi fp g3 et fq ez er ec du dr fo gq f0 g2 fw gd g7 ee fs fh gj em dj el e9 e5 ga f7 fd dk e6 ea gv dv dl ev dz gr g0 eu g4 g9 fv ge f1 fj gc f5 ei dm gh fx fu gs e3 eh g5 fl ek fz c6 bi bt cj co d4 cn cz b8 b7 cy cu d5 ca cm dt gn bm d3 au cw cx ct ar cg bw cv ap bb b5 dc c5 az d9 bk bh ci ce c7 da cb av c8 c9 aq bd d7 b4 ay bz ck bq bu bv cq cd d6 c4 ba bo bg cr b9 db d8 cl ao cp aw bs cc ax bn b3:Value):
  Gf 11 Try.prog (DO 20 (Try.f11.body.getD .skip)) Q {tmps:=#[u0,u1,.pointer (some ⟨w.heap.size+1,0,none⟩),.pointer (some ⟨w.heap.size+2,0,none⟩),.pointer (some ⟨bl,0,none⟩),.pointer (some ⟨bc,0,none⟩),.pointer (some ⟨br,0,none⟩),.pointer (some ⟨bf,0,none⟩),u8,u9,ef,dw,ej,.pointer (some ⟨Bf,0,none⟩),eg,hm,gg,go,f6,ed,gl,ew,f4,gp,eo,g8,dp,ep,ff,fm,fy,gb,fb,fe,fi,ey,ft,dn,f8,eb,gi,fp,g3,et,fq,ez,er,ec,du,dr,fo,gq,f0,g2,fw,gd,g7,ee,fs,fh,gj,em,dj,el,e9,e5,ga,f7,fd,dk,e6,ea,gv,dv,dl,ev,dz,gr,g0,eu,g4,g9,fv,ge,f1,fj,gc,f5,ei,dm,gh,fx,fu,gs,e3,eh,g5,fl,ek,fz,c6,bi,bt,cj,co,d4,cn,cz,b8,b7,cy,cu,d5,ca,cm,dt,gn,bm,d3,au,cw,cx,ct,ar,cg,bw,cv,ap,bb,b5,dc,c5,az,d9,bk,bh,ci,ce,c7,da,cb,av,c8,c9,aq,bd,d7,b4,ay,bz,ck,bq,bu,bv,cq,cd,d6,c4,ba,bo,bg,cr,b9,db,d8,cl,ao,cp,aw,bs,cc,ax,bn,b3],defers:=[J8 w.heap.size]} W:=by
 have HQ:=yb hQ;have r:=yb hC;have af:=yb dx
 clear hQ hC dx
 unfold J8
 refine Ac (Ac (A6 ?_))
 go_wp2_with (first|(go_at_call 51;refine (KD _ _).mono ?_;rintro e w2 ⟨rfl,rfl⟩))
 refine E4 ?_
 refine Dz (n:=10) Try.func11 rfl (fun _ _=>rfl) (Kp 9 (by omega) r.o.uses) (fun a ha=>by
   obtain ⟨u,_,rfl⟩:=zw.1 ha
   rfl)
  (fun k O V=>RJ w.heap.size W5 (Tb.of x) (CG W5 L x) ((EI L x).length+k) O V) (fun _ _ _=>False) (fun ch O V=>ch=Ek 170∧Ay x=170∧∃k,RJ w.heap.size W5 (Tb.of x) (CG W5 L x) k O V)
  (fun k a O V=>RJ w.heap.size W5 (Tb.of x) (CG W5 L x) ((EI L x).length+k) O V∧∃(ub uo:Nat) (f c:Int) (d:ByteArray) (s:Int) (g:Nat),(Ca W5 L x).1[k]?=some ⟨ub,uo,f,c,d,s⟩∧¬ O g∧g < V.heap.size∧V.heap[g]?=some (.cells #[pV ub uo,iV f,iV c] 106 (0,0))∧a={tmps:=#[u0,u1,pV (w.heap.size+1) 0,pV (w.heap.size+2) 0,pV bl 0,pV bc 0,pV br 0,pV bf 0,u8,u9,ef,dw,ej,pV Bf 0,eg,pV g 0,gg,go,f6,ed,gl,ew,f4,gp,eo,g8,dp,ep,ff,fm,fy,gb,fb,fe,fi,ey,ft,dn,f8,eb,gi,fp,g3,et,fq,ez,er,ec,du,dr,fo,gq,f0,g2,fw,gd,g7,ee,fs,fh,gj,em,dj,el,e9,e5,ga,f7,fd,dk,e6,ea,gv,dv,dl,ev,dz,gr,g0,eu,g4,g9,fv,ge,f1,fj,gc,f5,ei,dm,gh,fx,fu,gs,e3,eh,g5,fl,ek,fz,c6,bi,bt,cj,co,d4,cn,cz,b8,b7,cy,cu,d5,ca,cm,.func (.func 81) #[] #[pV W.heap.size 0],.agg #[pV ub uo,iV f,iV c],bm,d3,au,cw,cx,ct,ar,cg,bw,cv,ap,bb,b5,dc,c5,az,d9,bk,bh,ci,ce,c7,da,cb,av,c8,c9,aq,bd,d7,b4,ay,bz,ck,bq,bu,bv,cq,cd,d6,c4,ba,bo,bg,cr,b9,db,d8,cl,ao,cp,aw,bs,cc,ax,bn,b3],defers:=[]})
  (fun k=>RJ.stays _) (fun _ _ _ _ _ _ h=>h.elim) ?_ ?_ (fun k O V h=>h.hd) (fun _ _ _ h=>h.elim) ?_ af.o ?_ ?_ ?_ (fun _ _ _ _ _ _ h=>h.elim) ?_
 ·exact fun ch _ O V O' V' h hz ho ht hu hk hO=>⟨h.1,h.2.1,h.2.2.imp fun k h=>RJ.stays k O V O' V' h hz ho ht hu hk hO⟩
 ·rintro a k O V O' V' ⟨h1,ub,uo,f,c,d,s,g,h2,h3,h4,h5,h6⟩ hz ho ht hu hk hO
  exact ⟨RJ.stays _ O V O' V' h1 hz ho ht hu hk hO,ub,uo,f,c,d,s,g,h2,fun h=>(hO g h).elim h3 (fun h=>by omega),by omega,(hk g h3 h4).trans h5,h6⟩
 ·intro ch Y O V H
  cases hx:(Ca W5 L x).2 with
  |true=>rw[hx] at Y;cases Y
  |false=>
   rw[hx] at Y
   cases Y
   exact ⟨rfl,r.o.bad2 hx,_,H⟩
 ·intro k hk O V lo H hO hl a6
  have e7:k < (Ca W5 L x).1.length:=by rw[yP] at hk;exact hk
  rw[zS]
  have HU:=yb (yk e7)
  generalize (Ca W5 L x).1[k]=u at HU ⊢
  obtain ⟨ub,uo,f,c,d,s⟩:=u
  have P:=yb H;have df:=yb a6
  clear H hO hl a6 hk e7
  unfold Us.v
  simp only
  gi_wp2
  have di:BB O V (V.alloc (.cells #[pV ub uo,iV f,iV c] 106)):=⟨by simp,fun b hb=>yQ _ _ _ (df.o b hb)⟩
  have a8:RJ w.heap.size W5 (Tb.of x) (CG W5 L x) ((EI L x).length+k) O (V.alloc (.cells #[pV ub uo,iV f,iV c] 106)):=P.o.below ((yg V.heap.size V).alloc (ye _) _) P.o.size
  have aa:¬ O V.heap.size:=fun h=>xA _ (df.o _ h)
  first
  |exact ⟨di,a8,ub,uo,f,c,d,s,V.heap.size,HU.o,aa,by simp,World.alloc_heap_new _ _,rfl⟩
  |(rename_i hK;exact hK _ _ ⟨di,a8,ub,uo,f,c,d,s,V.heap.size,HU.o,aa,by simp,World.alloc_heap_new _ _,rfl⟩)
  |(rename_i hK _;exact hK _ _ ⟨di,a8,ub,uo,f,c,d,s,V.heap.size,HU.o,aa,by simp,World.alloc_heap_new _ _,rfl⟩)
  |fail
 ·rintro k hk O V lo a1 hl fk a6 ⟨H,ub,uo,f,c,d,s,g,hu,hy,i0,am,rfl⟩
  have hX:(CG W5 L x)[(EI L x).length+k]?=some ⟨ub,uo,f,c,d,s⟩:=by
   unfold CG
   rw[yS (by omega),xH];exact hu
  have ac:(⟨ub,uo,f,c,d,s⟩:Us)∈CG W5 L x:=xq hX
  have U:=r.o.uok _ ac
  obtain ⟨c0,⟨z,c1,gt⟩,cf⟩:=H.read U
  have hr:f=0∨f=1∨f=2∨f=3∨f=4∨f=5:=by
   have h6:=SY _ (xq hu)
   have h7:=U.to
   simp only at h6 h7
   omega
  have d0:V.cell? (aV g 0)=some (pV ub uo):=by simp[World.cell?,am]
  have d1:V.cell? (aV g 1)=some (iV f):=by simp[World.cell?,am]
  have d2:V.cell? (aV g 2)=some (iV c):=by simp[World.cell?,am]
  have h8:V.cell? (aV Bf 0)=some (.func (.func 49) #[] #[]):=KG r.o.find (by simp) (Ho (by decide)) H
  obtain ⟨ml,an,i1,aj,f2,Z,gf⟩:=r.o.lets.read H
  obtain ⟨mc,al,i2,a0,en,J,fg⟩:=r.o.crops.read H
  obtain ⟨mr,ae,i6,ad,dy,R,dq⟩:=r.o.reaches.read H
  obtain ⟨mf,ag,i7,a2,fa,K,gk⟩:=r.o.farms.read H
  have HX:=yb hX;have F:=yb ac;have i8:=yb U;have P:=yb H;have y:=yb c1;have C:=yb cf;have l:=yb c0;have hh:=yb gt;have df:=yb a6
  have ML:=yb f2;have MC:=yb en;have MR:=yb dy;have MF:=yb fa
  have SL:=yb gf;have SC:=yb fg;have SR:=yb dq;have SF:=yb gk
  have m:Hid (d.size<=maxLen):=yb U.len
  have B:Hid (∀v,BB O V (V.setCell (aV ub (uo+1)) v)):=yb (fun v=>⟨by simp,fun b hb=>yY V (aV ub (uo+1)) b v (fun e=>by
   have h1:=H.own b hb
   have h2:=U.lt
   simp only at e h2
   omega)⟩)
  clear hX ac U H c1 cf c0 gt a6 f2 en dy fa gf fg dq gk hu hy i0 am hl fk hk
  rcases hr with rfl|rfl|rfl|rfl|rfl|rfl
  ·have c0:=l.o;have c1:=y.o
   obtain rfl:=hh.o rfl
   clear aj Z a0 J ad R a2 K d2 h8
   cases hb:J7 (Tb.of x) ⟨ub,uo,0,c,d,z⟩ with
   |true=>
    have X:=yb hb
    obtain ⟨e4,gy⟩:d.size=0∧z=0:=by
     have h:=hb
     unfold J7 Gq at h
     simpa using h
    have hj:d=⟨#[]⟩:=by
     have h:=(F5 d).1 e4
     exact NX h
    clear hb e4
    subst gy
    subst hj
    gi_wp2_with fail
    refine ⟨trivial,zm (CallsIn.inRound lo (z8.2 (Cu _ _))) ?_⟩
    rintro e w4 ⟨rfl,p⟩
    obtain rfl:=p.symm
    gi_wp2_with fail
    exact ⟨BB.refl _ _,P.o.skip HX.o rfl X.o⟩
   |false=>
    have X:=yb hb
    have gm:¬ (d.size=0∧z=0):=by
     have h:=hb
     unfold J7 Gq at h
     simpa using h
    clear hb
    have j:=yb (r.o.bad F.o X.o)
    have gz:=yb gm
    clear gm
    gi_wp2_with fail
    all_goals first
     |exact absurd ⟨(F5 _).2 (by assumption),(by assumption)⟩ gz.o
     |(refine ⟨trivial,zm (CallsIn.inRound lo (z8.2 (Cp _ _))) ?_⟩
       rintro e w4 ⟨rfl,p⟩
       obtain rfl:=p.symm
       try gi_wp2_with fail
       exact ⟨rfl,BB.refl _ _,rfl,j.o,_,P.o⟩)
  ·have c0:=l.o;have c1:=y.o;have cf:=C.o
   clear a0 J ad R a2 K d2 c0 c1 cf
   cases hb:J7 (Tb.of x) ⟨ub,uo,1,c,d,s⟩ with
   |true=>
    obtain ⟨i,t,I,E,q⟩:=G8 (to:=1) (by decide) hb
    have X:=yb hb;have HV:=yb I
    have G:=yb (FY (most:=(an.size:Int)) l.o y.o C.o ML.o m.o t (by rw[SL.o];exact Int.ofNat_lt.2 q))
    clear hb t I E q
    have A:∀ty,(Builtin.len_ #[90] ty #[.map (some ml)]).run Try.prog V=.ok (iV (an.size:Int)) V:=fun ty=>FC Z ty
    gi_wp2_with fail
    refine ⟨trivial,zm (CallsIn.inRound lo (z8.2 G.o)) ?_⟩
    rintro e w4 ⟨rfl,rfl⟩
    gi_wp2_with fail
    exact ⟨B.o _,by have h:=P.o.next r.o.uok HX.o (show (1:Int)≠0 by decide) X.o;rw[show Ft (Tb.of x) (CF (⟨ub,uo,1,c,d,s⟩:Us).to) (⟨ub,uo,1,c,d,s⟩:Us).name=_ from HV.o] at h;exact h⟩
   |false=>
    have S:=G9 (to:=1) (by decide) hb
    have j:=yb (r.o.bad F.o hb)
    have G:=yb (Hk (most:=(an.size:Int)) l.o ML.o m.o (fun i t=>absurd (S i t).1 (show ¬ early 1=true by decide)))
    clear hb S
    have A:∀ty,(Builtin.len_ #[90] ty #[.map (some ml)]).run Try.prog V=.ok (iV (an.size:Int)) V:=fun ty=>FC Z ty
    gi_wp2_with fail
    refine ⟨trivial,zm (CallsIn.inRound lo (z8.2 G.o)) ?_⟩
    rintro e w4 ⟨rfl,p⟩
    obtain rfl:=p.symm
    try gi_wp2_with fail
    exact ⟨rfl,BB.refl _ _,rfl,j.o,_,P.o⟩
  ·have c0:=l.o;have c1:=y.o;have cf:=C.o
   clear a0 J ad R a2 K c0 c1 cf
   cases hb:J7 (Tb.of x) ⟨ub,uo,2,c,d,s⟩ with
   |true=>
    obtain ⟨i,t,I,E,q⟩:=G8 (to:=2) (by decide) hb
    have X:=yb hb;have HV:=yb I
    have G:=yb (FY (most:=c) l.o y.o C.o ML.o m.o t (by simpa using E rfl))
    clear hb t I E q
    gi_wp2_with fail
    refine ⟨trivial,zm (CallsIn.inRound lo (z8.2 G.o)) ?_⟩
    rintro e w4 ⟨rfl,rfl⟩
    gi_wp2_with fail
    exact ⟨B.o _,by have h:=P.o.next r.o.uok HX.o (show (2:Int)≠0 by decide) X.o;rw[show Ft (Tb.of x) (CF (⟨ub,uo,2,c,d,s⟩:Us).to) (⟨ub,uo,2,c,d,s⟩:Us).name=_ from HV.o] at h;exact h⟩
   |false=>
    have S:=G9 (to:=2) (by decide) hb
    have j:=yb (r.o.bad F.o hb)
    have G:=yb (Hk (most:=c) l.o ML.o m.o (fun i t=>(S i t).2))
    clear hb S
    gi_wp2_with fail
    refine ⟨trivial,zm (CallsIn.inRound lo (z8.2 G.o)) ?_⟩
    rintro e w4 ⟨rfl,p⟩
    obtain rfl:=p.symm
    try gi_wp2_with fail
    exact ⟨rfl,BB.refl _ _,rfl,j.o,_,P.o⟩
  ·have c0:=l.o;have c1:=y.o;have cf:=C.o
   clear aj Z ad R a2 K d2 c0 c1 cf
   cases hb:J7 (Tb.of x) ⟨ub,uo,3,c,d,s⟩ with
   |true=>
    obtain ⟨i,t,I,E,q⟩:=G8 (to:=3) (by decide) hb
    have X:=yb hb;have HV:=yb I
    have G:=yb (FY (most:=(al.size:Int)) l.o y.o C.o MC.o m.o t (by rw[SC.o];exact Int.ofNat_lt.2 q))
    clear hb t I E q
    have A:∀ty,(Builtin.len_ #[90] ty #[.map (some mc)]).run Try.prog V=.ok (iV (al.size:Int)) V:=fun ty=>FC J ty
    gi_wp2_with fail
    refine ⟨trivial,zm (CallsIn.inRound lo (z8.2 G.o)) ?_⟩
    rintro e w4 ⟨rfl,rfl⟩
    gi_wp2_with fail
    exact ⟨B.o _,by have h:=P.o.next r.o.uok HX.o (show (3:Int)≠0 by decide) X.o;rw[show Ft (Tb.of x) (CF (⟨ub,uo,3,c,d,s⟩:Us).to) (⟨ub,uo,3,c,d,s⟩:Us).name=_ from HV.o] at h;exact h⟩
   |false=>
    have S:=G9 (to:=3) (by decide) hb
    have j:=yb (r.o.bad F.o hb)
    have G:=yb (Hk (most:=(al.size:Int)) l.o MC.o m.o (fun i t=>absurd (S i t).1 (show ¬ early 3=true by decide)))
    clear hb S
    have A:∀ty,(Builtin.len_ #[90] ty #[.map (some mc)]).run Try.prog V=.ok (iV (al.size:Int)) V:=fun ty=>FC J ty
    gi_wp2_with fail
    refine ⟨trivial,zm (CallsIn.inRound lo (z8.2 G.o)) ?_⟩
    rintro e w4 ⟨rfl,p⟩
    obtain rfl:=p.symm
    try gi_wp2_with fail
    exact ⟨rfl,BB.refl _ _,rfl,j.o,_,P.o⟩
  ·have c0:=l.o;have c1:=y.o;have cf:=C.o
   clear aj Z a0 J a2 K d2 c0 c1 cf
   cases hb:J7 (Tb.of x) ⟨ub,uo,4,c,d,s⟩ with
   |true=>
    obtain ⟨i,t,I,E,q⟩:=G8 (to:=4) (by decide) hb
    have X:=yb hb;have HV:=yb I
    have G:=yb (FY (most:=(ae.size:Int)) l.o y.o C.o MR.o m.o t (by rw[SR.o];exact Int.ofNat_lt.2 q))
    clear hb t I E q
    have A:∀ty,(Builtin.len_ #[90] ty #[.map (some mr)]).run Try.prog V=.ok (iV (ae.size:Int)) V:=fun ty=>FC R ty
    gi_wp2_with fail
    refine ⟨trivial,zm (CallsIn.inRound lo (z8.2 G.o)) ?_⟩
    rintro e w4 ⟨rfl,rfl⟩
    gi_wp2_with fail
    exact ⟨B.o _,by have h:=P.o.next r.o.uok HX.o (show (4:Int)≠0 by decide) X.o;rw[show Ft (Tb.of x) (CF (⟨ub,uo,4,c,d,s⟩:Us).to) (⟨ub,uo,4,c,d,s⟩:Us).name=_ from HV.o] at h;exact h⟩
   |false=>
    have S:=G9 (to:=4) (by decide) hb
    have j:=yb (r.o.bad F.o hb)
    have G:=yb (Hk (most:=(ae.size:Int)) l.o MR.o m.o (fun i t=>absurd (S i t).1 (show ¬ early 4=true by decide)))
    clear hb S
    have A:∀ty,(Builtin.len_ #[90] ty #[.map (some mr)]).run Try.prog V=.ok (iV (ae.size:Int)) V:=fun ty=>FC R ty
    gi_wp2_with fail
    refine ⟨trivial,zm (CallsIn.inRound lo (z8.2 G.o)) ?_⟩
    rintro e w4 ⟨rfl,p⟩
    obtain rfl:=p.symm
    try gi_wp2_with fail
    exact ⟨rfl,BB.refl _ _,rfl,j.o,_,P.o⟩
  ·have c0:=l.o;have c1:=y.o;have cf:=C.o
   clear aj Z a0 J ad R d2 c0 c1 cf
   cases hb:J7 (Tb.of x) ⟨ub,uo,5,c,d,s⟩ with
   |true=>
    obtain ⟨i,t,I,E,q⟩:=G8 (to:=5) (by decide) hb
    have X:=yb hb;have HV:=yb I
    have G:=yb (FY (most:=(ag.size:Int)) l.o y.o C.o MF.o m.o t (by rw[SF.o];exact Int.ofNat_lt.2 q))
    clear hb t I E q
    have A:∀ty,(Builtin.len_ #[90] ty #[.map (some mf)]).run Try.prog V=.ok (iV (ag.size:Int)) V:=fun ty=>FC K ty
    gi_wp2_with fail
    refine ⟨trivial,zm (CallsIn.inRound lo (z8.2 G.o)) ?_⟩
    rintro e w4 ⟨rfl,rfl⟩
    gi_wp2_with fail
    exact ⟨B.o _,by have h:=P.o.next r.o.uok HX.o (show (5:Int)≠0 by decide) X.o;rw[show Ft (Tb.of x) (CF (⟨ub,uo,5,c,d,s⟩:Us).to) (⟨ub,uo,5,c,d,s⟩:Us).name=_ from HV.o] at h;exact h⟩
   |false=>
    have S:=G9 (to:=5) (by decide) hb
    have j:=yb (r.o.bad F.o hb)
    have G:=yb (Hk (most:=(ag.size:Int)) l.o MF.o m.o (fun i t=>absurd (S i t).1 (show ¬ early 5=true by decide)))
    clear hb S
    have A:∀ty,(Builtin.len_ #[90] ty #[.map (some mf)]).run Try.prog V=.ok (iV (ag.size:Int)) V:=fun ty=>FC K ty
    gi_wp2_with fail
    refine ⟨trivial,zm (CallsIn.inRound lo (z8.2 G.o)) ?_⟩
    rintro e w4 ⟨rfl,p⟩
    obtain rfl:=p.symm
    try gi_wp2_with fail
    exact ⟨rfl,BB.refl _ _,rfl,j.o,_,P.o⟩
 ·intro ho D O V hD fc H ah
  have hx:(Ca W5 L x).2=true:=by
   cases hx:(Ca W5 L x).2 with
   |true=>rfl
   |false=>rw[hx] at ho;cases ho
  have a7:RJ w.heap.size W5 (Tb.of x) (CG W5 L x) (CG W5 L x).length O V:=by
   have h:(EI L x).length+((Ca W5 L x).1.map Us.v).length=(CG W5 L x).length:=by unfold CG;simp
   rw[<-h];exact H
  have hA:=a7.amid r.o.amid
  have ak:w.heap.size+3<=D:=by
   obtain ⟨v,Y⟩:=r.o.amid.e
   have h1:=(yf.1 Y).1
   have h2:=af.o.size
   omega
  obtain ⟨cs,ai,de,dh⟩:=r.o.src a7 hx
  rw[r.o.ls] at de
  obtain ⟨row,gu,dd⟩:=hA.x
  obtain ⟨ve,Y⟩:=hA.e
  have bj:=Mv dh
  have c3:(V.setRow (w.heap.size+1) cs.toArray).cell? (aV (w.heap.size+2) 0)=some ve:=by
   simp only[World.cell?,World.setRow,yO,yu (show ¬ w.heap.size+1=w.heap.size+2 by omega)]
   simp[Y]
  have f3:(V.setRow (w.heap.size+1) cs.toArray).frozen? (aV (w.heap.size+2) 0)=false:=by
   simp only[World.frozen?,World.setRow,yO,yu (show ¬ w.heap.size+1=w.heap.size+2 by omega)]
   simp[Y]
  have eq:Hid ((Try.prog.info? 35).map (·.size)=some cs.length):=yb (by rw[ai];kernel_rfl)
  have g6:Hid ((Try.prog.info? 35).map (·.size)=some cs.toArray.size):=yb (by rw[yB];exact eq.o)
  have h0:=r.o.good a7 hx
  have T:Below w.heap.size w ((V.setRow (w.heap.size+1) cs.toArray).setCell (aV (w.heap.size+2) 0) (iV 0)):=hA.below.trans ⟨rfl,rfl,rfl,by simp[World.setRow],fun b hb=>by
   rw[yY _ _ _ _ (by simp;omega)]
   simp only[World.setRow,yO,yu (show ¬ w.heap.size+1=b by omega)]⟩
  have f9:((V.setRow (w.heap.size+1) cs.toArray).setCell (aV (w.heap.size+2) 0) (iV 0)).heap[w.heap.size+1]?=some (.cells cs.toArray 35 (0,0)):=by
   rw[yY _ _ _ _ (by simp)]
   simp[World.setRow,yO,dd]
  have gw:((V.setRow (w.heap.size+1) cs.toArray).setCell (aV (w.heap.size+2) 0) (iV 0)).heap[w.heap.size+2]?=some (.cells #[iV 0] 38 (0,0)):=by
   have:=za (V.setRow (w.heap.size+1) cs.toArray) (w.heap.size+2) 0 #[ve] 38 (iV 0) (by simp[World.setRow,yO,Y])
   rw[this];rfl
  have ab:∀b,b≠w.heap.size+1->b≠w.heap.size+2->((V.setRow (w.heap.size+1) cs.toArray).setCell (aV (w.heap.size+2) 0) (iV 0)).heap[b]?=V.heap[b]?:=fun b h1 h2=>by
   rw[yY _ _ _ _ (by simpa using h2)]
   simp only[World.setRow,yO,yu (xj h1)]
  have gx:=(ab D (by omega) (by omega)).trans ah
  have h9:W5.heap.size<=D:=by have:=af.o.size;omega
  have hf:=a7.size
  have be:P1 w.heap.size (((V.setRow (w.heap.size+1) cs.toArray).setCell (aV (w.heap.size+2) 0) (iV 0)).putObj D (.deferred none)) cs (Ad x):=by
   refine ⟨L,_,ai,dh.same (fun _ h=>h) (fun b hb=>?_),fun b hb=>⟨hb.1,?_⟩⟩
   ·obtain ⟨k1,k2,k3,k4⟩:=hb
    rw[World.putObj_heap_other (by omega),ab b k3 k4]
   ·obtain ⟨k1,k2,k3,k4⟩:=hb
    simp[World.setRow];omega
  have dg:=yb (fun tm I=>HQ.o.done D tm _ cs I T f9 gw h0 ak gx be)
  have hw:=yb de;have e8:=yb bj;have hg:=yb dd;have hq:Hid (row.size=cs.toArray.size):=yb (by rw[gu,yB,ai])
  clear hx a7 hA ak de dh gu dd Y bj h0 T f9 gw ab gx h9 hf be hD fc H ah ho ai
  simp only[Exit.inBlock,Exit.then]
  refine Ac (A6 ?_)
  go_wp2_with (first|(refine yj rfl 35 _ rfl (w.heap.size+1) 0 rfl cs _ hw.o qB rfl eq.o ?_)|(refine yX rfl 35 _ _ rfl (w.heap.size+1) cs.toArray rfl rfl 35 row hg.o g6.o hq.o (yU e8.o) ?_))
  refine A6 ?_
  go_wp2
  exact dg.o _ ⟨rfl,rfl⟩
 ·rintro D ch O V hD fc ⟨rfl,bp,k,H⟩ ah
  have ak:w.heap.size+3<=D:=by
   obtain ⟨v,Y⟩:=r.o.amid.e
   have h1:=(yf.1 Y).1
   have h2:=af.o.size
   omega
  simp only[Exit.inBlock,Exit.then]
  have h:=fun tm I=>HQ.o.failD D tm V I (H.amid r.o.amid) (by rw[bp];decide) ak ah
  rw[bp] at h
  exact h _ ⟨rfl,rfl⟩
end Go.Proofs.Ytghepahgkcigpaa
namespace Go.Proofs.Ytghepahgkcigpaa
open Go.RowKit
theorem MH{ops:Array Oper}{p:Oper->Bool}{i:Nat}{o:Oper}(h:ops.all p=true)(a:ops[i]?=some o):p o=true:=by
 rw[zo] at h
 exact h o (xk a)
theorem A9{l:Array Bool}{i j:Nat}(h:i≠j):(l.setIfInBounds i true).getD j false=l.getD j false:=zU false h
theorem BG{l:Array Value}{i j:Nat}{v:Value}(h:i≠j):(l.setIfInBounds i v).getD j undef=l.getD j undef:=by simp[h]
def MJ(lo hi:Nat)(d:Option Tmp):Bool:=match d with
 |some k=>decide (lo<=k)&&decide (k<=hi)
 |none=>true
theorem EZ{lo hi:Nat}{ops:Array Oper}{e:Act}{d:Array Bool->Array Value->World->Prop}{f:Nat->Value->World->Prop}{b:Array Bool}{a:Act}{w':World}(c:ops.all (fun o=>MJ lo hi o.dst)=true)(hM:Jb ops e d f b a w'):
  ∀t,(t < lo∨hi < t)->a.tmps.getD t undef=e.tmps.getD t undef:=by
 intro t j
 refine hM.free t fun i h o g hd=>?_
 have hs:MJ lo hi o.dst=true:=MH (p:=fun o=>MJ lo hi o.dst) c g
 rw[hd] at hs
 simp only[MJ,yt,yW] at hs
 exact (show ¬ (lo<=t∧t<=hi) from by omega) hs
def Tz(B g rn rc mr i:Nat)(j:Nat)(v:Value)(_:World):Prop:=match j with
 |0=>v=.func (.func 49) #[] #[]
 |1=>v=.pointer (some ⟨B+1,21,none⟩)
 |2=>v=.slice (some ⟨g,0,none⟩) rn rc
 |3=>v=.int .i64 i
 |4=>v=.pointer (some ⟨g,i*51,none⟩)
 |5=>v=.pointer (some ⟨g,i*51+1,none⟩)
 |6=>v=.map (some mr)
 |7=>v=.int .i64 i
 |_=>True
structure JX (R1 R2:World->Prop) (l:Array Bool) (_:Array Value) (w:World):Prop where
 one:l.getD 8 false=false->R1 w
 two:l.getD 8 false=true->R2 w
theorem JX.quiet{R1 R2:World->Prop}{l:Array Bool}{tm a:Array Value}{w:World}{i:Nat}(h:JX R1 R2 l tm w)(hi:i≠8):JX R1 R2 (l.setIfInBounds i true) a w:=
 ⟨fun k=>h.one (by rw[A9 hi] at k;exact k),fun k=>h.two (by rw[A9 hi] at k;exact k)⟩
theorem TA{k:Act}{wr:World}{Q:QT}{B Bf g rn rc br mr i:Nat}{R1 R2 R3:World->Prop}(ops:Array Oper)(m:FD Try.f11 32=some ops)
 (h2:k.tmps.getD 2 undef=.pointer (some ⟨B+1,0,none⟩))(h6:k.tmps.getD 6 undef=.pointer (some ⟨br,0,none⟩))(D:k.tmps.getD 13 undef=.pointer (some ⟨Bf,0,none⟩))(u:k.tmps.getD 14 undef=.int .i64 i)(J:k.tmps.size=174)
 (hi:i < rn)(h0:R1 wr.drew)
 (x:∀W,R1 W->W.cell? ⟨Bf,0,none⟩=some (.func (.func 49) #[] #[])∧W.cell? ⟨B+1,21,none⟩=some (.slice (some ⟨g,0,none⟩) rn rc)∧W.cell? ⟨br,0,none⟩=some (.map (some mr)))
 (p:∀W,R1 W->Calls Try.prog 49 #[.pointer (some ⟨g,i*51+1,none⟩),.map (some mr),.int .i64 i] W fun e w'=>(e=.returned (.tuple #[])∧R2 w')∨(e=.panicked (Ek 170)∧R3 w'))
 (F:∀(a:Act) W,a.defers=k.defers->(∀t,(t < 105∨113 < t)->a.tmps.getD t undef=k.tmps.getD t undef)->R3 W->Q (.panic (Ek 170)) a W)
 (y:∀(a:Act) W,a.tmps.size=174->a.defers=k.defers->(∀t,(t < 105∨113 < t)->a.tmps.getD t undef=k.tmps.getD t undef)->R2 W->Q .normal a W):
  (Code.region 32 ops true).wp Try.prog Q k wr:=by
 obtain rfl:=yh ((rfl:FD Try.f11 32=some _).symm.trans m)
 clear m
 refine Db (by kernel_rfl) (JX R1 R2) (Tz B g rn rc mr i) (fun _ _ _=>True) (by kernel_rfl) (by rw[J];kernel_rfl) (by kernel_rfl) (fun _ j v w w' _ _ _ h=>by unfold Tz at h ⊢;exact h) ⟨fun _=>h0,fun h=>(by cases h)⟩ ?_ ?_
 ·intro R c a w' hM b o l
  have f:=yb hM.ext
  have C:=(yf.1 l).1
  have A:=hM.size
  have S:=yb hi
  have K:(i:Int) < (rn:Int):=by omega
  match R,C with
  |0,_=>
   have d:=hM.old b 13 (by kernel_rfl) _ D
   have r:c.getD 8 false=false:=by
    rw[yi];intro s
    have:=A0 hM.down 8 8 0 (by kernel_rfl) s
    rw[hM.not_yet b] at this;cases this
   obtain ⟨I,G,H⟩:=x _ (f.o.one r)
   clear hi
   obtain rfl:=yh l
   go_simp
   exact ⟨_,rfl,f.o.quiet (by decide),trivial,rfl⟩
  |1,_=>
   have d:=hM.old b 2 (by kernel_rfl) _ h2
   clear hi
   obtain rfl:=yh l
   go_simp
   exact ⟨_,rfl,f.o.quiet (by decide),trivial,rfl⟩
  |2,_=>
   have d:a.tmps[106]?.getD undef=pV (B+1) 21:=hM.dep b 1 106 (by kernel_rfl) (by kernel_rfl)
   have r:c.getD 8 false=false:=by
    rw[yi];intro s
    have:=A0 hM.down 8 8 2 (by kernel_rfl) s
    rw[hM.not_yet b] at this;cases this
   obtain ⟨I,G,H⟩:=x _ (f.o.one r)
   clear hi
   obtain rfl:=yh l
   go_simp
   exact ⟨_,rfl,f.o.quiet (by decide),trivial,rfl⟩
  |3,_=>
   have d:=hM.old b 14 (by kernel_rfl) _ u
   clear hi
   obtain rfl:=yh l
   go_simp
   exact ⟨_,rfl,f.o.quiet (by decide),trivial,rfl⟩
  |4,_=>
   have O:a.tmps[107]?.getD undef=.slice (some (aV g 0)) rn rc:=hM.dep b 2 107 (by kernel_rfl) (by kernel_rfl)
   have P:a.tmps[108]?.getD undef=iV i:=hM.dep b 3 108 (by kernel_rfl) (by kernel_rfl)
   clear hi
   obtain rfl:=yh l
   go_simp
   exact ⟨_,rfl,f.o.quiet (by decide),trivial,rfl⟩
  |5,_=>
   have d:a.tmps[109]?.getD undef=pV g (i*51):=hM.dep b 4 109 (by kernel_rfl) (by kernel_rfl)
   clear hi
   obtain rfl:=yh l
   go_simp
   exact ⟨_,rfl,f.o.quiet (by decide),trivial,rfl⟩
  |6,_=>
   have d:=hM.old b 6 (by kernel_rfl) _ h6
   have r:c.getD 8 false=false:=by
    rw[yi];intro s
    have:=A0 hM.down 8 8 6 (by kernel_rfl) s
    rw[hM.not_yet b] at this;cases this
   obtain ⟨I,G,H⟩:=x _ (f.o.one r)
   clear hi
   obtain rfl:=yh l
   go_simp
   exact ⟨_,rfl,f.o.quiet (by decide),trivial,rfl⟩
  |7,_=>
   have d:=hM.old b 14 (by kernel_rfl) _ u
   clear hi
   obtain rfl:=yh l
   go_simp
   exact ⟨_,rfl,f.o.quiet (by decide),trivial,rfl⟩
  |8,_=>
   have O:a.tmps[105]?.getD undef=.func (.func 49) #[] #[]:=hM.dep b 0 105 (by kernel_rfl) (by kernel_rfl)
   have P:a.tmps[110]?.getD undef=pV g (i*51+1):=hM.dep b 5 110 (by kernel_rfl) (by kernel_rfl)
   have U:a.tmps[111]?.getD undef=.map (some mr):=hM.dep b 6 111 (by kernel_rfl) (by kernel_rfl)
   have T:a.tmps[112]?.getD undef=iV i:=hM.dep b 7 112 (by kernel_rfl) (by kernel_rfl)
   have z:=f.o.one (hM.not_yet b)
   have N:=yb (p _ z)
   have M:=yb (EZ (lo:=105) (hi:=113) (by kernel_rfl) hM)
   have E:=yb hM.defers
   have L:Hid (8 < c.size):=yb (by rw[A];show 8 < 9;omega)
   clear hi
   obtain rfl:=yh l
   go_simp
   refine N.o.mono ?_
   rintro e w2 (⟨rfl,n⟩|⟨rfl,n⟩)
   ·exact ⟨_,rfl,⟨fun h=>(by simp[L.o] at h),fun _=>n⟩,trivial,trivial⟩
   ·exact F _ _ E.o M.o n
 ·intro c a w' q hM
  exact y a w' (hM.tmps.trans J) hM.defers (EZ (lo:=105) (hi:=113) (by kernel_rfl) hM) (hM.ext.two (q 8 (show 8 < 9 by omega)))
def Jw(n0:Nat)(w w':World):Prop:=w.heap.size<=w'.heap.size∧∀(b:Nat) (o:Obj),n0<=b->w.heap[b]?=some o->w'.heap[b]?=some o∨∃z a:Value,o=.cells #[z] 90 (0,0)∧w'.heap[b]?=some (.cells #[a] 90 (0,0))
theorem Jw.refl(n0:Nat)(w:World):Jw n0 w w:=⟨ye _,fun _ _ _ h=>.inl h⟩
theorem Jw.below{n0:Nat}{w w':World}(h:Below w.heap.size w w'):Jw n0 w w':=⟨h.size,fun b _ _ hb=>.inl ((h.block b (yf.1 hb).1).trans hb)⟩
theorem Cb.leB{n0:Nat}{w w':World}{m:Nat}{b:LB}(h:Cb w m b)(hl:Jw n0 w w')(c:n0<=m):Cb w' m b:=by
 obtain ⟨es,a,h1,h2⟩:=h
 rcases hl.2 m _ c h1 with h3|⟨z,d,h3,_⟩
 ·exact ⟨es,a,h3,h2⟩
 ·cases h3
def Ig(n0:Nat)(v:Value)(w:World):Prop:=∃b z,v=.pointer (some ⟨b,0,none⟩)∧n0<=b∧w.heap[b]?=some (.cells #[z] 90 (0,0))
theorem Ig.leB{n0:Nat}{v:Value}{w w':World}(h:Ig n0 v w)(hl:Jw n0 w w'):Ig n0 v w':=by
 obtain ⟨b,z,h1,h2,h3⟩:=h
 rcases hl.2 b _ h2 h3 with h4|⟨_,a,_,h4⟩
 ·exact ⟨b,z,h1,h2,h4⟩
 ·exact ⟨b,a,h1,h2,h4⟩
def Ff(n0:Nat)(v:Value)(a:LB)(w:World):Prop:=∃m,v=.map (some m)∧n0<=m∧Cb w m a∧a.Nodup
theorem Ff.leB{n0:Nat}{v:Value}{a:LB}{w w':World}(h:Ff n0 v a w)(hl:Jw n0 w w'):Ff n0 v a w':=by
 obtain ⟨m,h1,h2,h3,h4⟩:=h
 exact ⟨m,h1,h2,h3.leB hl h2,h4⟩
def T6(n0 B:Nat)(h0 h1 h2 h3:Ah)(n0s n1s n2s n3s:LB)(j:Nat)(v:Value)(w:World):Prop:=match j with
 |0=>v=.pointer (some ⟨B,19,none⟩)
 |1=>v=.slice h0.a h0.n h0.c
 |2=>Ff n0 v n0s w
 |3=>v=.pointer (some ⟨B,20,none⟩)
 |4=>v=.slice h1.a h1.n h1.c
 |5=>Ff n0 v n1s w
 |6=>v=.pointer (some ⟨B,21,none⟩)
 |7=>v=.slice h2.a h2.n h2.c
 |8=>Ff n0 v n2s w
 |9=>v=.pointer (some ⟨B,22,none⟩)
 |10=>v=.slice h3.a h3.n h3.c
 |11=>Ff n0 v n3s w
 |12|13|14|15=>Ig n0 v w
 |_=>True
theorem NY{n0 B:Nat}{h0 h1 h2 h3:Ah}{n0s n1s n2s n3s:LB}(j:Nat)(v:Value)(w w':World)(hl:Jw n0 w w')(h:T6 n0 B h0 h1 h2 h3 n0s n1s n2s n3s j v w):T6 n0 B h0 h1 h2 h3 n0s n1s n2s n3s j v w':=by
 unfold T6 at h ⊢
 split at h
 all_goals first|exact h|exact h.leB hl
def TN(n0:Nat)(v:Value)(a:LB)(w:World):Prop:=∃b,v=.pointer (some ⟨b,0,none⟩)∧n0<=b∧b < w.heap.size∧Be w b a
def Uj(n0:Nat)(n0s n1s n2s n3s:LB)(l:Array Bool)(tm:Array Value)(w:World)(q:Nat):Prop:=l.getD (16+q) false=true->TN n0 (tm.getD (4+q) undef) ((([n0s,n1s,n2s,n3s]:List LB))[q]?.getD []) w
structure FO (n0:Nat) (V:World) (n0s n1s n2s n3s:List ByteArray) (l:Array Bool) (tm:Array Value) (w:World):Prop where
 below:Below n0 V w
 apart:∀p q,p < 4->q < 4->p≠q->l.getD (12+p) false=true->l.getD (12+q) false=true->tm.getD (4+p) undef≠tm.getD (4+q) undef
 full:∀q,q < 4->Uj n0 n0s n1s n2s n3s l tm w q
section
variable{n0:Nat}{V w w':World}{n0s n1s n2s n3s:LB}{l:Array Bool}{tm:Array Value}
theorem Be.below{b:Nat}{a:LB}(h:Be w b a)(hb:Below w.heap.size w w'):Be w' b a:=by
 obtain ⟨m,h1,h2⟩:=h
 exact ⟨m,(hb.block b (yf.1 h1).1).trans h1,h2.block (hb.block m h2.lt)⟩
theorem FO.quiet(h:FO n0 V n0s n1s n2s n3s l tm w){i t:Nat}{v:Value}(hi:i < 12)(j:7 < t)(g:n0<=w.heap.size)(hb:Below w.heap.size w w'):FO n0 V n0s n1s n2s n3s (l.setIfInBounds i true) (tm.setIfInBounds t v) w':=by
 refine ⟨h.below.trans (hb.mono g),fun p q f c a d e=>?_,fun q c k=>?_⟩
 ·rw[A9 (by omega)] at d e
  rw[BG (by omega),BG (by omega)]
  exact h.apart p q f c a d e
 ·rw[A9 (by omega)] at k
  rw[BG (by omega)]
  obtain ⟨b,h1,h2,h3,h4⟩:=h.full q c k
  exact ⟨b,h1,h2,yp h3 hb.size,h4.below hb⟩
theorem FO.alloc(h:FO n0 V n0s n1s n2s n3s l tm w){q:Nat}(t:q < 4)(s:n0<=w.heap.size)(n:tm.size=174)(g:∀p,p < 4->l.getD (12+p) false=true->Ig n0 (tm.getD (4+p) undef) w)(m:l.getD (16+q) false=false)(z:Value):
  FO n0 V n0s n1s n2s n3s (l.setIfInBounds (12+q) true) (tm.setIfInBounds (4+q) (.pointer (some ⟨w.heap.size,0,none⟩))) (w.alloc (.cells #[z] 90)):=by
 have hb:Below w.heap.size w (w.alloc (.cells #[z] 90)):=(yg _ _).alloc (ye _) _
 have a:(tm.setIfInBounds (4+q) (pV w.heap.size 0)).getD (4+q) undef=pV w.heap.size 0:=by simp[n,show 4+q < 174 by omega]
 have c:∀p,p < 4->p≠q->(l.setIfInBounds (12+q) true).getD (12+p) false=true->∃b,tm.getD (4+p) undef=pV b 0∧b < w.heap.size:=fun p f d k=>by
  rw[A9 (by omega)] at k
  obtain ⟨b,z,h1,_,h3⟩:=g p f k
  exact ⟨b,h1,(yf.1 h3).1⟩
 refine ⟨h.below.trans (hb.mono s),fun p r f o d i j=>?_,fun p f k=>?_⟩
 ·by_cases e1:p=q
  ·subst e1
   obtain ⟨b,h1,h2⟩:=c r o (xj d) j
   rw[a,BG (by omega),h1]
   intro e;simp at e<;>omega
  ·obtain ⟨b,h1,h2⟩:=c p f e1 i
   by_cases e2:r=q
   ·subst e2
    rw[a,BG (by omega),h1]
    intro e;simp at e<;>omega
   ·rw[BG (by omega),BG (by omega)]
    rw[A9 (by omega)] at i j
    exact h.apart p r f o d i j
 ·rw[A9 (by omega)] at k
  by_cases e1:p=q
  ·subst e1;rw[m] at k;cases k
  ·rw[BG (by omega)]
   obtain ⟨b,h1,h2,h3,h4⟩:=h.full p f k
   exact ⟨b,h1,h2,yp h3 hb.size,h4.below hb⟩
theorem FO.store(h:FO n0 V n0s n1s n2s n3s l tm w){q b m:Nat}{z:Value}(D:q < 4)(C:n0<=b)(hb:w.heap[b]?=some (.cells #[z] 90 (0,0)))(s:tm.getD (4+q) undef=.pointer (some ⟨b,0,none⟩))
 (E:Cb w m ((([n0s,n1s,n2s,n3s]:List LB))[q]?.getD []))(u:l.getD (12+q) false=true)(i:∀p,p < 4->l.getD (16+p) false=true->l.getD (12+p) false=true):
  FO n0 V n0s n1s n2s n3s (l.setIfInBounds (16+q) true) tm (w.setCell ⟨b,0,none⟩ (.map (some m)))∧Jw n0 w (w.setCell ⟨b,0,none⟩ (.map (some m))):=by
 have d:(w.setCell (aV b 0) (.map (some m))).heap[b]?=some (.cells #[.map (some m)] 90 (0,0)):=by
  have:=za w b 0 #[z] 90 (.map (some m)) hb
  rw[this];rfl
 have a:∀c,c≠b->(w.setCell (aV b 0) (.map (some m))).heap[c]?=w.heap[c]?:=fun c hc=>yY w (aV b 0) c _ hc
 have f:∀n j,Cb w n j->Cb (w.setCell (aV b 0) (.map (some m))) n j:=fun n j h=>by
  obtain ⟨es,v,h1,_⟩:=h.size
  exact h.block (a n (fun e=>by rw[e,hb] at h1;cases h1))
 refine ⟨⟨?_,fun p r t B g y A=>?_,fun p t k=>?_⟩,by simp,fun c o hc x=>?_⟩
 ·exact h.below.trans ⟨rfl,rfl,rfl,by simp,fun c hc=>a c (by omega)⟩
 ·rw[A9 (by omega)] at y A
  exact h.apart p r t B g y A
 ·by_cases e1:p=q
  ·subst e1
   exact ⟨b,s,C,by simpa using (yf.1 hb).1,m,d,f _ _ E⟩
  ·rw[A9 (by omega)] at k
   obtain ⟨b',h1,h2,h3,n,h4,h5⟩:=h.full p t k
   have g:b'≠b:=fun e=>h.apart p q t D e1 (i p t k) u (by rw[h1,s,e])
   exact ⟨b',h1,h2,by simpa using h3,n,(a b' g).trans h4,f _ _ h5⟩
 ·by_cases e:c=b
  ·subst e
   rw[hb] at x
   exact .inr ⟨z,.map (some m),(yh x).symm,d⟩
  ·exact .inl ((a c e).trans x)
end
theorem Uk{O:Act}{V:World}{Q:QT}{B:Nat}{h0 h1 h2 h3:Ah}{n0s n1s n2s n3s:LB}(ops:Array Oper)(U:FD Try.f11 11=some ops)
 (R:O.tmps.getD 1 undef=.pointer (some ⟨B,0,none⟩))(hz:O.tmps.size=174)
 (hc:∀W,Below V.heap.size V W->W.cell? ⟨B,19,none⟩=some (.slice h0.a h0.n h0.c)∧W.cell? ⟨B,20,none⟩=some (.slice h1.a h1.n h1.c)∧W.cell? ⟨B,21,none⟩=some (.slice h2.a h2.n h2.c)∧W.cell? ⟨B,22,none⟩=some (.slice h3.a h3.n h3.c))
 (a7:∀W,Below V.heap.size V W->AM W h0 7 0 n0s)(ae:∀W,Below V.heap.size V W->AM W h1 7 0 n1s)(ab:∀W,Below V.heap.size V W->AM W h2 51 0 n2s)(af:∀W,Below V.heap.size V W->AM W h3 12 0 n3s)
 (ad:n0s.length<=100000)(ac:n1s.length<=100000)(a6:n2s.length<=100000)(a1:n3s.length<=100000)
 (S:∀(a:Act) W,a.defers=O.defers->(∀t,(t < 4∨54 < t)->a.tmps.getD t undef=O.tmps.getD t undef)->Below V.heap.size V W->¬ (n0s.Nodup∧n1s.Nodup∧n2s.Nodup∧n3s.Nodup)->Q (.panic (Ek 171)) a W)
 (a2:∀(a:Act) W (bl bc br bf:Nat),a.tmps.size=174->a.defers=O.defers->(∀t,t∉[4,5,6,7,43,44,45,46,47,48,49,50,51,52,53,54]->a.tmps.getD t undef=O.tmps.getD t undef)->
   a.tmps.getD 4 undef=.pointer (some ⟨bl,0,none⟩)->a.tmps.getD 5 undef=.pointer (some ⟨bc,0,none⟩)->a.tmps.getD 6 undef=.pointer (some ⟨br,0,none⟩)->a.tmps.getD 7 undef=.pointer (some ⟨bf,0,none⟩)->
   Be W bl n0s->Be W bc n1s->Be W br n2s->Be W bf n3s->(V.heap.size<=bl∧bl < W.heap.size)->(V.heap.size<=bc∧bc < W.heap.size)->(V.heap.size<=br∧br < W.heap.size)->(V.heap.size<=bf∧bf < W.heap.size)->Below V.heap.size V W->(n0s.Nodup∧n1s.Nodup∧n2s.Nodup∧n3s.Nodup)->Q .normal a W):
  (Code.region 11 ops true).wp Try.prog Q O V:=by
 obtain rfl:=yh ((rfl:FD Try.f11 11=some _).symm.trans U)
 clear U
 have T:∀ {aa:Array Bool->Array Value->World->Prop} {Pp:Nat->Value->World->Prop} {f:Array Bool} {a:Act} {w':World},Jb _ O aa Pp f a w'->∀t,t∉[4,5,6,7,43,44,45,46,47,48,49,50,51,52,53,54]->a.tmps.getD t undef=O.tmps.getD t undef:=fun hM t Z=>by
  refine hM.free t fun mm ag o E hd=>Z ?_
  have hs:=MH (ops:=(Try.f11.body.bind (Ds 11)).getD #[]) (p:=fun o=>match o.dst with|some k=>decide (k∈[4,5,6,7,43,44,45,46,47,48,49,50,51,52,53,54])|none=>true) (by kernel_rfl) E
  rw[hd] at hs
  exact yv hs
 refine Db (by kernel_rfl) (FO V.heap.size V n0s n1s n2s n3s) (T6 V.heap.size B h0 h1 h2 h3 n0s n1s n2s n3s) (fun _=>Jw V.heap.size) (by kernel_rfl) (by rw[hz];kernel_rfl) (by kernel_rfl) (fun _ j v w w' _ _ hl h=>NY j v w w' hl h) ?_ ?_ ?_
 ·refine ⟨(yg _ _).drew,fun p q L hq ah k1 k2=>?_,fun q hq k=>?_⟩
  ·exfalso
   match p,L with
   |0,_=>cases k1
   |1,_=>cases k1
   |2,_=>cases k1
   |3,_=>cases k1
  ·exfalso
   match q,hq with
   |0,_=>cases k
   |1,_=>cases k
   |2,_=>cases k
   |3,_=>cases k
 ·intro ix f a w' hM i o E
  have r:=yb hM.ext
  have a8:=(yf.1 E).1
  have a0:V.heap.size<=w'.heap.size:=hM.ext.below.size
  have l:=yb a0
  have N:Hid (a.tmps.size=174):=yb (hM.tmps.trans hz)
  have HF:=yb (T hM)
  have P:=yb hM.defers
  have K:Hid (∀p,p < 4->f.getD (12+p) false=true->Ig V.heap.size (a.tmps.getD (4+p) undef) w'):=yb (fun p L k=>by
   match p,L with
   |0,_=>exact hM.done 12 k _ 4 rfl rfl
   |1,_=>exact hM.done 13 k _ 5 rfl rfl
   |2,_=>exact hM.done 14 k _ 6 rfl rfl
   |3,_=>exact hM.done 15 k _ 7 rfl rfl)
  clear a0
  match ix,a8 with
  |0,_=>
   have d:=hM.old i 1 (by kernel_rfl) _ R
   obtain rfl:=yh E
   go_simp
   exact ⟨_,rfl,r.o.quiet (by decide) (by decide) l.o (yg _ _),Jw.refl _ _,rfl⟩
  |1,_=>
   have d:a.tmps[43]?.getD undef=pV B 19:=hM.dep i 0 43 (by kernel_rfl) (by kernel_rfl)
   obtain ⟨x0,x1,x2,x3⟩:=hc _ r.o.below
   obtain rfl:=yh E
   go_simp
   exact ⟨_,rfl,r.o.quiet (by decide) (by decide) l.o (yg _ _),Jw.refl _ _,rfl⟩
  |2,_=>
   have d:a.tmps[44]?.getD undef=.slice h0.a h0.n h0.c:=hM.dep i 1 44 (by kernel_rfl) (by kernel_rfl)
   have M:=yb (Qt (a7 _ r.o.below) ad)
   unfold Ah.v at M
   obtain rfl:=yh E
   go_simp
   refine M.o.mono ?_
   rintro e w2 ⟨g,⟨s,m,rfl,G,H⟩|⟨s,rfl⟩⟩
   ·exact ⟨_,rfl,r.o.quiet (by decide) (by decide) l.o g,Jw.below g,m,rfl,yr l.o G,H,s⟩
   ·exact S _ _ P.o (fun t Z=>HF.o t (by simp;omega)) (r.o.below.trans (g.mono l.o)) (fun h=>s h.1)
  |3,_=>
   have d:=hM.old i 1 (by kernel_rfl) _ R
   obtain rfl:=yh E
   go_simp
   exact ⟨_,rfl,r.o.quiet (by decide) (by decide) l.o (yg _ _),Jw.refl _ _,rfl⟩
  |4,_=>
   have d:a.tmps[46]?.getD undef=pV B 20:=hM.dep i 3 46 (by kernel_rfl) (by kernel_rfl)
   obtain ⟨x0,x1,x2,x3⟩:=hc _ r.o.below
   obtain rfl:=yh E
   go_simp
   exact ⟨_,rfl,r.o.quiet (by decide) (by decide) l.o (yg _ _),Jw.refl _ _,rfl⟩
  |5,_=>
   have d:a.tmps[47]?.getD undef=.slice h1.a h1.n h1.c:=hM.dep i 4 47 (by kernel_rfl) (by kernel_rfl)
   have M:=yb (OR (ae _ r.o.below) ac)
   unfold Ah.v at M
   obtain rfl:=yh E
   go_simp
   refine M.o.mono ?_
   rintro e w2 ⟨g,⟨s,m,rfl,G,H⟩|⟨s,rfl⟩⟩
   ·exact ⟨_,rfl,r.o.quiet (by decide) (by decide) l.o g,Jw.below g,m,rfl,yr l.o G,H,s⟩
   ·exact S _ _ P.o (fun t Z=>HF.o t (by simp;omega)) (r.o.below.trans (g.mono l.o)) (fun h=>s h.2.1)
  |6,_=>
   have d:=hM.old i 1 (by kernel_rfl) _ R
   obtain rfl:=yh E
   go_simp
   exact ⟨_,rfl,r.o.quiet (by decide) (by decide) l.o (yg _ _),Jw.refl _ _,rfl⟩
  |7,_=>
   have d:a.tmps[49]?.getD undef=pV B 21:=hM.dep i 6 49 (by kernel_rfl) (by kernel_rfl)
   obtain ⟨x0,x1,x2,x3⟩:=hc _ r.o.below
   obtain rfl:=yh E
   go_simp
   exact ⟨_,rfl,r.o.quiet (by decide) (by decide) l.o (yg _ _),Jw.refl _ _,rfl⟩
  |8,_=>
   have d:a.tmps[50]?.getD undef=.slice h2.a h2.n h2.c:=hM.dep i 7 50 (by kernel_rfl) (by kernel_rfl)
   have M:=yb (Ny (ab _ r.o.below) a6)
   unfold Ah.v at M
   obtain rfl:=yh E
   go_simp
   refine M.o.mono ?_
   rintro e w2 ⟨g,⟨s,m,rfl,G,H⟩|⟨s,rfl⟩⟩
   ·exact ⟨_,rfl,r.o.quiet (by decide) (by decide) l.o g,Jw.below g,m,rfl,yr l.o G,H,s⟩
   ·exact S _ _ P.o (fun t Z=>HF.o t (by simp;omega)) (r.o.below.trans (g.mono l.o)) (fun h=>s h.2.2.1)
  |9,_=>
   have d:=hM.old i 1 (by kernel_rfl) _ R
   obtain rfl:=yh E
   go_simp
   exact ⟨_,rfl,r.o.quiet (by decide) (by decide) l.o (yg _ _),Jw.refl _ _,rfl⟩
  |10,_=>
   have d:a.tmps[52]?.getD undef=pV B 22:=hM.dep i 9 52 (by kernel_rfl) (by kernel_rfl)
   obtain ⟨x0,x1,x2,x3⟩:=hc _ r.o.below
   obtain rfl:=yh E
   go_simp
   exact ⟨_,rfl,r.o.quiet (by decide) (by decide) l.o (yg _ _),Jw.refl _ _,rfl⟩
  |11,_=>
   have d:a.tmps[53]?.getD undef=.slice h3.a h3.n h3.c:=hM.dep i 10 53 (by kernel_rfl) (by kernel_rfl)
   have M:=yb (OS (af _ r.o.below) a1)
   unfold Ah.v at M
   obtain rfl:=yh E
   go_simp
   refine M.o.mono ?_
   rintro e w2 ⟨g,⟨s,m,rfl,G,H⟩|⟨s,rfl⟩⟩
   ·exact ⟨_,rfl,r.o.quiet (by decide) (by decide) l.o g,Jw.below g,m,rfl,yr l.o G,H,s⟩
   ·exact S _ _ P.o (fun t Z=>HF.o t (by simp;omega)) (r.o.below.trans (g.mono l.o)) (fun h=>s h.2.2.2)
  |12,_=>
   have A:f.getD (16+0) false=false:=by
    rw[yi];intro Y
    have:=A0 hM.down 8 16 12 (by kernel_rfl) Y
    rw[hM.not_yet i] at this;cases this
   have J:=yb A
   clear A
   obtain rfl:=yh E
   go_simp
   exact ⟨_,rfl,r.o.alloc (q:=0) (by decide) l.o N.o K.o J.o _,Jw.below ((yg _ _).alloc (ye _) _),_,_,rfl,l.o,World.alloc_heap_new _ _⟩
  |13,_=>
   have A:f.getD (16+1) false=false:=by
    rw[yi];intro Y
    have:=A0 hM.down 8 17 13 (by kernel_rfl) Y
    rw[hM.not_yet i] at this;cases this
   have J:=yb A
   clear A
   obtain rfl:=yh E
   go_simp
   exact ⟨_,rfl,r.o.alloc (q:=1) (by decide) l.o N.o K.o J.o _,Jw.below ((yg _ _).alloc (ye _) _),_,_,rfl,l.o,World.alloc_heap_new _ _⟩
  |14,_=>
   have A:f.getD (16+2) false=false:=by
    rw[yi];intro Y
    have:=A0 hM.down 8 18 14 (by kernel_rfl) Y
    rw[hM.not_yet i] at this;cases this
   have J:=yb A
   clear A
   obtain rfl:=yh E
   go_simp
   exact ⟨_,rfl,r.o.alloc (q:=2) (by decide) l.o N.o K.o J.o _,Jw.below ((yg _ _).alloc (ye _) _),_,_,rfl,l.o,World.alloc_heap_new _ _⟩
  |15,_=>
   have A:f.getD (16+3) false=false:=by
    rw[yi];intro Y
    have:=A0 hM.down 8 19 15 (by kernel_rfl) Y
    rw[hM.not_yet i] at this;cases this
   have J:=yb A
   clear A
   obtain rfl:=yh E
   go_simp
   exact ⟨_,rfl,r.o.alloc (q:=3) (by decide) l.o N.o K.o J.o _,Jw.below ((yg _ _).alloc (ye _) _),_,_,rfl,l.o,World.alloc_heap_new _ _⟩
  |16,_=>
   have hb:Ig V.heap.size (a.tmps[4]?.getD undef) w':=hM.dep i 12 4 (by kernel_rfl) (by kernel_rfl)
   have G:Ff V.heap.size (a.tmps[45]?.getD undef) n0s w':=hM.dep i 2 45 (by kernel_rfl) (by kernel_rfl)
   obtain ⟨b,z,X,C,g⟩:=hb
   obtain ⟨m,d2,F,x,I⟩:=G
   have D:∀p,p < 4->f.getD (16+p) false=true->f.getD (12+p) false=true:=fun p L k=>by
    match p,L with
    |0,_=>exact A0 hM.down 8 16 12 (by kernel_rfl) k
    |1,_=>exact A0 hM.down 8 17 13 (by kernel_rfl) k
    |2,_=>exact A0 hM.down 8 18 14 (by kernel_rfl) k
    |3,_=>exact A0 hM.down 8 19 15 (by kernel_rfl) k
   have y:=yb (r.o.store (q:=0) (m:=m) (by decide) C g (by rw[yG];exact X) x (hM.came i 12 (by kernel_rfl)) D)
   have c1:w'.cell? (aV b 0)=some z:=by simp[World.cell?,g]
   have c2:w'.frozen? (aV b 0)=false:=by simp[World.frozen?,g]
   clear C g F x I D
   obtain rfl:=yh E
   go_simp
   exact ⟨undef,rfl,y.o.1,y.o.2,trivial⟩
  |17,_=>
   have hb:Ig V.heap.size (a.tmps[5]?.getD undef) w':=hM.dep i 13 5 (by kernel_rfl) (by kernel_rfl)
   have G:Ff V.heap.size (a.tmps[48]?.getD undef) n1s w':=hM.dep i 5 48 (by kernel_rfl) (by kernel_rfl)
   obtain ⟨b,z,X,C,g⟩:=hb
   obtain ⟨m,d2,F,x,I⟩:=G
   have D:∀p,p < 4->f.getD (16+p) false=true->f.getD (12+p) false=true:=fun p L k=>by
    match p,L with
    |0,_=>exact A0 hM.down 8 16 12 (by kernel_rfl) k
    |1,_=>exact A0 hM.down 8 17 13 (by kernel_rfl) k
    |2,_=>exact A0 hM.down 8 18 14 (by kernel_rfl) k
    |3,_=>exact A0 hM.down 8 19 15 (by kernel_rfl) k
   have y:=yb (r.o.store (q:=1) (m:=m) (by decide) C g (by rw[yG];exact X) x (hM.came i 13 (by kernel_rfl)) D)
   have c1:w'.cell? (aV b 0)=some z:=by simp[World.cell?,g]
   have c2:w'.frozen? (aV b 0)=false:=by simp[World.frozen?,g]
   clear C g F x I D
   obtain rfl:=yh E
   go_simp
   exact ⟨undef,rfl,y.o.1,y.o.2,trivial⟩
  |18,_=>
   have hb:Ig V.heap.size (a.tmps[6]?.getD undef) w':=hM.dep i 14 6 (by kernel_rfl) (by kernel_rfl)
   have G:Ff V.heap.size (a.tmps[51]?.getD undef) n2s w':=hM.dep i 8 51 (by kernel_rfl) (by kernel_rfl)
   obtain ⟨b,z,X,C,g⟩:=hb
   obtain ⟨m,d2,F,x,I⟩:=G
   have D:∀p,p < 4->f.getD (16+p) false=true->f.getD (12+p) false=true:=fun p L k=>by
    match p,L with
    |0,_=>exact A0 hM.down 8 16 12 (by kernel_rfl) k
    |1,_=>exact A0 hM.down 8 17 13 (by kernel_rfl) k
    |2,_=>exact A0 hM.down 8 18 14 (by kernel_rfl) k
    |3,_=>exact A0 hM.down 8 19 15 (by kernel_rfl) k
   have y:=yb (r.o.store (q:=2) (m:=m) (by decide) C g (by rw[yG];exact X) x (hM.came i 14 (by kernel_rfl)) D)
   have c1:w'.cell? (aV b 0)=some z:=by simp[World.cell?,g]
   have c2:w'.frozen? (aV b 0)=false:=by simp[World.frozen?,g]
   clear C g F x I D
   obtain rfl:=yh E
   go_simp
   exact ⟨undef,rfl,y.o.1,y.o.2,trivial⟩
  |19,_=>
   have hb:Ig V.heap.size (a.tmps[7]?.getD undef) w':=hM.dep i 15 7 (by kernel_rfl) (by kernel_rfl)
   have G:Ff V.heap.size (a.tmps[54]?.getD undef) n3s w':=hM.dep i 11 54 (by kernel_rfl) (by kernel_rfl)
   obtain ⟨b,z,X,C,g⟩:=hb
   obtain ⟨m,d2,F,x,I⟩:=G
   have D:∀p,p < 4->f.getD (16+p) false=true->f.getD (12+p) false=true:=fun p L k=>by
    match p,L with
    |0,_=>exact A0 hM.down 8 16 12 (by kernel_rfl) k
    |1,_=>exact A0 hM.down 8 17 13 (by kernel_rfl) k
    |2,_=>exact A0 hM.down 8 18 14 (by kernel_rfl) k
    |3,_=>exact A0 hM.down 8 19 15 (by kernel_rfl) k
   have y:=yb (r.o.store (q:=3) (m:=m) (by decide) C g (by rw[yG];exact X) x (hM.came i 15 (by kernel_rfl)) D)
   have c1:w'.cell? (aV b 0)=some z:=by simp[World.cell?,g]
   have c2:w'.frozen? (aV b 0)=false:=by simp[World.frozen?,g]
   clear C g F x I D
   obtain rfl:=yh E
   go_simp
   exact ⟨undef,rfl,y.o.1,y.o.2,trivial⟩
 ·intro f a w' u hM
  obtain ⟨bl,l1,l2,l3,l4⟩:=hM.ext.full 0 (by decide) (u 16 (show 16 < 20 by omega))
  obtain ⟨bc,c1,c2,c3,c4⟩:=hM.ext.full 1 (by decide) (u 17 (show 17 < 20 by omega))
  obtain ⟨br,r1,r2,r3,r4⟩:=hM.ext.full 2 (by decide) (u 18 (show 18 < 20 by omega))
  obtain ⟨bf,f1,f2,f3,f4⟩:=hM.ext.full 3 (by decide) (u 19 (show 19 < 20 by omega))
  obtain ⟨_,_,_,_,g0⟩:Ff V.heap.size _ n0s w':=hM.done 2 (u 2 (show 2 < 20 by omega)) _ 45 rfl rfl
  obtain ⟨_,_,_,_,g1⟩:Ff V.heap.size _ n1s w':=hM.done 5 (u 5 (show 5 < 20 by omega)) _ 48 rfl rfl
  obtain ⟨_,_,_,_,g2⟩:Ff V.heap.size _ n2s w':=hM.done 8 (u 8 (show 8 < 20 by omega)) _ 51 rfl rfl
  obtain ⟨_,_,_,_,g3⟩:Ff V.heap.size _ n3s w':=hM.done 11 (u 11 (show 11 < 20 by omega)) _ 54 rfl rfl
  exact a2 a w' bl bc br bf (hM.tmps.trans hz) hM.defers (T hM) l1 c1 r1 f1 l4 c4 r4 f4 ⟨l2,l3⟩ ⟨c2,c3⟩ ⟨r2,r3⟩ ⟨f2,f3⟩ hM.ext.below ⟨g0,g1,g2,g3⟩
theorem TO{Q:QT}{w V W5:World}{x:Aq}{L:Bz}{N M:NP}{bl bc br bf Bf:Nat}(hQ:KC Q w x)(p:I3 w x W5 L N M bl bc br bf Bf V.heap.size)
 (O:RL w.heap.size W5 (Tb.of x) (CG W5 L x) V.heap.size (.cells #[.pointer (some ⟨w.heap.size+1,0,none⟩)] 52) 0 V)(ac:Bf < V.heap.size)(ai:br < V.heap.size)(ak:W5.heap.size=V.heap.size+1)
 (u0 u1 u8 u9 u10 u11 u12 u14 u15 u16 u17 u18 u19 u20 u21 u22 u23 u24 u25 u26 u27 u28 u29 u30 u31 u32 u33 u34 u35 u36 u37 u38 u39 u40 u41 u42 u43 u44 u45 u46 u47 u48 u49 u50 u51 u52 u53 u54 u55 u56 u57 u58 u59 u60 u61 u62 u63 u64 u65 u66 u67 u68 u69 u70 u71 u72 u73 u74 u75 u76 u77 u78 u79 u80 u81 u82 u83 u84 u85 u86 u87 u88 u89 u90 u91 u92 u93 u94 u95 u96 u97 u98 u99 u100 u101 u102 u103 u104 u105 u106 u107 u108 u109 u110 u111 u112 u113 u114 u115 u116 u117 u118 u119 u120 u121 u122 u123 u124 u125 u126 u127 u128 u129 u130 u131 u132 u133 u134 u135 u136 u137 u138 u139 u140 u141 u142 u143 u144 u145 u146 u147 u148 u149 u150 u151 u152 u153 u154 u155 u156 u157 u158 u159 u160 u161 u162 u163 u164 u165 u166 u167 u168 u169 u170 u171 u172 u173:Value):
  Gf 11 Try.prog (DO 19 (Try.f11.body.getD .skip)) Q {tmps:=#[u0,u1,.pointer (some ⟨w.heap.size+1,0,none⟩),.pointer (some ⟨w.heap.size+2,0,none⟩),.pointer (some ⟨bl,0,none⟩),.pointer (some ⟨bc,0,none⟩),.pointer (some ⟨br,0,none⟩),.pointer (some ⟨bf,0,none⟩),u8,u9,u10,u11,u12,.pointer (some ⟨Bf,0,none⟩),u14,u15,u16,u17,u18,u19,u20,u21,u22,u23,u24,u25,u26,u27,u28,u29,u30,u31,u32,u33,u34,u35,u36,u37,u38,u39,u40,u41,u42,u43,u44,u45,u46,u47,u48,u49,u50,u51,u52,u53,u54,u55,u56,u57,u58,u59,u60,u61,u62,u63,u64,u65,u66,u67,u68,u69,u70,u71,u72,u73,u74,u75,u76,u77,u78,u79,u80,u81,u82,u83,u84,u85,u86,u87,u88,u89,u90,u91,u92,u93,u94,u95,u96,u97,u98,u99,u100,u101,u102,u103,u104,u105,u106,u107,u108,u109,u110,u111,u112,u113,u114,u115,u116,u117,u118,u119,u120,u121,u122,u123,u124,u125,u126,u127,u128,u129,u130,u131,u132,u133,u134,u135,u136,u137,u138,u139,u140,u141,u142,u143,u144,u145,u146,u147,u148,u149,u150,u151,u152,u153,u154,u155,u156,u157,u158,u159,u160,u161,u162,u163,u164,u165,u166,u167,u168,u169,u170,u171,u172,u173],defers:=[J8 w.heap.size]} V:=by
 have Y:=p.ls
 have R:w.heap.size+3<=V.heap.size:=by
  obtain ⟨v,he⟩:=p.amid.e
  have h1:=(yf.1 he).1
  rcases zO (w.heap.size+2) V.heap.size with h|h
  ·omega
  ·have h2:w.heap.size+2=V.heap.size:=by omega
   rw[h2,p.box] at he
   cases he
 have l:L.reaches.ok:=p.ps.reaches.ok
 have X:∀k wr,RL w.heap.size W5 (Tb.of x) (CG W5 L x) V.heap.size (.cells #[.pointer (some ⟨w.heap.size+1,0,none⟩)] 52) k wr->wr.cell? ⟨w.heap.size+1,21,none⟩=some L.reaches.v:=fun k wr h=>by
  rw[<-h.cell (by omega),h.2.cells _ _ (by omega) (G2 ⟨_,Y▸p.ps.ty,rfl⟩),<-Y]
  exact p.ps.hreaches
 have J:L.reaches.n<=140737488355328:=l.1
 have U:L.reaches.n=x.reaches.length:=p.ps.reaches.1
 have r:∀k wr,RL w.heap.size W5 (Tb.of x) (CG W5 L x) V.heap.size (.cells #[.pointer (some ⟨w.heap.size+1,0,none⟩)] 52) k wr->wr.cell? ⟨Bf,0,none⟩=some (.func (.func 49) #[] #[]):=fun k wr h=>by
  rw[<-h.cell ac];exact KG p.find (by simp) (Ho (by decide)) h.2
 obtain ⟨mr,af⟩:∃mr,∀k wr,RL w.heap.size W5 (Tb.of x) (CG W5 L x) V.heap.size (.cells #[.pointer (some ⟨w.heap.size+1,0,none⟩)] 52) k wr->wr.cell? ⟨br,0,none⟩=some (.map (some mr))∧Cb wr mr (x.reaches.map (·.name)):=by
  obtain ⟨m,h1,h2⟩:=p.reaches
  obtain ⟨es,au,h3,_⟩:=h2.size
  have ax:m < V.heap.size:=by
   rcases zO m V.heap.size with h|h
   ·exact h
   ·have h4:m=V.heap.size:=by have:=h2.lt;omega
    rw[h4,p.box] at h3;cases h3
  refine ⟨m,fun k wr h=>⟨?_,?_⟩⟩
  ·rw[<-h.cell ai];exact KG h1 (by simp) (Ho (by decide)) h.2
  ·refine h2.block ?_
   rw[<-h.heap ax]
   exact h.2.same m h2.lt (KF fun t ⟨c,hc⟩=>by rw[h3] at hc;cases hc)
 have a6:=yb X;have S:=yb r;have Z:=yb af
 have HQ:=yb hQ;have D:=yb p;have b4:=yb R;have b3:=yb ak;have HN:=yb U
 have an:=yb O
 have u:Hid (∀k tm wr,RL w.heap.size W5 (Tb.of x) (CG W5 L x) V.heap.size (.cells #[.pointer (some ⟨w.heap.size+1,0,none⟩)] 52) k wr->Ll w.heap.size tm->Ay x=170->Q (.panic (Ek 170)) {tmps:=tm,defers:=[J8 w.heap.size]} wr):=yb (fun k tm wr h hv H=>by
  have:=hQ.fail tm wr hv (RL.amid p.amid h R) (by rw[H];decide)
  rw[H] at this;exact this)
 have f:=X 0 V O
 have aj:=p.ps.reaches.2.2
 have ap:=yb aj
 generalize ah:L.reaches=rr at f J U
 obtain ⟨ra,rn,rc⟩:=rr
 have q:=yb ah
 unfold Ah.v at f
 simp only at f J
 clear Y R l X U r af hQ p O ac ai ak aj ah
 unfold J8
 refine Ac (A6 ?_)
 go_wp2
 clear f
 go_loopw [91] (fun iv wr=>∃i:Nat,iv=.int .i64 i∧i<=rn∧Hid (RL w.heap.size W5 (Tb.of x) (CG W5 L x) V.heap.size (.cells #[.pointer (some ⟨w.heap.size+1,0,none⟩)] 52) i wr)) (fun iv _=>rn - (intOf iv).toNat)
 case atStart=>exact ⟨0,rfl,yz _,an⟩
 case round=>
  obtain ⟨i,rfl,hi,T⟩:=hrel
  by_cases ag:i < rn
  ·have hl:i < x.reaches.length:=by rw[<-HN.o,q.o];exact ag
   obtain ⟨g,ha,hg,ty,a2⟩:=ap.o i hl
   rw[q.o] at ha
   simp only at ha
   subst ha
   have hX:=P2 D.o.ps hl (by rw[q.o])
   have b:=xq hX
   have s:=D.o.uok _ b
   have a7:g < V.heap.size:=by
    have h1:=(D.o.hN g hg).2
    rcases zO g V.heap.size with h|h
    ·exact h
    ·have h4:g=V.heap.size:=by have:=b3.o;omega
     obtain ⟨c,hc⟩:=ty
     rw[h4,D.o.box] at hc;cases hc
   have P:(x.reaches[i].frm.name).size<=maxLen:=s.len
   generalize x.reaches[i].frm.name=nm at hX b s P
   generalize x.reaches[i].frm.n=un at hX b s
   have HX:=yb hX;have I:=yb b;have a1:=yb s;have F:=yb a7;have K:=yb P
   have aq:(i:Int) < (rn:Int):=by omega
   have b7:Hid (i < (x.reaches.map (·.name)).length):=yb (by rw[yP];exact hl)
   clear hX b s a7 P hg ty a2 hl
   by_cases h0:i=0
   ·subst h0
    obtain ⟨c0,⟨z,c1,A⟩,cf⟩:=T.o.read a1.o F.o
    simp only[Nat.zero_mul,yA] at c0 c1 A
    obtain rfl:=A (by simp)
    have b8:wr.cell? ⟨w.heap.size+1,21,none⟩=some (.slice (some ⟨g,0,none⟩) rn rc):=by
     have h:=a6.o _ _ T.o
     rw[q.o] at h;exact h
    clear cf A
    cases hb:J7 (Tb.of x) ⟨g,0*51+1,if (0:Nat)=0 then 0 else 6,(0:Nat),nm,z⟩ with
    |true=>
     have HB:=yb hb
     obtain ⟨ab,am⟩:nm.size=0∧z=0:=by
      have h:=hb
      unfold J7 Gq at h
      simpa using h
     have ay:nm=⟨#[]⟩:=NX ((F5 nm).1 ab)
     clear hb ab
     subst am
     subst ay
     go_wp2_with (first|(go_at_call 50;refine (Cu _ _).mono ?_;rintro e w5 ⟨rfl,a0⟩;obtain rfl:=a0.symm))
     exact ⟨⟨1,rfl,by omega,yb (T.o.skip HX.o (by simp) HB.o)⟩,by simp[intOf];omega⟩
    |false=>
     have y:=yb (D.o.bad I.o hb)
     have al:¬ (nm.size=0∧z=0):=by
      have h:=hb
      unfold J7 Gq at h
      simpa using h
     have ao:=yb al
     clear hb al
     go_wp2_with (first|(exact absurd ⟨(F5 _).2 (by assumption),(by assumption)⟩ ao.o)|(go_at_call 50;refine (Cp _ _).mono ?_;rintro e w5 ⟨rfl,a0⟩;obtain rfl:=a0.symm))
     all_goals first
      |exact u.o _ _ _ T.o ⟨rfl,rfl⟩ y.o
      |fail
   ·have ad:=yb T.o.drew
    have h6:(if i=0 then (0:Int) else 6)=6:=by rw[yu h0]
    have hS:∀W,RL w.heap.size W5 (Tb.of x) (CG W5 L x) V.heap.size (.cells #[.pointer (some ⟨w.heap.size+1,0,none⟩)] 52) i W->W.cell? ⟨Bf,0,none⟩=some (.func (.func 49) #[] #[])∧W.cell? ⟨w.heap.size+1,21,none⟩=some (.slice (some ⟨g,0,none⟩) rn rc)∧W.cell? ⟨br,0,none⟩=some (.map (some mr)):=fun W h=>⟨S.o _ _ h,by have h:=a6.o _ _ h;rw[q.o] at h;exact h,(Z.o _ _ h).1⟩
    have HS:=yb hS
    have b9:((i:Int)==0)=false:=by simp;omega
    have b5:=yb h6
    have G:=yb ag
    cases hb:J7 (Tb.of x) ⟨g,i*51+1,if i=0 then 0 else 6,(i:Int),nm,un⟩ with
    |true=>
     have HB:=yb hb
     rw[h6] at hb
     obtain ⟨j,hp,hv,a8,av⟩:=G8 (to:=6) (by decide) hb
     have d:Hid (∀W,RL w.heap.size W5 (Tb.of x) (CG W5 L x) V.heap.size (.cells #[.pointer (some ⟨w.heap.size+1,0,none⟩)] 52) i W->Calls Try.prog 49 #[.pointer (some ⟨g,i*51+1,none⟩),.map (some mr),.int .i64 i] W fun e w'=>(e=.returned (.tuple #[])∧RL w.heap.size W5 (Tb.of x) (CG W5 L x) V.heap.size (.cells #[.pointer (some ⟨w.heap.size+1,0,none⟩)] 52) (i+1) w')∨(e=.panicked (Ek 170)∧False)):=yb (fun W h=>by
      obtain ⟨c0,⟨z,c1,A⟩,cf⟩:=h.read a1.o F.o
      refine (FY (most:=(i:Int)) c0 c1 cf (Z.o _ _ h).2 K.o hp (a8 rfl)).mono ?_
      rintro e w2 ⟨rfl,rfl⟩
      refine .inl ⟨rfl,?_⟩
      have h:=h.next D.o.uok HX.o F.o (by simp only;rw[h6];decide) HB.o
      simp only[h6] at h
      rw[show Ft (Tb.of x) (CF 6) nm=_ from hv] at h
      exact h)
     clear hb hp hv a8 av h6 hS h0
     go_wp2_with fail
     refine TA (B:=w.heap.size) (Bf:=Bf) (g:=g) (rn:=rn) (rc:=rc) (br:=br) (mr:=mr) (i:=i) (R1:=fun W=>RL w.heap.size W5 (Tb.of x) (CG W5 L x) V.heap.size (.cells #[.pointer (some ⟨w.heap.size+1,0,none⟩)] 52) i W) (R2:=fun W=>RL w.heap.size W5 (Tb.of x) (CG W5 L x) V.heap.size (.cells #[.pointer (some ⟨w.heap.size+1,0,none⟩)] 52) (i+1) W) (R3:=fun _=>False) _ ?_ ?_ ?_ ?_ ?_ ?_ ?_ ?_ ?_ ?_ ?_ ?_
     ·rfl
     ·rfl
     ·rfl
     ·rfl
     ·rfl
     ·rfl
     ·exact G.o
     ·exact ad.o
     ·exact HS.o
     ·exact d.o
     ·exact fun _ _ _ _ h=>h.elim
     ·intro a W ae E C aa
      have ar:=yb aa
      obtain ⟨v105,v106,v107,v108,v109,v110,v111,v112,v113,rfl⟩:∃v105 v106 v107 v108 v109 v110 v111 v112 v113:Value,a={tmps:=#[u0,u1,.pointer (some ⟨w.heap.size+1,0,none⟩),.pointer (some ⟨w.heap.size+2,0,none⟩),.pointer (some ⟨bl,0,none⟩),.pointer (some ⟨bc,0,none⟩),.pointer (some ⟨br,0,none⟩),.pointer (some ⟨bf,0,none⟩),u8,u9,u10,u11,u12,.pointer (some ⟨Bf,0,none⟩),.int .i64 i,u15,u16,u17,u18,u19,u20,u21,u22,u23,u24,u25,u26,u27,u28,u29,u30,u31,u32,u33,u34,u35,u36,u37,u38,u39,u40,u41,u42,u43,u44,u45,u46,u47,u48,u49,u50,u51,u52,u53,u54,u55,u56,u57,u58,u59,u60,u61,u62,u63,u64,u65,u66,u67,u68,u69,u70,u71,u72,u73,u74,u75,u76,u77,u78,u79,u80,u81,u82,u83,u84,u85,u86,u87,.pointer (some ⟨w.heap.size+1,21,none⟩),.slice (some ⟨g,0,none⟩) rn rc,.int .i64 rn,.int .i64 i,.bool true,.int .i64 i,.int .i64 i,.bool false,u96,u97,u98,u99,u100,u101,u102,u103,u104,v105,v106,v107,v108,v109,v110,v111,v112,v113,u114,u115,u116,u117,u118,u119,u120,u121,u122,u123,u124,u125,u126,u127,u128,u129,u130,u131,u132,u133,u134,u135,u136,u137,u138,u139,u140,u141,u142,u143,u144,u145,u146,u147,u148,u149,u150,u151,u152,u153,u154,u155,u156,u157,u158,u159,u160,u161,u162,u163,u164,u165,u166,u167,u168,u169,u170,u171,u172,u173],defers:=[J8 w.heap.size]}:=by
       refine ⟨a.tmps.getD 105 undef,a.tmps.getD 106 undef,a.tmps.getD 107 undef,a.tmps.getD 108 undef,a.tmps.getD 109 undef,a.tmps.getD 110 undef,a.tmps.getD 111 undef,a.tmps.getD 112 undef,a.tmps.getD 113 undef,(JW [105,106,107,108,109,110,111,112,113] (ae.trans rfl) E (fun t ht=>C t ?_)).trans (by kernel_rfl)⟩
       simp at ht;omega
      clear ae E C aa
      unfold J8
      go_wp2
      exact ⟨⟨i+1,by push_cast;rfl,by omega,ar⟩,by simp[intOf];omega⟩
    |false=>
     have y:=yb (D.o.bad I.o hb)
     rw[h6] at hb
     have hn:=G9 (to:=6) (by decide) hb
     have d:Hid (∀W,RL w.heap.size W5 (Tb.of x) (CG W5 L x) V.heap.size (.cells #[.pointer (some ⟨w.heap.size+1,0,none⟩)] 52) i W->Calls Try.prog 49 #[.pointer (some ⟨g,i*51+1,none⟩),.map (some mr),.int .i64 i] W fun e w'=>(e=.returned (.tuple #[])∧False)∨(e=.panicked (Ek 170)∧RL w.heap.size W5 (Tb.of x) (CG W5 L x) V.heap.size (.cells #[.pointer (some ⟨w.heap.size+1,0,none⟩)] 52) i w')):=yb (fun W h=>by
      obtain ⟨c0,⟨z,c1,A⟩,cf⟩:=h.read a1.o F.o
      refine (Hk (most:=(i:Int)) c0 (Z.o _ _ h).2 K.o (fun j hp=>(hn j hp).2)).mono ?_
      rintro e w2 ⟨rfl,rfl⟩
      exact .inr ⟨rfl,h⟩)
     clear hb hn h6 hS h0
     go_wp2_with fail
     refine TA (B:=w.heap.size) (Bf:=Bf) (g:=g) (rn:=rn) (rc:=rc) (br:=br) (mr:=mr) (i:=i) (R1:=fun W=>RL w.heap.size W5 (Tb.of x) (CG W5 L x) V.heap.size (.cells #[.pointer (some ⟨w.heap.size+1,0,none⟩)] 52) i W) (R2:=fun _=>False) (R3:=fun W=>RL w.heap.size W5 (Tb.of x) (CG W5 L x) V.heap.size (.cells #[.pointer (some ⟨w.heap.size+1,0,none⟩)] 52) i W) _ ?_ ?_ ?_ ?_ ?_ ?_ ?_ ?_ ?_ ?_ ?_ ?_
     ·rfl
     ·rfl
     ·rfl
     ·rfl
     ·rfl
     ·rfl
     ·exact G.o
     ·exact ad.o
     ·exact HS.o
     ·exact d.o
     ·intro a W E C hr
      obtain ⟨tm,df⟩:=a
      obtain rfl:df=[J8 w.heap.size]:=E
      exact u.o i tm W hr ⟨(C 2 (by omega)).trans rfl,(C 3 (by omega)).trans rfl⟩ y.o
     ·exact fun _ _ _ _ _ h=>h.elim
  ·obtain rfl:i=rn:=by omega
   have aq:decide ((i:Int) < (i:Int))=false:=by simp
   have aw:Hid (I3 w x W5 L N M bl bc br bf Bf wr.heap.size):=yb (by rw[T.o.1];exact D.o)
   have az:Hid (RJ w.heap.size W5 (Tb.of x) (CG W5 L x) (EI L x).length (fun _=>False) (wr.alloc (.cells #[.pointer (some ⟨w.heap.size+1,0,none⟩)] 52))):=yb (by
    rw[KI D.o.ps,<-HN.o,q.o]
    exact T.o.2)
   go_wp2
   exact Ui HQ.o aw.o az.o _ _ _ _ _ _ _ _ _ _ _ _ _ _ _ _ _ _ _ _ _ _ _ _ _ _ _ _ _ _ _ _ _ _ _ _ _ _ _ _ _ _ _ _ _ _ _ _ _ _ _ _ _ _ _ _ _ _ _ _ _ _ _ _ _ _ _ _ _ _ _ _ _ _ _ _ _ _ _ _ _ _ _ _ _ _ _ _ _ _ _ _ _ _ _ _ _ _ _ _ _ _ _ _ _ _ _ _ _ _ _ _ _ _ _ _ _ _ _ _ _ _ _ _ _ _ _ _ _ _ _ _ _ _ _ _ _ _ _ _ _ _ _ _ _ _ _ _ _ _ _ _ _ _ _ _ _ _ _ _ _ _ _ _ _ _ _
end Go.Proofs.Ytghepahgkcigpaa
