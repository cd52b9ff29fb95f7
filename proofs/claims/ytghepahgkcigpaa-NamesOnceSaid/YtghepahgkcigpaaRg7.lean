/- Parts of the proof, in short words: Ra Rb Rc Rd Re Rf Rg Ri Rk Rm Yc Yd Yf Yp Yj Rh Rs Rj Rl Rn -/
import Derived.Test.YtghepahgkcigpaaRg0
import Derived.Test.YtghepahgkcigpaaRg5
import Derived.Test.YtghepahgkcigpaaRg6
import Derived.Test.YtghepahgkcigpaaRg4
import Derived.BigFrameIn
import Derived.Test.YtghepahgkcigpaaRg3
set_option maxRecDepth 100000
set_option maxHeartbeats 16000000
set_option linter.unusedSimpArgs false
namespace Go.Proofs.Ytghepahgkcigpaa
open Go.RowKit
structure Tb where
 lets:List ByteArray
 crops:List ByteArray
 reaches:List ByteArray
 farms:List ByteArray
def Tb.of(x:An):Tb:=⟨x.lets.map (·.name),x.crops.map (·.name),x.reaches.map (·.name),x.farms.map (·.name)⟩
def Tb.tab(t:Tb)(c:Int):LB:=if c=3 then t.crops else if c=4 then t.reaches else if c=6 then t.reaches else if c=5 then t.farms else t.lets
def Et(to:Int):Int:=if to=2 then 1 else to
def early(to:Int):Bool:=decide (to=2)||decide (to=6)
def Jj(t:Tb)(to at_:Int)(r:Rf):Bool:=
 if to=0 then decide (r.name.size=0∧r.n=0) else match CO (t.tab (Et to)) r.name with
  |some i=>!early to||decide ((i:Int) < at_)
  |none=>false
def GA(t:Tb)(c:Int)(s:ByteArray):Int:=match CO (t.tab c) s with
 |some i=>(i:Int)
 |none=>0
def gT(t:Tb)(to:Int)(r:Rf):Rf:=if to=0 then r else {r with n:=GA t (Et to) r.name}
mutual
def G0(t:Tb):Ex->Ex
 |.mk op n u rn ri args=>.mk op n u rn (if op=2 then GA t 1 rn else ri) (Eu t args)
def Eu(t:Tb):List Ex->List Ex
 |[]=> []
 |e::r=>G0 t e::Eu t r
end
theorem Mf(t:Tb):∀l:List Ex,Eu t l=l.map (G0 t)
 |[]=>rfl
 |e::r=>by rw[Eu,Mf t r];rfl
def fT(t:Tb)(_:Int)(e:Ex):Ex:=if D8 e then e else G0 t e
mutual
def Sg(t:Tb)(lt:Int):Ex->Bool
 |.mk op _ _ rn ri args=>MJ op args.length&&(Jj t (KL op lt) (O9 op lt) ⟨rn,ri⟩&&Ri t lt args)
def Ri(t:Tb)(lt:Int):List Ex->Bool
 |[]=>true
 |e::r=>Sg t lt e&&Ri t lt r
end
def Kh(t:Tb)(e:KK):Bool:=D8 e.1||Sg t e.2 e.1
def Mg(t:Tb)(d:BL):Bool:=Jj t 4 0 d.on&&Jj t (if d.river then 0 else 3) 0 d.crop
def Pm(t:Tb)(d:B7):Bool:=Jj t 4 0 d.on&&d.turns.all fun k=>Jj t 5 0 k.farm
def JC(t:Tb)(d:AG):Bool:=Jj t 5 0 d.farm&&Jj t (if d.kind=1 then 0 else 4) 0 d.reach
def Mh(t:Tb)(d:Ce):Bool:=Jj t 5 0 d.farm&&Jj t 4 0 d.reach
def CK(t:Tb)(x:An):Bool:=(AL x).all (Kh t)&&(Ci x&&(x.farms.all (Mg t)&&(x.rots.all (Pm t)&&(x.rights.all (JC t)&&x.duties.all (Mh t)))))
def JD(t:Tb)(p:Ax × Nat):Bool:=Jj t (if p.2=0 then 0 else 6) p.2 p.1.frm
def CC(t:Tb)(x:An):Bool:=x.reaches.zipIdx.all (JD t)
def Bq(x:An):Bool:=JX x&&(FU x.rots&&EI x)
def Cn(x:An):LB:=x.rots.map (·.name)++x.rights.map (·.name)
def Cu(x:An):Bool:=AA x.name&&((x.lets.map (·.name)).all AA&&((x.crops.map (·.name)).all AA&&((x.reaches.map (·.name)).all AA&&((x.farms.map (·.name)).all AA&&((x.rots.map (·.name)).all AA&&((x.rights.map (·.name)).all AA&&(x.duties.map (·.name)).all AA))))))
def EJ(x:An):Prop:=(x.lets.map (·.name)).Nodup∧(x.crops.map (·.name)).Nodup∧(x.reaches.map (·.name)).Nodup∧(x.farms.map (·.name)).Nodup∧(Cn x).Nodup∧(x.duties.map (·.name)).Nodup
instance (x:An):Decidable (EJ x):=by unfold EJ;infer_instance
def A8(x:An):An:=x.mp (fT (Tb.of x)) (gT (Tb.of x))
def Au(x:An):Int:=
 if Bq x then (if Cu x then (if EJ x then (if CC (Tb.of x) x&&CK (Tb.of x) x then 0 else 170) else 171) else 170) else 2
def IM(t:Tb)(u:Us):Bool:=Jj t u.to u.at_ ⟨u.name,u.n⟩
def Ij(t:Tb)(p:List Us × Bool):Prop:=p.2=true∧∀u∈p.1,IM t u=true
theorem Nk(t:Tb):∀l:List (List Us × Bool),Ij t (BI l)↔∀p∈l,Ij t p
 |[]=>by simp[Ij,BI]
 |x::r=>by
  have ih:=Nk t r
  simp only[zV,<-ih]
  have e:BI (x::r)=if x.2 then (x.1++(BI r).1,(BI r).2) else (x.1,false):=rfl
  rw[e]
  unfold Ij
  by_cases h:x.2=true
  ·simp only[h,zY,yo,qb]
   constructor
   ·rintro ⟨h1,h2⟩;exact ⟨fun u a=>h2 u (.inl a),h1,fun u a=>h2 u (.inr a)⟩
   ·rintro ⟨h1,h2,h3⟩;exact ⟨h2,fun u a=>a.elim (h1 u) (h3 u)⟩
  ·simp[h]
mutual
theorem Ls(t:Tb){w:World}{C:Addr->Prop}(lt:Int):∀(e:Ex) (b o:Nat),PV w C e b o->(Ij t (Cg w lt e b o)↔Sg t lt e=true)
 |.mk op n u rn ri args,b,o,h=>by
  rw[PV] at h
  obtain ⟨a,cap,h1,h2,h3,h4⟩:=h
  rw[Cg,Sg]
  by_cases hs:MJ op args.length=true
  ·rw[yx hs,hs,h2.1]
   have ih:=Lt t lt args a args.length cap 0 h4
   unfold Ij at ih ⊢
   simp only[zV,qi,yt,<-ih,IM]
   constructor
   ·rintro ⟨f,d,c⟩;exact ⟨d,f,c⟩
   ·rintro ⟨d,f,c⟩;exact ⟨f,d,c⟩
  ·rw[yu hs]
   simp[Ij,hs]
theorem Lt(t:Tb){w:World}{C:Addr->Prop}(lt:Int):∀(l:List Ex) (a:Option Addr) (n cap i:Nat),Jh w C a i l->(Ij t (Bw w lt l (some (.slice a n cap)) i)↔Ri t lt l=true)
 |[],a,n,cap,i,h=>by simp[Bw,Ri,Ij]
 |e::r,a,n,cap,i,h=>by
  rw[Jh] at h
  obtain ⟨⟨b,o,rfl,h1⟩,h2⟩:=h
  have k:=Ls t lt e b (o+i*6) h1
  have j:=Lt t lt r (some ⟨b,o,none⟩) n cap (i+1) h2
  rw[Bw,Ri,yt,<-k,<-j]
  unfold Ij
  by_cases g:(Cg w lt e b (o+i*6)).2=true
  ·simp only[g,zY,qb,yo]
   constructor
   ·rintro ⟨f,d⟩;exact ⟨fun u c=>d u (.inl c),f,fun u c=>d u (.inr c)⟩
   ·rintro ⟨f,d,m⟩;exact ⟨d,fun u c=>c.elim (f u) (m u)⟩
  ·simp[g]
end
theorem Nl{α β γ:Type}{R:α->β->Prop}{f:α->β->γ}{p:γ->Prop}{q:β->Prop}(h:∀a b,R a b->(p (f a b)↔q b)):∀ {l:List α} {m:List β},At R l m->((∀c∈List.zipWith f l m,p c)↔∀b∈m,q b)
 |[],[],_=>by simp
 |a::l,b::m,hA=>by
  rw[At] at hA
  simp only[xO,zV,h a b hA.1,Nl h hA.2]
 |[],b::m,hA=>by simp[At] at hA
 |a::l,[],hA=>by simp[At] at hA
theorem Rj{N:NP}{w:World}{C D:Addr->Prop}(t:Tb)(a:Array Value)(e:KK)(h:TJ N w C D a e):Ij t (Ct w a e)↔Kh t e=true:=by
 obtain ⟨b,o,cs,rfl,_,_,c,_⟩:=h
 unfold Ct Kh
 by_cases hl:D8 e.1=true
 ·simp[hl,Ij]
 ·rw[yu hl,xY,or_iff_right hl]
  exact Ls t e.2 e.1 b o c
theorem Q9{f:Nat->List Us}{n:Nat}{p:Us->Prop}:(∀u∈(List.range n).flatMap f,p u)↔∀i,i < n->∀u∈f i,p u:=by
 constructor
 ·intro h i hi u a;exact h u (yN.2 ⟨i,yZ.2 hi,a⟩)
 ·intro h u a
  obtain ⟨i,hi,a⟩:=yN.1 a
  exact h i (yZ.1 hi) u a
theorem G1{α:Type}{l:List α}{n:Nat}(a:n=l.length){f:Nat->List Us}{p:Us->Prop}{q:α->Bool}(h:∀i (hi:i < l.length),(∀u∈f i,p u)↔q l[i]=true):(∀u∈(List.range n).flatMap f,p u)↔l.all q=true:=by
 rw[Q9,yL]
 constructor
 ·intro k d hd
  obtain ⟨i,hi,rfl⟩:=zg.1 hd
  exact (h i hi).1 (k i (by omega))
 ·intro k i hi
  exact (h i (by omega)).2 (k _ (yy (by omega)))
theorem G2{N:NP}{w:World}{C D:Addr->Prop}{Bu:Nat}{L:Bh}{x:An}(t:Tb)(h:JW N w C D Bu L x):Ij t (Ca w L x)↔CK t x=true:=by
 unfold Ca E8 CK
 rw[Nk]
 simp only[yo,zt,or_imp,forall_and,forall_eq,yt]
 refine and_congr ?_ ?_
 ·rw[yL]
  exact Nl (Rj t) h.top
 ·unfold Ij
  simp only
  refine and_congr_right fun a=>?_
  rw[yx a]
  unfold Cl
  simp only[yo,or_imp,forall_and]
  rw[G1 h.nfarms (q:=Mg t) fun i hi=>?_,G1 h.nrots (q:=Pm t) fun i hi=>?_,G1 h.nrights (q:=JC t) fun i hi=>?_,G1 h.nduties (q:=Mh t) fun i hi=>?_]
  ·simp only[and_assoc]
  ·unfold DM;rw[yk hi];simp[Mh,IM,D3]
  ·unfold CY;rw[yk hi];simp[JC,IM,D3]
  ·unfold Gl;rw[yk hi]
   simp only[zV,Pm,yt,IM,D3]
   refine and_congr Iff.rfl ?_
   refine G1 (h.nturns i hi) fun k a=>?_
   unfold EM;rw[yk a];simp[D3]
  ·unfold E4;rw[yk hi];simp[Mg,IM,D3]
def Nn(W:World)(b:Nat):Nat:=match W.heap[b]? with
 |some (.cells _ t _)=>t
 |_=>0
theorem DP{W:World}{b t:Nat}(h:Ty W b t):Nn W b=t:=by
 obtain ⟨c,e⟩:=h
 unfold Nn;rw[e]
def EO(W:World)(b o:Nat):Int:=
 if Fp (Nn W b) (o+1)=1 then (match W.cell? ⟨b,o - 3,none⟩ with
  |some (.int _ z)=>if z=2 then 1 else 0
  |_=>0)
 else if Nn W b=51 then (if o < 51 then 0 else 6)
 else if Nn W b=59 then (if o % 12=1 then 4 else match W.cell? ⟨b,o - 7,none⟩ with
  |some (.bool r)=>if r then 0 else 3
  |_=>3)
 else if Nn W b=64 then 4
 else if Nn W b=66 then 5
 else if Nn W b=68 then (if o % 37=2 then 5 else match W.cell? ⟨b,o - 4,none⟩ with
  |some (.int _ z)=>if z=1 then 0 else 4
  |_=>4)
 else (if o % 11=1 then 5 else 4)
def TM(t q:Nat):Prop:=Fp t q=2∨(Fp t q=1∧FR t q=4)
def I3(B:Nat)(W:World)(b q:Nat):Prop:=B<=b∧∃o t,q=o+1∧Ty W b t∧TM t (o+1)∧EO W b o≠0
structure MM (B:Nat) (W:World) (u:Us):Prop where
 base:B<=u.b
 t:∃t,Ty W u.b t∧TM t (u.o+1)∧¬ TM t u.o
 name:W.cell? ⟨u.b,u.o,none⟩=some (.string u.name)
 len:u.name.size<=maxLen
 n:W.cell? ⟨u.b,u.o+1,none⟩=some (.int .i64 u.n)
 cat:EO W u.b u.o=Et u.to
 to:u.to=0∨u.to=1∨u.to=2∨u.to=3∨u.to=4∨u.to=5∨u.to=6
theorem Lu{u:Us}:Et u.to=0↔u.to=0:=by
 unfold Et;split<;>omega
structure RJ (B:Nat) (W4:World) (t:Tb) (X:List Us) (k:Nat) (O:Nat->Prop) (W:World):Prop where
 os:W.os=W4.os
 tape:W.tape=W4.tape
 output:W.output=W4.output
 size:W4.heap.size<=W.heap.size
 own:∀b,O b->W4.heap.size<=b
 ty:∀(b:Nat) (c:Array Value) (t:TypeId),W4.heap[b]?=some (.cells c t (0,0))->∃c':Array Value,c'.size=c.size∧W.heap[b]?=some (.cells c' t (0,0))
 same:∀b:Nat,b < W4.heap.size->(∀q,¬ I3 B W4 b q)->W.heap[b]?=W4.heap[b]?
 cells:∀b q,b < W4.heap.size->¬ I3 B W4 b q->W.cell? ⟨b,q,none⟩=W4.cell? ⟨b,q,none⟩
 nums:∀b q,I3 B W4 b q->(∃z,W4.cell? ⟨b,q,none⟩=some (.int .i64 z))->∃z,W.cell? ⟨b,q,none⟩=some (.int .i64 z)
 done:∀j (h:j < X.length),j < k->IM t X[j]=true∧(X[j].to≠0->X[j].b < W4.heap.size∧W.cell? ⟨X[j].b,X[j].o+1,none⟩=some (.int .i64 (GA t (Et X[j].to) X[j].name)))
section
variable{B:Nat}{W4 W w':World}{t:Tb}{X:List Us}{k:Nat}{O:NP}
theorem RJ.start(B:Nat)(W4:World)(t:Tb)(X:List Us):RJ B W4 t X 0 (fun _=>False) W4:=
 ⟨rfl,rfl,rfl,ye _,fun _ h=>h.elim,fun _ c _ h=>⟨c,rfl,h⟩,fun _ _ _=>rfl,fun _ _ _ _=>rfl,fun _ _ _ h=>h,fun _ _ h=>by omega⟩
theorem RJ.tyT(h:RJ B W4 t X k O W){b ty:Nat}(hb:Ty W4 b ty):Ty W b ty:=by
 obtain ⟨c,e⟩:=hb
 obtain ⟨a,_,e'⟩:=h.ty b c ty e
 exact ⟨a,e'⟩
theorem RJ.move{g:NP}(h:RJ B W4 t X k O W)(n:W.heap.size<=w'.heap.size)(r:w'.os=W.os)(p:w'.tape=W.tape)(o:w'.output=W.output)(d:∀b,b < W4.heap.size->w'.heap[b]?=W.heap[b]?)(i:∀b,g b->W4.heap.size<=b):RJ B W4 t X k g w':=by
 refine ⟨r.trans h.os,p.trans h.tape,o.trans h.output,yr h.size n,i,fun b c ty hb=>?_,fun b hb a=>(d b hb).trans (h.same b hb a),fun b q hb a=>(Ac (d b hb)).trans (h.cells b q hb a),fun b q a hi=>?_,fun j m f=>?_⟩
 ·obtain ⟨l,e1,e2⟩:=h.ty b c ty hb
  exact ⟨l,e1,(d b (yf.1 hb).1).trans e2⟩
 ·obtain ⟨z,e⟩:=h.nums b q a hi
  obtain ⟨_,_,ty,_,h1,_⟩:=a
  exact ⟨z,(Ac (d b h1.lt)).trans e⟩
 ·obtain ⟨h1,h2⟩:=h.done j m f
  refine ⟨h1,fun h3=>?_⟩
  have h4:=h2 h3
  exact ⟨h4.1,(Ac (d _ h4.1)).trans h4.2⟩
theorem RJ.stays:Dp (RJ B W4 t X):=by
 intro k O W j W' h e c g f d i
 refine h.move e c g f (fun b hb=>d b (fun a=>by have:=h.own b a;omega) (yp hb h.size)) (fun b hb=>?_)
 rcases i b hb with h1|h1
 ·exact h.own b h1
 ·have:=h.size;omega
theorem RJ.below{a:Nat}(h:RJ B W4 t X k O W)(hb:Below a W w')(d:W4.heap.size<=a):RJ B W4 t X k O w':=
 h.move hb.size hb.os hb.tape hb.output (fun b c=>hb.block b (by omega)) h.own
theorem MM.notName{u:Us}(h:MM B W4 u):¬ I3 B W4 u.b u.o:=by
 rintro ⟨_,o,ty,e,h1,h2,_⟩
 obtain ⟨c,d,f,a⟩:=h.t
 obtain rfl:=h1.inj d
 rw[<-e] at h2
 exact a h2
theorem MM.lt{u:Us}(h:MM B W4 u):u.b < W4.heap.size:=by
 obtain ⟨a,c,e,d⟩:=h.t
 exact c.lt
theorem MM.num{u:Us}(h:MM B W4 u)(h0:u.to≠0):I3 B W4 u.b (u.o+1):=by
 obtain ⟨a,d,c,f⟩:=h.t
 exact ⟨h.base,u.o,a,rfl,d,c,by rw[h.cat];exact fun e=>h0 (Lu.1 e)⟩
theorem MM.notNum{u:Us}(h:MM B W4 u)(h0:u.to=0):¬ I3 B W4 u.b (u.o+1):=by
 rintro ⟨_,o,ty,e,h1,h2,h3⟩
 obtain rfl:o=u.o:=by omega
 rw[h.cat] at h3
 exact h3 (Lu.2 h0)
theorem RJ.read{u:Us}(h:RJ B W4 t X k O W)(a:MM B W4 u):W.cell? ⟨u.b,u.o,none⟩=some (.string u.name)∧(∃z,W.cell? ⟨u.b,u.o+1,none⟩=some (.int .i64 z)∧(u.to=0->z=u.n))∧W.frozen? ⟨u.b,u.o+1,none⟩=false:=by
 refine ⟨(h.cells _ _ a.lt a.notName).trans a.name,?_,?_⟩
 ·by_cases h0:u.to=0
  ·exact ⟨u.n,(h.cells _ _ a.lt (a.notNum h0)).trans a.n,fun _=>rfl⟩
  ·obtain ⟨z,d⟩:=h.nums _ _ (a.num h0) ⟨_,a.n⟩
   exact ⟨z,d,fun e=>absurd e h0⟩
 ·obtain ⟨c,f,i,g⟩:=a.t
  exact (h.tyT f).frozen
theorem RJ.skip{u:Us}(h:RJ B W4 t X k O W)(b:X[k]?=some u)(h0:u.to=0)(a:IM t u=true):RJ B W4 t X (k+1) O W:=by
 obtain ⟨hl,rfl⟩:=yD.1 b
 refine ⟨h.os,h.tape,h.output,h.size,h.own,h.ty,h.same,h.cells,h.nums,fun j c d=>?_⟩
 by_cases e:j=k
 ·subst e;exact ⟨a,fun h=>absurd h0 h⟩
 ·exact h.done j c (by omega)
theorem RJ.next{u:Us}(h:RJ B W4 t X k O W)(s:∀u∈X,MM B W4 u)(y:X[k]?=some u)(h0:u.to≠0)(r:IM t u=true):RJ B W4 t X (k+1) O (W.setCell ⟨u.b,u.o+1,none⟩ (.int .i64 (GA t (Et u.to) u.name))):=by
 obtain ⟨hl,rfl⟩:=yD.1 y
 have g:=s _ (yy hl)
 obtain ⟨_,⟨z,A,_⟩,_⟩:=h.read g
 obtain ⟨i,F,G,m⟩:=Af (iV (GA t (Et X[k].to) X[k].name)) A
 have v:=g.num h0
 have a:∀b q,(b≠X[k].b∨q≠X[k].o+1)->(W.setCell ⟨X[k].b,X[k].o+1,none⟩ (iV (GA t (Et X[k].to) X[k].name))).cell? (aV b q)=W.cell? (aV b q):=fun b q d=>
  World.cell?_setCell_other _ _ _ _ (fun e=>by cases e;simp at d)
 refine ⟨i.os.trans h.os,i.tape.trans h.tape,i.output.trans h.output,yr h.size i.size,h.own,fun b c ty hb=>?_,fun b hb d=>?_,fun b q hb d=>?_,fun b q d hi=>?_,fun j x E=>?_⟩
 ·obtain ⟨w,e1,e2⟩:=h.ty b c ty hb
  by_cases l:b=X[k].b
  ·subst l
   exact ⟨_,by rw[Array.size_setIfInBounds];exact e1,za W _ _ w ty _ e2⟩
  ·exact ⟨w,e1,(yY W _ b _ l).trans e2⟩
 ·have l:b≠X[k].b:=fun e=>d _ (e▸v)
  exact (yY W _ b _ l).trans (h.same b hb d)
 ·rw[a b q (by by_cases e:b=X[k].b;exact .inr (fun e2=>d (by rw[e,e2];exact v));exact .inl e)]
  exact h.cells b q hb d
 ·by_cases e:b=X[k].b∧q=X[k].o+1
  ·obtain ⟨rfl,rfl⟩:=e
   exact ⟨_,m⟩
  ·rw[a b q (by by_cases e2:b=X[k].b;exact .inr (fun n=>e ⟨e2,n⟩);exact .inl e2)]
   exact h.nums b q d hi
 ·by_cases e:j=k
  ·subst e;exact ⟨r,fun _=>⟨g.lt,m⟩⟩
  ·obtain ⟨C,D⟩:=h.done j x (by omega)
   refine ⟨C,fun h3=>?_⟩
   have f:=s _ (yy x)
   by_cases e:X[j].b=X[k].b∧X[j].o+1=X[k].o+1
   ·obtain ⟨e1,e2⟩:=e
    have e2:X[j].o=X[k].o:=by omega
    have hc:Et X[j].to=Et X[k].to:=by rw[<-f.cat,<-g.cat,e1,e2]
    have p:X[j].name=X[k].name:=by
     have h1:=f.name
     rw[e1,e2,g.name] at h1
     exact (Value.string.inj (yh h1)).symm
    refine ⟨f.lt,?_⟩
    rw[e1,e2,hc,p];exact m
   ·rw[a _ _ (by by_cases e2:X[j].b=X[k].b;exact .inr (fun n=>e ⟨e2,n⟩);exact .inl e2)]
    exact D h3
end
section
variable{W:World}{g:Nat}
theorem OI(h:Ty W g 51)(i:Nat):EO W g (i*51+1)=if i=0 then 0 else 6:=by
 have e:Fp 51 (i*51+1+1)=2:=by rw[zN,(D7 BZ i (1+1)).1];rfl
 unfold EO
 rw[DP h,e,yu (by decide),yx rfl]
 by_cases hi:i=0
 ·subst hi;rfl
 ·rw[yu hi,yu (by omega)]
theorem Sq(h:Ty W g 59)(i:Nat):EO W g (i*12+1)=4:=by
 have e:Fp 59 (i*12+1+1)=2:=by rw[zN,(D7 F3 i (1+1)).1];rfl
 unfold EO
 rw[DP h,e,yu (by decide),yu (by decide),yx rfl,yx (by omega)]
theorem Qa(h:Ty W g 59)(i:Nat){r:Bool}(a:W.cell? ⟨g,i*12+3,none⟩=some (.bool r)):EO W g (i*12+10)=if r then 0 else 3:=by
 have e:Fp 59 (i*12+10+1)=2:=by rw[zN,(D7 F3 i (10+1)).1];rfl
 unfold EO
 rw[DP h,e,yu (by decide),yu (by decide),yx rfl,yu (by omega),show i*12+10 - 7=i*12+3 by omega,a]
theorem Rk(h:Ty W g 64)(i:Nat):EO W g (i*23+1)=4:=by
 have e:Fp 64 (i*23+1+1)=2:=by rw[zN,(D7 Fq i (1+1)).1];rfl
 unfold EO
 rw[DP h,e,yu (by decide),yu (by decide),yu (by decide),yx rfl]
theorem Qb(h:Ty W g 66)(i:Nat):EO W g (i*8)=5:=by
 have e:Fp 66 (i*8+1)=2:=by rw[(D7 JU i 1).1];rfl
 unfold EO
 rw[DP h,e,yu (by decide),yu (by decide),yu (by decide),yu (by decide),yx rfl]
theorem Sr(h:Ty W g 68)(i:Nat):EO W g (i*37+2)=5:=by
 have e:Fp 68 (i*37+2+1)=2:=by rw[zN,(D7 C8 i (2+1)).1];rfl
 unfold EO
 rw[DP h,e,yu (by decide),yu (by decide),yu (by decide),yu (by decide),yu (by decide),yx rfl,yx (by omega)]
theorem Ss(h:Ty W g 68)(i:Nat){k:IntKind}{z:Int}(a:W.cell? ⟨g,i*37,none⟩=some (.int k z)):EO W g (i*37+4)=if z=1 then 0 else 4:=by
 have e:Fp 68 (i*37+4+1)=2:=by rw[zN,(D7 C8 i (4+1)).1];rfl
 unfold EO
 rw[DP h,e,yu (by decide),yu (by decide),yu (by decide),yu (by decide),yu (by decide),yx rfl,yu (by omega),show i*37+4 - 4=i*37 by omega,a]
theorem St(h:Ty W g 70)(i:Nat):EO W g (i*11+1)=5:=by
 have e:Fp 70 (i*11+1+1)=2:=by rw[zN,(D7 Gk i (1+1)).1];rfl
 unfold EO
 rw[DP h,e,yu (by decide),yu (by decide),yu (by decide),yu (by decide),yu (by decide),yu (by decide),yx (by omega)]
theorem Su(h:Ty W g 70)(i:Nat):EO W g (i*11+3)=4:=by
 have e:Fp 70 (i*11+3+1)=2:=by rw[zN,(D7 Gk i (3+1)).1];rfl
 unfold EO
 rw[DP h,e,yu (by decide),yu (by decide),yu (by decide),yu (by decide),yu (by decide),yu (by decide),yu (by omega)]
theorem Pn{o:Nat}(h:Gj W g o){k:IntKind}{op:Int}(b:W.cell? ⟨g,o,none⟩=some (.int k op)):EO W g (o+3)=if op=2 then 1 else 0:=by
 obtain ⟨t,ty,a⟩:=h
 have e:Fp t (o+3+1)=1:=(a 4 (by omega)).1
 unfold EO
 rw[DP ty,e,yx rfl,show o+3 - 3=o by omega,b]
theorem Ki(h:Ty W g 26)(i:Nat):Gj W g (i*6):=
 ⟨_,h,fun j a=>⟨by simp[Fp],by simp only[FR];simp;omega⟩⟩
end
section
variable{B:Nat}{W:World}{M:NP}
theorem EP{to at_:Int}{r:Rf}{b o:Nat}(e:B<=b)(a:RV W to r b o)(c:Om W b o)(hc:EO W b o=Et to)(d:to=0∨to=1∨to=2∨to=3∨to=4∨to=5∨to=6):MM B W ⟨b,o,to,at_,r.name,r.n⟩:=by
 obtain ⟨t,ty,h1,h2⟩:=c
 refine ⟨e,⟨t,ty,.inl h2,?_⟩,a.2.1,a.1,a.2.2,hc,d⟩
 rintro (h|h)
 ·rw[h1] at h;cases h
 ·rw[h1] at h;cases h.1
mutual
theorem No(hM:∀g,M g->B<=g)(lt:Int):∀(e:Ex) (b o:Nat) (cs:LV),B<=b->Hr W M e cs->W.rangeAt b o cs->Gj W b o->∀u∈(Cg W lt e b o).1,MM B W u
 |.mk op n u rn ri args,b,o,cs,hb,hv,hr,hp=>by
  rw[Hr] at hv
  obtain ⟨a,cap,rfl,h2,h3,h4⟩:=hv
  obtain ⟨p,r1,r2,j,l,m⟩:=Br hr
  intro v c
  rw[Cg] at c
  by_cases hs:MJ op args.length=true
  ·rw[yx hs,m] at c
   simp only[yJ] at c
   rcases c with rfl|c
   ·have hc:=Pn hp p
    obtain ⟨t,ty,i⟩:=hp
    have f:=i 3 (by omega);have k:=i 4 (by omega)
    refine ⟨hb,⟨t,ty,.inr k,?_⟩,j,h3,l,?_,?_⟩
    ·rintro (h|h)
     ·simp only at h;rw[f.1] at h;cases h
     ·simp only at h;rw[f.2] at h;exact absurd h.2 (by decide)
    ·simp only;rw[hc];unfold KL Et
     by_cases d:op=2
     ·simp only[d,zY];split<;>simp
     ·simp[d]
    ·simp only;unfold KL
     by_cases d:op=2
     ·simp only[d,zY];split<;>simp
     ·simp[d]
   ·exact Np hM lt args a args.length cap 0 h4 v c
  ·rw[yu hs] at c;cases c
theorem Np(hM:∀g,M g->B<=g)(lt:Int):∀(l:List Ex) (a:Option Addr) (n cap i:Nat),Dy W M a i l->∀u∈(Bw W lt l (some (.slice a n cap)) i).1,MM B W u
 |[],a,n,cap,i,h=>by intro v b;rw[Bw] at b;cases b
 |e::r,a,n,cap,i,h=>by
  rw[Dy] at h
  obtain ⟨⟨g,cs,rfl,h1,h2,h3,h4⟩,h5⟩:=h
  have c:=No hM lt e g (0+i*6) cs (hM g h1) h4 (by rw[yA];exact h3) (by rw[yA];exact Ki h2 i)
  have d:=Np hM lt r (some ⟨g,0,none⟩) n cap (i+1) h5
  intro v b
  rw[Bw] at b
  split at b
  ·rcases yo.1 b with b|b
   ·exact c v b
   ·exact d v b
  ·exact c v b
end
theorem Ik{u:Us}:∀ {l:List (List Us × Bool)},u∈(BI l).1->∃p∈l,u∈p.1
 |[],h=>by simp[BI] at h
 |x::r,h=>by
  have e:BI (x::r)=if x.2 then (x.1++(BI r).1,(BI r).2) else (x.1,false):=rfl
  rw[e] at h
  split at h
  ·rcases yo.1 h with h|h
   ·exact ⟨x,by simp,h⟩
   ·obtain ⟨p,h1,h2⟩:=Ik h
    exact ⟨p,by simp[h1],h2⟩
  ·exact ⟨x,by simp,h⟩
theorem Po{α β:Type}{R:α->β->Prop}{f:α->β->List Us × Bool}{P:Us->Prop}(h:∀a b,R a b->∀u∈(f a b).1,P u):∀ {l:List α} {m:List β},At R l m->∀p∈List.zipWith f l m,∀u∈p.1,P u
 |[],_,_=>by simp
 |_::_,[],_=>by simp
 |a::l,b::m,hA=>by
  rw[At] at hA
  simp only[xO,zV]
  exact ⟨h a b hA.1,Po h hA.2⟩
def I4(h:Av)(l:List Ax)(i:Nat):List Us:=match l[i]? with
 |some d=> [⟨(h.at 51 i 1).block,(h.at 51 i 1).off,if i=0 then 0 else 6,i,d.frm.name,d.frm.n⟩]
 |none=> []
def EK(L:Bh)(x:An):List Us:=(List.range L.reaches.n).flatMap (I4 L.reaches x.reaches)
def CL(W:World)(L:Bh)(x:An):List Us:=EK L x++(Ca W L x).1
theorem Pq{N:NP}{L:Bh}{x:An}(hN:∀g,N g->B<=g)(hM:∀g,M g->B<=g)(hs:N L.s)(h:Ch N (ET M W) (RV W) W L x):∀u∈CL W L x,MM B W u:=by
 intro u d
 rcases yo.1 d with d|d
 ·obtain ⟨i,hi,d⟩:=yN.1 d
  have hl:i < x.reaches.length:=by rw[<-h.reaches.1];exact yZ.1 hi
  unfold I4 at d
  rw[yk hl] at d
  simp only[zt] at d
  obtain ⟨g,l,j,ty,_,n,_⟩:=h.reaches.2.2 i hl
  rw[AU l,yA] at d
  rw[d]
  exact EP (hN g j) n (BQ ty BZ i 1 rfl rfl) (by rw[OI ty];split<;>rfl) (by split<;>simp)
 ·obtain ⟨p,q,d⟩:=Ik d
  unfold E8 at q
  rcases yo.1 q with q|q
  ·refine Po (R:=TG N (ET M W) W) (f:=Ct W) (P:=MM B W) (fun a e C u d=>?_) (h.all2 hs) p q u d
   obtain ⟨b,o,rfl,hb,t,c,y,w⟩:=C
   unfold Ct at d
   split at d
   ·cases d
   ·exact No hM e.2 e.1 b o c (hN b hb) w y t u d
  ·simp only[zt] at q
   rw[q] at d
   simp only at d
   split at d
   ·unfold Cl at d
    simp only[yo] at d
    rcases d with ((d|d)|d)|d
    ·obtain ⟨i,hi,d⟩:=yN.1 d
     have hl:i < x.farms.length:=by rw[<-h.farms.1];exact yZ.1 hi
     obtain ⟨g,l,j,ty,_,n,A,_,m⟩:=h.farms.2.2 i hl
     unfold E4 at d
     rw[yk hl] at d
     simp only[D3,AU l,yA,yJ,zl,xp] at d
     rcases d with rfl|rfl
     ·exact EP (hN g j) n (BQ ty F3 i 1 rfl rfl) (by rw[Sq ty];rfl) (by simp)
     ·exact EP (hN g j) m (BQ ty F3 i 10 rfl rfl) (by rw[Qa ty i A];split<;>rfl) (by split<;>simp)
    ·obtain ⟨i,hi,d⟩:=yN.1 d
     have hl:i < x.rots.length:=by rw[<-h.rots.1];exact yZ.1 hi
     obtain ⟨g,l,j,ty,_,n,_,_,_,_,_,z⟩:=h.rots.2.2 i hl
     unfold Gl at d
     rw[yk hl] at d
     simp only[D3,AU l,yA,yJ] at d
     rcases d with rfl|d
     ·exact EP (hN g j) n (BQ ty Fq i 1 rfl rfl) (by rw[Rk ty];rfl) (by simp)
     ·obtain ⟨k,v,d⟩:=yN.1 d
      have r:k < (x.rots[i]).turns.length:=by rw[<-z.1];exact yZ.1 v
      obtain ⟨g,l,j,ty,n,_⟩:=z.2.2 k r
      unfold EM at d
      rw[yk r] at d
      simp only[D3,AU l,yA,xR,zt] at d
      rw[d]
      exact EP (hN g j) n (Lf ty JU k rfl rfl) (by rw[Qb ty];rfl) (by simp)
    ·obtain ⟨i,hi,d⟩:=yN.1 d
     have hl:i < x.rights.length:=by rw[<-h.rights.1];exact yZ.1 hi
     obtain ⟨g,l,j,ty,v,_,n,m,_⟩:=h.rights.2.2 i hl
     unfold CY at d
     rw[yk hl] at d
     simp only[D3,AU l,yA,yJ,zl,xp] at d
     rcases d with rfl|rfl
     ·exact EP (hN g j) n (BQ ty C8 i 2 rfl rfl) (by rw[Sr ty];rfl) (by simp)
     ·exact EP (hN g j) m (BQ ty C8 i 4 rfl rfl) (by rw[Ss ty i v];split<;>rfl) (by split<;>simp)
    ·obtain ⟨i,hi,d⟩:=yN.1 d
     have hl:i < x.duties.length:=by rw[<-h.duties.1];exact yZ.1 hi
     obtain ⟨g,l,j,ty,_,n,m,_⟩:=h.duties.2.2 i hl
     unfold DM at d
     rw[yk hl] at d
     simp only[D3,AU l,yA,yJ,zl,xp] at d
     rcases d with rfl|rfl
     ·exact EP (hN g j) n (BQ ty Gk i 1 rfl rfl) (by rw[St ty];rfl) (by simp)
     ·exact EP (hN g j) m (BQ ty Gk i 3 rfl rfl) (by rw[Su ty];rfl) (by simp)
   ·cases d
end
section
variable{B:Nat}{W W':World}{N M:NP}{L:Bh}{x:An}{t:Tb}{X:List Us}{k:Nat}{O:NP}
def CR(B:Nat)(W:World)(p:Addr):Prop:=∃b q,p=⟨b,q,none⟩∧b < W.heap.size∧¬ I3 B W b q
def DR(W:World)(p:Addr):Prop:=∃b q,p=⟨b,q,none⟩∧b < W.heap.size∧∃z,W.cell? ⟨b,q,none⟩=some (.int .i64 z)
theorem RJ.hd(h:RJ B W t X k O W'):Ug W (CR B W) (DR W) W':=by
 constructor
 ·rintro p ⟨b,q,rfl,h1,h2⟩;exact h.cells b q h1 h2
 ·rintro p ⟨b,q,rfl,h1,h2⟩
  by_cases a:I3 B W b q
  ·exact h.nums b q a h2
  ·rw[h.cells b q h1 a];exact h2
theorem OJ{b q ty:Nat}(h:Ty W b ty)(c:¬ TM ty q):¬ I3 B W b q:=by
 rintro ⟨_,o,a,rfl,h1,h2,_⟩
 obtain rfl:=h.inj h1
 exact c h2
theorem G3{b q:Nat}(h:MY W b q):¬ I3 B W b q:=by
 obtain ⟨ty,h1,h2⟩:=h
 exact OJ h1 (by rintro (h|h);rw[h2] at h;cases h;rw[h2] at h;cases h.1)
theorem F7{b o:Nat}(h:Gj W b o){j:Nat}(a:j < 6)(h4:j≠4):¬ I3 B W b (o+j):=by
 obtain ⟨ty,h1,h2⟩:=h
 refine OJ h1 ?_
 rintro (h|h)
 ·rw[(h2 j a).1] at h;cases h
 ·rw[(h2 j a).2] at h;exact h4 h.2
theorem Kj{b o:Nat}(h:Gj W b o){d:IntKind}{op:Int}(c:W.cell? ⟨b,o,none⟩=some (.int d op))(h2:op≠2):¬ I3 B W b (o+4):=by
 rintro ⟨_,f,a,e,h1,_,h3⟩
 obtain rfl:f=o+3:=by omega
 rw[Pn h c,yu h2] at h3
 exact h3 rfl
mutual
theorem Rl:∀(e:Ex) (b o:Nat) (cs:LV),Hr W M e cs->W.rangeAt b o cs->Gj W b o->PV W (CR B W) e b o
 |.mk op n u rn ri args,b,o,cs,hv,hr,hp=>by
  rw[Hr] at hv
  obtain ⟨a,cap,rfl,h2,h3,h4⟩:=hv
  obtain ⟨c,r1,r2,f,g,d⟩:=Br hr
  rw[PV]
  exact ⟨a,cap,⟨c,_,_,rfl,hp.lt,F7 (j:=0) hp (by omega) (by omega)⟩,⟨d,_,_,rfl,hp.lt,F7 hp (by omega) (by omega)⟩,h2,Pt args a 0 h4⟩
theorem Pt:∀(l:List Ex) (a:Option Addr) (i:Nat),Dy W M a i l->Jh W (CR B W) a i l
 |[],a,i,h=>by rw[Jh];trivial
 |e::r,a,i,h=>by
  rw[Dy] at h
  rw[Jh]
  obtain ⟨⟨g,cs,rfl,h1,h2,h3,h4⟩,h5⟩:=h
  exact ⟨⟨g,0,rfl,by rw[yA];exact Rl e g (i*6) cs h4 h3 (Ki h2 i)⟩,Pt r _ (i+1) h5⟩
end
theorem Fs{f:Nat->List Us}{c:Nat}(n:Nat)(h:∀i,(f i).length<=c):((List.range n).flatMap f).length<=n*c:=by
 induction n with
 |zero=>simp
 |succ n ih=>rw[Am,ym,Nat.succ_mul];have:=h n;omega
theorem Nq{f:Nat->List Us}{c:Nat}(n:Nat)(h:∀i,i < n->(f i).length<=c):((List.range n).flatMap f).length<=n*c:=by
 induction n with
 |zero=>simp
 |succ n ih=>rw[Am,ym,Nat.succ_mul];have:=h n (by omega);have:=ih (fun i hi=>h i (by omega));omega
theorem Ev(h:Bq x=true):x.lets.length<=64∧x.crops.length<=32∧x.reaches.length<=64∧x.farms.length<=600∧x.rots.length<=64∧x.rights.length<=256∧x.duties.length<=256∧(∀d∈x.rots,d.turns.length<=64)∧∀e∈AL x,AR e.1<=8:=by
 unfold Bq JX FU EI at h
 simp only[yt,yW,yL] at h
 obtain ⟨⟨h1,h2,h3,h4,h5,h6,c⟩,a,b⟩:=h
 exact ⟨h1,h2,h3,h4,h5,h6,c,a,b⟩
theorem Nr(h:x.lets.length<=64):∀e∈AL x,0<=e.2∧e.2<=1000000:=by
 intro e b
 unfold AL J7 GM Eo GN Ia DL Fm Fo at b
 simp only[yo,yJ,zl,xp,yN,Prod.exists] at b
 rcases b with (rfl|rfl|rfl)|⟨d,i,a,rfl⟩|⟨d,i,a,rfl⟩|⟨d,i,a,rfl|rfl|rfl|rfl|rfl|rfl|rfl|rfl⟩|⟨d,i,a,rfl⟩|⟨d,i,a,(rfl|rfl|rfl)|⟨f,g,c,rfl⟩⟩|⟨d,i,a,rfl|rfl|rfl|rfl|rfl⟩|⟨d,i,a,rfl⟩
 all_goals first|exact ⟨by omega,by omega⟩|skip
 have:=List.mem_zipIdx a
 simp only
 omega
theorem Ns(h:Ch N (ET M W) (RV W) W L x)(d:Bq x=true):(Cl L x).length<=1000000:=by
 obtain ⟨e,p,l,j,f,m,g,b,_⟩:=Ev d
 unfold Cl
 simp only[ym]
 have e1:((List.range L.farms.n).flatMap (E4 L.farms x.farms)).length<=L.farms.n*2:=Fs _ fun i=>by unfold E4;split<;>simp
 have e2:((List.range L.rots.n).flatMap (Gl L x.rots)).length<=L.rots.n*66:=Nq _ fun i hi=>by
  have hl:i < x.rots.length:=by rw[<-h.rots.1];exact hi
  obtain ⟨_,_,_,_,_,_,_,_,_,_,_,c⟩:=h.rots.2.2 i hl
  have a:((List.range (A4 L i).n).flatMap (EM (A4 L i) (x.rots[i]).turns)).length<=(A4 L i).n*1:=Fs _ fun k=>by unfold EM;split<;>simp
  have:=b _ (yy hl)
  have:=c.1
  unfold Gl
  rw[yk hl]
  simp only[yE]
  omega
 have a:((List.range L.rights.n).flatMap (CY L.rights x.rights)).length<=L.rights.n*2:=Fs _ fun i=>by unfold CY;split<;>simp
 have o:((List.range L.duties.n).flatMap (DM L.duties x.duties)).length<=L.duties.n*2:=Fs _ fun i=>by unfold DM;split<;>simp
 have:=h.farms.1;have:=h.rots.1;have:=h.rights.1;have:=h.duties.1
 omega
theorem Rm(hs:N L.s)(h:Ch N (ET M W) (RV W) W L x){Bu:Nat}(q:Bu < W.heap.size)(n:W.cell? ⟨Bu,0,none⟩=some (.pointer (some ⟨L.s,0,none⟩)))(t:Bq x=true):JW M W (CR B W) (DR W) Bu L x:=by
 have k:∀ {hd:Av} {g sz i off:Nat},hd.a=some (aV g 0)->hd.at sz i off=(aV g (i*sz+off)):=fun f=>by rw[AU f,yA]
 refine ⟨h.ok,h.heads (fun _ _ _=>rfl) n,⟨Bu,0,rfl,q,?_⟩,fun j h1 h2=>⟨L.s,j,rfl,h.ty.lt,OJ h.ty ?_⟩,fun i hi=>?_,fun i hi=>?_,fun i hi=>?_,?_,h.farms.1,h.rots.1,fun i hi=>?_,h.rights.1,h.duties.1,Nr (Ev t).1,Ns h t⟩
 ·rintro ⟨_,o,ty,e,_⟩;omega
 ·have:j=19∨j=20∨j=21∨j=22∨j=23∨j=24∨j=25:=by omega
  rcases this with rfl|rfl|rfl|rfl|rfl|rfl|rfl<;>(intro v;revert v;unfold TM;decide)
 ·obtain ⟨g,f,r,ty,_⟩:=h.rots.2.2 i (by rw[<-h.rots.1];exact hi)
  rw[k f]
  exact ⟨_,_,rfl,ty.lt,G3 (Dr ty Fq i 22 rfl)⟩
 ·obtain ⟨g,f,r,ty,_,_,m,_⟩:=h.farms.2.2 i hi
  rw[k f]
  exact ⟨⟨_,_,rfl,ty.lt,G3 (Dr ty F3 i 3 rfl)⟩,m⟩
 ·obtain ⟨g,f,r,ty,m,_⟩:=h.rights.2.2 i hi
  rw[k f]
  exact ⟨⟨_,_,rfl,ty.lt,G3 (Dr ty C8 i 0 rfl)⟩,m⟩
 ·refine At.mono (fun a e A=>?_) (h.all2 hs)
  obtain ⟨b,o,rfl,hb,d,c,l,p⟩:=A
  have u:=Rl (B:=B) e.1 b o c p l d
  have m:=p.exV (N:=M) (fun _ h _=>h)
  obtain ⟨a,cap,rfl,e1,e2,D⟩:=m.cells
  obtain ⟨z,r1,r2,C,w,E⟩:=Br l
  exact ⟨b,o,_,rfl,l,m,u,⟨_,_,rfl,d.lt,F7 d (by omega) (by omega)⟩,⟨_,_,rfl,d.lt,F7 d (by omega) (by omega)⟩,⟨_,_,rfl,d.lt,F7 d (by omega) (by omega)⟩,⟨_,_,rfl,d.lt,_,w⟩,
   fun h0=>⟨_,_,rfl,d.lt,Kj d z (by rw[h0];decide)⟩⟩
 ·obtain ⟨_,_,_,_,_,_,_,_,_,_,_,y⟩:=h.rots.2.2 i hi
  exact y.1
end
section
variable{B:Nat}{W W':World}{N M:NP}{E:Int->Ex->Nat->Nat->Prop}{R:Int->Rf->Nat->Nat->Prop}{L:Bh}{x:An}{t:Tb}{X:List Us}{O:NP}
theorem Il:∀ {l:List (List Us × Bool)},(BI l).2=true->∀p∈l,p.2=true∧∀u∈p.1,u∈(BI l).1
 |[],_=>by simp
 |y::r,h=>by
  have e:BI (y::r)=if y.2 then (y.1++(BI r).1,(BI r).2) else (y.1,false):=rfl
  rw[e] at h ⊢
  by_cases h1:y.2=true
  ·rw[yx h1] at h ⊢
   have ih:=Il h
   intro p a
   rcases yJ.1 a with rfl|a
   ·exact ⟨h1,fun u b=>yo.2 (.inl b)⟩
   ·exact ⟨(ih p a).1,fun u b=>yo.2 (.inr ((ih p a).2 u b))⟩
  ·rw[yu h1] at h;cases h
theorem Lv{α β γ:Type}{R R':α->β->Prop}{f:α->β->γ}{Q:γ->Prop}(h:∀a b,R a b->Q (f a b)->R' a b):∀ {l:List α} {m:List β},At R l m->(∀p∈List.zipWith f l m,Q p)->At R' l m
 |[],[],_,_=>trivial
 |a::l,b::m,hA,hq=>by
  rw[At] at hA
  simp only[xO,zV] at hq
  exact ⟨h a b hA.1 hq.1,Lv h hA.2 hq.2⟩
 |[],_::_,hA,_=>by simp[At] at hA
 |_::_,[],hA,_=>by simp[At] at hA
def TN(W:World)(X:List Us)(M:NP)(lt:Int)(e:Ex)(b o:Nat):Prop:=ET M W lt e b o∧(D8 e=false->(Cg W lt e b o).2=true∧∀u∈(Cg W lt e b o).1,u∈X)
def TO(X:List Us)(R:Int->Rf->Nat->Nat->Prop)(to:Int)(r:Rf)(b o:Nat):Prop:=R to r b o∧∃at_,(⟨b,o,to,at_,r.name,r.n⟩:Us)∈X
theorem Ch.linkE(h:Ch N (ET M W) R W L x)(hs:N L.s)(l:(Ca W L x).2=true)(g:∀u∈(Ca W L x).1,u∈X):Ch N (TN W X M) R W L x:=by
 have j:=Il l
 refine h.told (Lv (f:=Ct W) (Q:=fun p=>p.2=true∧∀u∈p.1,u∈X) (fun a e k c=>?_) (h.all2 hs) (fun p d=>?_))
 ·obtain ⟨b,o,rfl,hb,d,m⟩:=k
  refine ⟨b,o,rfl,m,fun hl=>?_⟩
  unfold Ct at c
  rw[hl] at c
  exact c
 ·obtain ⟨h1,h2⟩:=j p (yo.2 (.inl d))
  exact ⟨h1,fun u i=>g u (h2 u i)⟩
theorem Co{f:Nat->List Us}{n i:Nat}{u:Us}(hi:i < n)(a:u∈f i):u∈(List.range n).flatMap f:=yN.2 ⟨i,yZ.2 hi,a⟩
theorem Ch.linkR(h:Ch N E R W L x)(t:∀u∈EK L x,u∈X)(l:∀u∈Cl L x,u∈X):Ch N E (TO X R) W L x:=by
 have c:∀ {hd:Av} {g sz i off:Nat},hd.a=some (aV g 0)->hd.at sz i off=(aV g (i*sz+off)):=fun b=>by rw[AU b,yA]
 have p:∀u∈(List.range L.farms.n).flatMap (E4 L.farms x.farms),u∈X:=fun u j=>l u (by unfold Cl;simp only[yo];exact .inl (.inl (.inl j)))
 have q:∀u∈(List.range L.rots.n).flatMap (Gl L x.rots),u∈X:=fun u j=>l u (by unfold Cl;simp only[yo];exact .inl (.inl (.inr j)))
 have s:∀u∈(List.range L.rights.n).flatMap (CY L.rights x.rights),u∈X:=fun u j=>l u (by unfold Cl;simp only[yo];exact .inl (.inr j))
 have r:∀u∈(List.range L.duties.n).flatMap (DM L.duties x.duties),u∈X:=fun u j=>l u (by unfold Cl;simp only[yo];exact .inr j)
 refine ⟨h.ty,h.name,h.season,h.cap,h.start,h.hlets,h.hcrops,h.hreaches,h.hfarms,h.hrots,h.hrights,h.hduties,h.lets,h.crops,⟨h.reaches.1,h.reaches.2.1,fun i hi=>?_⟩,⟨h.farms.1,h.farms.2.1,fun i hi=>?_⟩,⟨h.rots.1,h.rots.2.1,fun i hi=>?_⟩,⟨h.rights.1,h.rights.2.1,fun i hi=>?_⟩,⟨h.duties.1,h.duties.2.1,fun i hi=>?_⟩⟩
 ·obtain ⟨g,b,f,ty,h1,e,h2⟩:=h.reaches.2.2 i hi
  refine ⟨g,b,f,ty,h1,⟨e,⟨i,t _ (Co (by rw[h.reaches.1];exact hi) ?_)⟩⟩,h2⟩
  unfold I4;rw[yk hi];simp[c b]
 ·obtain ⟨g,b,f,ty,h1,e,h2,h3,d⟩:=h.farms.2.2 i hi
  refine ⟨g,b,f,ty,h1,⟨e,⟨0,p _ (Co (by rw[h.farms.1];exact hi) ?_)⟩⟩,h2,h3,⟨d,⟨0,p _ (Co (by rw[h.farms.1];exact hi) ?_)⟩⟩⟩
  ·unfold E4;rw[yk hi];simp[c b,D3]
  ·unfold E4;rw[yk hi];simp[c b,D3]
 ·obtain ⟨g,b,f,ty,h1,e,h2,h3,h4,h5,h6,m⟩:=h.rots.2.2 i hi
  refine ⟨g,b,f,ty,h1,⟨e,⟨0,q _ (Co (by rw[h.rots.1];exact hi) ?_)⟩⟩,h2,h3,h4,h5,h6,m.1,m.2.1,fun k o=>?_⟩
  ·unfold Gl;rw[yk hi];simp[c b,D3]
  ·obtain ⟨g,b,f,ty,e,h1⟩:=m.2.2 k o
   refine ⟨g,b,f,ty,⟨e,⟨0,q _ (Co (i:=i) (by rw[h.rots.1];exact hi) ?_)⟩⟩,h1⟩
   unfold Gl;rw[yk hi]
   refine yJ.2 (.inr (Co (i:=k) (by rw[m.1];exact o) ?_))
   unfold EM;rw[yk o];simp[c b,D3]
 ·obtain ⟨g,b,f,ty,h0,h1,e,d,h2⟩:=h.rights.2.2 i hi
  refine ⟨g,b,f,ty,h0,h1,⟨e,⟨0,s _ (Co (by rw[h.rights.1];exact hi) ?_)⟩⟩,⟨d,⟨0,s _ (Co (by rw[h.rights.1];exact hi) ?_)⟩⟩,h2⟩
  ·unfold CY;rw[yk hi];simp[c b,D3]
  ·unfold CY;rw[yk hi];simp[c b,D3]
 ·obtain ⟨g,b,f,ty,h1,e,d,h2⟩:=h.duties.2.2 i hi
  refine ⟨g,b,f,ty,h1,⟨e,⟨0,r _ (Co (by rw[h.duties.1];exact hi) ?_)⟩⟩,⟨d,⟨0,r _ (Co (by rw[h.duties.1];exact hi) ?_)⟩⟩,h2⟩
  ·unfold DM;rw[yk hi];simp[c b,D3]
  ·unfold DM;rw[yk hi];simp[c b,D3]
theorem RJ.at(h:RJ B W t X X.length O W'){u:Us}(c:u∈X)(h0:u.to≠0):W'.cell? ⟨u.b,u.o+1,none⟩=some (.int .i64 (GA t (Et u.to) u.name)):=by
 obtain ⟨j,a,rfl⟩:=zg.1 c
 exact ((h.done j a a).2 h0).2
theorem Nt(t:Tb)(l:List Ex):(Eu t l).length=l.length:=by rw[Mf];simp
mutual
theorem Pu(h:RJ B W t X X.length O W')(lt:Int):∀(e:Ex) (b o:Nat) (cs:LV),Hr W M e cs->W.rangeAt b o cs->Gj W b o->(Cg W lt e b o).2=true->(∀u∈(Cg W lt e b o).1,u∈X)->∃c,W'.rangeAt b o c∧Hr W' M (G0 t e) c
 |.mk op n u rn ri args,b,o,cs,hv,hr,hp,ho,hX=>by
  rw[Hr] at hv
  obtain ⟨a,cap,rfl,h2,h3,h4⟩:=hv
  obtain ⟨i,r1,r2,k,m,g⟩:=Br hr
  have hc:∀j,j < 6->j≠4->W'.cell? ⟨b,o+j,none⟩=W.cell? ⟨b,o+j,none⟩:=fun j l h4=>h.cells b _ hp.lt (F7 hp l h4)
  rw[Cg] at ho hX
  by_cases hs:MJ op args.length=true
  ·rw[yx hs] at ho hX
   rw[g] at ho hX
   simp only[zV] at hX
   have f:=Nu h lt args a args.length cap 0 h4 ho hX.2
   have d:W'.cell? ⟨b,o+4,none⟩=some (.int .i64 (if op=2 then GA t 1 rn else ri)):=by
    by_cases h5:op=2
    ·have h6:=h.at hX.1 (by simp only[KL,h5,zY];split<;>simp)
     rw[yx h5]
     simp only[KL,h5,zY,zN] at h6
     rw[h6]
     split<;>rfl
    ·rw[yu h5]
     exact (h.cells b _ hp.lt (Kj hp i h5)).trans m
   refine ⟨[iV op,iV n,iV u,.string rn,iV (if op=2 then GA t 1 rn else ri),.slice a args.length cap],?_,?_⟩
   ·exact A5 ((hc 0 (by omega) (by omega)).trans i) (A5 ((hc 1 (by omega) (by omega)).trans r1) (A5 ((hc 2 (by omega) (by omega)).trans r2) (A5 ((hc 3 (by omega) (by omega)).trans k) (A5 d (C9 ((hc 5 (by omega) (by omega)).trans g))))))
   ·rw[G0,Hr]
    exact ⟨a,cap,by rw[Nt],by rw[Nt];exact h2,h3,f⟩
  ·rw[yu hs] at ho;cases ho
theorem Nu(h:RJ B W t X X.length O W')(lt:Int):∀(l:List Ex) (a:Option Addr) (n cap i:Nat),Dy W M a i l->(Bw W lt l (some (.slice a n cap)) i).2=true->(∀u∈(Bw W lt l (some (.slice a n cap)) i).1,u∈X)->Dy W' M a i (Eu t l)
 |[],a,n,cap,i,_,_,_=>by rw[Eu,Dy];trivial
 |e::r,a,n,cap,i,hr,ho,hX=>by
  rw[Dy] at hr
  obtain ⟨⟨g,cs,rfl,h1,h2,h3,h4⟩,h5⟩:=hr
  rw[Bw] at ho hX
  by_cases b:(Cg W lt e g (0+i*6)).2=true
  ·rw[yx b] at ho hX
   simp only[yo,or_imp,forall_and] at hX
   obtain ⟨c,c1,c2⟩:=Pu h lt e g (0+i*6) cs h4 (by rw[yA];exact h3) (by rw[yA];exact Ki h2 i) b hX.1
   rw[yA] at c1
   rw[Eu,Dy]
   exact ⟨⟨g,c,rfl,h1,h.tyT h2,c1,c2⟩,Nu h lt r (some ⟨g,0,none⟩) n cap (i+1) h5 ho hX.2⟩
  ·rw[yu b] at ho;cases ho
end
theorem Qc{e:Ex}(h:D8 e=true):e.op=0∧e.args=[]:=by
 unfold D8 FQ at h
 simp only[yt,yW] at h
 exact ⟨h.1,List.eq_nil_of_length_eq_zero h.2.2.2.2⟩
theorem Rn(h:RJ B W t X X.length O W'){lt:Int}{e:Ex}{b o:Nat}(hl:D8 e=true)(s:ET M W lt e b o)(d:Gj W b o):ET M W' lt e b o:=by
 obtain ⟨c,m,f⟩:=s
 obtain ⟨g,k⟩:=Qc hl
 cases e with
 |mk op n u rn ri args=>
 simp only[Ex.op,Ex.args] at g k
 subst k
 rw[Hr] at f
 obtain ⟨a,cap,rfl,h2,h3,h4⟩:=f
 obtain ⟨i,r1,r2,l,q,r⟩:=Br m
 have hc:∀j,j < 6->j≠4->W'.cell? (aV b (o+j))=W.cell? (aV b (o+j)):=fun j p h4=>h.cells b _ d.lt (F7 d p h4)
 refine ⟨_,A5 ((hc 0 (by omega) (by omega)).trans i) (A5 ((hc 1 (by omega) (by omega)).trans r1) (A5 ((hc 2 (by omega) (by omega)).trans r2) (A5 ((hc 3 (by omega) (by omega)).trans l) (A5 ((h.cells b _ d.lt (Kj d i (by rw[g];decide))).trans q) (C9 ((hc 5 (by omega) (by omega)).trans r)))))),?_⟩
 rw[Hr]
 exact ⟨a,cap,rfl,h2,h3,by rw[Dy];trivial⟩
theorem Qd(hN:∀g,N g->B<=g)(hM:∀g,M g->B<=g)(hs:N L.s)(h:Ch N (ET M W) (RV W) W L x)(d:RJ B W t (CL W L x) (CL W L x).length O W')(p:(Ca W L x).2=true):Ch N (ET M W') (RV W') W' L (x.mp (fT t) (gT t)):=by
 have q:Ci x=true:=by
  have:=Il p (if Ci x then Cl L x else [],Ci x) (yo.2 (.inr (by simp)))
  exact this.1
 have j:∀u∈Cl L x,u∈CL W L x:=fun u l=>yo.2 (.inr ((Il p (if Ci x then Cl L x else [],Ci x) (yo.2 (.inr (by simp)))).2 u (by rw[yx q];exact l)))
 refine ((h.linkE (X:=CL W L x) hs p (fun u l=>yo.2 (.inr l))).linkR (X:=CL W L x) (fun u l=>yo.2 (.inl l)) j).map (fun b ty _ h=>d.tyT h) (fun b o _ h=>d.cells b o h.lt (G3 h)) (fun lt e b o _ i m=>?_) (fun to r b o _ i f=>?_)
 ·obtain ⟨m,a⟩:=m
  unfold fT
  by_cases hl:D8 e=true
  ·rw[yx hl];exact Rn d hl m i
  ·rw[yu hl]
   obtain ⟨v,w⟩:=a (by simpa using hl)
   obtain ⟨c,c1,c2⟩:=m
   exact Pu d lt e b o c c2 c1 i v w
 ·obtain ⟨f,a⟩:=f
  have k:¬ I3 B W b o:=by
   obtain ⟨ty,p1,p2,_⟩:=i
   exact G3 ⟨ty,p1,p2⟩
  unfold gT
  by_cases h0:to=0
  ·rw[yx h0]
   refine ⟨f.1,(d.cells b o i.lt k).trans f.2.1,(d.cells b _ i.lt ?_).trans f.2.2⟩
   obtain ⟨at_,n⟩:=a
   exact (Pq hN hM hs h _ n).notNum h0
  ·rw[yu h0]
   obtain ⟨at_,n⟩:=a
   exact ⟨f.1,(d.cells b o i.lt k).trans f.2.1,d.at n h0⟩
end
end Go.Proofs.Ytghepahgkcigpaa
namespace Go.Proofs.Ytghepahgkcigpaa
open Go.RowKit
attribute [local go_sem] Oper.semAt_some
def IP(B:Nat):Deferred:={target:=.fn (.func 24) #[.pointer (some ⟨B+1,0,none⟩),.pointer (some ⟨B+2,0,none⟩)],args:=#[]}
def Jk(D:Nat):Deferred:={target:=.collected D,args:=#[]}
def OK(B:Nat)(w':World)(cs:LV)(x:An):Prop:=∃(L:Bh) (N:NP),cs.length=26∧B8 N w' L cs x∧∀b,N b->B<=b∧b < w'.heap.size
def ER(w:World)(x:An)(e:Ending)(w':World):Prop:=
 Below w.heap.size w w'∧((Au x≠0∧e=.returned (.tuple #[.agg Bo.toArray,.int .i64 (Au x)]))∨(Au x=0∧∃cs,e=.returned (.tuple #[.agg cs.toArray,.int .i64 0])∧OK w.heap.size w' cs (A8 x)))
structure Jl (w W:World):Prop where
 below:Below w.heap.size w W
 x:∃row:Array Value,row.size=26∧W.heap[w.heap.size+1]?=some (.cells row 35 (0,0))
 e:∃v:Value,W.heap[w.heap.size+2]?=some (.cells #[v] 38 (0,0))
theorem Jl.up{w W W':World}(h:Jl w W)(hb:Below (w.heap.size+3) W W'):Jl w W':=by
 obtain ⟨row,h1,h2⟩:=h.x
 obtain ⟨v,h3⟩:=h.e
 exact ⟨h.below.trans (hb.mono (by omega)),⟨row,h1,(hb.block _ (by omega)).trans h2⟩,⟨v,(hb.block _ (by omega)).trans h3⟩⟩
def KT(B:Nat)(tm:Array Value):Prop:=tm.getD 2 undef=.pointer (some ⟨B+1,0,none⟩)∧tm.getD 3 undef=.pointer (some ⟨B+2,0,none⟩)
structure Kk (Q:Exit->Act->World->Prop) (w:World) (x:An):Prop where
 fail:∀tm W,KT w.heap.size tm->Jl w W->Au x≠0->Q (.panic (Ek (Au x))) {tmps:=tm,defers:=[IP w.heap.size]} W
 failD:∀D tm W,KT w.heap.size tm->Jl w W->Au x≠0->w.heap.size+3<=D->W.heap[D]?=some (.deferred (some []))->Q (.panic (Ek (Au x))) {tmps:=tm,defers:=[Jk D,IP w.heap.size]} W
 done:∀D tm W cs,KT w.heap.size tm->Below w.heap.size w W->W.heap[w.heap.size+1]?=some (.cells cs.toArray 35 (0,0))->W.heap[w.heap.size+2]?=some (.cells #[.int .i64 0] 38 (0,0))->Au x=0->w.heap.size+3<=D->W.heap[D]?=some (.deferred (some []))->
  OK w.heap.size (W.putObj D (.deferred none)) cs (A8 x)->Q .ret {tmps:=tm,defers:=[Jk D,IP w.heap.size]} W
theorem Nv{W:World}{tm:Array Value}{B:Nat}{cs:LV}{z:Int}(h:KT B tm)(h1:W.heap[B+1]?=some (.cells cs.toArray 35 (0,0)))(a:cs.length=26)(h2:W.heap[B+2]?=some (.cells #[.int .i64 z] 38 (0,0))):
  (results Try.f11 tm).run Try.prog W=.ok (.tuple #[.agg cs.toArray,.int .i64 z]) W:=by
 obtain ⟨c,b⟩:=h
 rw[yG] at c b
 have e:W.rangeAt (B+1) 0 cs:=by
  have:=yR h1 0 cs.length
  simpa using this
 have g:=xX (P:=Try.prog) W (B+1) 0 35 cs _ e qB rfl (by rw[a];kernel_rfl)
 have c2:W.cell? (aV (B+2) 0)=some (iV z):=by simp[World.cell?,h2]
 have f:(loadVar 38 (aV (B+2) 0)).run Try.prog W=.ok (iV z) W:=by
  have d:(isAgg 38).run Try.prog W=.ok false W:=by kernel_rfl
  simp[loadVar,d,go_sem,c2]
 simp[results,Try.results11,c,b,asAddr,g,f]
theorem Ja{w W:World}{x:An}{tm:Array Value}(g:KT w.heap.size tm)(d:Jl w W)(h0:Au x≠0):LeavesInM Fence.wide 10 Try.prog Try.f11 tm (ER w x) [IP w.heap.size] (.panicking (Ek (Au x))) W:=by
 obtain ⟨row,c,a⟩:=d.x
 obtain ⟨v,f⟩:=d.e
 refine ⟨by simp,.inr ⟨by simp[Fence.wide],_,_,_,_,rfl,by rfl,fun _ _=>trivial,?_⟩⟩
 refine (KS 9 (w.heap.size+1) (w.heap.size+2) (by omega) (Au x) row v W a c f).mono ?_
 rintro e h w' ⟨rfl,rfl,rfl⟩
 have e1:((W.setRow (w.heap.size+1) Bo.toArray).setCell (aV (w.heap.size+2) 0) (iV (Au x))).heap[w.heap.size+1]?=some (.cells Bo.toArray 35 (0,0)):=by
  rw[yY _ _ _ _ (by simp)]
  simp[World.setRow,yO,a]
 have e2:((W.setRow (w.heap.size+1) Bo.toArray).setCell (aV (w.heap.size+2) 0) (iV (Au x))).heap[w.heap.size+2]?=some (.cells #[iV (Au x)] 38 (0,0)):=by
  have:=za (W.setRow (w.heap.size+1) Bo.toArray) (w.heap.size+2) 0 #[v] 38 (iV (Au x)) (by simp[World.setRow,yO,f])
  rw[this];rfl
 refine ⟨_,Nv g e1 rfl e2,?_,.inl ⟨h0,rfl⟩⟩
 refine d.below.trans ⟨rfl,rfl,rfl,by simp[World.setRow],fun b hb=>?_⟩
 rw[yY _ _ _ _ (by simp;omega)]
 simp only[World.setRow,yO,yu (show ¬ w.heap.size+1=b by omega)]
theorem Ro(w:World)(x:An):Kk (bodyPostM Fence.wide 10 Try.prog Try.f11 (ER w x)) w x:=by
 refine ⟨fun tm W a d h0=>Ja a d h0,fun D tm W a d h0 g hd=>?_,fun D tm W cs a hb h1 h2 h0 g hd hs=>?_⟩
 ·refine ⟨by simp,.inl ⟨D,_,rfl,run_takeDeferred hd,Ja a (d.up ⟨rfl,rfl,rfl,by simp,fun b hb=>World.putObj_heap_other (by omega)⟩) h0⟩⟩
 ·refine ⟨by simp,.inl ⟨D,_,rfl,run_takeDeferred hd,?_⟩⟩
  refine ⟨by simp,.inr ⟨by simp[Fence.wide],_,_,_,_,rfl,by rfl,fun _ _=>trivial,?_⟩⟩
  refine (Rh 9 _ _ _).mono ?_
  rintro e h w' ⟨rfl,rfl,rfl⟩
  have c:=hs
  obtain ⟨L,N,f,_⟩:=c
  exact ⟨_,Nv a ((World.putObj_heap_other (by omega)).trans h1) f ((World.putObj_heap_other (by omega)).trans h2),hb.trans ⟨rfl,rfl,rfl,by simp,fun b hb=>World.putObj_heap_other (by omega)⟩,.inr ⟨h0,cs,rfl,hs⟩⟩
def Ul:Code->Code
 |.seq _ y=>y
 |c=>c
def CP:Nat->Code->Code
 |0,c=>c
 |k+1,c=>CP k (Ul c)
end Go.Proofs.Ytghepahgkcigpaa
namespace Go.Proofs.Ytghepahgkcigpaa
open Go.RowKit
theorem Kl(s:Nat)(w:World):Calls Try.prog 51 #[.pointer (some ⟨s,0,none⟩)] w fun x w'=>x=.returned (.func (.func 81) #[] #[.pointer (some ⟨w.heap.size,0,none⟩)])∧w'=w.alloc (.cells #[.pointer (some ⟨s,0,none⟩)] 52):=by
 have a:∀(fn:Fn) (first cap:Array Value) (w:World),(Instr.makeFunc fn first cap).run Try.prog w=.ok (.func fn first cap) w:=fun _ _ _ _=>rfl
 go_enter Try.func51,Try.ntmps51
 go_wp2
 go_ret
 exact ⟨rfl,rfl⟩
section
variable{B:Nat}{W W':World}{N N' M:NP}{E:Int->Ex->Nat->Nat->Prop}{R:Int->Rf->Nat->Nat->Prop}{L:Bh}{x:An}
theorem Ch.ren(h:Ch N E R W L x)(hN:∀g t,N g->Ty W g t->t≠35->t≠38->N' g):Ch N' E R W L x:=by
 refine ⟨h.ty,h.name,h.season,h.cap,h.start,h.hlets,h.hcrops,h.hreaches,h.hfarms,h.hrots,h.hrights,h.hduties,⟨h.lets.1,h.lets.2.1,fun i hi=>?_⟩,⟨h.crops.1,h.crops.2.1,fun i hi=>?_⟩,⟨h.reaches.1,h.reaches.2.1,fun i hi=>?_⟩,⟨h.farms.1,h.farms.2.1,fun i hi=>?_⟩,⟨h.rots.1,h.rots.2.1,fun i hi=>?_⟩,⟨h.rights.1,h.rights.2.1,fun i hi=>?_⟩,⟨h.duties.1,h.duties.2.1,fun i hi=>?_⟩⟩
 ·obtain ⟨g,a,b,ty,h1⟩:=h.lets.2.2 i hi
  exact ⟨g,a,hN g _ b ty (by decide) (by decide),ty,h1⟩
 ·obtain ⟨g,a,b,ty,h1⟩:=h.crops.2.2 i hi
  exact ⟨g,a,hN g _ b ty (by decide) (by decide),ty,h1⟩
 ·obtain ⟨g,a,b,ty,h1⟩:=h.reaches.2.2 i hi
  exact ⟨g,a,hN g _ b ty (by decide) (by decide),ty,h1⟩
 ·obtain ⟨g,a,b,ty,h1⟩:=h.farms.2.2 i hi
  exact ⟨g,a,hN g _ b ty (by decide) (by decide),ty,h1⟩
 ·obtain ⟨g,a,b,ty,h1,h2,h3,h4,h5,h6,e,c⟩:=h.rots.2.2 i hi
  refine ⟨g,a,hN g _ b ty (by decide) (by decide),ty,h1,h2,h3,h4,h5,h6,e,c.1,c.2.1,fun k d=>?_⟩
  obtain ⟨g,a,b,ty,h1⟩:=c.2.2 k d
  exact ⟨g,a,hN g _ b ty (by decide) (by decide),ty,h1⟩
 ·obtain ⟨g,a,b,ty,h1⟩:=h.rights.2.2 i hi
  exact ⟨g,a,hN g _ b ty (by decide) (by decide),ty,h1⟩
 ·obtain ⟨g,a,b,ty,h1⟩:=h.duties.2.2 i hi
  exact ⟨g,a,hN g _ b ty (by decide) (by decide),ty,h1⟩
theorem Km{b ty:Nat}{v:Value}(h:W.heap[b]?=some (.cells #[v] ty (0,0)))(e:∀k z,v≠.int k z)(a:∀q,Fp ty q=1∧FR ty q=q % 6)(q:Nat):¬ I3 B W b q:=by
 rintro ⟨_,o,d,rfl,h1,h2,h3⟩
 have c:Ty W b ty:=⟨_,h⟩
 obtain rfl:=c.inj h1
 apply h3
 unfold EO
 rw[DP c,(a _).1,yx rfl]
 rcases h2 with h2|h2
 ·rw[(a _).1] at h2;cases h2
 ·rw[(a _).2] at h2
  by_cases h5:o - 3=0
  ·rw[h5]
   simp only[World.cell?,h]
   simp
   cases v<;>simp_all
  ·have:W.cell? ⟨b,o - 3,none⟩=none:=by
    simp only[World.cell?,h]
    simp;omega
   rw[this]
theorem Kn{b:Nat}(h:∀t,¬ Ty W b t)(q:Nat):¬ I3 B W b q:=by
 rintro ⟨_,o,a,rfl,h1,h2,h3⟩
 exact h _ h1
def Bb(W:World)(b:Nat)(a:LB):Prop:=∃m,W.heap[b]?=some (.cells #[.map (some m)] 90 (0,0))∧Cb W m a
theorem Hh{t:Nat}(h:t≠35∧t≠55∧t≠57∧t≠51∧t≠59∧t≠64∧t≠66∧t≠68∧t≠70)(q:Nat):Fp t q=1∧FR t q=q % 6:=by
 obtain ⟨h1,h2,h3,h4,h5,h6,c,a,b⟩:=h
 unfold Fp FR
 rw[yu h1,yu h1,yu h2,yu h2,yu h3,yu h3,yu h4,yu h4,yu h5,yu h5,yu h6,yu h6,yu c,yu c,yu a,yu a,yu b,yu b]
 exact ⟨rfl,rfl⟩
theorem Bb.read{t:Tb}{X:List Us}{k b:Nat}{O:NP}{d:LB}(h:Bb W b d)(e:RJ B W t X k O W'):∃m es a,W'.cell? ⟨b,0,none⟩=some (.map (some m))∧Cb W' m d∧W'.heap[m]?=some (.map es a)∧es.size=d.length:=by
 obtain ⟨m,h1,h2⟩:=h
 have e1:W'.heap[b]?=W.heap[b]?:=e.same b (yf.1 h1).1 (Km h1 (by simp) (Hh (by decide)))
 obtain ⟨es,a,h3,h4⟩:=h2.size
 have e2:W'.heap[m]?=W.heap[m]?:=e.same m h2.lt (Kn fun t ⟨c,hc⟩=>by rw[h3] at hc;cases hc)
 exact ⟨m,es,a,by simp[World.cell?,e1,h1],h2.block e2,e2.trans h3,h4⟩
theorem Ko{t:Tb}{X:List Us}{k b ty:Nat}{v:Value}{O:NP}(h:W.heap[b]?=some (.cells #[v] ty (0,0)))(d:∀k z,v≠.int k z)(a:∀q,Fp ty q=1∧FR ty q=q % 6)(c:RJ B W t X k O W'):W'.cell? ⟨b,0,none⟩=some v:=by
 have e1:W'.heap[b]?=W.heap[b]?:=c.same b (yf.1 h).1 (Km h d a)
 simp[World.cell?,e1,h]
mutual
theorem Mi(lt:Int):∀(e:Ex) (b o:Nat),∀u∈(Cg W lt e b o).1,u.to≠6
 |.mk op n u rn ri args,b,o=>by
  intro v a
  rw[Cg] at a
  by_cases hs:MJ op args.length=true
  ·rw[yx hs] at a
   rcases yJ.1 a with rfl|a
   ·simp only;unfold KL;split
    ·split<;>decide
    ·decide
   ·exact Pv lt args _ 0 v a
  ·rw[yu hs] at a;cases a
theorem Pv(lt:Int):∀(l:List Ex) (a:Option Value) (i:Nat),∀u∈(Bw W lt l a i).1,u.to≠6
 |[],a,i=>by intro v d;rw[Bw] at d;cases d
 |e::r,a,i=>by
  intro v d
  by_cases f:∃b o n c,a=some (.slice (some ⟨b,o,none⟩) n c)
  ·obtain ⟨b,o,n,c,rfl⟩:=f
   rw[Bw] at d
   split at d
   ·rcases yo.1 d with d|d
    ·exact Mi lt e _ _ v d
    ·exact Pv lt r _ _ v d
   ·exact Mi lt e _ _ v d
  ·have e0:Bw W lt (e::r) a i=([],false):=by
    rw[Bw]
    intro b o n c h
    exact f ⟨b,o,n,c,h⟩
   rw[e0] at d;cases d
end
theorem Sv:∀u∈(Ca W L x).1,u.to≠6:=by
 intro u a
 obtain ⟨p,b,a⟩:=Ik a
 unfold E8 at b
 rcases yo.1 b with b|b
 ·obtain ⟨i,hi,rfl⟩:=zg.1 b
  simp only[Ds,List.getElem_zipWith] at a
  unfold Ct at a
  split at a
  ·cases a
  ·exact Mi _ _ _ _ u a
 ·simp only[zt] at b
  rw[b] at a
  simp only at a
  split at a
  ·unfold Cl at a
   simp only[yo] at a
   rcases a with ((a|a)|a)|a
   ·obtain ⟨i,hi,a⟩:=yN.1 a
    unfold E4 at a
    split at a
    ·simp only[D3,yJ,zl,xp] at a
     rcases a with rfl|rfl
     ·simp
     ·simp only;split<;>simp
    ·cases a
   ·obtain ⟨i,hi,a⟩:=yN.1 a
    unfold Gl at a
    split at a
    ·simp only[D3,yJ] at a
     rcases a with rfl|a
     ·simp
     ·obtain ⟨k,c,a⟩:=yN.1 a
      unfold EM at a
      split at a
      ·simp only[D3,zt] at a
       rw[a];simp
      ·cases a
    ·cases a
   ·obtain ⟨i,hi,a⟩:=yN.1 a
    unfold CY at a
    split at a
    ·simp only[D3,yJ,zl,xp] at a
     rcases a with rfl|rfl
     ·simp
     ·simp only;split<;>simp
    ·cases a
   ·obtain ⟨i,hi,a⟩:=yN.1 a
    unfold DM at a
    split at a
    ·simp only[D3,yJ,zl,xp] at a
     rcases a with rfl|rfl<;>simp
    ·cases a
  ·cases a
end
structure Hs (w:World) (x:An) (W5:World) (L:Bh) (N M:Nat->Prop) (bl bc br bf Bf Bu:Nat):Prop where
 amid:Jl w W5
 lets:Bb W5 bl (x.lets.map (·.name))
 crops:Bb W5 bc (x.crops.map (·.name))
 reaches:Bb W5 br (x.reaches.map (·.name))
 farms:Bb W5 bf (x.farms.map (·.name))
 find:W5.heap[Bf]?=some (.cells #[.func (.func 49) #[] #[]] 100 (0,0))
 box:W5.heap[Bu]?=some (.cells #[.pointer (some ⟨L.s,0,none⟩)] 52 (0,0))
 ps:Ch N (ET M W5) (RV W5) W5 L x
 hN:∀g,N g->w.heap.size<=g∧g < W5.heap.size
 hM:∀g,M g->w.heap.size+3<=g∧g < W5.heap.size
 hs:N L.s
 ls:L.s=w.heap.size+1
 fits:Bq x=true
 wr:Au x=if CC (Tb.of x) x&&CK (Tb.of x) x then 0 else 170
section
variable{w W5 W:World}{x:An}{L:Bh}{N M:NP}{bl bc br bf Bf Bu k:Nat}{t:Tb}{X:List Us}{O:NP}
theorem RJ.amid(c:Jl w W5)(h:RJ w.heap.size W5 t X k O W):Jl w W:=by
 refine ⟨c.below.trans ⟨h.os,h.tape,h.output,h.size,fun b hb=>h.same b (by have:=c.below.size;omega) (fun q d=>by have:=d.1;omega)⟩,?_,?_⟩
 ·obtain ⟨row,h1,h2⟩:=c.x
  obtain ⟨a,e1,e2⟩:=h.ty _ _ _ h2
  exact ⟨a,by omega,e2⟩
 ·obtain ⟨v,h2⟩:=c.e
  obtain ⟨a,e1,e2⟩:=h.ty _ _ _ h2
  obtain ⟨v',rfl⟩:∃v',a=#[v']:=by
   have:a.size=1:=e1
   exact ⟨a[0],by ext i h1 h2;omega;simp at h2;subst h2;rfl⟩
  exact ⟨v',e2⟩
theorem Hs.uok(h:Hs w x W5 L N M bl bc br bf Bf Bu):∀u∈CL W5 L x,MM w.heap.size W5 u:=Pq (fun g a=>(h.hN g a).1) (fun g a=>by have:=(h.hM g a).1;omega) h.hs h.ps
theorem Hs.uses(h:Hs w x W5 L N M bl bc br bf Bf Bu):JW M W5 (CR w.heap.size W5) (DR W5) Bu L x:=
 Rm h.hs h.ps (yf.1 h.box).1 (by simp[World.cell?,h.box]) h.fits
theorem Hs.bad(h:Hs w x W5 L N M bl bc br bf Bf Bu){u:Us}(a:u∈CL W5 L x)(hb:IM (Tb.of x) u=false):Au x=170:=by
 rw[h.wr]
 rcases yo.1 a with a|a
 ·have:CC (Tb.of x) x=false:=by
   obtain ⟨i,hi,a⟩:=yN.1 a
   have hl:i < x.reaches.length:=by rw[<-h.ps.reaches.1];exact yZ.1 hi
   unfold I4 at a
   rw[yk hl] at a
   simp only[zt] at a
   unfold CC
   rw[xr]
   refine ⟨(x.reaches[i],i),zg.2 ⟨i,by simpa using hl,by simp⟩,?_⟩
   rw[a] at hb
   unfold IM at hb
   unfold JD
   rw[hb];simp
  rw[this];rfl
 ·have:CK (Tb.of x) x=false:=by
   rw[yi]
   intro b
   have:=((G2 (Tb.of x) h.uses).2 b).2 u a
   rw[hb] at this;cases this
  rw[this];simp
theorem Hs.bad2(h:Hs w x W5 L N M bl bc br bf Bf Bu)(hb:(Ca W5 L x).2=false):Au x=170:=by
 rw[h.wr]
 have:CK (Tb.of x) x=false:=by
  rw[yi]
  intro a
  have:=((G2 (Tb.of x) h.uses).2 a).1
  rw[hb] at this;cases this
 rw[this];simp
theorem Hs.good(h:Hs w x W5 L N M bl bc br bf Bf Bu)(f:RJ w.heap.size W5 (Tb.of x) (CL W5 L x) (CL W5 L x).length O W)(e:(Ca W5 L x).2=true):Au x=0:=by
 have a:∀u∈CL W5 L x,IM (Tb.of x) u=true:=fun u b=>by
  obtain ⟨j,c,rfl⟩:=zg.1 b
  exact (f.done j c c).1
 rw[h.wr,(G2 (Tb.of x) h.uses).1 ⟨e,fun u b=>a u (yo.2 (.inr b))⟩]
 have:CC (Tb.of x) x=true:=by
  unfold CC
  rw[yL]
  intro p d
  obtain ⟨i,hi,rfl⟩:=zg.1 d
  have hl:i < x.reaches.length:=by simpa using hi
  have:=a ⟨(L.reaches.at 51 i 1).block,(L.reaches.at 51 i 1).off,if i=0 then 0 else 6,i,x.reaches[i].frm.name,x.reaches[i].frm.n⟩ (yo.2 (.inl (Co (i:=i) (by rw[h.ps.reaches.1];exact hl) (by unfold I4;rw[yk hl];simp))))
  rw[xv]
  unfold IM at this
  simpa[JD] using this
 rw[this];rfl
theorem Hs.src(h:Hs w x W5 L N M bl bc br bf Bf Bu)(i:RJ w.heap.size W5 (Tb.of x) (CL W5 L x) (CL W5 L x).length O W)(m:(Ca W5 L x).2=true):
  ∃cs,cs.length=26∧W.rangeAt L.s 0 cs∧B8 (fun g=>w.heap.size<=g∧g < W5.heap.size∧g≠w.heap.size+1∧g≠w.heap.size+2) W L cs (A8 x):=by
 have h1:=Qd (fun g d=>(h.hN g d).1) (fun g d=>by have:=(h.hM g d).1;omega) h.hs h.ps i m
 have f:=i.amid h.amid
 obtain ⟨row,_,l⟩:=f.x
 obtain ⟨v,n⟩:=f.e
 refine Ch.srcV ((h1.imp (E':=EV (fun g=>w.heap.size<=g∧g < W5.heap.size∧g≠w.heap.size+1∧g≠w.heap.size+2) W) (fun _ _ _ h=>h) (fun _ _ _ _=>rfl) (fun lt e b o _ _ p=>?_) (fun _ _ _ _ _ _ h=>h)).ren fun g ty d a n1 n2=>?_)
 ·obtain ⟨c,c1,c2⟩:=p
  exact ⟨c,c1,c2.exV (fun b hb _=>by have:=h.hM b hb;refine ⟨?_,?_,?_,?_⟩<;>omega)⟩
 ·obtain ⟨j,k⟩:=h.hN g d
  refine ⟨j,k,fun e=>?_,fun e=>?_⟩
  ·subst e;exact n1 (a.inj ⟨_,l⟩)
  ·subst e;exact n2 (a.inj ⟨_,n⟩)
end
section
variable{N:NP}{E E':Int->Ex->Nat->Nat->Prop}{R R':Int->Rf->Nat->Nat->Prop}{w W:World}{L:Bh}{x:An}
theorem Ch.moved(h:Ch N E R W L x){Bx:Nat}(b:Ty W Bx 35)(a:∀q,q < 26->W.cell? ⟨Bx,q,none⟩=W.cell? ⟨L.s,q,none⟩)(c:∀lt e o,o+6<=26->E lt e L.s o->E lt e Bx o):Ch N E R W {L with s:=Bx} x:=
 ⟨b,⟨h.name.1,(a 0 (by omega)).trans h.name.2⟩,c _ _ _ (by omega) h.season,c _ _ _ (by omega) h.cap,c _ _ _ (by omega) h.start,(a _ (by omega)).trans h.hlets,(a _ (by omega)).trans h.hcrops,(a _ (by omega)).trans h.hreaches,(a _ (by omega)).trans h.hfarms,(a _ (by omega)).trans h.hrots,(a _ (by omega)).trans h.hrights,(a _ (by omega)).trans h.hduties,h.lets,h.crops,h.reaches,h.farms,h.rots,h.rights,h.duties⟩
theorem Rp{M:NP}{Bx s:Nat}(b:∀q,q < 26->W.cell? ⟨Bx,q,none⟩=W.cell? ⟨s,q,none⟩)(lt:Int)(e:Ex)(o:Nat)(g:o+6<=26)(h:ET M W lt e s o):ET M W lt e Bx o:=by
 obtain ⟨c,h1,h2⟩:=h
 obtain ⟨a,cap,rfl,_⟩:=(h2.exV (N:=M) (fun _ h _=>h)).cells
 refine ⟨_,fun j v d=>?_,h2⟩
 have f:=(yD.1 d).1
 simp only[yE,yI] at f
 rw[b _ (by omega)]
 exact h1 j v d
theorem Bb.same{b:Nat}{a:LB}{w':World}(h:Bb w b a)(hb:∀(c:Nat) (o:Obj),w.heap[c]?=some o->(∀row:Array Value,o≠Obj.cells row 35 (0,0))->w'.heap[c]?=w.heap[c]?):Bb w' b a:=by
 obtain ⟨m,h1,h2⟩:=h
 obtain ⟨es,d,h3,_⟩:=h2.size
 exact ⟨m,(hb b _ h1 (by rintro row e;cases e)).trans h1,h2.block (hb m _ h3 (by rintro row e;cases e))⟩
end
def RL(B:Nat)(W5:World)(t:Tb)(X:List Us)(n:Nat)(o:Obj)(k:Nat)(wr:World):Prop:=wr.heap.size=n∧RJ B W5 t X k (fun _=>False) (wr.alloc o)
section
variable{B:Nat}{W5 wr w':World}{t:Tb}{X:List Us}{n k:Nat}{o:Obj}
theorem RL.heap(h:RL B W5 t X n o k wr){b:Nat}(hb:b < n):(wr.alloc o).heap[b]?=wr.heap[b]?:=yQ _ _ _ (by rw[h.1];exact hb)
theorem RL.cell(h:RL B W5 t X n o k wr){b q:Nat}(hb:b < n):(wr.alloc o).cell? ⟨b,q,none⟩=wr.cell? ⟨b,q,none⟩:=Ac (h.heap hb)
theorem RL.drew(h:RL B W5 t X n o k wr):RL B W5 t X n o k wr.drew:=⟨h.1,h.2.move (ye _) rfl rfl rfl (fun _ _=>rfl) (fun _ h=>h.elim)⟩
theorem KU{b q:Nat}{v:Value}(hb:b < wr.heap.size):(wr.setCell ⟨b,q,none⟩ v).alloc o=(wr.alloc o).setCell ⟨b,q,none⟩ v:=by
 unfold World.setCell World.alloc
 simp only[World.mk.injEq,and_true]
 apply Array.ext_getElem?
 intro i
 simp only[Array.getElem?_push,yO,Array.size_modify]
 by_cases h1:i=wr.heap.size
 ·subst h1;simp[show ¬ b=wr.heap.size by omega]
 ·simp[h1]
theorem RL.next{u:Us}(h:RL B W5 t X n o k wr)(c:∀u∈X,MM B W5 u)(d:X[k]?=some u)(hb:u.b < n)(h0:u.to≠0)(a:IM t u=true):RL B W5 t X n o (k+1) (wr.setCell ⟨u.b,u.o+1,none⟩ (.int .i64 (GA t (Et u.to) u.name))):=by
 refine ⟨by simpa using h.1,?_⟩
 rw[KU (by rw[h.1];exact hb)]
 exact h.2.next c d h0 a
theorem RL.skip{u:Us}(h:RL B W5 t X n o k wr)(b:X[k]?=some u)(h0:u.to=0)(a:IM t u=true):RL B W5 t X n o (k+1) wr:=⟨h.1,h.2.skip b h0 a⟩
theorem RL.read{u:Us}(h:RL B W5 t X n o k wr)(a:MM B W5 u)(hb:u.b < n):wr.cell? ⟨u.b,u.o,none⟩=some (.string u.name)∧(∃z,wr.cell? ⟨u.b,u.o+1,none⟩=some (.int .i64 z)∧(u.to=0->z=u.n))∧wr.frozen? ⟨u.b,u.o+1,none⟩=false:=by
 obtain ⟨h1,h2,h3⟩:=h.2.read a
 rw[h.cell hb] at h1 h2
 refine ⟨h1,h2,?_⟩
 unfold World.frozen? at h3 ⊢
 rw[h.heap hb] at h3
 exact h3
end
section
variable{w W5 wr:World}{x:An}{L:Bh}{N M:NP}{bl bc br bf Bf Bu k n:Nat}{t:Tb}{X:List Us}{o:Obj}
theorem RL.amid(c:Jl w W5)(h:RL w.heap.size W5 t X n o k wr)(d:w.heap.size+3<=n):Jl w wr:=by
 have a:=RJ.amid c h.2
 obtain ⟨row,h1,h2⟩:=a.x
 obtain ⟨v,h3⟩:=a.e
 rw[h.heap (by omega)] at h2 h3
 refine ⟨⟨a.below.os,a.below.tape,a.below.output,by rw[h.1];omega,fun b hb=>?_⟩,⟨row,h1,h2⟩,⟨v,h3⟩⟩
 rw[<-h.heap (by omega)]
 exact a.below.block b hb
theorem Kp{f:Nat->List Us}{g:Nat->Us}:∀n,(∀i,i < n->f i=[g i])->(List.range n).flatMap f=(List.range n).map g
 |0,_=>rfl
 |n+1,h=>by rw[Am,Kp n (fun i hi=>h i (by omega)),h n (by omega),List.range_succ];simp
theorem Kq{E:Int->Ex->Nat->Nat->Prop}{R:Int->Rf->Nat->Nat->Prop}(h:Ch N E R W5 L x):(EK L x).length=x.reaches.length:=by
 unfold EK
 rw[Kp (g:=fun i=>⟨(L.reaches.at 51 i 1).block,(L.reaches.at 51 i 1).off,if i=0 then 0 else 6,i,(x.reaches.map (·.frm.name)).getD i ⟨#[]⟩,(x.reaches.map (·.frm.n)).getD i 0⟩) _ (fun i hi=>by
  have hl:i < x.reaches.length:=by rw[<-h.reaches.1];exact hi
  unfold I4;rw[yk hl];simp[xe,hl])]
 simp[h.reaches.1]
theorem OL{E:Int->Ex->Nat->Nat->Prop}{R:Int->Rf->Nat->Nat->Prop}(h:Ch N E R W5 L x){i g:Nat}(hi:i < x.reaches.length)(b:L.reaches.a=some ⟨g,0,none⟩):(CL W5 L x)[i]?=some ⟨g,i*51+1,if i=0 then 0 else 6,i,x.reaches[i].frm.name,x.reaches[i].frm.n⟩:=by
 unfold CL
 rw[zx (by rw[Kq h];exact hi)]
 unfold EK
 rw[Kp (g:=fun i=>⟨(L.reaches.at 51 i 1).block,(L.reaches.at 51 i 1).off,if i=0 then 0 else 6,i,(x.reaches.map (·.frm.name)).getD i ⟨#[]⟩,(x.reaches.map (·.frm.n)).getD i 0⟩) _ (fun i hi=>by
  have hl:i < x.reaches.length:=by rw[<-h.reaches.1];exact hi
  unfold I4;rw[yk hl];simp[xe,hl])]
 rw[xQ,List.getElem?_range (by rw[h.reaches.1];exact hi)]
 simp[xe,hi,AU b]
end
structure Gq (w:World) (x:An) (L:Bh) (cs:List Value) (N:Nat->Prop) (V:World):Prop where
 amid:Jl w V
 par:V.heap[w.heap.size]?=some (.cells cs.toArray 35 (0,0))
 src:B8 N w L cs x
 hN:∀b,N b->b < w.heap.size
 slim:I1 x
section
variable{w V V' w':World}{x:An}{L L0:Bh}{cs cs0:LV}{N:NP}
theorem Gq.up(h:Gq w x L cs N V)(hb:Below (w.heap.size+3) V V'):Gq w x L cs N V':=
 ⟨h.amid.up hb,(hb.block _ (by omega)).trans h.par,h.src,h.hN,h.slim⟩
theorem Gq.size(h:Gq w x L cs N V):w.heap.size+3<=V.heap.size:=by
 obtain ⟨v,a⟩:=h.amid.e
 have:=(yf.1 a).1
 omega
theorem Gq.at(h:Gq w x L cs N V):B8 (fun b=>b < V.heap.size) V L cs x:=by
 have a:=h.size
 exact h.src.same (fun b hb=>by have:=h.hN b hb;omega) (fun b hb=>h.amid.below.block b (h.hN b hb))
theorem Gq.len(h:Gq w x L cs N V):cs.length=26:=by
 obtain ⟨c0,c1,c2,rfl,b,g1,a⟩:=h.src.cells
 obtain ⟨e,f,rfl,e0⟩:=b.cells
 obtain ⟨d,p1,rfl,e1⟩:=g1.cells
 obtain ⟨c,p2,rfl,e2⟩:=a.cells
 rfl
theorem Gq.range(h:Gq w x L cs N V):V.rangeAt w.heap.size 0 cs:=by
 have:=yR h.par 0 cs.length
 simpa using this
theorem CZ(W:World){b c:Nat}(row:Array Value)(h:c≠b):(W.setRow b row).heap[c]?=W.heap[c]?:=by
 simp only[World.setRow,yO,yu (xj h)]
theorem Ft(W:World)(b:Nat)(row:Array Value):(W.setRow b row).heap.size=W.heap.size:=by simp[World.setRow]
def Jb:Obj:=.cells #[.func (.func 49) #[] #[]] 100
def Pw(b:Nat):Obj:=.cells #[.pointer (some ⟨b,0,none⟩)] 52
theorem Th(h:Gq w x L0 cs0 N V){bl bc br bf:Nat}(h1:Bb V bl (x.lets.map (·.name)))(h2:Bb V bc (x.crops.map (·.name)))(h3:Bb V br (x.reaches.map (·.name)))(h4:Bb V bf (x.farms.map (·.name)))
 (T:Bq x=true)(P:Au x=if CC (Tb.of x) x&&CK (Tb.of x) x then 0 else 170)
 (y:cs.length=26)(hb:Below V.heap.size V w')(hs:L.s=V.heap.size)(J:w'.rangeAt L.s 0 cs)(A:Ch (fun g=>V.heap.size<=g∧g≠V.heap.size+1) (ET (fun g=>V.heap.size+2<=g) w') (RV w') w' L x):
  Hs w x (((w'.setRow (w.heap.size+1) cs.toArray).alloc Jb).alloc (Pw (w.heap.size+1))) {L with s:=w.heap.size+1} (fun g=>(V.heap.size<=g∧g≠V.heap.size+1∧g < w'.heap.size)∨g=w.heap.size+1) (fun g=>V.heap.size+2<=g∧g < w'.heap.size) bl bc br bf w'.heap.size (w'.heap.size+1):=by
 have U:=h.size
 have R:=hb.size
 obtain ⟨row,I,v⟩:=h.amid.x
 obtain ⟨ve,C⟩:=h.amid.e
 have K:w'.heap[w.heap.size+1]?=some (.cells row 35 (0,0)):=(hb.block _ (by omega)).trans v
 generalize n:((w'.setRow (w.heap.size+1) cs.toArray).alloc Jb).alloc (Pw (w.heap.size+1))=W5
 have a:(w'.setRow (w.heap.size+1) cs.toArray).heap.size=w'.heap.size:=Ft _ _ _
 have M:W5.heap.size=w'.heap.size+2:=by rw[<-n];simp[a]
 have l:∀b,b < w'.heap.size->b≠w.heap.size+1->W5.heap[b]?=w'.heap[b]?:=fun b f m=>by
  rw[<-n,yQ _ _ _ (by simp[a];omega),yQ _ _ _ (by rw[a];omega),CZ _ _ m]
 have B:W5.heap[w.heap.size+1]?=some (.cells cs.toArray 35 (0,0)):=by
  rw[<-n,yQ _ _ _ (by simp[a];omega),yQ _ _ _ (by rw[a];omega)]
  exact setRow_heap _ _ _ _ _ _ K
 have S:W5.heap[w'.heap.size]?=some Jb:=by
  rw[<-n,yQ _ _ _ (by simp[a])]
  have:=World.alloc_heap_new (w'.setRow (w.heap.size+1) cs.toArray) Jb
  rwa [a] at this
 have O:W5.heap[w'.heap.size+1]?=some (Pw (w.heap.size+1)):=by
  rw[<-n]
  have:=World.alloc_heap_new ((w'.setRow (w.heap.size+1) cs.toArray).alloc Jb) (Pw (w.heap.size+1))
  have D:((w'.setRow (w.heap.size+1) cs.toArray).alloc Jb).heap.size=w'.heap.size+1:=by simp[a]
  rwa [D] at this
 have z:W5.os=w'.os∧W5.tape=w'.tape∧W5.output=w'.output:=by rw[<-n];exact ⟨rfl,rfl,rfl⟩
 clear n a
 have u:Below w.heap.size w W5:=by
  have h0:=h.amid.below.trans (hb.mono (by omega))
  exact ⟨z.1.trans h0.os,z.2.1.trans h0.tape,z.2.2.trans h0.output,by omega,fun b f=>(l b (by omega) (by omega)).trans (h0.block b f)⟩
 have i:∀(c:Nat) (o:Obj),V.heap[c]?=some o->(∀row:Array Value,o≠Obj.cells row 35 (0,0))->W5.heap[c]?=V.heap[c]?:=fun c o hc F=>by
  have f:=(yf.1 hc).1
  have m:c≠w.heap.size+1:=fun e=>by
   rw[e,v] at hc
   exact F row (yh hc).symm
  rw[l c (by omega) m,hb.block c f]
 have j:∀q,q < 26->W5.cell? (aV (w.heap.size+1) q)=W5.cell? (aV L.s q):=fun q Q=>by
  have e1:W5.cell? (aV L.s q)=w'.cell? (aV L.s q):=Ac (l _ A.ty.lt (by omega))
  have e2:=J q cs[q] (yk (by omega))
  rw[yA] at e2
  rw[e1,e2]
  simp[World.cell?,B,y,Q]
 refine ⟨⟨u,⟨_,by simp[y],B⟩,⟨ve,(l _ (by omega) (by omega)).trans ((hb.block _ (by omega)).trans C)⟩⟩,h1.same i,h2.same i,h3.same i,h4.same i,S,O,?_,fun g k=>?_,fun g k=>?_,.inr rfl,rfl,T,P⟩
 ·have p1:Ch (fun g=>V.heap.size<=g∧g≠V.heap.size+1∧g < w'.heap.size) (ET (fun g=>V.heap.size+2<=g) w') (RV w') w' L x:=A.ren fun g t k E _ _=>⟨k.1,k.2,E.lt⟩
  have p:∀b,(V.heap.size<=b∧b≠V.heap.size+1∧b < w'.heap.size)∨b=L.s->W5.heap[b]?=w'.heap[b]?:=fun b d=>by
   rcases d with d|rfl
   ·exact l b d.2.2 (by omega)
   ·exact l _ A.ty.lt (by omega)
  have p2:Ch (fun g=>V.heap.size<=g∧g≠V.heap.size+1∧g < w'.heap.size) (ET (fun g=>V.heap.size+2<=g∧g < w'.heap.size) W5) (RV W5) W5 L x:=by
   refine p1.imp (fun b t d E=>E.same (p b d)) (fun b o d _=>Ac (p b d)) (fun lt e b o d _ H=>?_) (fun to r b o d _ G=>⟨G.1,(Ac (p b d)).trans G.2.1,(Ac (p b d)).trans G.2.2⟩)
   obtain ⟨c,c1,c2⟩:=H
   exact ⟨c,A2 c1 (p b d),c2.same (fun g k f=>⟨k,f⟩) (fun g k f=>l g f (by omega))⟩
  exact (p2.moved ⟨_,B⟩ j (fun lt e o F H=>Rp j lt e o F H)).ren fun g t k _ _ _=>.inl k
 ·rcases k with k|rfl
  ·exact ⟨by omega,by omega⟩
  ·exact ⟨by omega,by omega⟩
 ·exact ⟨by omega,by omega⟩
end
theorem Rq{α:Type}{w:World}{sz j:Nat}{f:α->ByteArray}{h:Av}{l:List α}(h1:h.n=l.length)(h2:l.length<=140737488355328)
 (h3:∀i (hi:i < l.length),∃b o cs,h.a=some ⟨b,o,none⟩∧b < w.heap.size∧cs.length=sz∧w.rangeAt b (o+i*sz) cs∧(∀v∈cs,v.oneCell'=true)∧cs[j]?=some (.string (f l[i]))∧(f l[i]).size<=maxLen):AZ w h sz j (l.map f):=by
 refine ⟨by rw[yP];exact h1,by rw[yP];exact h2,fun i hi=>?_⟩
 have c:i < l.length:=by simpa using hi
 obtain ⟨b,o,cs,e,g,p,m,d,q,k⟩:=h3 i c
 rw[zS]
 exact ⟨b,o,cs,e,g,p,m,d,q,k⟩
theorem Lw{α:Type}{N:NP}{w:World}{sz j:Nat}{P:LV->α->Prop}{f:α->ByteArray}{h:Av}{l:List α}(g:Az N w sz P h l)(hN:∀b,N b->b < w.heap.size)
 (m:∀cs d,P cs d->(∀v∈cs,v.oneCell'=true)∧cs[j]?=some (.string (f d))∧(f d).size<=maxLen):AZ w h sz j (l.map f):=by
 obtain ⟨h1,h2,h3⟩:=g
 refine Rq h1 h2 fun i hi=>?_
 obtain ⟨b,o,cs,e,k,r,q,a⟩:=h3 i hi
 obtain ⟨n,c,p⟩:=m _ _ a
 exact ⟨b,o,cs,e,hN b k,r,q,n,c,p⟩
structure TP (w:World) (L:Bh) (x:An):Prop where
 lets:AZ w L.lets 7 0 (x.lets.map (·.name))
 crops:AZ w L.crops 7 0 (x.crops.map (·.name))
 reaches:AZ w L.reaches 51 0 (x.reaches.map (·.name))
 farms:AZ w L.farms 12 0 (x.farms.map (·.name))
 rots:AZ w L.rots 23 0 (x.rots.map (·.name))
 rights:AZ w L.rights 37 1 (x.rights.map (·.name))
 duties:AZ w L.duties 11 0 (x.duties.map (·.name))
theorem B8.nms{N:NP}{w:World}{L:Bh}{cs:LV}{x:An}(h:B8 N w L cs x)(hN:∀b,N b->b < w.heap.size):TP w L x:=by
 refine ⟨Lw h.lets hN fun cs d hd=>⟨Pf cs d hd,?_⟩,Lw h.crops hN fun cs d hd=>⟨MZ cs d hd,?_⟩,Lw h.reaches hN fun cs d hd=>⟨II cs d hd,?_⟩,Lw h.farms hN fun cs d hd=>⟨N0 cs d hd,?_⟩,?_,Lw h.rights hN fun cs d hd=>⟨IJ cs d hd,?_⟩,Lw h.duties hN fun cs d hd=>⟨N3 cs d hd,?_⟩⟩
 ·obtain ⟨h1,c,rfl,_⟩:=hd;exact ⟨rfl,h1⟩
 ·obtain ⟨h1,c,rfl,_⟩:=hd;exact ⟨rfl,h1⟩
 ·obtain ⟨h1,_,c0,c1,c2,g,l,p,r,q,rfl,_⟩:=hd;exact ⟨rfl,h1⟩
 ·obtain ⟨h1,_,_,c,rfl,_⟩:=hd;exact ⟨rfl,h1⟩
 ·obtain ⟨h1,h2,h3⟩:=h.rots
  refine Rq h1 h2 fun i hi=>?_
  obtain ⟨b,o,cs,e,f,m,k,a⟩:=h3 i hi
  have n:=Ii a
  obtain ⟨j,_,c0,c1,c2,rfl,_⟩:=a
  exact ⟨b,o,_,e,hN b f,m,k,n,rfl,j⟩
 ·obtain ⟨h1,_,_,c0,c1,c2,g,l,rfl,_⟩:=hd;exact ⟨rfl,h1⟩
 ·obtain ⟨h1,_,_,c,rfl,_⟩:=hd;exact ⟨rfl,h1⟩
theorem AZ.up{w w':World}{h:Av}{sz j:Nat}{a:LB}(f:AZ w h sz j a)(hb:Below w.heap.size w w'):AZ w' h sz j a:=by
 obtain ⟨h1,h2,h3⟩:=f
 refine ⟨h1,h2,fun i hi=>?_⟩
 obtain ⟨b,o,cs,e,c,k,g,d⟩:=h3 i hi
 exact ⟨b,o,cs,e,yp c hb.size,k,A2 g (hb.block b c),d⟩
structure Px (L:Bh) (x:An) (c:Nat->Option Value):Prop where
 name:c 0=some (.string x.name)
 lets:c 19=some L.lets.v
 crops:c 20=some L.crops.v
 reaches:c 21=some L.reaches.v
 farms:c 22=some L.farms.v
 rots:c 23=some L.rots.v
 rights:c 24=some L.rights.v
 duties:c 25=some L.duties.v
theorem B8.at{N:NP}{w:World}{L:Bh}{cs:LV}{x:An}(h:B8 N w L cs x):Px L x (cs[·]?):=by
 obtain ⟨c0,c1,c2,rfl,a,g1,b⟩:=h.cells
 obtain ⟨d,e,rfl,e0⟩:=a.cells
 obtain ⟨c,p1,rfl,e1⟩:=g1.cells
 obtain ⟨f,p2,rfl,e2⟩:=b.cells
 exact ⟨rfl,rfl,rfl,rfl,rfl,rfl,rfl,rfl⟩
theorem Gq.cells{w V:World}{x:An}{L:Bh}{cs:LV}{N:NP}(h:Gq w x L cs N V):Px L x (fun q=>V.cell? ⟨w.heap.size,q,none⟩):=by
 have e:∀q,V.cell? (aV w.heap.size q)=cs[q]?:=fun q=>by simp[World.cell?,h.par]
 have:=h.src.at
 simp only[e]
 exact this
def Fu(B:Nat)(w:World)(v:Value)(l:LB):Prop:=w.ownsRow B 9 1 v l.length (l.map .string)∧∀s∈l,s.size<=maxLen
theorem Qe(B:Nat)(w:World):Fu B w (.slice none 0 0) []:=⟨⟨rfl,.inl ⟨rfl,rfl⟩⟩,by simp⟩
theorem Fu.up{B:Nat}{w w':World}{v:Value}{l:LB}(h:Fu B w v l)(hb:Below w.heap.size w w'):Fu B w' v l:=by
 obtain ⟨⟨h1,h2⟩,h0⟩:=h
 refine ⟨⟨h1,h2.imp id ?_⟩,h0⟩
 rintro ⟨g,cap,a,h3,h4,h5,h6⟩
 exact ⟨g,cap,a,h3,h4,(hb.block g (yf.1 h5).1).trans h5,h6⟩
theorem Nw{B:Nat}{c w w':World}{v:Value}{l:LB}(h:Below B c w)(i:B<=w.heap.size)(f:Fu B w v l)(a:w.grownBy w' v.ownBlock):Below B c w':=by
 refine h.trans ⟨a.os,a.tape,a.output,a.size,fun b hb=>a.block b (by omega) (fun e=>?_)⟩
 rcases f.1.2 with ⟨rfl,_⟩|⟨g,cap,d,rfl,h4,_⟩
 ·cases e
 ·simp only[Value.ownBlock,yV] at e
  omega
theorem Fu.nm{B:Nat}{w:World}{v:Value}{l:LB}(h:Fu B w v l)(hl:l.length<=140737488355328):∃h:Av,v=h.v∧AZ w h 1 0 l:=by
 obtain ⟨⟨h1,⟨rfl,h2⟩|⟨g,cap,b,rfl,h4,h5,h6,e,d,c⟩⟩,h0⟩:=h
 ·obtain rfl:=z6.1 h2
  exact ⟨⟨none,0,0⟩,rfl,rfl,by simp,fun i hi=>absurd hi (by simp)⟩
 ·refine ⟨⟨some (aV g 0),l.length,cap⟩,rfl,rfl,hl,fun i hi=>⟨g,0,[.string l[i]],rfl,(yf.1 h5).1,rfl,?_,by simp[Value.oneCell'],rfl,h0 _ (yy hi)⟩⟩
  refine C9 ?_
  have a:(l.map Value.string)[i]?=some (.string l[i]):=by simp[hi]
  rw[<-c,zH,yx (by omega)] at a
  simp only[World.cell?,h5]
  simpa using a
theorem G4{ops:Array Oper}{rest:List Oper}{o:Oper}{a:Act}{Q:QT}{W:World}(B:Nat)(e:o.guard=none)(s x:Operand)(G:o.op=.call {callee:=.builtin .append,args:=#[s,x],argTypes:=#[43,43]})
 (v:Value)(l:LB)(hs:a.eval s=v)(d:Fu B W v l)(b c:Nat)(nm:ByteArray)(z:a.eval x=.slice (some ⟨b,0,none⟩) 1 c)(hb:W.heap[b]?=some (.cells #[.string nm] 9 (0,0)))(D:nm.size<=maxLen)(k:l.length+1<=1000000)(g:B<=W.heap.size)
 (h:∀(n:Option Addr) (c:Nat) w',Fu B w' (.slice n (l.length+1) c) (l++[nm])->W.grownBy w' v.ownBlock->wpList Try.prog ops Q rest (a.put o.dst (.slice n (l.length+1) c)) w'):wpList Try.prog ops Q (o::rest) a W:=by
 refine yF e fun K y=>?_
 have f:(Try.prog.info? 9).map (fun i=>(i.zero,i.size,i.bytes))=some (some (.string ⟨#[]⟩),1,16):=by kernel_rfl
 obtain ⟨H,hi,p,r,q⟩:=info_parts f
 have w:BP W (.slice (some (aV b 0)) 1 c) 1 1 [.string nm]:=by
  refine ⟨rfl,by simp[Value.oneCell'],_,_,rfl,.inr ⟨b,0,rfl,(yf.1 hb).1,fun j u t=>?_⟩⟩
  cases j with
  |zero=>cases t;simp[World.cell?,hb]
  |succ j=>simp at t
 have C:=Gw (ops:=#[]) (E:=True) (Q:=Q) (K:=K) (o:=o) Try.underlying43 hi p r q rfl (by decide) (by decide) B e s x G v l.length _ hs d.1 _ 1 [.string nm] z w k g (fun n c w' A F=>y _ _ (h n c w' ⟨by
  rw[ym,zb]
  exact A,fun u m=>by
  rcases yo.1 m with m|m
  ·exact d.2 u m
  ·rw[zt.1 m];exact D⟩ F))
 rwa [yx (by simp[Region.wanted,e])] at C
theorem Hx{α:Type}{l:List α}{i:Nat}(h:i < l.length):l.take i++[l[i]]=l.take (i+1):=(yq h).symm
theorem Rr{f:FuncId}{args:Array Value}{w:World}{a:LB}(h:Calls Try.prog f args w (Ea w a))(c:a.Nodup):Calls Try.prog f args w fun e w'=>(∃m,e=.returned (.map (some m)))∧Below w.heap.size w w':=
 h.mono fun e w' b=>by
  obtain ⟨h1,⟨_,m,h2,_⟩|⟨h2,_⟩⟩:=b
  ·exact ⟨⟨m,h2⟩,h1⟩
  ·exact absurd c h2
theorem T6{f:FuncId}{args:Array Value}{w:World}{a:LB}(h:Calls Try.prog f args w (Ea w a))(c:¬ a.Nodup):Calls Try.prog f args w fun e w'=>e=.panicked (Ek 171)∧Below w.heap.size w w':=
 h.mono fun e w' b=>by
  obtain ⟨h1,⟨h2,_⟩|⟨_,h2⟩⟩:=b
  ·exact absurd h2 c
  ·exact ⟨h2,h1⟩
def Um(a:LB)(r:Rf):Int:=match CO a r.name with
 |some i=>(i:Int)
 |none=>r.n
def TQ(a:LB)(r:Rf):Bool:=(CO a r.name).isSome
def GF(F:NP)(W:World)(b:Nat):Prop:=¬ F b∧b < W.heap.size
def Bj(F:NP)(W W':World):Prop:=W.heap.size<=W'.heap.size∧∀b,b < W.heap.size->¬ F b->W'.heap[b]?=W.heap[b]?
theorem Bj.refl(F:NP)(W:World):Bj F W W:=⟨ye _,fun _ _ _=>rfl⟩
theorem Bj.trans{F:NP}{a b c:World}(h:Bj F a b)(k:Bj F b c):Bj F a c:=⟨yr h.1 k.1,fun i hi d=>(k.2 i (yp hi h.1) d).trans (h.2 i hi d)⟩
theorem Bj.below{F:NP}{W W':World}(h:Below W.heap.size W W'):Bj F W W':=⟨h.size,fun b hb _=>h.block b hb⟩
theorem Bj.wide{F F':NP}{W W':World}(h:Bj F W W')(a:∀b,b < W.heap.size->F b->F' b):Bj F' W W':=⟨h.1,fun b hb c=>h.2 b hb (fun k=>c (a b hb k))⟩
theorem GF.up{F F':NP}{W W':World}(hs:W.heap.size<=W'.heap.size)(a:∀b,F' b->F b∨W.heap.size<=b){b:Nat}(h:GF F W b):GF F' W' b:=
 ⟨fun k=>(a b k).elim h.1 (fun hb=>absurd h.2 (Nat.not_lt.2 hb)),yp h.2 hs⟩
theorem AP.flux{F F':NP}{W W':World}{e:Ex}{cs:LV}(h:AP (GF F W) W e cs)(a:Bj F W W')(c:∀b,F' b->F b∨W.heap.size<=b):AP (GF F' W') W' e cs:=
 h.same (fun _ hb=>hb.up a.1 c) (fun b hb=>a.2 b hb.2 hb.1)
theorem AP.flux'{F:NP}{W W':World}{e:Ex}{cs:LV}(h:AP (GF F W) W e cs)(a:Bj F W W'):AP (GF F W') W' e cs:=h.flux a (fun _ k=>.inl k)
structure AF (W W':World) (b:Nat) (c:List Value) (t:TypeId):Prop where
 os:W'.os=W.os
 tape:W'.tape=W.tape
 output:W'.output=W.output
 size:W'.heap.size=W.heap.size
 row:W'.heap[b]?=some (.cells c.toArray t (0,0))
 block:∀k,k≠b->W'.heap[k]?=W.heap[k]?
theorem AF.below{W W':World}{b:Nat}{c:LV}{t:TypeId}(h:AF W W' b c t){B:Nat}{a:World}(d:Below B a W)(hb:B<=b):Below B a W':=
 d.trans ⟨h.os,h.tape,h.output,by rw[h.size];exact ye _,fun k e=>h.block k (by omega)⟩
theorem AF.flux{W W':World}{b:Nat}{c:LV}{t:TypeId}(h:AF W W' b c t){F:NP}(a:F b):Bj F W W':=⟨by rw[h.size];exact ye _,fun k _ d=>h.block k (fun e=>d (e▸a))⟩
theorem AF.fresh{W W':World}{b:Nat}{c:LV}{t:TypeId}(h:AF W W' b c t){F:NP}{V:World}(a:Bj F V W)(hb:V.heap.size<=b):Bj F V W':=⟨by rw[h.size];exact a.1,fun k d e=>(h.block k (by omega)).trans (a.2 k d e)⟩
theorem Ay{W:World}{b:Nat}{c:LV}{t:TypeId}{fr:Nat × Nat}(h:W.heap[b]?=some (.cells c.toArray t fr)):W.rangeAt b 0 c:=fun j v a=>by
 simp only[World.cell?,h,yA];simpa using a
theorem IQ{W:World}{b o n:Nat}{c:LV}{t:TypeId}(h:W.heap[b]?=some (.cells c.toArray t (0,0)))(d:o+n<=c.length):W.there b o n:=fun j a=>by
 constructor
 ·simp only[World.cell?,h]
  simp;omega
 ·simp[World.frozen?,h]
theorem Eh(b:Nat)(t:TypeId):∀(f:LV) (o:Nat) (w:World) (p m q:LV),w.heap[b]?=some (.cells (p++(m++q)).toArray t (0,0))->p.length=o->m.length=f.length->AF w (w.setCells b o f) b (p++(f++q)) t
 |[],o,w,p,m,q,h,d,hm=>by
  obtain rfl:m=[]:=z6.1 hm
  exact ⟨rfl,rfl,rfl,rfl,h,fun _ _=>rfl⟩
 |v::r,o,w,p,[],q,h,d,hm=>by simp at hm
 |v::r,o,w,p,x::m,q,h,d,hm=>by
  rw[World.setCells]
  have a:AF w (w.setCell ⟨b,o,none⟩ v) b ((p++[v])++(m++q)) t:=by
   refine ⟨rfl,rfl,rfl,by simp[World.setCell],?_,fun k e=>Below.heap_setCell w (aV b o) v k e⟩
   simp only[World.setCell,yO,h,zY]
   simp only[xL,yV]
   congr 1
   subst d
   simp
  have c:=Eh b t r (o+1) (w.setCell (aV b o) v) (p++[v]) m q a.row (by simp[d]) (by simpa using hm)
  refine ⟨c.os.trans a.os,c.tape.trans a.tape,c.output.trans a.output,c.size.trans a.size,?_,fun k e=>(c.block k e).trans (a.block k e)⟩
  have:=c.row
  simpa using this
theorem Cy{ops:Array Oper}{rest:List Oper}{op:Oper}{a:Act}{w:World}{Q:QT}(d:op.guard=none)(ty:TypeId)(x y:Operand)(j:op.op=.store ty x y)
 (b o:Nat)(f:a.eval x=.pointer (some ⟨b,o,none⟩))(c:LV)(g:a.eval y=.agg c.toArray){p m q:LV}{t:TypeId}(hb:w.heap[b]?=some (.cells (p++(m++q)).toArray t (0,0)))(e:p.length=o)(i:m.length=c.length)
 (hi:(Try.prog.info? ty).map (·.size)=some c.length)(h1:∀v∈c,v.oneCell'=true)
 (h:∀W',AF w W' b (p++(c++q)) t->wpList Try.prog ops Q rest (a.put op.dst undef) W'):wpList Try.prog ops Q (op::rest) a w:=by
 refine wpList_store_mid d ty x y j b o c.toArray f g (IQ hb (by simp;omega)) (by rw[yB];exact hi) (yU h1) ?_
 exact h _ (Eh b t c o w p m q hb e i)
theorem Ao{ops:Array Oper}{rest:List Oper}{op:Oper}{a:Act}{w:World}{Q:QT}(c:op.guard=none)(ty:TypeId)(x y:Operand)(i:op.op=.store ty x y)
 (b o:Nat)(f:a.eval x=.pointer (some ⟨b,o,none⟩))(v:Value)(g:a.eval y=v)(d:v.cells=#[v]){p q:LV}{m:Value}{t:TypeId}(hb:w.heap[b]?=some (.cells (p++(m::q)).toArray t (0,0)))(e:p.length=o)
 (hi:(Try.prog.info? ty).map (·.size)=some 1)(h1:v.oneCell'=true)
 (h:∀W',AF w W' b (p++(v::q)) t->wpList Try.prog ops Q rest (a.put op.dst undef) W'):wpList Try.prog ops Q (op::rest) a w:=by
 refine GB c ty x y i b o v f g d (IQ hb (by simp;omega)) hi h1 ?_
 exact h _ (Eh b t [v] o w p [m] q hb e rfl)
theorem Aj{ops:Array Oper}{rest:List Oper}{op:Oper}{a:Act}{w:World}{Q:QT}(d:op.guard=none)(ty:TypeId)(x y:Operand)(j:op.op=.store ty x y)
 (b:Nat)(e:a.eval x=.pointer (some ⟨b,0,none⟩))(c:LV)(f:a.eval y=.agg c.toArray){m:Array Value}{t:TypeId}(hb:w.heap[b]?=some (.cells m t (0,0)))(i:m.size=c.length)
 (hi:(Try.prog.info? ty).map (·.size)=some c.length)(h1:∀v∈c,v.oneCell'=true)
 (h:∀W',AF w W' b c t->wpList Try.prog ops Q rest (a.put op.dst undef) W'):wpList Try.prog ops Q (op::rest) a w:=by
 refine Cy d ty x y j b 0 e c f (p:=[]) (m:=m.toList) (q:=[]) (by simpa using hb) rfl (by simpa using i) hi h1 fun W' g=>h W' ?_
 simpa using g
theorem BV{c:LV}(h:c.length=6):(Try.prog.info? 26).map (·.size)=some c.length:=by rw[h];kernel_rfl
theorem Un(r:Rf):(Try.prog.info? 23).map (·.size)=some (Ah r).length:=by rw[show (Ah r).length=2 from rfl];kernel_rfl
def FL(F:NP)(l:List Nat)(k:Nat):Prop:=F k∨k∈l
structure Uo (w:World) (ls:List Value) (h0 h1 h2 h3:Av) (t:Tb):Prop where
 cells:ls=[h0.v,h1.v,h2.v,h3.v]
 lets:AZ w h0 1 0 t.lets
 crops:AZ w h1 1 0 t.crops
 reaches:AZ w h2 1 0 t.reaches
 farms:AZ w h3 1 0 t.farms
theorem Uo.up{w w':World}{ls:LV}{h0 h1 h2 h3:Av}{t:Tb}(h:Uo w ls h0 h1 h2 h3 t)(hb:Below w.heap.size w w'):Uo w' ls h0 h1 h2 h3 t:=
 ⟨h.cells,h.lets.up hb,h.crops.up hb,h.reaches.up hb,h.farms.up hb⟩
structure Bx (w:World) (tx:TypeId) (ls:List Value) (n:Nat) (row:List Value) (W:World):Prop where
 below:Below w.heap.size w W
 size:w.heap.size+3<=W.heap.size
 x:W.heap[w.heap.size]?=some (.cells row.toArray tx (0,0))
 l:W.heap[w.heap.size+1]?=some (.cells ls.toArray 109 (0,0))
 r:∃zr:List Value,zr.length=n∧W.heap[w.heap.size+2]?=some (.cells zr.toArray tx (0,0))
section
variable{w W W':World}{tx:TypeId}{ls row row':LV}{n:Nat}
theorem Bx.up(h:Bx w tx ls n row W)(hb:Below (w.heap.size+3) W W'):Bx w tx ls n row W':=by
 have:=h.size
 obtain ⟨b,a,c⟩:=h.r
 exact ⟨h.below.trans (hb.mono (by omega)),yr h.size hb.size,(hb.block _ (by omega)).trans h.x,(hb.block _ (by omega)).trans h.l,b,a,(hb.block _ (by omega)).trans c⟩
theorem Bx.call(h:Bx w tx ls n row W)(hb:Below W.heap.size W W'):Bx w tx ls n row W':=h.up (hb.mono h.size)
theorem Bx.wrote(h:Bx w tx ls n row W)(a:AF W W' w.heap.size row' tx):Bx w tx ls n row' W':=by
 obtain ⟨c,b,d⟩:=h.r
 exact ⟨a.below h.below (ye _),by rw[a.size];exact h.size,a.row,(a.block _ (by omega)).trans h.l,c,b,(a.block _ (by omega)).trans d⟩
theorem Bx.drew(h:Bx w tx ls n row W):Bx w tx ls n row W.drew:=h.up (yg _ _).drew
end
def VE(F:NP)(l:List Nat)(W:World)(css:List LV)(es:List Ex):Prop:=At (fun c e=>AP (GF (FL F l) W) W e c) css es
section
variable{F:NP}{l l':List Nat}{W W':World}{css:List LV}{es:List Ex}{e:Ex}{c:LV}
theorem Im(hl:∀k∈l',k∈l∨W.heap.size<=k):∀b,FL F l' b->FL F l b∨W.heap.size<=b:=fun b hb=>hb.elim (fun h=>.inl (.inl h)) fun h=>(hl b h).elim (fun h=>.inl (.inr h)) .inr
theorem AP.fl(h:AP (GF (FL F l) W) W e c)(a:Bj (FL F l) W W')(hl:∀k∈l',k∈l∨W.heap.size<=k):AP (GF (FL F l') W') W' e c:=h.flux a (Im hl)
theorem VE.up(h:VE F l W css es)(a:Bj (FL F l) W W')(hl:∀k∈l',k∈l∨W.heap.size<=k):VE F l' W' css es:=At.mono (fun _ _ b=>b.fl a hl) h
theorem VE.drew(h:VE F l W css es):VE F l W.drew css es:=h.up ⟨ye _,fun _ _ _=>rfl⟩ (fun _ h=>.inl h)
theorem Bj.call(h:Below W.heap.size W W'):Bj F W W':=Bj.below h
end
structure UD (w:World) (tx:TypeId) (ls:List Value) (n:Nat) (row:List Value) (F:Nat->Prop) (l:List Nat) (css:List (List Value)) (es:List Ex) (A:Nat) (c:List Value) (e:Ex) (W:World):Prop where
 bx:Bx w tx ls n row W
 a:W.heap[A]?=some (.cells c.toArray 26 (0,0))
 la:w.heap.size+3<=A
 ve:VE F l W css es
 e:AP (GF (FL F l) W) W e c
def TS(a:LB)(r:Rf):Rf:=⟨r.name,Um a r⟩
section
variable{t:Tb}
theorem Dz{α β:Type}{f:α->β}{g:Nat->α->β}:∀ {l:List α},(∀i (h:i < l.length),f l[i]=g i l[i])->l.map f=l.mapIdx g:=by
 intro l h
 refine zM (by simp) fun i h1 h2=>?_
 rw[zS,zZ]
 exact h i (by simpa using h1)
end
section
variable(t:Tb)
end
section
variable{P:Program}{ops:Array Oper}{rest:List Oper}{o:Oper}{a:Act}{w:World}{Q:QT}
end
section
variable{ops:Array Oper}{rest:List Oper}{o:Oper}{a:Act}{w:World}{Q:QT}{j:Nat}
end
theorem Cp{W:World}{b o:Nat}{v:Value}(h:W.rangeAt b o [v]):W.cell? ⟨b,o,none⟩=some v:=h 0 v rfl
end Go.Proofs.Ytghepahgkcigpaa
namespace Go.Proofs.Ytghepahgkcigpaa
open Go.RowKit
attribute [local go_sem] Oper.semAt_some
theorem Nx{s:ByteArray}(h:s.toList=[]):s=⟨#[]⟩:=by
 have h1:=(F2 s).2 h
 have:s.data.size=0:=h1
 cases s with
 |mk d=>simp only at this;rw[Array.size_eq_zero_iff] at this;rw[this]
theorem Rv{l:LB}{s:ByteArray}{i:Nat}(h:CO l s=some i):i < l.length:=by
 by_cases a:s∈l
 ·obtain ⟨j,h1,h2,_⟩:=IL a
  rw[h] at h1
  cases h1;exact h2
 ·rw[Gm a] at h;cases h
theorem G7{t:Tb}{to at_:Int}{r:Rf}(h0:to≠0)(h:Jj t to at_ r=true):∃i:Nat,CO (t.tab (Et to)) r.name=some i∧GA t (Et to) r.name=i∧(early to=true->(i:Int) < at_)∧i < (t.tab (Et to)).length:=by
 unfold Jj at h
 rw[yu h0] at h
 unfold GA
 cases a:CO (t.tab (Et to)) r.name with
 |none=>rw[a] at h;cases h
 |some i=>
  rw[a] at h
  refine ⟨i,rfl,rfl,fun b=>?_,Rv a⟩
  simpa[b] using h
theorem G8{t:Tb}{to at_:Int}{r:Rf}(h0:to≠0)(h:Jj t to at_ r=false):∀i:Nat,CO (t.tab (Et to)) r.name=some i->early to=true∧¬ (i:Int) < at_:=by
 intro i a
 unfold Jj at h
 rw[yu h0,a] at h
 simp only[Bool.or_eq_false_iff,Bool.not_eq_false',xu] at h
 exact h
theorem Fv{m:Nat}{W:World}{es:Array MapEntry}{a:Nat}(h:W.heap[m]?=some (.map es a))(ty:TypeId):(Builtin.len_ #[90] ty #[.map (some m)]).run Try.prog W=.ok (.int .i64 (es.size:Int)) W:=by
 simp[Builtin.len_,run_underlying qR,MapKept.run_getObj_map h,goInt,Result.andThen]
theorem TU{Q:QT}{w W W5:World}{x:An}{L:Bh}{N M:NP}{bl bc br bf Bf:Nat}(hQ:Kk Q w x)(hC:Hs w x W5 L N M bl bc br bf Bf W.heap.size)
 (dx:RJ w.heap.size W5 (Tb.of x) (CL W5 L x) (EK L x).length (fun _=>False) (W.alloc (.cells #[.pointer (some ⟨w.heap.size+1,0,none⟩)] 52)))
 (u0 u1 u8 u9 ef dw ej eg hm gg go f6 ed gl ew f4 gp eo g8 dp ep ff fm fy gb fb fe fi ey ft dn f8 eb gi fp g3 et fq ez er ec du dr fo gq f0 g2 fw gd g7 ee fs fh gj em dj el e9 e5 ga f7 fd dk e6 ea gv dv dl ev dz gr g0 eu g4 g9 fv ge f1 fj gc f5 ei dm gh fx fu gs e3 eh g5 fl ek fz c6 bi bt cj co d4 cn cz b8 b7 cy cu d5 ca cm dt gn bm d3 au cw cx ct ar cg bw cv ap bb b5 dc c5 az d9 bk bh ci ce c7 da cb av c8 c9 aq bd d7 b4 ay bz ck bq bu bv cq cd d6 c4 ba bo bg cr b9 db d8 cl ao cp aw bs cc ax bn b3:Value):
  Gf 11 Try.prog (CP 20 (Try.f11.body.getD .skip)) Q {tmps:=#[u0,u1,.pointer (some ⟨w.heap.size+1,0,none⟩),.pointer (some ⟨w.heap.size+2,0,none⟩),.pointer (some ⟨bl,0,none⟩),.pointer (some ⟨bc,0,none⟩),.pointer (some ⟨br,0,none⟩),.pointer (some ⟨bf,0,none⟩),u8,u9,ef,dw,ej,.pointer (some ⟨Bf,0,none⟩),eg,hm,gg,go,f6,ed,gl,ew,f4,gp,eo,g8,dp,ep,ff,fm,fy,gb,fb,fe,fi,ey,ft,dn,f8,eb,gi,fp,g3,et,fq,ez,er,ec,du,dr,fo,gq,f0,g2,fw,gd,g7,ee,fs,fh,gj,em,dj,el,e9,e5,ga,f7,fd,dk,e6,ea,gv,dv,dl,ev,dz,gr,g0,eu,g4,g9,fv,ge,f1,fj,gc,f5,ei,dm,gh,fx,fu,gs,e3,eh,g5,fl,ek,fz,c6,bi,bt,cj,co,d4,cn,cz,b8,b7,cy,cu,d5,ca,cm,dt,gn,bm,d3,au,cw,cx,ct,ar,cg,bw,cv,ap,bb,b5,dc,c5,az,d9,bk,bh,ci,ce,c7,da,cb,av,c8,c9,aq,bd,d7,b4,ay,bz,ck,bq,bu,bv,cq,cd,d6,c4,ba,bo,bg,cr,b9,db,d8,cl,ao,cp,aw,bs,cc,ax,bn,b3],defers:=[IP w.heap.size]} W:=by
 have HQ:=yb hQ;have r:=yb hC;have af:=yb dx
 clear hQ hC dx
 unfold IP
 refine Ad (Ad (A6 ?_))
 go_wp2_with (first|(go_at_call 51;refine (Kl _ _).mono ?_;rintro e w2 ⟨rfl,rfl⟩))
 refine E5 ?_
 refine DD (n:=10) Try.func11 rfl (fun _ _=>rfl) (JZ 9 (by omega) r.o.uses) (fun a ha=>by
   obtain ⟨u,_,rfl⟩:=zw.1 ha
   rfl)
  (fun k O V=>RJ w.heap.size W5 (Tb.of x) (CL W5 L x) ((EK L x).length+k) O V) (fun _ _ _=>False) (fun ch O V=>ch=Ek 170∧Au x=170∧∃k,RJ w.heap.size W5 (Tb.of x) (CL W5 L x) k O V)
  (fun k a O V=>RJ w.heap.size W5 (Tb.of x) (CL W5 L x) ((EK L x).length+k) O V∧∃(ub uo:Nat) (f c:Int) (d:ByteArray) (s:Int) (g:Nat),(Ca W5 L x).1[k]?=some ⟨ub,uo,f,c,d,s⟩∧¬ O g∧g < V.heap.size∧V.heap[g]?=some (.cells #[pV ub uo,iV f,iV c] 106 (0,0))∧a={tmps:=#[u0,u1,pV (w.heap.size+1) 0,pV (w.heap.size+2) 0,pV bl 0,pV bc 0,pV br 0,pV bf 0,u8,u9,ef,dw,ej,pV Bf 0,eg,pV g 0,gg,go,f6,ed,gl,ew,f4,gp,eo,g8,dp,ep,ff,fm,fy,gb,fb,fe,fi,ey,ft,dn,f8,eb,gi,fp,g3,et,fq,ez,er,ec,du,dr,fo,gq,f0,g2,fw,gd,g7,ee,fs,fh,gj,em,dj,el,e9,e5,ga,f7,fd,dk,e6,ea,gv,dv,dl,ev,dz,gr,g0,eu,g4,g9,fv,ge,f1,fj,gc,f5,ei,dm,gh,fx,fu,gs,e3,eh,g5,fl,ek,fz,c6,bi,bt,cj,co,d4,cn,cz,b8,b7,cy,cu,d5,ca,cm,.func (.func 81) #[] #[pV W.heap.size 0],.agg #[pV ub uo,iV f,iV c],bm,d3,au,cw,cx,ct,ar,cg,bw,cv,ap,bb,b5,dc,c5,az,d9,bk,bh,ci,ce,c7,da,cb,av,c8,c9,aq,bd,d7,b4,ay,bz,ck,bq,bu,bv,cq,cd,d6,c4,ba,bo,bg,cr,b9,db,d8,cl,ao,cp,aw,bs,cc,ax,bn,b3],defers:=[]})
  (fun k=>RJ.stays _) (fun _ _ _ _ _ _ h=>h.elim) ?_ ?_ (fun k O V h=>h.hd) (fun _ _ _ h=>h.elim) ?_ af.o ?_ ?_ ?_ (fun _ _ _ _ _ _ h=>h.elim) ?_
 ·exact fun ch _ O V O' V' h hz ho ht hu hk hO=>⟨h.1,h.2.1,h.2.2.imp fun k h=>RJ.stays k O V O' V' h hz ho ht hu hk hO⟩
 ·rintro a k O V O' V' ⟨h1,ub,uo,f,c,d,s,g,h2,h3,h4,h5,h6⟩ hz ho ht hu hk hO
  exact ⟨RJ.stays _ O V O' V' h1 hz ho ht hu hk hO,ub,uo,f,c,d,s,g,h2,fun h=>(hO g h).elim h3 (fun h=>by omega),by omega,(hk g h3 h4).trans h5,h6⟩
 ·intro ch Y O V H
  cases hx:(Ca W5 L x).2 with
  |true=>rw[hx] at Y;cases Y
  |false=>
   rw[hx] at Y
   cases Y
   exact ⟨rfl,r.o.bad2 hx,_,H⟩
 ·intro k hk O V lo H hO hl a6
  have e7:k < (Ca W5 L x).1.length:=by rw[yP] at hk;exact hk
  rw[zS]
  have HU:=yb (yk e7)
  generalize (Ca W5 L x).1[k]=u at HU ⊢
  obtain ⟨ub,uo,f,c,d,s⟩:=u
  have P:=yb H;have df:=yb a6
  clear H hO hl a6 hk e7
  unfold Us.v
  simp only
  gi_wp2
  have di:Bv O V (V.alloc (.cells #[pV ub uo,iV f,iV c] 106)):=⟨by simp,fun b hb=>yQ _ _ _ (df.o b hb)⟩
  have a8:RJ w.heap.size W5 (Tb.of x) (CL W5 L x) ((EK L x).length+k) O (V.alloc (.cells #[pV ub uo,iV f,iV c] 106)):=P.o.below ((yg V.heap.size V).alloc (ye _) _) P.o.size
  have aa:¬ O V.heap.size:=fun h=>xA _ (df.o _ h)
  first
  |exact ⟨di,a8,ub,uo,f,c,d,s,V.heap.size,HU.o,aa,by simp,World.alloc_heap_new _ _,rfl⟩
  |(rename_i hK;exact hK _ _ ⟨di,a8,ub,uo,f,c,d,s,V.heap.size,HU.o,aa,by simp,World.alloc_heap_new _ _,rfl⟩)
  |(rename_i hK _;exact hK _ _ ⟨di,a8,ub,uo,f,c,d,s,V.heap.size,HU.o,aa,by simp,World.alloc_heap_new _ _,rfl⟩)
  |fail
 ·rintro k hk O V lo a1 hl fk a6 ⟨H,ub,uo,f,c,d,s,g,hu,hy,i0,am,rfl⟩
  have hX:(CL W5 L x)[(EK L x).length+k]?=some ⟨ub,uo,f,c,d,s⟩:=by
   unfold CL
   rw[yS (by omega),xH];exact hu
  have ac:(⟨ub,uo,f,c,d,s⟩:Us)∈CL W5 L x:=xq hX
  have U:=r.o.uok _ ac
  obtain ⟨c0,⟨z,c1,gt⟩,cf⟩:=H.read U
  have hr:f=0∨f=1∨f=2∨f=3∨f=4∨f=5:=by
   have h6:=Sv _ (xq hu)
   have h7:=U.to
   simp only at h6 h7
   omega
  have d0:V.cell? (aV g 0)=some (pV ub uo):=by simp[World.cell?,am]
  have d1:V.cell? (aV g 1)=some (iV f):=by simp[World.cell?,am]
  have d2:V.cell? (aV g 2)=some (iV c):=by simp[World.cell?,am]
  have h8:V.cell? (aV Bf 0)=some (.func (.func 49) #[] #[]):=Ko r.o.find (by simp) (Hh (by decide)) H
  obtain ⟨ml,an,i1,aj,f2,Z,gf⟩:=r.o.lets.read H
  obtain ⟨mc,al,i2,a0,en,J,fg⟩:=r.o.crops.read H
  obtain ⟨mr,ae,i6,ad,dy,R,dq⟩:=r.o.reaches.read H
  obtain ⟨mf,ag,i7,a2,fa,K,gk⟩:=r.o.farms.read H
  have HX:=yb hX;have F:=yb ac;have i8:=yb U;have P:=yb H;have y:=yb c1;have C:=yb cf;have l:=yb c0;have hh:=yb gt;have df:=yb a6
  have ML:=yb f2;have MC:=yb en;have MR:=yb dy;have MF:=yb fa
  have SL:=yb gf;have SC:=yb fg;have SR:=yb dq;have SF:=yb gk
  have m:Hid (d.size<=maxLen):=yb U.len
  have B:Hid (∀v,Bv O V (V.setCell (aV ub (uo+1)) v)):=yb (fun v=>⟨by simp,fun b hb=>yY V (aV ub (uo+1)) b v (fun e=>by
   have h1:=H.own b hb
   have h2:=U.lt
   simp only at e h2
   omega)⟩)
  clear hX ac U H c1 cf c0 gt a6 f2 en dy fa gf fg dq gk hu hy i0 am hl fk hk
  rcases hr with rfl|rfl|rfl|rfl|rfl|rfl
  ·have c0:=l.o;have c1:=y.o
   obtain rfl:=hh.o rfl
   clear aj Z a0 J ad R a2 K d2 h8
   cases hb:IM (Tb.of x) ⟨ub,uo,0,c,d,z⟩ with
   |true=>
    have X:=yb hb
    obtain ⟨e4,gy⟩:d.size=0∧z=0:=by
     have h:=hb
     unfold IM Jj at h
     simpa using h
    have hj:d=⟨#[]⟩:=by
     have h:=(F2 d).1 e4
     exact Nx h
    clear hb e4
    subst gy
    subst hj
    gi_wp2_with fail
    refine ⟨trivial,zm (CallsIn.inRound lo (z8.2 (CA _ _))) ?_⟩
    rintro e w4 ⟨rfl,p⟩
    obtain rfl:=p.symm
    gi_wp2_with fail
    exact ⟨Bv.refl _ _,P.o.skip HX.o rfl X.o⟩
   |false=>
    have X:=yb hb
    have gm:¬ (d.size=0∧z=0):=by
     have h:=hb
     unfold IM Jj at h
     simpa using h
    clear hb
    have j:=yb (r.o.bad F.o X.o)
    have gz:=yb gm
    clear gm
    gi_wp2_with fail
    all_goals first
     |exact absurd ⟨(F2 _).2 (by assumption),(by assumption)⟩ gz.o
     |(refine ⟨trivial,zm (CallsIn.inRound lo (z8.2 (Cs _ _))) ?_⟩
       rintro e w4 ⟨rfl,p⟩
       obtain rfl:=p.symm
       try gi_wp2_with fail
       exact ⟨rfl,Bv.refl _ _,rfl,j.o,_,P.o⟩)
  ·have c0:=l.o;have c1:=y.o;have cf:=C.o
   clear a0 J ad R a2 K d2 c0 c1 cf
   cases hb:IM (Tb.of x) ⟨ub,uo,1,c,d,s⟩ with
   |true=>
    obtain ⟨i,t,I,E,q⟩:=G7 (to:=1) (by decide) hb
    have X:=yb hb;have HV:=yb I
    have G:=yb (FY (most:=(an.size:Int)) l.o y.o C.o ML.o m.o t (by rw[SL.o];exact Int.ofNat_lt.2 q))
    clear hb t I E q
    have A:∀ty,(Builtin.len_ #[90] ty #[.map (some ml)]).run Try.prog V=.ok (iV (an.size:Int)) V:=fun ty=>Fv Z ty
    gi_wp2_with fail
    refine ⟨trivial,zm (CallsIn.inRound lo (z8.2 G.o)) ?_⟩
    rintro e w4 ⟨rfl,rfl⟩
    gi_wp2_with fail
    exact ⟨B.o _,by have h:=P.o.next r.o.uok HX.o (show (1:Int)≠0 by decide) X.o;rw[show GA (Tb.of x) (Et (⟨ub,uo,1,c,d,s⟩:Us).to) (⟨ub,uo,1,c,d,s⟩:Us).name=_ from HV.o] at h;exact h⟩
   |false=>
    have S:=G8 (to:=1) (by decide) hb
    have j:=yb (r.o.bad F.o hb)
    have G:=yb (He (most:=(an.size:Int)) l.o ML.o m.o (fun i t=>absurd (S i t).1 (show ¬ early 1=true by decide)))
    clear hb S
    have A:∀ty,(Builtin.len_ #[90] ty #[.map (some ml)]).run Try.prog V=.ok (iV (an.size:Int)) V:=fun ty=>Fv Z ty
    gi_wp2_with fail
    refine ⟨trivial,zm (CallsIn.inRound lo (z8.2 G.o)) ?_⟩
    rintro e w4 ⟨rfl,p⟩
    obtain rfl:=p.symm
    try gi_wp2_with fail
    exact ⟨rfl,Bv.refl _ _,rfl,j.o,_,P.o⟩
  ·have c0:=l.o;have c1:=y.o;have cf:=C.o
   clear a0 J ad R a2 K c0 c1 cf
   cases hb:IM (Tb.of x) ⟨ub,uo,2,c,d,s⟩ with
   |true=>
    obtain ⟨i,t,I,E,q⟩:=G7 (to:=2) (by decide) hb
    have X:=yb hb;have HV:=yb I
    have G:=yb (FY (most:=c) l.o y.o C.o ML.o m.o t (by simpa using E rfl))
    clear hb t I E q
    gi_wp2_with fail
    refine ⟨trivial,zm (CallsIn.inRound lo (z8.2 G.o)) ?_⟩
    rintro e w4 ⟨rfl,rfl⟩
    gi_wp2_with fail
    exact ⟨B.o _,by have h:=P.o.next r.o.uok HX.o (show (2:Int)≠0 by decide) X.o;rw[show GA (Tb.of x) (Et (⟨ub,uo,2,c,d,s⟩:Us).to) (⟨ub,uo,2,c,d,s⟩:Us).name=_ from HV.o] at h;exact h⟩
   |false=>
    have S:=G8 (to:=2) (by decide) hb
    have j:=yb (r.o.bad F.o hb)
    have G:=yb (He (most:=c) l.o ML.o m.o (fun i t=>(S i t).2))
    clear hb S
    gi_wp2_with fail
    refine ⟨trivial,zm (CallsIn.inRound lo (z8.2 G.o)) ?_⟩
    rintro e w4 ⟨rfl,p⟩
    obtain rfl:=p.symm
    try gi_wp2_with fail
    exact ⟨rfl,Bv.refl _ _,rfl,j.o,_,P.o⟩
  ·have c0:=l.o;have c1:=y.o;have cf:=C.o
   clear aj Z ad R a2 K d2 c0 c1 cf
   cases hb:IM (Tb.of x) ⟨ub,uo,3,c,d,s⟩ with
   |true=>
    obtain ⟨i,t,I,E,q⟩:=G7 (to:=3) (by decide) hb
    have X:=yb hb;have HV:=yb I
    have G:=yb (FY (most:=(al.size:Int)) l.o y.o C.o MC.o m.o t (by rw[SC.o];exact Int.ofNat_lt.2 q))
    clear hb t I E q
    have A:∀ty,(Builtin.len_ #[90] ty #[.map (some mc)]).run Try.prog V=.ok (iV (al.size:Int)) V:=fun ty=>Fv J ty
    gi_wp2_with fail
    refine ⟨trivial,zm (CallsIn.inRound lo (z8.2 G.o)) ?_⟩
    rintro e w4 ⟨rfl,rfl⟩
    gi_wp2_with fail
    exact ⟨B.o _,by have h:=P.o.next r.o.uok HX.o (show (3:Int)≠0 by decide) X.o;rw[show GA (Tb.of x) (Et (⟨ub,uo,3,c,d,s⟩:Us).to) (⟨ub,uo,3,c,d,s⟩:Us).name=_ from HV.o] at h;exact h⟩
   |false=>
    have S:=G8 (to:=3) (by decide) hb
    have j:=yb (r.o.bad F.o hb)
    have G:=yb (He (most:=(al.size:Int)) l.o MC.o m.o (fun i t=>absurd (S i t).1 (show ¬ early 3=true by decide)))
    clear hb S
    have A:∀ty,(Builtin.len_ #[90] ty #[.map (some mc)]).run Try.prog V=.ok (iV (al.size:Int)) V:=fun ty=>Fv J ty
    gi_wp2_with fail
    refine ⟨trivial,zm (CallsIn.inRound lo (z8.2 G.o)) ?_⟩
    rintro e w4 ⟨rfl,p⟩
    obtain rfl:=p.symm
    try gi_wp2_with fail
    exact ⟨rfl,Bv.refl _ _,rfl,j.o,_,P.o⟩
  ·have c0:=l.o;have c1:=y.o;have cf:=C.o
   clear aj Z a0 J a2 K d2 c0 c1 cf
   cases hb:IM (Tb.of x) ⟨ub,uo,4,c,d,s⟩ with
   |true=>
    obtain ⟨i,t,I,E,q⟩:=G7 (to:=4) (by decide) hb
    have X:=yb hb;have HV:=yb I
    have G:=yb (FY (most:=(ae.size:Int)) l.o y.o C.o MR.o m.o t (by rw[SR.o];exact Int.ofNat_lt.2 q))
    clear hb t I E q
    have A:∀ty,(Builtin.len_ #[90] ty #[.map (some mr)]).run Try.prog V=.ok (iV (ae.size:Int)) V:=fun ty=>Fv R ty
    gi_wp2_with fail
    refine ⟨trivial,zm (CallsIn.inRound lo (z8.2 G.o)) ?_⟩
    rintro e w4 ⟨rfl,rfl⟩
    gi_wp2_with fail
    exact ⟨B.o _,by have h:=P.o.next r.o.uok HX.o (show (4:Int)≠0 by decide) X.o;rw[show GA (Tb.of x) (Et (⟨ub,uo,4,c,d,s⟩:Us).to) (⟨ub,uo,4,c,d,s⟩:Us).name=_ from HV.o] at h;exact h⟩
   |false=>
    have S:=G8 (to:=4) (by decide) hb
    have j:=yb (r.o.bad F.o hb)
    have G:=yb (He (most:=(ae.size:Int)) l.o MR.o m.o (fun i t=>absurd (S i t).1 (show ¬ early 4=true by decide)))
    clear hb S
    have A:∀ty,(Builtin.len_ #[90] ty #[.map (some mr)]).run Try.prog V=.ok (iV (ae.size:Int)) V:=fun ty=>Fv R ty
    gi_wp2_with fail
    refine ⟨trivial,zm (CallsIn.inRound lo (z8.2 G.o)) ?_⟩
    rintro e w4 ⟨rfl,p⟩
    obtain rfl:=p.symm
    try gi_wp2_with fail
    exact ⟨rfl,Bv.refl _ _,rfl,j.o,_,P.o⟩
  ·have c0:=l.o;have c1:=y.o;have cf:=C.o
   clear aj Z a0 J ad R d2 c0 c1 cf
   cases hb:IM (Tb.of x) ⟨ub,uo,5,c,d,s⟩ with
   |true=>
    obtain ⟨i,t,I,E,q⟩:=G7 (to:=5) (by decide) hb
    have X:=yb hb;have HV:=yb I
    have G:=yb (FY (most:=(ag.size:Int)) l.o y.o C.o MF.o m.o t (by rw[SF.o];exact Int.ofNat_lt.2 q))
    clear hb t I E q
    have A:∀ty,(Builtin.len_ #[90] ty #[.map (some mf)]).run Try.prog V=.ok (iV (ag.size:Int)) V:=fun ty=>Fv K ty
    gi_wp2_with fail
    refine ⟨trivial,zm (CallsIn.inRound lo (z8.2 G.o)) ?_⟩
    rintro e w4 ⟨rfl,rfl⟩
    gi_wp2_with fail
    exact ⟨B.o _,by have h:=P.o.next r.o.uok HX.o (show (5:Int)≠0 by decide) X.o;rw[show GA (Tb.of x) (Et (⟨ub,uo,5,c,d,s⟩:Us).to) (⟨ub,uo,5,c,d,s⟩:Us).name=_ from HV.o] at h;exact h⟩
   |false=>
    have S:=G8 (to:=5) (by decide) hb
    have j:=yb (r.o.bad F.o hb)
    have G:=yb (He (most:=(ag.size:Int)) l.o MF.o m.o (fun i t=>absurd (S i t).1 (show ¬ early 5=true by decide)))
    clear hb S
    have A:∀ty,(Builtin.len_ #[90] ty #[.map (some mf)]).run Try.prog V=.ok (iV (ag.size:Int)) V:=fun ty=>Fv K ty
    gi_wp2_with fail
    refine ⟨trivial,zm (CallsIn.inRound lo (z8.2 G.o)) ?_⟩
    rintro e w4 ⟨rfl,p⟩
    obtain rfl:=p.symm
    try gi_wp2_with fail
    exact ⟨rfl,Bv.refl _ _,rfl,j.o,_,P.o⟩
 ·intro ho D O V hD fc H ah
  have hx:(Ca W5 L x).2=true:=by
   cases hx:(Ca W5 L x).2 with
   |true=>rfl
   |false=>rw[hx] at ho;cases ho
  have a7:RJ w.heap.size W5 (Tb.of x) (CL W5 L x) (CL W5 L x).length O V:=by
   have h:(EK L x).length+((Ca W5 L x).1.map Us.v).length=(CL W5 L x).length:=by unfold CL;simp
   rw[<-h];exact H
  have hA:=a7.amid r.o.amid
  have ak:w.heap.size+3<=D:=by
   obtain ⟨v,Y⟩:=r.o.amid.e
   have h1:=(yf.1 Y).1
   have h2:=af.o.size
   omega
  obtain ⟨cs,ai,de,dh⟩:=r.o.src a7 hx
  rw[r.o.ls] at de
  obtain ⟨row,gu,dd⟩:=hA.x
  obtain ⟨ve,Y⟩:=hA.e
  have bj:=Md dh
  have c3:(V.setRow (w.heap.size+1) cs.toArray).cell? (aV (w.heap.size+2) 0)=some ve:=by
   simp only[World.cell?,World.setRow,yO,yu (show ¬ w.heap.size+1=w.heap.size+2 by omega)]
   simp[Y]
  have f3:(V.setRow (w.heap.size+1) cs.toArray).frozen? (aV (w.heap.size+2) 0)=false:=by
   simp only[World.frozen?,World.setRow,yO,yu (show ¬ w.heap.size+1=w.heap.size+2 by omega)]
   simp[Y]
  have eq:Hid ((Try.prog.info? 35).map (·.size)=some cs.length):=yb (by rw[ai];kernel_rfl)
  have g6:Hid ((Try.prog.info? 35).map (·.size)=some cs.toArray.size):=yb (by rw[yB];exact eq.o)
  have h0:=r.o.good a7 hx
  have T:Below w.heap.size w ((V.setRow (w.heap.size+1) cs.toArray).setCell (aV (w.heap.size+2) 0) (iV 0)):=hA.below.trans ⟨rfl,rfl,rfl,by simp[World.setRow],fun b hb=>by
   rw[yY _ _ _ _ (by simp;omega)]
   simp only[World.setRow,yO,yu (show ¬ w.heap.size+1=b by omega)]⟩
  have f9:((V.setRow (w.heap.size+1) cs.toArray).setCell (aV (w.heap.size+2) 0) (iV 0)).heap[w.heap.size+1]?=some (.cells cs.toArray 35 (0,0)):=by
   rw[yY _ _ _ _ (by simp)]
   simp[World.setRow,yO,dd]
  have gw:((V.setRow (w.heap.size+1) cs.toArray).setCell (aV (w.heap.size+2) 0) (iV 0)).heap[w.heap.size+2]?=some (.cells #[iV 0] 38 (0,0)):=by
   have:=za (V.setRow (w.heap.size+1) cs.toArray) (w.heap.size+2) 0 #[ve] 38 (iV 0) (by simp[World.setRow,yO,Y])
   rw[this];rfl
  have ab:∀b,b≠w.heap.size+1->b≠w.heap.size+2->((V.setRow (w.heap.size+1) cs.toArray).setCell (aV (w.heap.size+2) 0) (iV 0)).heap[b]?=V.heap[b]?:=fun b h1 h2=>by
   rw[yY _ _ _ _ (by simpa using h2)]
   simp only[World.setRow,yO,yu (xj h1)]
  have gx:=(ab D (by omega) (by omega)).trans ah
  have h9:W5.heap.size<=D:=by have:=af.o.size;omega
  have hf:=a7.size
  have be:OK w.heap.size (((V.setRow (w.heap.size+1) cs.toArray).setCell (aV (w.heap.size+2) 0) (iV 0)).putObj D (.deferred none)) cs (A8 x):=by
   refine ⟨L,_,ai,dh.same (fun _ h=>h) (fun b hb=>?_),fun b hb=>⟨hb.1,?_⟩⟩
   ·obtain ⟨k1,k2,k3,k4⟩:=hb
    rw[World.putObj_heap_other (by omega),ab b k3 k4]
   ·obtain ⟨k1,k2,k3,k4⟩:=hb
    simp[World.setRow];omega
  have dg:=yb (fun tm I=>HQ.o.done D tm _ cs I T f9 gw h0 ak gx be)
  have hw:=yb de;have e8:=yb bj;have hg:=yb dd;have hq:Hid (row.size=cs.toArray.size):=yb (by rw[gu,yB,ai])
  clear hx a7 hA ak de dh gu dd Y bj h0 T f9 gw ab gx h9 hf be hD fc H ah ho ai
  simp only[Exit.inBlock,Exit.then]
  refine Ad (A6 ?_)
  go_wp2_with (first|(refine yj rfl 35 _ rfl (w.heap.size+1) 0 rfl cs _ hw.o qB rfl eq.o ?_)|(refine yX rfl 35 _ _ rfl (w.heap.size+1) cs.toArray rfl rfl 35 row hg.o g6.o hq.o (yU e8.o) ?_))
  refine A6 ?_
  go_wp2
  exact dg.o _ ⟨rfl,rfl⟩
 ·rintro D ch O V hD fc ⟨rfl,bp,k,H⟩ ah
  have ak:w.heap.size+3<=D:=by
   obtain ⟨v,Y⟩:=r.o.amid.e
   have h1:=(yf.1 Y).1
   have h2:=af.o.size
   omega
  simp only[Exit.inBlock,Exit.then]
  have h:=fun tm I=>HQ.o.failD D tm V I (H.amid r.o.amid) (by rw[bp];decide) ak ah
  rw[bp] at h
  exact h _ ⟨rfl,rfl⟩
end Go.Proofs.Ytghepahgkcigpaa
namespace Go.Proofs.Ytghepahgkcigpaa
open Go.RowKit
theorem Ml{ops:Array Oper}{p:Oper->Bool}{i:Nat}{o:Oper}(h:ops.all p=true)(a:ops[i]?=some o):p o=true:=by
 rw[zo] at h
 exact h o (xk a)
theorem Aa{l:Array Bool}{i j:Nat}(h:i≠j):(l.setIfInBounds i true).getD j false=l.getD j false:=zU false h
theorem BD{l:Array Value}{i j:Nat}{v:Value}(h:i≠j):(l.setIfInBounds i v).getD j undef=l.getD j undef:=by simp[h]
def Mm(lo hi:Nat)(d:Option Tmp):Bool:=match d with
 |some k=>decide (lo<=k)&&decide (k<=hi)
 |none=>true
theorem EZ{lo hi:Nat}{ops:Array Oper}{e:Act}{d:Array Bool->Array Value->World->Prop}{f:Nat->Value->World->Prop}{b:Array Bool}{a:Act}{w':World}(c:ops.all (fun o=>Mm lo hi o.dst)=true)(hM:IS ops e d f b a w'):
  ∀t,(t < lo∨hi < t)->a.tmps.getD t undef=e.tmps.getD t undef:=by
 intro t j
 refine hM.free t fun i h o g hd=>?_
 have hs:Mm lo hi o.dst=true:=Ml (p:=fun o=>Mm lo hi o.dst) c g
 rw[hd] at hs
 simp only[Mm,yt,yW] at hs
 exact (show ¬ (lo<=t∧t<=hi) from by omega) hs
def T7(B g rn rc mr i:Nat)(j:Nat)(v:Value)(_:World):Prop:=match j with
 |0=>v=.func (.func 49) #[] #[]
 |1=>v=.pointer (some ⟨B+1,21,none⟩)
 |2=>v=.slice (some ⟨g,0,none⟩) rn rc
 |3=>v=.int .i64 i
 |4=>v=.pointer (some ⟨g,i*51,none⟩)
 |5=>v=.pointer (some ⟨g,i*51+1,none⟩)
 |6=>v=.map (some mr)
 |7=>v=.int .i64 i
 |_=>True
structure JF (R1 R2:World->Prop) (l:Array Bool) (_:Array Value) (w:World):Prop where
 one:l.getD 8 false=false->R1 w
 two:l.getD 8 false=true->R2 w
theorem JF.quiet{R1 R2:World->Prop}{l:Array Bool}{tm a:Array Value}{w:World}{i:Nat}(h:JF R1 R2 l tm w)(hi:i≠8):JF R1 R2 (l.setIfInBounds i true) a w:=
 ⟨fun k=>h.one (by rw[Aa hi] at k;exact k),fun k=>h.two (by rw[Aa hi] at k;exact k)⟩
theorem T8{k:Act}{wr:World}{Q:QT}{B Bf g rn rc br mr i:Nat}{R1 R2 R3:World->Prop}(ops:Array Oper)(m:Fx Try.f11 32=some ops)
 (h2:k.tmps.getD 2 undef=.pointer (some ⟨B+1,0,none⟩))(h6:k.tmps.getD 6 undef=.pointer (some ⟨br,0,none⟩))(D:k.tmps.getD 13 undef=.pointer (some ⟨Bf,0,none⟩))(u:k.tmps.getD 14 undef=.int .i64 i)(J:k.tmps.size=174)
 (hi:i < rn)(h0:R1 wr.drew)
 (x:∀W,R1 W->W.cell? ⟨Bf,0,none⟩=some (.func (.func 49) #[] #[])∧W.cell? ⟨B+1,21,none⟩=some (.slice (some ⟨g,0,none⟩) rn rc)∧W.cell? ⟨br,0,none⟩=some (.map (some mr)))
 (p:∀W,R1 W->Calls Try.prog 49 #[.pointer (some ⟨g,i*51+1,none⟩),.map (some mr),.int .i64 i] W fun e w'=>(e=.returned (.tuple #[])∧R2 w')∨(e=.panicked (Ek 170)∧R3 w'))
 (F:∀(a:Act) W,a.defers=k.defers->(∀t,(t < 105∨113 < t)->a.tmps.getD t undef=k.tmps.getD t undef)->R3 W->Q (.panic (Ek 170)) a W)
 (y:∀(a:Act) W,a.tmps.size=174->a.defers=k.defers->(∀t,(t < 105∨113 < t)->a.tmps.getD t undef=k.tmps.getD t undef)->R2 W->Q .normal a W):
  (Code.region 32 ops true).wp Try.prog Q k wr:=by
 obtain rfl:=yh ((rfl:Fx Try.f11 32=some _).symm.trans m)
 clear m
 refine Df (by kernel_rfl) (JF R1 R2) (T7 B g rn rc mr i) (fun _ _ _=>True) (by kernel_rfl) (by rw[J];kernel_rfl) (by kernel_rfl) (fun _ j v w w' _ _ _ h=>by unfold T7 at h ⊢;exact h) ⟨fun _=>h0,fun h=>(by cases h)⟩ ?_ ?_
 ·intro R c a w' hM b o l
  have f:=yb hM.ext
  have C:=(yf.1 l).1
  have A:=hM.size
  have S:=yb hi
  have K:(i:Int) < (rn:Int):=by omega
  match R,C with
  |0,_=>
   have d:=hM.old b 13 (by kernel_rfl) _ D
   have r:c.getD 8 false=false:=by
    rw[yi];intro s
    have:=A1 hM.down 8 8 0 (by kernel_rfl) s
    rw[hM.not_yet b] at this;cases this
   obtain ⟨I,G,H⟩:=x _ (f.o.one r)
   clear hi
   obtain rfl:=yh l
   go_simp
   exact ⟨_,rfl,f.o.quiet (by decide),trivial,rfl⟩
  |1,_=>
   have d:=hM.old b 2 (by kernel_rfl) _ h2
   clear hi
   obtain rfl:=yh l
   go_simp
   exact ⟨_,rfl,f.o.quiet (by decide),trivial,rfl⟩
  |2,_=>
   have d:a.tmps[106]?.getD undef=pV (B+1) 21:=hM.dep b 1 106 (by kernel_rfl) (by kernel_rfl)
   have r:c.getD 8 false=false:=by
    rw[yi];intro s
    have:=A1 hM.down 8 8 2 (by kernel_rfl) s
    rw[hM.not_yet b] at this;cases this
   obtain ⟨I,G,H⟩:=x _ (f.o.one r)
   clear hi
   obtain rfl:=yh l
   go_simp
   exact ⟨_,rfl,f.o.quiet (by decide),trivial,rfl⟩
  |3,_=>
   have d:=hM.old b 14 (by kernel_rfl) _ u
   clear hi
   obtain rfl:=yh l
   go_simp
   exact ⟨_,rfl,f.o.quiet (by decide),trivial,rfl⟩
  |4,_=>
   have O:a.tmps[107]?.getD undef=.slice (some (aV g 0)) rn rc:=hM.dep b 2 107 (by kernel_rfl) (by kernel_rfl)
   have P:a.tmps[108]?.getD undef=iV i:=hM.dep b 3 108 (by kernel_rfl) (by kernel_rfl)
   clear hi
   obtain rfl:=yh l
   go_simp
   exact ⟨_,rfl,f.o.quiet (by decide),trivial,rfl⟩
  |5,_=>
   have d:a.tmps[109]?.getD undef=pV g (i*51):=hM.dep b 4 109 (by kernel_rfl) (by kernel_rfl)
   clear hi
   obtain rfl:=yh l
   go_simp
   exact ⟨_,rfl,f.o.quiet (by decide),trivial,rfl⟩
  |6,_=>
   have d:=hM.old b 6 (by kernel_rfl) _ h6
   have r:c.getD 8 false=false:=by
    rw[yi];intro s
    have:=A1 hM.down 8 8 6 (by kernel_rfl) s
    rw[hM.not_yet b] at this;cases this
   obtain ⟨I,G,H⟩:=x _ (f.o.one r)
   clear hi
   obtain rfl:=yh l
   go_simp
   exact ⟨_,rfl,f.o.quiet (by decide),trivial,rfl⟩
  |7,_=>
   have d:=hM.old b 14 (by kernel_rfl) _ u
   clear hi
   obtain rfl:=yh l
   go_simp
   exact ⟨_,rfl,f.o.quiet (by decide),trivial,rfl⟩
  |8,_=>
   have O:a.tmps[105]?.getD undef=.func (.func 49) #[] #[]:=hM.dep b 0 105 (by kernel_rfl) (by kernel_rfl)
   have P:a.tmps[110]?.getD undef=pV g (i*51+1):=hM.dep b 5 110 (by kernel_rfl) (by kernel_rfl)
   have U:a.tmps[111]?.getD undef=.map (some mr):=hM.dep b 6 111 (by kernel_rfl) (by kernel_rfl)
   have T:a.tmps[112]?.getD undef=iV i:=hM.dep b 7 112 (by kernel_rfl) (by kernel_rfl)
   have z:=f.o.one (hM.not_yet b)
   have N:=yb (p _ z)
   have M:=yb (EZ (lo:=105) (hi:=113) (by kernel_rfl) hM)
   have E:=yb hM.defers
   have L:Hid (8 < c.size):=yb (by rw[A];show 8 < 9;omega)
   clear hi
   obtain rfl:=yh l
   go_simp
   refine N.o.mono ?_
   rintro e w2 (⟨rfl,n⟩|⟨rfl,n⟩)
   ·exact ⟨_,rfl,⟨fun h=>(by simp[L.o] at h),fun _=>n⟩,trivial,trivial⟩
   ·exact F _ _ E.o M.o n
 ·intro c a w' q hM
  exact y a w' (hM.tmps.trans J) hM.defers (EZ (lo:=105) (hi:=113) (by kernel_rfl) hM) (hM.ext.two (q 8 (show 8 < 9 by omega)))
def Jc(n0:Nat)(w w':World):Prop:=w.heap.size<=w'.heap.size∧∀(b:Nat) (o:Obj),n0<=b->w.heap[b]?=some o->w'.heap[b]?=some o∨∃z a:Value,o=.cells #[z] 90 (0,0)∧w'.heap[b]?=some (.cells #[a] 90 (0,0))
theorem Jc.refl(n0:Nat)(w:World):Jc n0 w w:=⟨ye _,fun _ _ _ h=>.inl h⟩
theorem Jc.below{n0:Nat}{w w':World}(h:Below w.heap.size w w'):Jc n0 w w':=⟨h.size,fun b _ _ hb=>.inl ((h.block b (yf.1 hb).1).trans hb)⟩
theorem Cb.leB{n0:Nat}{w w':World}{m:Nat}{b:LB}(h:Cb w m b)(hl:Jc n0 w w')(c:n0<=m):Cb w' m b:=by
 obtain ⟨es,a,h1,h2⟩:=h
 rcases hl.2 m _ c h1 with h3|⟨z,d,h3,_⟩
 ·exact ⟨es,a,h3,h2⟩
 ·cases h3
def Hy(n0:Nat)(v:Value)(w:World):Prop:=∃b z,v=.pointer (some ⟨b,0,none⟩)∧n0<=b∧w.heap[b]?=some (.cells #[z] 90 (0,0))
theorem Hy.leB{n0:Nat}{v:Value}{w w':World}(h:Hy n0 v w)(hl:Jc n0 w w'):Hy n0 v w':=by
 obtain ⟨b,z,h1,h2,h3⟩:=h
 rcases hl.2 b _ h2 h3 with h4|⟨_,a,_,h4⟩
 ·exact ⟨b,z,h1,h2,h4⟩
 ·exact ⟨b,a,h1,h2,h4⟩
def Fa(n0:Nat)(v:Value)(a:LB)(w:World):Prop:=∃m,v=.map (some m)∧n0<=m∧Cb w m a∧a.Nodup
theorem Fa.leB{n0:Nat}{v:Value}{a:LB}{w w':World}(h:Fa n0 v a w)(hl:Jc n0 w w'):Fa n0 v a w':=by
 obtain ⟨m,h1,h2,h3,h4⟩:=h
 exact ⟨m,h1,h2,h3.leB hl h2,h4⟩
def Sw(n0 B:Nat)(h0 h1 h2 h3:Av)(n0s n1s n2s n3s:LB)(j:Nat)(v:Value)(w:World):Prop:=match j with
 |0=>v=.pointer (some ⟨B,19,none⟩)
 |1=>v=.slice h0.a h0.n h0.c
 |2=>Fa n0 v n0s w
 |3=>v=.pointer (some ⟨B,20,none⟩)
 |4=>v=.slice h1.a h1.n h1.c
 |5=>Fa n0 v n1s w
 |6=>v=.pointer (some ⟨B,21,none⟩)
 |7=>v=.slice h2.a h2.n h2.c
 |8=>Fa n0 v n2s w
 |9=>v=.pointer (some ⟨B,22,none⟩)
 |10=>v=.slice h3.a h3.n h3.c
 |11=>Fa n0 v n3s w
 |12|13|14|15=>Hy n0 v w
 |_=>True
theorem Ny{n0 B:Nat}{h0 h1 h2 h3:Av}{n0s n1s n2s n3s:LB}(j:Nat)(v:Value)(w w':World)(hl:Jc n0 w w')(h:Sw n0 B h0 h1 h2 h3 n0s n1s n2s n3s j v w):Sw n0 B h0 h1 h2 h3 n0s n1s n2s n3s j v w':=by
 unfold Sw at h ⊢
 split at h
 all_goals first|exact h|exact h.leB hl
def Ti(n0:Nat)(v:Value)(a:LB)(w:World):Prop:=∃b,v=.pointer (some ⟨b,0,none⟩)∧n0<=b∧b < w.heap.size∧Bb w b a
def TV(n0:Nat)(n0s n1s n2s n3s:LB)(l:Array Bool)(tm:Array Value)(w:World)(q:Nat):Prop:=l.getD (16+q) false=true->Ti n0 (tm.getD (4+q) undef) ((([n0s,n1s,n2s,n3s]:List LB))[q]?.getD []) w
structure FM (n0:Nat) (V:World) (n0s n1s n2s n3s:List ByteArray) (l:Array Bool) (tm:Array Value) (w:World):Prop where
 below:Below n0 V w
 apart:∀p q,p < 4->q < 4->p≠q->l.getD (12+p) false=true->l.getD (12+q) false=true->tm.getD (4+p) undef≠tm.getD (4+q) undef
 full:∀q,q < 4->TV n0 n0s n1s n2s n3s l tm w q
section
variable{n0:Nat}{V w w':World}{n0s n1s n2s n3s:LB}{l:Array Bool}{tm:Array Value}
theorem Bb.below{b:Nat}{a:LB}(h:Bb w b a)(hb:Below w.heap.size w w'):Bb w' b a:=by
 obtain ⟨m,h1,h2⟩:=h
 exact ⟨m,(hb.block b (yf.1 h1).1).trans h1,h2.block (hb.block m h2.lt)⟩
theorem FM.quiet(h:FM n0 V n0s n1s n2s n3s l tm w){i t:Nat}{v:Value}(hi:i < 12)(j:7 < t)(g:n0<=w.heap.size)(hb:Below w.heap.size w w'):FM n0 V n0s n1s n2s n3s (l.setIfInBounds i true) (tm.setIfInBounds t v) w':=by
 refine ⟨h.below.trans (hb.mono g),fun p q f c a d e=>?_,fun q c k=>?_⟩
 ·rw[Aa (by omega)] at d e
  rw[BD (by omega),BD (by omega)]
  exact h.apart p q f c a d e
 ·rw[Aa (by omega)] at k
  rw[BD (by omega)]
  obtain ⟨b,h1,h2,h3,h4⟩:=h.full q c k
  exact ⟨b,h1,h2,yp h3 hb.size,h4.below hb⟩
theorem FM.alloc(h:FM n0 V n0s n1s n2s n3s l tm w){q:Nat}(t:q < 4)(s:n0<=w.heap.size)(n:tm.size=174)(g:∀p,p < 4->l.getD (12+p) false=true->Hy n0 (tm.getD (4+p) undef) w)(m:l.getD (16+q) false=false)(z:Value):
  FM n0 V n0s n1s n2s n3s (l.setIfInBounds (12+q) true) (tm.setIfInBounds (4+q) (.pointer (some ⟨w.heap.size,0,none⟩))) (w.alloc (.cells #[z] 90)):=by
 have hb:Below w.heap.size w (w.alloc (.cells #[z] 90)):=(yg _ _).alloc (ye _) _
 have a:(tm.setIfInBounds (4+q) (pV w.heap.size 0)).getD (4+q) undef=pV w.heap.size 0:=by simp[n,show 4+q < 174 by omega]
 have c:∀p,p < 4->p≠q->(l.setIfInBounds (12+q) true).getD (12+p) false=true->∃b,tm.getD (4+p) undef=pV b 0∧b < w.heap.size:=fun p f d k=>by
  rw[Aa (by omega)] at k
  obtain ⟨b,z,h1,_,h3⟩:=g p f k
  exact ⟨b,h1,(yf.1 h3).1⟩
 refine ⟨h.below.trans (hb.mono s),fun p r f o d i j=>?_,fun p f k=>?_⟩
 ·by_cases e1:p=q
  ·subst e1
   obtain ⟨b,h1,h2⟩:=c r o (xj d) j
   rw[a,BD (by omega),h1]
   intro e;simp at e<;>omega
  ·obtain ⟨b,h1,h2⟩:=c p f e1 i
   by_cases e2:r=q
   ·subst e2
    rw[a,BD (by omega),h1]
    intro e;simp at e<;>omega
   ·rw[BD (by omega),BD (by omega)]
    rw[Aa (by omega)] at i j
    exact h.apart p r f o d i j
 ·rw[Aa (by omega)] at k
  by_cases e1:p=q
  ·subst e1;rw[m] at k;cases k
  ·rw[BD (by omega)]
   obtain ⟨b,h1,h2,h3,h4⟩:=h.full p f k
   exact ⟨b,h1,h2,yp h3 hb.size,h4.below hb⟩
theorem FM.store(h:FM n0 V n0s n1s n2s n3s l tm w){q b m:Nat}{z:Value}(D:q < 4)(C:n0<=b)(hb:w.heap[b]?=some (.cells #[z] 90 (0,0)))(s:tm.getD (4+q) undef=.pointer (some ⟨b,0,none⟩))
 (E:Cb w m ((([n0s,n1s,n2s,n3s]:List LB))[q]?.getD []))(u:l.getD (12+q) false=true)(i:∀p,p < 4->l.getD (16+p) false=true->l.getD (12+p) false=true):
  FM n0 V n0s n1s n2s n3s (l.setIfInBounds (16+q) true) tm (w.setCell ⟨b,0,none⟩ (.map (some m)))∧Jc n0 w (w.setCell ⟨b,0,none⟩ (.map (some m))):=by
 have d:(w.setCell (aV b 0) (.map (some m))).heap[b]?=some (.cells #[.map (some m)] 90 (0,0)):=by
  have:=za w b 0 #[z] 90 (.map (some m)) hb
  rw[this];rfl
 have a:∀c,c≠b->(w.setCell (aV b 0) (.map (some m))).heap[c]?=w.heap[c]?:=fun c hc=>yY w (aV b 0) c _ hc
 have f:∀n j,Cb w n j->Cb (w.setCell (aV b 0) (.map (some m))) n j:=fun n j h=>by
  obtain ⟨es,v,h1,_⟩:=h.size
  exact h.block (a n (fun e=>by rw[e,hb] at h1;cases h1))
 refine ⟨⟨?_,fun p r t B g y A=>?_,fun p t k=>?_⟩,by simp,fun c o hc x=>?_⟩
 ·exact h.below.trans ⟨rfl,rfl,rfl,by simp,fun c hc=>a c (by omega)⟩
 ·rw[Aa (by omega)] at y A
  exact h.apart p r t B g y A
 ·by_cases e1:p=q
  ·subst e1
   exact ⟨b,s,C,by simpa using (yf.1 hb).1,m,d,f _ _ E⟩
  ·rw[Aa (by omega)] at k
   obtain ⟨b',h1,h2,h3,n,h4,h5⟩:=h.full p t k
   have g:b'≠b:=fun e=>h.apart p q t D e1 (i p t k) u (by rw[h1,s,e])
   exact ⟨b',h1,h2,by simpa using h3,n,(a b' g).trans h4,f _ _ h5⟩
 ·by_cases e:c=b
  ·subst e
   rw[hb] at x
   exact .inr ⟨z,.map (some m),(yh x).symm,d⟩
  ·exact .inl ((a c e).trans x)
end
theorem TW{O:Act}{V:World}{Q:QT}{B:Nat}{h0 h1 h2 h3:Av}{n0s n1s n2s n3s:LB}(ops:Array Oper)(U:Fx Try.f11 11=some ops)
 (R:O.tmps.getD 1 undef=.pointer (some ⟨B,0,none⟩))(hz:O.tmps.size=174)
 (hc:∀W,Below V.heap.size V W->W.cell? ⟨B,19,none⟩=some (.slice h0.a h0.n h0.c)∧W.cell? ⟨B,20,none⟩=some (.slice h1.a h1.n h1.c)∧W.cell? ⟨B,21,none⟩=some (.slice h2.a h2.n h2.c)∧W.cell? ⟨B,22,none⟩=some (.slice h3.a h3.n h3.c))
 (a7:∀W,Below V.heap.size V W->AZ W h0 7 0 n0s)(ae:∀W,Below V.heap.size V W->AZ W h1 7 0 n1s)(ab:∀W,Below V.heap.size V W->AZ W h2 51 0 n2s)(af:∀W,Below V.heap.size V W->AZ W h3 12 0 n3s)
 (ad:n0s.length<=100000)(ac:n1s.length<=100000)(a6:n2s.length<=100000)(a1:n3s.length<=100000)
 (S:∀(a:Act) W,a.defers=O.defers->(∀t,(t < 4∨54 < t)->a.tmps.getD t undef=O.tmps.getD t undef)->Below V.heap.size V W->¬ (n0s.Nodup∧n1s.Nodup∧n2s.Nodup∧n3s.Nodup)->Q (.panic (Ek 171)) a W)
 (a2:∀(a:Act) W (bl bc br bf:Nat),a.tmps.size=174->a.defers=O.defers->(∀t,t∉[4,5,6,7,43,44,45,46,47,48,49,50,51,52,53,54]->a.tmps.getD t undef=O.tmps.getD t undef)->
   a.tmps.getD 4 undef=.pointer (some ⟨bl,0,none⟩)->a.tmps.getD 5 undef=.pointer (some ⟨bc,0,none⟩)->a.tmps.getD 6 undef=.pointer (some ⟨br,0,none⟩)->a.tmps.getD 7 undef=.pointer (some ⟨bf,0,none⟩)->
   Bb W bl n0s->Bb W bc n1s->Bb W br n2s->Bb W bf n3s->(V.heap.size<=bl∧bl < W.heap.size)->(V.heap.size<=bc∧bc < W.heap.size)->(V.heap.size<=br∧br < W.heap.size)->(V.heap.size<=bf∧bf < W.heap.size)->Below V.heap.size V W->(n0s.Nodup∧n1s.Nodup∧n2s.Nodup∧n3s.Nodup)->Q .normal a W):
  (Code.region 11 ops true).wp Try.prog Q O V:=by
 obtain rfl:=yh ((rfl:Fx Try.f11 11=some _).symm.trans U)
 clear U
 have T:∀ {aa:Array Bool->Array Value->World->Prop} {Pp:Nat->Value->World->Prop} {f:Array Bool} {a:Act} {w':World},IS _ O aa Pp f a w'->∀t,t∉[4,5,6,7,43,44,45,46,47,48,49,50,51,52,53,54]->a.tmps.getD t undef=O.tmps.getD t undef:=fun hM t Z=>by
  refine hM.free t fun mm ag o E hd=>Z ?_
  have hs:=Ml (ops:=(Try.f11.body.bind (Dw 11)).getD #[]) (p:=fun o=>match o.dst with|some k=>decide (k∈[4,5,6,7,43,44,45,46,47,48,49,50,51,52,53,54])|none=>true) (by kernel_rfl) E
  rw[hd] at hs
  exact yv hs
 refine Df (by kernel_rfl) (FM V.heap.size V n0s n1s n2s n3s) (Sw V.heap.size B h0 h1 h2 h3 n0s n1s n2s n3s) (fun _=>Jc V.heap.size) (by kernel_rfl) (by rw[hz];kernel_rfl) (by kernel_rfl) (fun _ j v w w' _ _ hl h=>Ny j v w w' hl h) ?_ ?_ ?_
 ·refine ⟨(yg _ _).drew,fun p q L hq ah k1 k2=>?_,fun q hq k=>?_⟩
  ·exfalso
   match p,L with
   |0,_=>cases k1
   |1,_=>cases k1
   |2,_=>cases k1
   |3,_=>cases k1
  ·exfalso
   match q,hq with
   |0,_=>cases k
   |1,_=>cases k
   |2,_=>cases k
   |3,_=>cases k
 ·intro ix f a w' hM i o E
  have r:=yb hM.ext
  have a8:=(yf.1 E).1
  have a0:V.heap.size<=w'.heap.size:=hM.ext.below.size
  have l:=yb a0
  have N:Hid (a.tmps.size=174):=yb (hM.tmps.trans hz)
  have HF:=yb (T hM)
  have P:=yb hM.defers
  have K:Hid (∀p,p < 4->f.getD (12+p) false=true->Hy V.heap.size (a.tmps.getD (4+p) undef) w'):=yb (fun p L k=>by
   match p,L with
   |0,_=>exact hM.done 12 k _ 4 rfl rfl
   |1,_=>exact hM.done 13 k _ 5 rfl rfl
   |2,_=>exact hM.done 14 k _ 6 rfl rfl
   |3,_=>exact hM.done 15 k _ 7 rfl rfl)
  clear a0
  match ix,a8 with
  |0,_=>
   have d:=hM.old i 1 (by kernel_rfl) _ R
   obtain rfl:=yh E
   go_simp
   exact ⟨_,rfl,r.o.quiet (by decide) (by decide) l.o (yg _ _),Jc.refl _ _,rfl⟩
  |1,_=>
   have d:a.tmps[43]?.getD undef=pV B 19:=hM.dep i 0 43 (by kernel_rfl) (by kernel_rfl)
   obtain ⟨x0,x1,x2,x3⟩:=hc _ r.o.below
   obtain rfl:=yh E
   go_simp
   exact ⟨_,rfl,r.o.quiet (by decide) (by decide) l.o (yg _ _),Jc.refl _ _,rfl⟩
  |2,_=>
   have d:a.tmps[44]?.getD undef=.slice h0.a h0.n h0.c:=hM.dep i 1 44 (by kernel_rfl) (by kernel_rfl)
   have M:=yb (Q7 (a7 _ r.o.below) ad)
   unfold Av.v at M
   obtain rfl:=yh E
   go_simp
   refine M.o.mono ?_
   rintro e w2 ⟨g,⟨s,m,rfl,G,H⟩|⟨s,rfl⟩⟩
   ·exact ⟨_,rfl,r.o.quiet (by decide) (by decide) l.o g,Jc.below g,m,rfl,yr l.o G,H,s⟩
   ·exact S _ _ P.o (fun t Z=>HF.o t (by simp;omega)) (r.o.below.trans (g.mono l.o)) (fun h=>s h.1)
  |3,_=>
   have d:=hM.old i 1 (by kernel_rfl) _ R
   obtain rfl:=yh E
   go_simp
   exact ⟨_,rfl,r.o.quiet (by decide) (by decide) l.o (yg _ _),Jc.refl _ _,rfl⟩
  |4,_=>
   have d:a.tmps[46]?.getD undef=pV B 20:=hM.dep i 3 46 (by kernel_rfl) (by kernel_rfl)
   obtain ⟨x0,x1,x2,x3⟩:=hc _ r.o.below
   obtain rfl:=yh E
   go_simp
   exact ⟨_,rfl,r.o.quiet (by decide) (by decide) l.o (yg _ _),Jc.refl _ _,rfl⟩
  |5,_=>
   have d:a.tmps[47]?.getD undef=.slice h1.a h1.n h1.c:=hM.dep i 4 47 (by kernel_rfl) (by kernel_rfl)
   have M:=yb (OA (ae _ r.o.below) ac)
   unfold Av.v at M
   obtain rfl:=yh E
   go_simp
   refine M.o.mono ?_
   rintro e w2 ⟨g,⟨s,m,rfl,G,H⟩|⟨s,rfl⟩⟩
   ·exact ⟨_,rfl,r.o.quiet (by decide) (by decide) l.o g,Jc.below g,m,rfl,yr l.o G,H,s⟩
   ·exact S _ _ P.o (fun t Z=>HF.o t (by simp;omega)) (r.o.below.trans (g.mono l.o)) (fun h=>s h.2.1)
  |6,_=>
   have d:=hM.old i 1 (by kernel_rfl) _ R
   obtain rfl:=yh E
   go_simp
   exact ⟨_,rfl,r.o.quiet (by decide) (by decide) l.o (yg _ _),Jc.refl _ _,rfl⟩
  |7,_=>
   have d:a.tmps[49]?.getD undef=pV B 21:=hM.dep i 6 49 (by kernel_rfl) (by kernel_rfl)
   obtain ⟨x0,x1,x2,x3⟩:=hc _ r.o.below
   obtain rfl:=yh E
   go_simp
   exact ⟨_,rfl,r.o.quiet (by decide) (by decide) l.o (yg _ _),Jc.refl _ _,rfl⟩
  |8,_=>
   have d:a.tmps[50]?.getD undef=.slice h2.a h2.n h2.c:=hM.dep i 7 50 (by kernel_rfl) (by kernel_rfl)
   have M:=yb (Nf (ab _ r.o.below) a6)
   unfold Av.v at M
   obtain rfl:=yh E
   go_simp
   refine M.o.mono ?_
   rintro e w2 ⟨g,⟨s,m,rfl,G,H⟩|⟨s,rfl⟩⟩
   ·exact ⟨_,rfl,r.o.quiet (by decide) (by decide) l.o g,Jc.below g,m,rfl,yr l.o G,H,s⟩
   ·exact S _ _ P.o (fun t Z=>HF.o t (by simp;omega)) (r.o.below.trans (g.mono l.o)) (fun h=>s h.2.2.1)
  |9,_=>
   have d:=hM.old i 1 (by kernel_rfl) _ R
   obtain rfl:=yh E
   go_simp
   exact ⟨_,rfl,r.o.quiet (by decide) (by decide) l.o (yg _ _),Jc.refl _ _,rfl⟩
  |10,_=>
   have d:a.tmps[52]?.getD undef=pV B 22:=hM.dep i 9 52 (by kernel_rfl) (by kernel_rfl)
   obtain ⟨x0,x1,x2,x3⟩:=hc _ r.o.below
   obtain rfl:=yh E
   go_simp
   exact ⟨_,rfl,r.o.quiet (by decide) (by decide) l.o (yg _ _),Jc.refl _ _,rfl⟩
  |11,_=>
   have d:a.tmps[53]?.getD undef=.slice h3.a h3.n h3.c:=hM.dep i 10 53 (by kernel_rfl) (by kernel_rfl)
   have M:=yb (OB (af _ r.o.below) a1)
   unfold Av.v at M
   obtain rfl:=yh E
   go_simp
   refine M.o.mono ?_
   rintro e w2 ⟨g,⟨s,m,rfl,G,H⟩|⟨s,rfl⟩⟩
   ·exact ⟨_,rfl,r.o.quiet (by decide) (by decide) l.o g,Jc.below g,m,rfl,yr l.o G,H,s⟩
   ·exact S _ _ P.o (fun t Z=>HF.o t (by simp;omega)) (r.o.below.trans (g.mono l.o)) (fun h=>s h.2.2.2)
  |12,_=>
   have A:f.getD (16+0) false=false:=by
    rw[yi];intro Y
    have:=A1 hM.down 8 16 12 (by kernel_rfl) Y
    rw[hM.not_yet i] at this;cases this
   have J:=yb A
   clear A
   obtain rfl:=yh E
   go_simp
   exact ⟨_,rfl,r.o.alloc (q:=0) (by decide) l.o N.o K.o J.o _,Jc.below ((yg _ _).alloc (ye _) _),_,_,rfl,l.o,World.alloc_heap_new _ _⟩
  |13,_=>
   have A:f.getD (16+1) false=false:=by
    rw[yi];intro Y
    have:=A1 hM.down 8 17 13 (by kernel_rfl) Y
    rw[hM.not_yet i] at this;cases this
   have J:=yb A
   clear A
   obtain rfl:=yh E
   go_simp
   exact ⟨_,rfl,r.o.alloc (q:=1) (by decide) l.o N.o K.o J.o _,Jc.below ((yg _ _).alloc (ye _) _),_,_,rfl,l.o,World.alloc_heap_new _ _⟩
  |14,_=>
   have A:f.getD (16+2) false=false:=by
    rw[yi];intro Y
    have:=A1 hM.down 8 18 14 (by kernel_rfl) Y
    rw[hM.not_yet i] at this;cases this
   have J:=yb A
   clear A
   obtain rfl:=yh E
   go_simp
   exact ⟨_,rfl,r.o.alloc (q:=2) (by decide) l.o N.o K.o J.o _,Jc.below ((yg _ _).alloc (ye _) _),_,_,rfl,l.o,World.alloc_heap_new _ _⟩
  |15,_=>
   have A:f.getD (16+3) false=false:=by
    rw[yi];intro Y
    have:=A1 hM.down 8 19 15 (by kernel_rfl) Y
    rw[hM.not_yet i] at this;cases this
   have J:=yb A
   clear A
   obtain rfl:=yh E
   go_simp
   exact ⟨_,rfl,r.o.alloc (q:=3) (by decide) l.o N.o K.o J.o _,Jc.below ((yg _ _).alloc (ye _) _),_,_,rfl,l.o,World.alloc_heap_new _ _⟩
  |16,_=>
   have hb:Hy V.heap.size (a.tmps[4]?.getD undef) w':=hM.dep i 12 4 (by kernel_rfl) (by kernel_rfl)
   have G:Fa V.heap.size (a.tmps[45]?.getD undef) n0s w':=hM.dep i 2 45 (by kernel_rfl) (by kernel_rfl)
   obtain ⟨b,z,X,C,g⟩:=hb
   obtain ⟨m,d2,F,x,I⟩:=G
   have D:∀p,p < 4->f.getD (16+p) false=true->f.getD (12+p) false=true:=fun p L k=>by
    match p,L with
    |0,_=>exact A1 hM.down 8 16 12 (by kernel_rfl) k
    |1,_=>exact A1 hM.down 8 17 13 (by kernel_rfl) k
    |2,_=>exact A1 hM.down 8 18 14 (by kernel_rfl) k
    |3,_=>exact A1 hM.down 8 19 15 (by kernel_rfl) k
   have y:=yb (r.o.store (q:=0) (m:=m) (by decide) C g (by rw[yG];exact X) x (hM.came i 12 (by kernel_rfl)) D)
   have c1:w'.cell? (aV b 0)=some z:=by simp[World.cell?,g]
   have c2:w'.frozen? (aV b 0)=false:=by simp[World.frozen?,g]
   clear C g F x I D
   obtain rfl:=yh E
   go_simp
   exact ⟨undef,rfl,y.o.1,y.o.2,trivial⟩
  |17,_=>
   have hb:Hy V.heap.size (a.tmps[5]?.getD undef) w':=hM.dep i 13 5 (by kernel_rfl) (by kernel_rfl)
   have G:Fa V.heap.size (a.tmps[48]?.getD undef) n1s w':=hM.dep i 5 48 (by kernel_rfl) (by kernel_rfl)
   obtain ⟨b,z,X,C,g⟩:=hb
   obtain ⟨m,d2,F,x,I⟩:=G
   have D:∀p,p < 4->f.getD (16+p) false=true->f.getD (12+p) false=true:=fun p L k=>by
    match p,L with
    |0,_=>exact A1 hM.down 8 16 12 (by kernel_rfl) k
    |1,_=>exact A1 hM.down 8 17 13 (by kernel_rfl) k
    |2,_=>exact A1 hM.down 8 18 14 (by kernel_rfl) k
    |3,_=>exact A1 hM.down 8 19 15 (by kernel_rfl) k
   have y:=yb (r.o.store (q:=1) (m:=m) (by decide) C g (by rw[yG];exact X) x (hM.came i 13 (by kernel_rfl)) D)
   have c1:w'.cell? (aV b 0)=some z:=by simp[World.cell?,g]
   have c2:w'.frozen? (aV b 0)=false:=by simp[World.frozen?,g]
   clear C g F x I D
   obtain rfl:=yh E
   go_simp
   exact ⟨undef,rfl,y.o.1,y.o.2,trivial⟩
  |18,_=>
   have hb:Hy V.heap.size (a.tmps[6]?.getD undef) w':=hM.dep i 14 6 (by kernel_rfl) (by kernel_rfl)
   have G:Fa V.heap.size (a.tmps[51]?.getD undef) n2s w':=hM.dep i 8 51 (by kernel_rfl) (by kernel_rfl)
   obtain ⟨b,z,X,C,g⟩:=hb
   obtain ⟨m,d2,F,x,I⟩:=G
   have D:∀p,p < 4->f.getD (16+p) false=true->f.getD (12+p) false=true:=fun p L k=>by
    match p,L with
    |0,_=>exact A1 hM.down 8 16 12 (by kernel_rfl) k
    |1,_=>exact A1 hM.down 8 17 13 (by kernel_rfl) k
    |2,_=>exact A1 hM.down 8 18 14 (by kernel_rfl) k
    |3,_=>exact A1 hM.down 8 19 15 (by kernel_rfl) k
   have y:=yb (r.o.store (q:=2) (m:=m) (by decide) C g (by rw[yG];exact X) x (hM.came i 14 (by kernel_rfl)) D)
   have c1:w'.cell? (aV b 0)=some z:=by simp[World.cell?,g]
   have c2:w'.frozen? (aV b 0)=false:=by simp[World.frozen?,g]
   clear C g F x I D
   obtain rfl:=yh E
   go_simp
   exact ⟨undef,rfl,y.o.1,y.o.2,trivial⟩
  |19,_=>
   have hb:Hy V.heap.size (a.tmps[7]?.getD undef) w':=hM.dep i 15 7 (by kernel_rfl) (by kernel_rfl)
   have G:Fa V.heap.size (a.tmps[54]?.getD undef) n3s w':=hM.dep i 11 54 (by kernel_rfl) (by kernel_rfl)
   obtain ⟨b,z,X,C,g⟩:=hb
   obtain ⟨m,d2,F,x,I⟩:=G
   have D:∀p,p < 4->f.getD (16+p) false=true->f.getD (12+p) false=true:=fun p L k=>by
    match p,L with
    |0,_=>exact A1 hM.down 8 16 12 (by kernel_rfl) k
    |1,_=>exact A1 hM.down 8 17 13 (by kernel_rfl) k
    |2,_=>exact A1 hM.down 8 18 14 (by kernel_rfl) k
    |3,_=>exact A1 hM.down 8 19 15 (by kernel_rfl) k
   have y:=yb (r.o.store (q:=3) (m:=m) (by decide) C g (by rw[yG];exact X) x (hM.came i 15 (by kernel_rfl)) D)
   have c1:w'.cell? (aV b 0)=some z:=by simp[World.cell?,g]
   have c2:w'.frozen? (aV b 0)=false:=by simp[World.frozen?,g]
   clear C g F x I D
   obtain rfl:=yh E
   go_simp
   exact ⟨undef,rfl,y.o.1,y.o.2,trivial⟩
 ·intro f a w' u hM
  obtain ⟨bl,l1,l2,l3,l4⟩:=hM.ext.full 0 (by decide) (u 16 (show 16 < 20 by omega))
  obtain ⟨bc,c1,c2,c3,c4⟩:=hM.ext.full 1 (by decide) (u 17 (show 17 < 20 by omega))
  obtain ⟨br,r1,r2,r3,r4⟩:=hM.ext.full 2 (by decide) (u 18 (show 18 < 20 by omega))
  obtain ⟨bf,f1,f2,f3,f4⟩:=hM.ext.full 3 (by decide) (u 19 (show 19 < 20 by omega))
  obtain ⟨_,_,_,_,g0⟩:Fa V.heap.size _ n0s w':=hM.done 2 (u 2 (show 2 < 20 by omega)) _ 45 rfl rfl
  obtain ⟨_,_,_,_,g1⟩:Fa V.heap.size _ n1s w':=hM.done 5 (u 5 (show 5 < 20 by omega)) _ 48 rfl rfl
  obtain ⟨_,_,_,_,g2⟩:Fa V.heap.size _ n2s w':=hM.done 8 (u 8 (show 8 < 20 by omega)) _ 51 rfl rfl
  obtain ⟨_,_,_,_,g3⟩:Fa V.heap.size _ n3s w':=hM.done 11 (u 11 (show 11 < 20 by omega)) _ 54 rfl rfl
  exact a2 a w' bl bc br bf (hM.tmps.trans hz) hM.defers (T hM) l1 c1 r1 f1 l4 c4 r4 f4 ⟨l2,l3⟩ ⟨c2,c3⟩ ⟨r2,r3⟩ ⟨f2,f3⟩ hM.ext.below ⟨g0,g1,g2,g3⟩
theorem Tj{Q:QT}{w V W5:World}{x:An}{L:Bh}{N M:NP}{bl bc br bf Bf:Nat}(hQ:Kk Q w x)(p:Hs w x W5 L N M bl bc br bf Bf V.heap.size)
 (O:RL w.heap.size W5 (Tb.of x) (CL W5 L x) V.heap.size (.cells #[.pointer (some ⟨w.heap.size+1,0,none⟩)] 52) 0 V)(ac:Bf < V.heap.size)(ai:br < V.heap.size)(ak:W5.heap.size=V.heap.size+1)
 (u0 u1 u8 u9 u10 u11 u12 u14 u15 u16 u17 u18 u19 u20 u21 u22 u23 u24 u25 u26 u27 u28 u29 u30 u31 u32 u33 u34 u35 u36 u37 u38 u39 u40 u41 u42 u43 u44 u45 u46 u47 u48 u49 u50 u51 u52 u53 u54 u55 u56 u57 u58 u59 u60 u61 u62 u63 u64 u65 u66 u67 u68 u69 u70 u71 u72 u73 u74 u75 u76 u77 u78 u79 u80 u81 u82 u83 u84 u85 u86 u87 u88 u89 u90 u91 u92 u93 u94 u95 u96 u97 u98 u99 u100 u101 u102 u103 u104 u105 u106 u107 u108 u109 u110 u111 u112 u113 u114 u115 u116 u117 u118 u119 u120 u121 u122 u123 u124 u125 u126 u127 u128 u129 u130 u131 u132 u133 u134 u135 u136 u137 u138 u139 u140 u141 u142 u143 u144 u145 u146 u147 u148 u149 u150 u151 u152 u153 u154 u155 u156 u157 u158 u159 u160 u161 u162 u163 u164 u165 u166 u167 u168 u169 u170 u171 u172 u173:Value):
  Gf 11 Try.prog (CP 19 (Try.f11.body.getD .skip)) Q {tmps:=#[u0,u1,.pointer (some ⟨w.heap.size+1,0,none⟩),.pointer (some ⟨w.heap.size+2,0,none⟩),.pointer (some ⟨bl,0,none⟩),.pointer (some ⟨bc,0,none⟩),.pointer (some ⟨br,0,none⟩),.pointer (some ⟨bf,0,none⟩),u8,u9,u10,u11,u12,.pointer (some ⟨Bf,0,none⟩),u14,u15,u16,u17,u18,u19,u20,u21,u22,u23,u24,u25,u26,u27,u28,u29,u30,u31,u32,u33,u34,u35,u36,u37,u38,u39,u40,u41,u42,u43,u44,u45,u46,u47,u48,u49,u50,u51,u52,u53,u54,u55,u56,u57,u58,u59,u60,u61,u62,u63,u64,u65,u66,u67,u68,u69,u70,u71,u72,u73,u74,u75,u76,u77,u78,u79,u80,u81,u82,u83,u84,u85,u86,u87,u88,u89,u90,u91,u92,u93,u94,u95,u96,u97,u98,u99,u100,u101,u102,u103,u104,u105,u106,u107,u108,u109,u110,u111,u112,u113,u114,u115,u116,u117,u118,u119,u120,u121,u122,u123,u124,u125,u126,u127,u128,u129,u130,u131,u132,u133,u134,u135,u136,u137,u138,u139,u140,u141,u142,u143,u144,u145,u146,u147,u148,u149,u150,u151,u152,u153,u154,u155,u156,u157,u158,u159,u160,u161,u162,u163,u164,u165,u166,u167,u168,u169,u170,u171,u172,u173],defers:=[IP w.heap.size]} V:=by
 have Y:=p.ls
 have R:w.heap.size+3<=V.heap.size:=by
  obtain ⟨v,he⟩:=p.amid.e
  have h1:=(yf.1 he).1
  rcases zO (w.heap.size+2) V.heap.size with h|h
  ·omega
  ·have h2:w.heap.size+2=V.heap.size:=by omega
   rw[h2,p.box] at he
   cases he
 have l:L.reaches.ok:=p.ps.reaches.ok
 have X:∀k wr,RL w.heap.size W5 (Tb.of x) (CL W5 L x) V.heap.size (.cells #[.pointer (some ⟨w.heap.size+1,0,none⟩)] 52) k wr->wr.cell? ⟨w.heap.size+1,21,none⟩=some L.reaches.v:=fun k wr h=>by
  rw[<-h.cell (by omega),h.2.cells _ _ (by omega) (G3 ⟨_,Y▸p.ps.ty,rfl⟩),<-Y]
  exact p.ps.hreaches
 have J:L.reaches.n<=140737488355328:=l.1
 have U:L.reaches.n=x.reaches.length:=p.ps.reaches.1
 have r:∀k wr,RL w.heap.size W5 (Tb.of x) (CL W5 L x) V.heap.size (.cells #[.pointer (some ⟨w.heap.size+1,0,none⟩)] 52) k wr->wr.cell? ⟨Bf,0,none⟩=some (.func (.func 49) #[] #[]):=fun k wr h=>by
  rw[<-h.cell ac];exact Ko p.find (by simp) (Hh (by decide)) h.2
 obtain ⟨mr,af⟩:∃mr,∀k wr,RL w.heap.size W5 (Tb.of x) (CL W5 L x) V.heap.size (.cells #[.pointer (some ⟨w.heap.size+1,0,none⟩)] 52) k wr->wr.cell? ⟨br,0,none⟩=some (.map (some mr))∧Cb wr mr (x.reaches.map (·.name)):=by
  obtain ⟨m,h1,h2⟩:=p.reaches
  obtain ⟨es,au,h3,_⟩:=h2.size
  have ax:m < V.heap.size:=by
   rcases zO m V.heap.size with h|h
   ·exact h
   ·have h4:m=V.heap.size:=by have:=h2.lt;omega
    rw[h4,p.box] at h3;cases h3
  refine ⟨m,fun k wr h=>⟨?_,?_⟩⟩
  ·rw[<-h.cell ai];exact Ko h1 (by simp) (Hh (by decide)) h.2
  ·refine h2.block ?_
   rw[<-h.heap ax]
   exact h.2.same m h2.lt (Kn fun t ⟨c,hc⟩=>by rw[h3] at hc;cases hc)
 have a6:=yb X;have S:=yb r;have Z:=yb af
 have HQ:=yb hQ;have D:=yb p;have b4:=yb R;have b3:=yb ak;have HN:=yb U
 have an:=yb O
 have u:Hid (∀k tm wr,RL w.heap.size W5 (Tb.of x) (CL W5 L x) V.heap.size (.cells #[.pointer (some ⟨w.heap.size+1,0,none⟩)] 52) k wr->KT w.heap.size tm->Au x=170->Q (.panic (Ek 170)) {tmps:=tm,defers:=[IP w.heap.size]} wr):=yb (fun k tm wr h hv H=>by
  have:=hQ.fail tm wr hv (RL.amid p.amid h R) (by rw[H];decide)
  rw[H] at this;exact this)
 have f:=X 0 V O
 have aj:=p.ps.reaches.2.2
 have ap:=yb aj
 generalize ah:L.reaches=rr at f J U
 obtain ⟨ra,rn,rc⟩:=rr
 have q:=yb ah
 unfold Av.v at f
 simp only at f J
 clear Y R l X U r af hQ p O ac ai ak aj ah
 unfold IP
 refine Ad (A6 ?_)
 go_wp2
 clear f
 go_loopw [91] (fun iv wr=>∃i:Nat,iv=.int .i64 i∧i<=rn∧Hid (RL w.heap.size W5 (Tb.of x) (CL W5 L x) V.heap.size (.cells #[.pointer (some ⟨w.heap.size+1,0,none⟩)] 52) i wr)) (fun iv _=>rn - (intOf iv).toNat)
 case atStart=>exact ⟨0,rfl,yz _,an⟩
 case round=>
  obtain ⟨i,rfl,hi,T⟩:=hrel
  by_cases ag:i < rn
  ·have hl:i < x.reaches.length:=by rw[<-HN.o,q.o];exact ag
   obtain ⟨g,ha,hg,ty,a2⟩:=ap.o i hl
   rw[q.o] at ha
   simp only at ha
   subst ha
   have hX:=OL D.o.ps hl (by rw[q.o])
   have b:=xq hX
   have s:=D.o.uok _ b
   have a7:g < V.heap.size:=by
    have h1:=(D.o.hN g hg).2
    rcases zO g V.heap.size with h|h
    ·exact h
    ·have h4:g=V.heap.size:=by have:=b3.o;omega
     obtain ⟨c,hc⟩:=ty
     rw[h4,D.o.box] at hc;cases hc
   have P:(x.reaches[i].frm.name).size<=maxLen:=s.len
   generalize x.reaches[i].frm.name=nm at hX b s P
   generalize x.reaches[i].frm.n=un at hX b s
   have HX:=yb hX;have I:=yb b;have a1:=yb s;have F:=yb a7;have K:=yb P
   have aq:(i:Int) < (rn:Int):=by omega
   have b7:Hid (i < (x.reaches.map (·.name)).length):=yb (by rw[yP];exact hl)
   clear hX b s a7 P hg ty a2 hl
   by_cases h0:i=0
   ·subst h0
    obtain ⟨c0,⟨z,c1,A⟩,cf⟩:=T.o.read a1.o F.o
    simp only[Nat.zero_mul,yA] at c0 c1 A
    obtain rfl:=A (by simp)
    have b8:wr.cell? ⟨w.heap.size+1,21,none⟩=some (.slice (some ⟨g,0,none⟩) rn rc):=by
     have h:=a6.o _ _ T.o
     rw[q.o] at h;exact h
    clear cf A
    cases hb:IM (Tb.of x) ⟨g,0*51+1,if (0:Nat)=0 then 0 else 6,(0:Nat),nm,z⟩ with
    |true=>
     have HB:=yb hb
     obtain ⟨ab,am⟩:nm.size=0∧z=0:=by
      have h:=hb
      unfold IM Jj at h
      simpa using h
     have ay:nm=⟨#[]⟩:=Nx ((F2 nm).1 ab)
     clear hb ab
     subst am
     subst ay
     go_wp2_with (first|(go_at_call 50;refine (CA _ _).mono ?_;rintro e w5 ⟨rfl,a0⟩;obtain rfl:=a0.symm))
     exact ⟨⟨1,rfl,by omega,yb (T.o.skip HX.o (by simp) HB.o)⟩,by simp[intOf];omega⟩
    |false=>
     have y:=yb (D.o.bad I.o hb)
     have al:¬ (nm.size=0∧z=0):=by
      have h:=hb
      unfold IM Jj at h
      simpa using h
     have ao:=yb al
     clear hb al
     go_wp2_with (first|(exact absurd ⟨(F2 _).2 (by assumption),(by assumption)⟩ ao.o)|(go_at_call 50;refine (Cs _ _).mono ?_;rintro e w5 ⟨rfl,a0⟩;obtain rfl:=a0.symm))
     all_goals first
      |exact u.o _ _ _ T.o ⟨rfl,rfl⟩ y.o
      |fail
   ·have ad:=yb T.o.drew
    have h6:(if i=0 then (0:Int) else 6)=6:=by rw[yu h0]
    have hS:∀W,RL w.heap.size W5 (Tb.of x) (CL W5 L x) V.heap.size (.cells #[.pointer (some ⟨w.heap.size+1,0,none⟩)] 52) i W->W.cell? ⟨Bf,0,none⟩=some (.func (.func 49) #[] #[])∧W.cell? ⟨w.heap.size+1,21,none⟩=some (.slice (some ⟨g,0,none⟩) rn rc)∧W.cell? ⟨br,0,none⟩=some (.map (some mr)):=fun W h=>⟨S.o _ _ h,by have h:=a6.o _ _ h;rw[q.o] at h;exact h,(Z.o _ _ h).1⟩
    have HS:=yb hS
    have b9:((i:Int)==0)=false:=by simp;omega
    have b5:=yb h6
    have G:=yb ag
    cases hb:IM (Tb.of x) ⟨g,i*51+1,if i=0 then 0 else 6,(i:Int),nm,un⟩ with
    |true=>
     have HB:=yb hb
     rw[h6] at hb
     obtain ⟨j,hp,hv,a8,av⟩:=G7 (to:=6) (by decide) hb
     have d:Hid (∀W,RL w.heap.size W5 (Tb.of x) (CL W5 L x) V.heap.size (.cells #[.pointer (some ⟨w.heap.size+1,0,none⟩)] 52) i W->Calls Try.prog 49 #[.pointer (some ⟨g,i*51+1,none⟩),.map (some mr),.int .i64 i] W fun e w'=>(e=.returned (.tuple #[])∧RL w.heap.size W5 (Tb.of x) (CL W5 L x) V.heap.size (.cells #[.pointer (some ⟨w.heap.size+1,0,none⟩)] 52) (i+1) w')∨(e=.panicked (Ek 170)∧False)):=yb (fun W h=>by
      obtain ⟨c0,⟨z,c1,A⟩,cf⟩:=h.read a1.o F.o
      refine (FY (most:=(i:Int)) c0 c1 cf (Z.o _ _ h).2 K.o hp (a8 rfl)).mono ?_
      rintro e w2 ⟨rfl,rfl⟩
      refine .inl ⟨rfl,?_⟩
      have h:=h.next D.o.uok HX.o F.o (by simp only;rw[h6];decide) HB.o
      simp only[h6] at h
      rw[show GA (Tb.of x) (Et 6) nm=_ from hv] at h
      exact h)
     clear hb hp hv a8 av h6 hS h0
     go_wp2_with fail
     refine T8 (B:=w.heap.size) (Bf:=Bf) (g:=g) (rn:=rn) (rc:=rc) (br:=br) (mr:=mr) (i:=i) (R1:=fun W=>RL w.heap.size W5 (Tb.of x) (CL W5 L x) V.heap.size (.cells #[.pointer (some ⟨w.heap.size+1,0,none⟩)] 52) i W) (R2:=fun W=>RL w.heap.size W5 (Tb.of x) (CL W5 L x) V.heap.size (.cells #[.pointer (some ⟨w.heap.size+1,0,none⟩)] 52) (i+1) W) (R3:=fun _=>False) _ ?_ ?_ ?_ ?_ ?_ ?_ ?_ ?_ ?_ ?_ ?_ ?_
     ·rfl
     ·rfl
     ·rfl
     ·rfl
     ·rfl
     ·rfl
     ·exact G.o
     ·exact ad.o
     ·exact HS.o
     ·exact d.o
     ·exact fun _ _ _ _ h=>h.elim
     ·intro a W ae E C aa
      have ar:=yb aa
      obtain ⟨v105,v106,v107,v108,v109,v110,v111,v112,v113,rfl⟩:∃v105 v106 v107 v108 v109 v110 v111 v112 v113:Value,a={tmps:=#[u0,u1,.pointer (some ⟨w.heap.size+1,0,none⟩),.pointer (some ⟨w.heap.size+2,0,none⟩),.pointer (some ⟨bl,0,none⟩),.pointer (some ⟨bc,0,none⟩),.pointer (some ⟨br,0,none⟩),.pointer (some ⟨bf,0,none⟩),u8,u9,u10,u11,u12,.pointer (some ⟨Bf,0,none⟩),.int .i64 i,u15,u16,u17,u18,u19,u20,u21,u22,u23,u24,u25,u26,u27,u28,u29,u30,u31,u32,u33,u34,u35,u36,u37,u38,u39,u40,u41,u42,u43,u44,u45,u46,u47,u48,u49,u50,u51,u52,u53,u54,u55,u56,u57,u58,u59,u60,u61,u62,u63,u64,u65,u66,u67,u68,u69,u70,u71,u72,u73,u74,u75,u76,u77,u78,u79,u80,u81,u82,u83,u84,u85,u86,u87,.pointer (some ⟨w.heap.size+1,21,none⟩),.slice (some ⟨g,0,none⟩) rn rc,.int .i64 rn,.int .i64 i,.bool true,.int .i64 i,.int .i64 i,.bool false,u96,u97,u98,u99,u100,u101,u102,u103,u104,v105,v106,v107,v108,v109,v110,v111,v112,v113,u114,u115,u116,u117,u118,u119,u120,u121,u122,u123,u124,u125,u126,u127,u128,u129,u130,u131,u132,u133,u134,u135,u136,u137,u138,u139,u140,u141,u142,u143,u144,u145,u146,u147,u148,u149,u150,u151,u152,u153,u154,u155,u156,u157,u158,u159,u160,u161,u162,u163,u164,u165,u166,u167,u168,u169,u170,u171,u172,u173],defers:=[IP w.heap.size]}:=by
       refine ⟨a.tmps.getD 105 undef,a.tmps.getD 106 undef,a.tmps.getD 107 undef,a.tmps.getD 108 undef,a.tmps.getD 109 undef,a.tmps.getD 110 undef,a.tmps.getD 111 undef,a.tmps.getD 112 undef,a.tmps.getD 113 undef,(JE [105,106,107,108,109,110,111,112,113] (ae.trans rfl) E (fun t ht=>C t ?_)).trans (by kernel_rfl)⟩
       simp at ht;omega
      clear ae E C aa
      unfold IP
      go_wp2
      exact ⟨⟨i+1,by push_cast;rfl,by omega,ar⟩,by simp[intOf];omega⟩
    |false=>
     have y:=yb (D.o.bad I.o hb)
     rw[h6] at hb
     have hn:=G8 (to:=6) (by decide) hb
     have d:Hid (∀W,RL w.heap.size W5 (Tb.of x) (CL W5 L x) V.heap.size (.cells #[.pointer (some ⟨w.heap.size+1,0,none⟩)] 52) i W->Calls Try.prog 49 #[.pointer (some ⟨g,i*51+1,none⟩),.map (some mr),.int .i64 i] W fun e w'=>(e=.returned (.tuple #[])∧False)∨(e=.panicked (Ek 170)∧RL w.heap.size W5 (Tb.of x) (CL W5 L x) V.heap.size (.cells #[.pointer (some ⟨w.heap.size+1,0,none⟩)] 52) i w')):=yb (fun W h=>by
      obtain ⟨c0,⟨z,c1,A⟩,cf⟩:=h.read a1.o F.o
      refine (He (most:=(i:Int)) c0 (Z.o _ _ h).2 K.o (fun j hp=>(hn j hp).2)).mono ?_
      rintro e w2 ⟨rfl,rfl⟩
      exact .inr ⟨rfl,h⟩)
     clear hb hn h6 hS h0
     go_wp2_with fail
     refine T8 (B:=w.heap.size) (Bf:=Bf) (g:=g) (rn:=rn) (rc:=rc) (br:=br) (mr:=mr) (i:=i) (R1:=fun W=>RL w.heap.size W5 (Tb.of x) (CL W5 L x) V.heap.size (.cells #[.pointer (some ⟨w.heap.size+1,0,none⟩)] 52) i W) (R2:=fun _=>False) (R3:=fun W=>RL w.heap.size W5 (Tb.of x) (CL W5 L x) V.heap.size (.cells #[.pointer (some ⟨w.heap.size+1,0,none⟩)] 52) i W) _ ?_ ?_ ?_ ?_ ?_ ?_ ?_ ?_ ?_ ?_ ?_ ?_
     ·rfl
     ·rfl
     ·rfl
     ·rfl
     ·rfl
     ·rfl
     ·exact G.o
     ·exact ad.o
     ·exact HS.o
     ·exact d.o
     ·intro a W E C hr
      obtain ⟨tm,df⟩:=a
      obtain rfl:df=[IP w.heap.size]:=E
      exact u.o i tm W hr ⟨(C 2 (by omega)).trans rfl,(C 3 (by omega)).trans rfl⟩ y.o
     ·exact fun _ _ _ _ _ h=>h.elim
  ·obtain rfl:i=rn:=by omega
   have aq:decide ((i:Int) < (i:Int))=false:=by simp
   have aw:Hid (Hs w x W5 L N M bl bc br bf Bf wr.heap.size):=yb (by rw[T.o.1];exact D.o)
   have az:Hid (RJ w.heap.size W5 (Tb.of x) (CL W5 L x) (EK L x).length (fun _=>False) (wr.alloc (.cells #[.pointer (some ⟨w.heap.size+1,0,none⟩)] 52))):=yb (by
    rw[Kq D.o.ps,<-HN.o,q.o]
    exact T.o.2)
   go_wp2
   exact TU HQ.o aw.o az.o _ _ _ _ _ _ _ _ _ _ _ _ _ _ _ _ _ _ _ _ _ _ _ _ _ _ _ _ _ _ _ _ _ _ _ _ _ _ _ _ _ _ _ _ _ _ _ _ _ _ _ _ _ _ _ _ _ _ _ _ _ _ _ _ _ _ _ _ _ _ _ _ _ _ _ _ _ _ _ _ _ _ _ _ _ _ _ _ _ _ _ _ _ _ _ _ _ _ _ _ _ _ _ _ _ _ _ _ _ _ _ _ _ _ _ _ _ _ _ _ _ _ _ _ _ _ _ _ _ _ _ _ _ _ _ _ _ _ _ _ _ _ _ _ _ _ _ _ _ _ _ _ _ _ _ _ _ _ _ _ _ _ _ _ _ _ _
theorem Bb.lt{W:World}{b:Nat}{a:LB}(h:Bb W b a):b < W.heap.size:=by
 obtain ⟨m,h1,_⟩:=h
 exact (yf.1 h1).1
theorem Tk{Q:QT}{w V:World}{x:An}{L:Bh}{cs:LV}{N:NP}{bl bc br bf:Nat}(hQ:Kk Q w x)(d:Gq w x L cs N V)
 (h1:Bb V bl (x.lets.map (·.name)))(h2:Bb V bc (x.crops.map (·.name)))(h3:Bb V br (x.reaches.map (·.name)))(h4:Bb V bf (x.farms.map (·.name)))
 (hf:Bq x=true)(hw:Au x=if CC (Tb.of x) x&&CK (Tb.of x) x then 0 else 170)
 (u0 u8 u9 eh d2 et ch ei c5 bq dl dd ec d7 cx db dn c6 ea ce c9 eb bt d5 ej dq e5 eo d1 cq cc df e7 cd c7 di cp ci d3 cl e8 ck cf bv dp d4 dg cz ep e4 eg co en cm bz bw bu dy dt ef de dv c3 du e6 ee cn c8 ct dh dz d9 cr dm ed cy eq da dx el dc em ca c4 d0 cw e3 dr ek dw bs bp d6 ba C af T b3 ag ay X aq ao U k an l a1 s a0 P ae G r F j z D al p u bd ac bo b9 a2 bb M A H B be bg m I bh bi y bm ar ab R av W aa ah aj bk q ap b5 ax Y t bn aw bj b7 Z i b8 J ad n O S a7:Value):
  Gf 11 Try.prog (CP 17 (Try.f11.body.getD .skip)) Q {tmps:=#[u0,.pointer (some ⟨w.heap.size,0,none⟩),.pointer (some ⟨w.heap.size+1,0,none⟩),.pointer (some ⟨w.heap.size+2,0,none⟩),.pointer (some ⟨bl,0,none⟩),.pointer (some ⟨bc,0,none⟩),.pointer (some ⟨br,0,none⟩),.pointer (some ⟨bf,0,none⟩),u8,u9,eh,d2,et,ch,ei,c5,bq,dl,dd,ec,d7,cx,db,dn,c6,ea,ce,c9,eb,bt,d5,ej,dq,e5,eo,d1,cq,cc,df,e7,cd,c7,di,cp,ci,d3,cl,e8,ck,cf,bv,dp,d4,dg,cz,ep,e4,eg,co,en,cm,bz,bw,bu,dy,dt,ef,de,dv,c3,du,e6,ee,cn,c8,ct,dh,dz,d9,cr,dm,ed,cy,eq,da,dx,el,dc,em,ca,c4,d0,cw,e3,dr,ek,dw,bs,bp,d6,ba,C,af,T,b3,ag,ay,X,aq,ao,U,k,an,l,a1,s,a0,P,ae,G,r,F,j,z,D,al,p,u,bd,ac,bo,b9,a2,bb,M,A,H,B,be,bg,m,I,bh,bi,y,bm,ar,ab,R,av,W,aa,ah,aj,bk,q,ap,b5,ax,Y,t,bn,aw,bj,b7,Z,i,b8,J,ad,n,O,S,a7],defers:=[IP w.heap.size]} V:=by
 have cg:Hid ((Try.prog.info? 35).map (·.size)=some cs.length):=yb (by rw[d.len];kernel_rfl)
 have a8:=yb d.range
 have cb:=yb d.at
 have HQ:=yb hQ;have HP:=yb d
 have d8:=yb h1;have dj:=yb h2;have E:=yb h3;have er:=yb h4;have HF:=yb hf;have HW:=yb hw
 obtain ⟨row,c,hx⟩:=d.amid.x
 have HX:=yb hx;have ak:=yb c;have HZ:=yb d.size
 clear hQ d h1 h2 h3 h4 hf hw c hx
 unfold IP
 refine Ad (A6 ?_)
 go_upto_region 25 with fail
 refine xd ?_
 refine yj rfl 35 _ rfl w.heap.size 0 rfl cs _ a8.o qB rfl cg.o ?_
 refine yF rfl fun K hK=>?_
 go_simp
 refine (OH cb.o (fun _ h=>h) HP.o.slim).mono ?_
 rintro e w2 ⟨L2,a,rfl,au,b,g,ai,a6,b4⟩
 have cj:=yb ((g.block _ (by have:=HZ.o;omega)).trans HX.o)
 have f:=yb au;have am:=yb (yU b);have az:=yb g;have dk:=yb ai;have e9:=yb a6;have cu:=yb b4
 clear au b g ai a6 b4
 refine hK _ _ ?_
 clear hK K
 refine yX rfl 35 _ _ rfl (w.heap.size+1) a.toArray rfl rfl 35 row cj.o (by rw[yB,f.o];kernel_rfl) (by simp[f.o,ak.o]) am.o ?_
 refine xB ?_
 simp only[]
 refine Ad (A6 ?_)
 go_wp2
 have HC:=Th HP.o d8.o dj.o E.o er.o HF.o HW.o f.o az.o dk.o e9.o cu.o
 have cv:(w2.setRow (w.heap.size+1) a.toArray).heap.size=w2.heap.size:=Ft _ _ _
 have v:((w2.setRow (w.heap.size+1) a.toArray).alloc Jb).heap.size=w2.heap.size+1:=by simp[cv]
 have eu:=az.o.size
 have ev:=E.o.lt
 rw[<-v] at HC
 exact Tj (V:=(w2.setRow (w.heap.size+1) a.toArray).alloc Jb) (Bf:=w2.heap.size) HQ.o HC ⟨rfl,RJ.start _ _ _ _⟩ (by omega) (by omega) (by simp) _ _ _ _ _ _ _ _ _ _ _ _ _ _ _ _ _ _ _ _ _ _ _ _ _ _ _ _ _ _ _ _ _ _ _ _ _ _ _ _ _ _ _ _ _ _ _ _ _ _ _ _ _ _ _ _ _ _ _ _ _ _ _ _ _ _ _ _ _ _ _ _ _ _ _ _ _ _ _ _ _ _ _ _ _ _ _ _ _ _ _ _ _ _ _ _ _ _ _ _ _ _ _ _ _ _ _ _ _ _ _ _ _ _ _ _ _ _ _ _ _ _ _ _ _ _ _ _ _ _ _ _ _ _ _ _ _ _ _ _ _ _ _ _ _ _ _ _ _ _ _ _ _ _ _ _ _ _ _ _ _ _ _ _ _ _ _
end Go.Proofs.Ytghepahgkcigpaa
namespace Go.Proofs.Ytghepahgkcigpaa
open Go.RowKit
theorem Bb.up{V W:World}{b:Nat}{a:LB}(h:Bb V b a)(hb:Below V.heap.size V W):Bb W b a:=
 h.same fun c _ hc _=>hb.block c (yf.1 hc).1
theorem TX{Q:QT}{w V:World}{x:An}{L:Bh}{cs:LV}{N:NP}{bl bc br bf:Nat}(hQ:Kk Q w x)(hP:Gq w x L cs N V)
 (h1:Bb V bl (x.lets.map (·.name)))(h2:Bb V bc (x.crops.map (·.name)))(h3:Bb V br (x.reaches.map (·.name)))(h4:Bb V bf (x.farms.map (·.name)))
 (hf:Bq x=true)(hw:Au x=if (Cn x).Nodup∧(x.duties.map (·.name)).Nodup then (if CC (Tb.of x) x&&CK (Tb.of x) x then 0 else 170) else 171)
 (u0 u8 u9 fp ed g2 dr fq df d6 ey ep fi ej e8 en f0 dg fh dn dj fj d8 eh fs f2 fd fx ec e4 dl er ff dm dh ev e3 dt ee dv fg du dp da f1 eg et ea fy fb fo dz fw dw db dc d9 f9 f4 fm eq f6 dd f5 fe fl dx di e6 eu fa el e5 ez fk e9 fz em f8 fu eo fv dk de eb e7 fc f3 ft f7 d7 d5 ei ct b5 ca bk cn cb cm bo ci cg bm ak cf al bu av bt bi c9 b9 ar b8 aj az b7 ce ao ax cv c7 d4 cr bw cu be b3 ba b4 cw cx am bb cy cz ay d2 c5 c6 bh cj bn c4 cc cd d1 ap ch co cl bp aw d3 ck d0 cp bq ai cq bd c8 an bg bj bz:Value):
  Gf 11 Try.prog (CP 12 (Try.f11.body.getD .skip)) Q {tmps:=#[u0,.pointer (some ⟨w.heap.size,0,none⟩),.pointer (some ⟨w.heap.size+1,0,none⟩),.pointer (some ⟨w.heap.size+2,0,none⟩),.pointer (some ⟨bl,0,none⟩),.pointer (some ⟨bc,0,none⟩),.pointer (some ⟨br,0,none⟩),.pointer (some ⟨bf,0,none⟩),u8,u9,fp,ed,g2,dr,fq,df,d6,ey,ep,fi,ej,e8,en,f0,dg,fh,dn,dj,fj,d8,eh,fs,f2,fd,fx,ec,e4,dl,er,ff,dm,dh,ev,e3,dt,ee,dv,fg,du,dp,da,f1,eg,et,ea,fy,fb,fo,dz,fw,dw,db,dc,d9,f9,f4,fm,eq,f6,dd,f5,fe,fl,dx,di,e6,eu,fa,el,e5,ez,fk,e9,fz,em,f8,fu,eo,fv,dk,de,eb,e7,fc,f3,ft,f7,d7,d5,ei,ct,b5,ca,bk,cn,cb,cm,bo,ci,cg,bm,ak,cf,al,bu,av,bt,bi,c9,b9,ar,b8,aj,az,b7,ce,ao,ax,cv,c7,d4,cr,bw,cu,be,b3,ba,b4,cw,cx,am,bb,cy,cz,ay,d2,c5,c6,bh,cj,bn,c4,cc,cd,d1,ap,ch,co,cl,bp,aw,d3,ck,d0,cp,bq,ai,cq,bd,c8,an,bg,bj,bz],defers:=[IP w.heap.size]} V:=by
 have ab:=yb (hP.at.nms fun _ h=>h)
 have S:=yb hP.cells
 have HZ:Hid (w.heap.size < V.heap.size):=yb (by have:=hP.size;omega)
 have HQ:=yb hQ;have HP:=yb hP;have s:=yb hP.slim
 have ek:=yb h1;have ew:=yb h2;have dy:=yb h3;have g0:=yb h4;have HF:=yb hf;have HW:=yb hw
 have I:Hid (∀tm wr,KT w.heap.size tm->Below V.heap.size V wr->¬ ((Cn x).Nodup∧(x.duties.map (·.name)).Nodup)->Q (.panic (Ek 171)) {tmps:=tm,defers:=[IP w.heap.size]} wr):=yb (fun tm wr hv hb hn=>by
  rw[yu hn] at hw
  have:=hQ.fail tm wr hv (hP.up (hb.mono hP.size)).amid (by rw[hw];decide)
  rw[hw] at this;exact this)
 have Z:Hid (Fu V.heap.size V (.slice none 0 0) ([]++(x.rots.map (fun d:B7=>d.name)).take 0)):=yb (Qe _ _)
 have K:=yb (yg V.heap.size V)
 have hc:V.cell? (aV w.heap.size 23)=some (.slice L.rots.a L.rots.n L.rots.c):=hP.cells.rots
 have j:=ab.o.rots
 generalize L.rots=rr at hc j
 obtain ⟨ra,rn,rc⟩:=rr
 have g:=yb j.2.2
 have k:=yb j.1
 have g3:rn<=140737488355328:=by have:=j.1;have:=j.2.1;simp only at*;omega
 simp only at hc g k
 clear hQ hP h1 h2 h3 h4 hf hw j
 unfold IP
 iterate 2
  refine Ad (A6 ?_)
  go_wp2
 clear hc
 go_loopw [8,58] (fun v8 iv wr=>∃i:Nat,i<=rn∧iv=iV i∧Hid (Fu V.heap.size wr v8 ([]++(x.rots.map (fun d:B7=>d.name)).take i))∧Hid (Below V.heap.size V wr)) (fun _ iv _=>rn - (intOf iv).toNat)
 case atStart=>exact ⟨0,yz _,rfl,Z,K⟩
 case round=>
  clear Z K
  obtain ⟨i,hi,rfl,HO,B⟩:=hrel
  by_cases P:i < rn
  ·obtain ⟨b,o,f,ha,hb,l,R,y,F,D⟩:=g.o i (by rw[<-k.o];exact P)
   subst ha
   have HL:=yb l
   have ag:=yb (A2 R (B.o.block b hb))
   have U:=yb (yU y)
   have a1:Hid ((Try.prog.info? 64).map (·.size)=some f.length):=yb (by rw[l];kernel_rfl)
   have M:Hid ((Try.prog.info? 64).map (·.size)=some f.toArray.size):=yb (by rw[yB];exact a1.o)
   have G:i < (x.rots.map (fun d:B7=>d.name)).length:=by rw[<-k.o];exact P
   generalize a0:(x.rots.map (fun d:B7=>d.name))[i]=nm at F D
   have dq:(wr.alloc (.cells f.toArray 64)).cell? (aV wr.heap.size 0)=some (.string nm):=by
    have h:=World.alloc_heap_new wr (.cells f.toArray 64)
    simp only[World.cell?,h]
    simpa using F
   have C:Hid (Below wr.heap.size wr ((wr.alloc (.cells f.toArray 64)).alloc (.cells #[.string nm] 9))):=yb (((yg _ _).alloc (ye _) _).alloc (by simp) _)
   have H:=yb (HO.o.up C.o)
   have ae:=yb (B.o.trans (C.o.mono B.o.size))
   have J:Hid (((wr.alloc (.cells f.toArray 64)).alloc (.cells #[.string nm] 9)).heap[wr.heap.size+1]?=some (.cells #[.string nm] 9 (0,0))):=yb (by
    have h:=World.alloc_heap_new (wr.alloc (.cells f.toArray 64)) (.cells #[.string nm] 9)
    simpa using h)
   have a7:=yb D
   have u:Hid (([]++(x.rots.map (fun d:B7=>d.name)).take i).length+1<=1000000):=yb (by
    have h1:=s.o.rots;have h2:=s.o.rights
    simp only[ym,yM,yP,yI] at G ⊢
    omega)
   have t:Hid (V.heap.size<=((wr.alloc (.cells f.toArray 64)).alloc (.cells #[.string nm] 9)).heap.size):=yb (yr B.o.size C.o.size)
   have q:Hid (([]++(x.rots.map (fun d:B7=>d.name)).take i)++[nm]=[]++(x.rots.map (fun d:B7=>d.name)).take (i+1)):=yb (by
    rw[yl,<-a0,Hx G])
   have O:(i:Int) < (rn:Int):=by omega
   generalize aa:[]++(x.rots.map (fun d:B7=>d.name)).take i=ls at HO H u q
   clear l R y F D G a0 aa hb
   go_wp2_with (first|(refine yj rfl 64 _ rfl b (o+i*23) rfl f _ ag.o qL rfl a1.o ?_)|(refine yX rfl 64 _ _ rfl wr.heap.size f.toArray rfl rfl 64 _ (World.alloc_heap_new _ _) M.o (by simp[HL.o]) U.o ?_;rw[World.setRow_alloc_new])|(at_builtin;refine G4 V.heap.size rfl _ _ rfl u8 ls rfl H.o (wr.heap.size+1) 1 nm rfl J.o a7.o u.o t.o ?_;intro ad c w5 r T;have af:=yb r;have ac:=yb (Nw ae.o t.o H.o T);clear r T))
   exact ⟨⟨i+1,by omega,by push_cast;rfl,yb (by rw[<-q.o];exact af.o),ac⟩,by simp[intOf];omega⟩
  ·obtain rfl:i=rn:=by omega
   have O:decide ((i:Int) < (i:Int))=false:=by simp
   have W:Hid (Fu V.heap.size wr u8 (x.rots.map (fun d:B7=>d.name)++(x.rights.map (fun d:AG=>d.name)).take 0)):=yb (by
    have h:=HO.o
    rw[k.o,yw] at h
    simpa using h)
   clear HO g k
   go_wp2
   have hc:wr.cell? (aV w.heap.size 24)=some (.slice L.rights.a L.rights.n L.rights.c):=(B.o.cell (p:=(aV w.heap.size 24)) HZ.o).trans S.o.rights
   have j:=ab.o.rights
   generalize L.rights=rr at hc j
   obtain ⟨ra,rn,rc⟩:=rr
   have g:=yb j.2.2
   have k:=yb j.1
   have ef:rn<=140737488355328:=by have:=j.1;have:=j.2.1;simp only at*;omega
   simp only at hc g k
   clear j O
   refine Ad (A6 ?_)
   go_wp2
   clear hc
   obtain ⟨wo,rfl⟩:∃z:World,z=wr:=⟨_,rfl⟩
   obtain ⟨vo,rfl⟩:∃z:Value,z=u8:=⟨_,rfl⟩
   have Z:=W
   have K:=B
   clear W B
   go_loopw [8,71] (fun v8 iv wr=>∃i:Nat,i<=rn∧iv=iV i∧Hid (Fu V.heap.size wr v8 ((x.rots.map (fun d:B7=>d.name))++(x.rights.map (fun d:AG=>d.name)).take i))∧Hid (Below V.heap.size V wr)) (fun _ iv _=>rn - (intOf iv).toNat)
   case atStart=>exact ⟨0,yz _,rfl,Z,K⟩
   case round=>
    clear Z K
    obtain ⟨i,hi,rfl,HO,B⟩:=hrel
    by_cases P:i < rn
    ·obtain ⟨b,o,f,ha,hb,l,R,y,F,D⟩:=g.o i (by rw[<-k.o];exact P)
     subst ha
     have HL:=yb l
     have ag:=yb (A2 R (B.o.block b hb))
     have U:=yb (yU y)
     have a1:Hid ((Try.prog.info? 68).map (·.size)=some f.length):=yb (by rw[l];kernel_rfl)
     have M:Hid ((Try.prog.info? 68).map (·.size)=some f.toArray.size):=yb (by rw[yB];exact a1.o)
     have G:i < (x.rights.map (fun d:AG=>d.name)).length:=by rw[<-k.o];exact P
     generalize a0:(x.rights.map (fun d:AG=>d.name))[i]=nm at F D
     have dq:(wr.alloc (.cells f.toArray 68)).cell? (aV wr.heap.size 1)=some (.string nm):=by
      have h:=World.alloc_heap_new wr (.cells f.toArray 68)
      simp only[World.cell?,h]
      simpa using F
     have C:Hid (Below wr.heap.size wr ((wr.alloc (.cells f.toArray 68)).alloc (.cells #[.string nm] 9))):=yb (((yg _ _).alloc (ye _) _).alloc (by simp) _)
     have H:=yb (HO.o.up C.o)
     have ae:=yb (B.o.trans (C.o.mono B.o.size))
     have J:Hid (((wr.alloc (.cells f.toArray 68)).alloc (.cells #[.string nm] 9)).heap[wr.heap.size+1]?=some (.cells #[.string nm] 9 (0,0))):=yb (by
      have h:=World.alloc_heap_new (wr.alloc (.cells f.toArray 68)) (.cells #[.string nm] 9)
      simpa using h)
     have a7:=yb D
     have u:Hid (((x.rots.map (fun d:B7=>d.name))++(x.rights.map (fun d:AG=>d.name)).take i).length+1<=1000000):=yb (by
      have h1:=s.o.rots;have h2:=s.o.rights
      simp only[ym,yM,yP] at G ⊢
      omega)
     have t:Hid (V.heap.size<=((wr.alloc (.cells f.toArray 68)).alloc (.cells #[.string nm] 9)).heap.size):=yb (yr B.o.size C.o.size)
     have q:Hid (((x.rots.map (fun d:B7=>d.name))++(x.rights.map (fun d:AG=>d.name)).take i)++[nm]=(x.rots.map (fun d:B7=>d.name))++(x.rights.map (fun d:AG=>d.name)).take (i+1)):=yb (by
      rw[yl,<-a0,Hx G])
     have O:(i:Int) < (rn:Int):=by omega
     generalize aa:(x.rots.map (fun d:B7=>d.name))++(x.rights.map (fun d:AG=>d.name)).take i=ls at HO H u q
     clear l R y F D G a0 aa hb
     go_wp2_with (first|(refine yj rfl 68 _ rfl b (o+i*37) rfl f _ ag.o qN rfl a1.o ?_)|(refine yX rfl 68 _ _ rfl wr.heap.size f.toArray rfl rfl 68 _ (World.alloc_heap_new _ _) M.o (by simp[HL.o]) U.o ?_;rw[World.setRow_alloc_new])|(at_builtin;refine G4 V.heap.size rfl _ _ rfl u8 ls rfl H.o (wr.heap.size+1) 1 nm rfl J.o a7.o u.o t.o ?_;intro ad c w5 r T;have af:=yb r;have ac:=yb (Nw ae.o t.o H.o T);clear r T))
     exact ⟨⟨i+1,by omega,by push_cast;rfl,yb (by rw[<-q.o];exact af.o),ac⟩,by simp[intOf];omega⟩
    ·obtain rfl:i=rn:=by omega
     have O:decide ((i:Int) < (i:Int))=false:=by simp
     have W:Hid (Fu V.heap.size wr u8 (Cn x)):=yb (by
      have h:=HO.o
      rw[k.o,yw] at h
      exact h)
     clear HO g k
     go_wp2
     have bv:(Cn x).length<=100000:=by
      obtain ⟨_,_,_,_,h1,h2,_⟩:=Ev HF.o
      unfold Cn
      simp only[ym,yP]
      omega
     obtain ⟨⟨sa,sn,sc⟩,a8,c3⟩:=W.o.nm (by omega)
     unfold Av.v at a8
     simp only at a8
     subst a8
     have ah:=yb c3
     have aq:=yb bv
     have au:Hid ((x.duties.map (·.name)).length<=100000):=yb (by rw[yP];exact s.o.duties)
     clear W c3 bv O
     by_cases a2:(Cn x).Nodup
     ·have HR:=yb a2
      clear a2
      refine Ad (A6 ?_)
      go_wp2_with (first|(go_at_call 46;refine (Rr (Ln (h:=⟨sa,sn,sc⟩) ah.o aq.o) HR.o).mono ?_;rintro e w2 ⟨⟨m,rfl⟩,X⟩;have A:=yb (B.o.trans (X.mono B.o.size));clear X))
      have hc:w2.cell? (aV w.heap.size 25)=some (.slice L.duties.a L.duties.n L.duties.c):=(A.o.cell (p:=(aV w.heap.size 25)) HZ.o).trans S.o.duties
      have bs:=yb (ab.o.duties.up A.o)
      by_cases a6:(x.duties.map (·.name)).Nodup
      ·have HD:=yb a6
       clear a6
       refine Ad (A6 ?_)
       go_wp2_with (first|(go_at_call 47;refine (Rr (Kc bs.o au.o) HD.o).mono ?_;rintro e w3 ⟨⟨m3,rfl⟩,Y⟩;have E:=yb (A.o.trans (Y.mono A.o.size));clear Y))
       exact Tk HQ.o (HP.o.up (E.o.mono HP.o.size)) (ek.o.up E.o) (ew.o.up E.o) (dy.o.up E.o) (g0.o.up E.o) HF.o (by rw[HW.o,yx ⟨HR.o,HD.o⟩]) _ _ _ _ _ _ _ _ _ _ _ _ _ _ _ _ _ _ _ _ _ _ _ _ _ _ _ _ _ _ _ _ _ _ _ _ _ _ _ _ _ _ _ _ _ _ _ _ _ _ _ _ _ _ _ _ _ _ _ _ _ _ _ _ _ _ _ _ _ _ _ _ _ _ _ _ _ _ _ _ _ _ _ _ _ _ _ _ _ _ _ _ _ _ _ _ _ _ _ _ _ _ _ _ _ _ _ _ _ _ _ _ _ _ _ _ _ _ _ _ _ _ _ _ _ _ _ _ _ _ _ _ _ _ _ _ _ _ _ _ _ _ _ _ _ _ _ _ _ _ _ _ _ _ _ _ _ _ _ _ _ _ _ _ _ _ _
      ·have HD:=yb a6
       clear a6
       refine Ad (A6 ?_)
       go_wp2_with (first|(go_at_call 47;refine (T6 (Kc bs.o au.o) HD.o).mono ?_;rintro e w3 ⟨rfl,Y⟩;have E:=yb (A.o.trans (Y.mono A.o.size));clear Y))
       exact I.o _ _ ⟨rfl,rfl⟩ E.o (fun h=>HD.o h.2)
     ·have HR:=yb a2
      clear a2
      refine Ad (A6 ?_)
      go_wp2_with (first|(go_at_call 46;refine (T6 (Ln (h:=⟨sa,sn,sc⟩) ah.o aq.o) HR.o).mono ?_;rintro e w2 ⟨rfl,X⟩;have A:=yb (B.o.trans (X.mono B.o.size));clear X))
      exact I.o _ _ ⟨rfl,rfl⟩ A.o (fun h=>HR.o h.1)
 end Go.Proofs.Ytghepahgkcigpaa
