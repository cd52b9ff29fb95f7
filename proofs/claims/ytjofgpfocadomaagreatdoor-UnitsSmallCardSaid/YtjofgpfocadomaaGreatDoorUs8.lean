/- Parts of the proof, in short words: Ra Rb Rc Rd Re Rf Rg Rh Ri Rs Rj Rk Rl Rm Rn Ro -/
import Derived.Test.YtjofgpfocadomaaGreatDoorUs0
import Derived.Test.YtjofgpfocadomaaGreatDoorUs6
import Derived.Test.YtjofgpfocadomaaGreatDoorUs7
import Derived.Test.YtjofgpfocadomaaGreatDoorUs5
import Derived.BigFrameIn
set_option maxRecDepth 100000
set_option maxHeartbeats 16000000
set_option linter.unusedSimpArgs false
namespace Go.Proofs.YtjofgpfocadomaaGreatDoor
open Go.RowKit
structure Tb where
 lets:List ByteArray
 crops:List ByteArray
 reaches:List ByteArray
 farms:List ByteArray
def Tb.of(x:Ax):Tb:=⟨x.lets.map (·.name),x.crops.map (·.name),x.reaches.map (·.name),x.farms.map (·.name)⟩
def Tb.tab(t:Tb)(c:Int):LB:=if c=3 then t.crops else if c=4 then t.reaches else if c=6 then t.reaches else if c=5 then t.farms else t.lets
def Ey(to:Int):Int:=if to=2 then 1 else to
def early(to:Int):Bool:=decide (to=2)||decide (to=6)
def JF(t:Tb)(to at_:Int)(r:Rf):Bool:=
 if to=0 then decide (r.name.size=0∧r.n=0) else match CP (t.tab (Ey to)) r.name with
  |some i=>!early to||decide ((i:Int) < at_)
  |none=>false
def Gz(t:Tb)(c:Int)(s:ByteArray):Int:=match CP (t.tab c) s with
 |some i=>(i:Int)
 |none=>0
def gT(t:Tb)(to:Int)(r:Rf):Rf:=if to=0 then r else {r with n:=Gz t (Ey to) r.name}
mutual
def Kw(t:Tb):Ex->Ex
 |.mk op n u rn ri args=>.mk op n u rn (if op=2 then Gz t 1 rn else ri) (J0 t args)
def J0(t:Tb):List Ex->List Ex
 |[]=> []
 |e::r=>Kw t e::J0 t r
end
theorem MH(t:Tb):∀l:List Ex,J0 t l=l.map (Kw t)
 |[]=>rfl
 |e::r=>by rw[J0,MH t r];rfl
def fT(t:Tb)(_:Int)(e:Ex):Ex:=if BJ e then e else Kw t e
mutual
def TN(t:Tb)(lt:Int):Ex->Bool
 |.mk op _ _ rn ri args=>Nc op args.length&&(JF t (Lq op lt) (OX op lt) ⟨rn,ri⟩&&SM t lt args)
def SM(t:Tb)(lt:Int):List Ex->Bool
 |[]=>true
 |e::r=>TN t lt e&&SM t lt r
end
def Kx(t:Tb)(e:Lp):Bool:=BJ e.1||TN t e.2 e.1
def MI(t:Tb)(d:CV):Bool:=JF t 4 0 d.on&&JF t (if d.river then 0 else 3) 0 d.crop
def Qo(t:Tb)(d:BA):Bool:=JF t 4 0 d.on&&d.turns.all fun k=>JF t 5 0 k.farm
def JW(t:Tb)(d:B6):Bool:=JF t 5 0 d.farm&&JF t (if d.kind=1 then 0 else 4) 0 d.reach
def MJ(t:Tb)(d:D6):Bool:=JF t 5 0 d.farm&&JF t 4 0 d.reach
def Cy(t:Tb)(x:Ax):Bool:=(Ay x).all (Kx t)&&(BZ x&&(x.farms.all (MI t)&&(x.rots.all (Qo t)&&(x.rights.all (JW t)&&x.duties.all (MJ t)))))
def MK(t:Tb)(p:AD × Nat):Bool:=JF t (if p.2=0 then 0 else 6) p.2 p.1.frm
def Df(t:Tb)(x:Ax):Bool:=x.reaches.zipIdx.all (MK t)
def Bz(x:Ax):Bool:=Kh x&&(FM x.rots&&EI x)
def D9(x:Ax):LB:=x.rots.map (·.name)++x.rights.map (·.name)
def CY(x:Ax):Bool:=Ar x.name&&((x.lets.map (·.name)).all Ar&&((x.crops.map (·.name)).all Ar&&((x.reaches.map (·.name)).all Ar&&((x.farms.map (·.name)).all Ar&&((x.rots.map (·.name)).all Ar&&((x.rights.map (·.name)).all Ar&&(x.duties.map (·.name)).all Ar))))))
def GQ(x:Ax):Prop:=(x.lets.map (·.name)).Nodup∧(x.crops.map (·.name)).Nodup∧(x.reaches.map (·.name)).Nodup∧(x.farms.map (·.name)).Nodup∧(D9 x).Nodup∧(x.duties.map (·.name)).Nodup
instance (x:Ax):Decidable (GQ x):=by unfold GQ;infer_instance
def Aj(x:Ax):Ax:=x.mp (fT (Tb.of x)) (gT (Tb.of x))
def AF(x:Ax):Int:=
 if Bz x then (if CY x then (if GQ x then (if Df (Tb.of x) x&&Cy (Tb.of x) x then 0 else 170) else 171) else 170) else 2
def J1(t:Tb)(u:Us):Bool:=JF t u.to u.at_ ⟨u.name,u.n⟩
def Iv(t:Tb)(p:List Us × Bool):Prop:=p.2=true∧∀u∈p.1,J1 t u=true
theorem NL(t:Tb):∀l:List (List Us × Bool),Iv t (Bw l)↔∀p∈l,Iv t p
 |[]=>by simp[Iv,Bw]
 |x::r=>by
  have ih:=NL t r
  simp only[xg,<-ih]
  have e:Bw (x::r)=if x.2 then (x.1++(Bw r).1,(Bw r).2) else (x.1,false):=rfl
  rw[e]
  unfold Iv
  by_cases h:x.2=true
  ·simp only[h,xm,yy,qk]
   constructor
   ·rintro ⟨h1,h2⟩;exact ⟨fun u a=>h2 u (.inl a),h1,fun u a=>h2 u (.inr a)⟩
   ·rintro ⟨h1,h2,h3⟩;exact ⟨h2,fun u a=>a.elim (h1 u) (h3 u)⟩
  ·simp[h]
mutual
theorem Ma(t:Tb){w:World}{C:Addr->Prop}(lt:Int):∀(e:Ex) (b o:Nat),R5 w C e b o->(Iv t (BX w lt e b o)↔TN t lt e=true)
 |.mk op n u rn ri args,b,o,h=>by
  rw[R5] at h
  obtain ⟨a,cap,h1,h2,h3,g⟩:=h
  rw[BX,TN]
  by_cases hs:Nc op args.length=true
  ·rw[yD hs,hs,h2.1]
   have ih:=Mb t lt args a args.length cap 0 g
   unfold Iv at ih ⊢
   simp only[xg,Bool.true_and,yF,<-ih,J1]
   constructor
   ·rintro ⟨c,d,f⟩;exact ⟨d,c,f⟩
   ·rintro ⟨d,c,f⟩;exact ⟨c,d,f⟩
  ·rw[yq hs]
   simp[Iv,hs]
theorem Mb(t:Tb){w:World}{C:Addr->Prop}(lt:Int):∀(l:List Ex) (a:Option Addr) (n cap i:Nat),JD w C a i l->(Iv t (Bp w lt l (some (.slice a n cap)) i)↔SM t lt l=true)
 |[],a,n,cap,i,h=>by simp[Bp,SM,Iv]
 |e::r,a,n,cap,i,h=>by
  rw[JD] at h
  obtain ⟨⟨b,o,rfl,h1⟩,h2⟩:=h
  have m:=Ma t lt e b (o+i*6) h1
  have j:=Mb t lt r (some ⟨b,o,none⟩) n cap (i+1) h2
  rw[Bp,SM,yF,<-m,<-j]
  unfold Iv
  by_cases g:(BX w lt e b (o+i*6)).2=true
  ·simp only[g,xm,qk,yy]
   constructor
   ·rintro ⟨f,d⟩;exact ⟨fun u c=>d u (.inl c),f,fun u c=>d u (.inr c)⟩
   ·rintro ⟨f,d,k⟩;exact ⟨d,fun u c=>c.elim (f u) (k u)⟩
  ·simp[g]
end
theorem NM{α β γ:Type}{R:α->β->Prop}{f:α->β->γ}{p:γ->Prop}{q:β->Prop}(h:∀a b,R a b->(p (f a b)↔q b)):∀ {l:List α} {m:List β},Az R l m->((∀c∈List.zipWith f l m,p c)↔∀b∈m,q b)
 |[],[],_=>by simp
 |a::l,b::m,hA=>by
  rw[Az] at hA
  simp only[xV,xg,h a b hA.1,NM h hA.2]
 |[],b::m,hA=>by simp[Az] at hA
 |a::l,[],hA=>by simp[Az] at hA
theorem SN{N:NP}{w:World}{C D:Addr->Prop}(t:Tb)(a:Array Value)(e:Lp)(h:Vi N w C D a e):Iv t (Ck w a e)↔Kx t e=true:=by
 obtain ⟨b,o,cs,rfl,_,_,hr,_⟩:=h
 unfold Ck Kx
 by_cases c:BJ e.1=true
 ·simp[c,Iv]
 ·rw[yq c,Bool.or_eq_true,or_iff_right c]
  exact Ma t e.2 e.1 b o hr
theorem Rl{f:Nat->List Us}{n:Nat}{p:Us->Prop}:(∀u∈(List.range n).flatMap f,p u)↔∀i,i < n->∀u∈f i,p u:=by
 constructor
 ·intro h i hi u a;exact h u (yW.2 ⟨i,ze.2 hi,a⟩)
 ·intro h u a
  obtain ⟨i,hi,a⟩:=yW.1 a
  exact h i (ze.1 hi) u a
theorem FW{α:Type}{l:List α}{n:Nat}(a:n=l.length){f:Nat->List Us}{p:Us->Prop}{q:α->Bool}(h:∀i (hi:i < l.length),(∀u∈f i,p u)↔q l[i]=true):(∀u∈(List.range n).flatMap f,p u)↔l.all q=true:=by
 rw[Rl,yU]
 constructor
 ·intro k d hd
  obtain ⟨i,hi,rfl⟩:=zg.1 hd
  exact (h i hi).1 (k i (by omega))
 ·intro k i hi
  exact (h i (by omega)).2 (k _ (yJ (by omega)))
theorem FX{N:NP}{w:World}{C D:Addr->Prop}{Bu:Nat}{L:Bq}{x:Ax}(t:Tb)(h:Kf N w C D Bu L x):Iv t (BQ w L x)↔Cy t x=true:=by
 unfold BQ Ed Cy
 rw[NL]
 simp only[yy,zk,or_imp,forall_and,forall_eq,yF]
 refine and_congr ?_ ?_
 ·rw[yU]
  exact NM (SN t) h.top
 ·unfold Iv
  simp only
  refine and_congr_right fun a=>?_
  rw[yD a]
  unfold Cb
  simp only[yy,or_imp,forall_and]
  rw[FW h.nfarms (q:=MI t) fun i hi=>?_,FW h.nrots (q:=Qo t) fun i hi=>?_,FW h.nrights (q:=JW t) fun i hi=>?_,FW h.nduties (q:=MJ t) fun i hi=>?_]
  ·simp only[and_assoc]
  ·unfold DQ;rw[yk hi];simp[MJ,J1,CO]
  ·unfold CG;rw[yk hi];simp[JW,J1,CO]
  ·unfold Gf;rw[yk hi]
   simp only[xg,Qo,yF,J1,CO]
   refine and_congr Iff.rfl ?_
   refine FW (h.nturns i hi) fun k a=>?_
   unfold EL;rw[yk a];simp[CO]
  ·unfold E8;rw[yk hi];simp[MI,J1,CO]
def NO(W:World)(b:Nat):Nat:=match W.heap[b]? with
 |some (.cells _ t _)=>t
 |_=>0
theorem DU{W:World}{b t:Nat}(h:Ty W b t):NO W b=t:=by
 obtain ⟨c,e⟩:=h
 unfold NO;rw[e]
def EO(W:World)(b o:Nat):Int:=
 if Fp (NO W b) (o+1)=1 then (match W.cell? ⟨b,o - 3,none⟩ with
  |some (.int _ z)=>if z=2 then 1 else 0
  |_=>0)
 else if NO W b=66 then (if o < 51 then 0 else 6)
 else if NO W b=94 then (if o % 12=1 then 4 else match W.cell? ⟨b,o - 7,none⟩ with
  |some (.bool r)=>if r then 0 else 3
  |_=>3)
 else if NO W b=109 then 4
 else if NO W b=158 then 5
 else if NO W b=131 then (if o % 37=2 then 5 else match W.cell? ⟨b,o - 4,none⟩ with
  |some (.int _ z)=>if z=1 then 0 else 4
  |_=>4)
 else (if o % 11=1 then 5 else 4)
def Vm(t q:Nat):Prop:=Fp t q=2∨(Fp t q=1∧FR t q=4)
def Ie(B:Nat)(W:World)(b q:Nat):Prop:=B<=b∧∃o t,q=o+1∧Ty W b t∧Vm t (o+1)∧EO W b o≠0
structure Nf (B:Nat) (W:World) (u:Us):Prop where
 base:B<=u.b
 t:∃t,Ty W u.b t∧Vm t (u.o+1)∧¬ Vm t u.o
 name:W.cell? ⟨u.b,u.o,none⟩=some (.string u.name)
 len:u.name.size<=maxLen
 n:W.cell? ⟨u.b,u.o+1,none⟩=some (.int .i64 u.n)
 cat:EO W u.b u.o=Ey u.to
 to:u.to=0∨u.to=1∨u.to=2∨u.to=3∨u.to=4∨u.to=5∨u.to=6
theorem Mc{u:Us}:Ey u.to=0↔u.to=0:=by
 unfold Ey;split<;>omega
structure RJ (B:Nat) (W4:World) (t:Tb) (X:List Us) (k:Nat) (O:Nat->Prop) (W:World):Prop where
 os:W.os=W4.os
 tape:W.tape=W4.tape
 output:W.output=W4.output
 size:W4.heap.size<=W.heap.size
 own:∀b,O b->W4.heap.size<=b
 ty:∀(b:Nat) (c:Array Value) (t:TypeId),W4.heap[b]?=some (.cells c t (0,0))->∃c':Array Value,c'.size=c.size∧W.heap[b]?=some (.cells c' t (0,0))
 same:∀b:Nat,b < W4.heap.size->(∀q,¬ Ie B W4 b q)->W.heap[b]?=W4.heap[b]?
 cells:∀b q,b < W4.heap.size->¬ Ie B W4 b q->W.cell? ⟨b,q,none⟩=W4.cell? ⟨b,q,none⟩
 nums:∀b q,Ie B W4 b q->(∃z,W4.cell? ⟨b,q,none⟩=some (.int .i64 z))->∃z,W.cell? ⟨b,q,none⟩=some (.int .i64 z)
 done:∀j (h:j < X.length),j < k->J1 t X[j]=true∧(X[j].to≠0->X[j].b < W4.heap.size∧W.cell? ⟨X[j].b,X[j].o+1,none⟩=some (.int .i64 (Gz t (Ey X[j].to) X[j].name)))
section
variable{B:Nat}{W4 W w':World}{t:Tb}{X:List Us}{k:Nat}{O:NP}
theorem RJ.start(B:Nat)(W4:World)(t:Tb)(X:List Us):RJ B W4 t X 0 (fun _=>False) W4:=
 ⟨rfl,rfl,rfl,yf _,fun _ h=>h.elim,fun _ c _ h=>⟨c,rfl,h⟩,fun _ _ _=>rfl,fun _ _ _ _=>rfl,fun _ _ _ h=>h,fun _ _ h=>by omega⟩
theorem RJ.tyT(h:RJ B W4 t X k O W){b ty:Nat}(hb:Ty W4 b ty):Ty W b ty:=by
 obtain ⟨c,e⟩:=hb
 obtain ⟨d,_,a⟩:=h.ty b c ty e
 exact ⟨d,a⟩
theorem RJ.move{i:NP}(h:RJ B W4 t X k O W)(m:W.heap.size<=w'.heap.size)(p:w'.os=W.os)(n:w'.tape=W.tape)(s:w'.output=W.output)(d:∀b,b < W4.heap.size->w'.heap[b]?=W.heap[b]?)(l:∀b,i b->W4.heap.size<=b):RJ B W4 t X k i w':=by
 refine ⟨p.trans h.os,n.trans h.tape,s.trans h.output,yt h.size m,l,fun b c ty hb=>?_,fun b hb a=>(d b hb).trans (h.same b hb a),fun b q hb a=>(Ab (d b hb)).trans (h.cells b q hb a),fun b q a hi=>?_,fun j r g=>?_⟩
 ·obtain ⟨v,u,o⟩:=h.ty b c ty hb
  exact ⟨v,u,(d b (yd.1 hb).1).trans o⟩
 ·obtain ⟨z,e⟩:=h.nums b q a hi
  obtain ⟨_,_,ty,_,h1,_⟩:=a
  exact ⟨z,(Ab (d b h1.lt)).trans e⟩
 ·obtain ⟨h1,h2⟩:=h.done j r g
  refine ⟨h1,fun h3=>?_⟩
  have f:=h2 h3
  exact ⟨f.1,(Ab (d _ f.1)).trans f.2⟩
theorem RJ.stays:Ca (RJ B W4 t X):=by
 intro k O W j W' h d f e g i c
 refine h.move d f e g (fun b hb=>i b (fun a=>by have:=h.own b a;omega) (yu hb h.size)) (fun b hb=>?_)
 rcases c b hb with h1|h1
 ·exact h.own b h1
 ·have:=h.size;omega
theorem RJ.below{a:Nat}(h:RJ B W4 t X k O W)(hb:Below a W w')(d:W4.heap.size<=a):RJ B W4 t X k O w':=
 h.move hb.size hb.os hb.tape hb.output (fun b c=>hb.block b (by omega)) h.own
theorem Nf.notName{u:Us}(h:Nf B W4 u):¬ Ie B W4 u.b u.o:=by
 rintro ⟨_,o,ty,e,h1,h2,_⟩
 obtain ⟨c,a,f,d⟩:=h.t
 obtain rfl:=h1.inj a
 rw[<-e] at h2
 exact d h2
theorem Nf.lt{u:Us}(h:Nf B W4 u):u.b < W4.heap.size:=by
 obtain ⟨c,a,d,e⟩:=h.t
 exact a.lt
theorem Nf.num{u:Us}(h:Nf B W4 u)(h0:u.to≠0):Ie B W4 u.b (u.o+1):=by
 obtain ⟨a,d,c,f⟩:=h.t
 exact ⟨h.base,u.o,a,rfl,d,c,by rw[h.cat];exact fun e=>h0 (Mc.1 e)⟩
theorem Nf.notNum{u:Us}(h:Nf B W4 u)(h0:u.to=0):¬ Ie B W4 u.b (u.o+1):=by
 rintro ⟨_,o,ty,e,h1,h2,h3⟩
 obtain rfl:o=u.o:=by omega
 rw[h.cat] at h3
 exact h3 (Mc.2 h0)
theorem RJ.read{u:Us}(h:RJ B W4 t X k O W)(a:Nf B W4 u):W.cell? ⟨u.b,u.o,none⟩=some (.string u.name)∧(∃z,W.cell? ⟨u.b,u.o+1,none⟩=some (.int .i64 z)∧(u.to=0->z=u.n))∧W.frozen? ⟨u.b,u.o+1,none⟩=false:=by
 refine ⟨(h.cells _ _ a.lt a.notName).trans a.name,?_,?_⟩
 ·by_cases h0:u.to=0
  ·exact ⟨u.n,(h.cells _ _ a.lt (a.notNum h0)).trans a.n,fun _=>rfl⟩
  ·obtain ⟨z,d⟩:=h.nums _ _ (a.num h0) ⟨_,a.n⟩
   exact ⟨z,d,fun e=>absurd e h0⟩
 ·obtain ⟨f,c,g,i⟩:=a.t
  exact (h.tyT c).frozen
theorem RJ.skip{u:Us}(h:RJ B W4 t X k O W)(d:X[k]?=some u)(h0:u.to=0)(a:J1 t u=true):RJ B W4 t X (k+1) O W:=by
 obtain ⟨f,rfl⟩:=yx.1 d
 refine ⟨h.os,h.tape,h.output,h.size,h.own,h.ty,h.same,h.cells,h.nums,fun j b c=>?_⟩
 by_cases e:j=k
 ·subst e;exact ⟨a,fun h=>absurd h0 h⟩
 ·exact h.done j b (by omega)
theorem RJ.next{u:Us}(h:RJ B W4 t X k O W)(w:∀u∈X,Nf B W4 u)(I:X[k]?=some u)(h0:u.to≠0)(p:J1 t u=true):RJ B W4 t X (k+1) O (W.setCell ⟨u.b,u.o+1,none⟩ (.int .i64 (Gz t (Ey u.to) u.name))):=by
 obtain ⟨D,rfl⟩:=yx.1 I
 have l:=w _ (yJ D)
 obtain ⟨_,⟨z,C,_⟩,_⟩:=h.read l
 obtain ⟨n,J,K,r⟩:=Ac (iV (Gz t (Ey X[k].to) X[k].name)) C
 have y:=l.num h0
 have a:∀b q,(b≠X[k].b∨q≠X[k].o+1)->(W.setCell ⟨X[k].b,X[k].o+1,none⟩ (iV (Gz t (Ey X[k].to) X[k].name))).cell? (aV b q)=W.cell? (aV b q):=fun b q f=>
  World.cell?_setCell_other _ _ _ _ (fun e=>by cases e;simp at f)
 refine ⟨n.os.trans h.os,n.tape.trans h.tape,n.output.trans h.output,yt h.size n.size,h.own,fun b c ty hb=>?_,fun b hb f=>?_,fun b q hb f=>?_,fun b q f hi=>?_,fun j x E=>?_⟩
 ·obtain ⟨A,i,d⟩:=h.ty b c ty hb
  by_cases m:b=X[k].b
  ·subst m
   exact ⟨_,by rw[Array.size_setIfInBounds];exact i,zm W _ _ A ty _ d⟩
  ·exact ⟨A,i,(zh W _ b _ m).trans d⟩
 ·have m:b≠X[k].b:=fun e=>f _ (e▸y)
  exact (zh W _ b _ m).trans (h.same b hb f)
 ·rw[a b q (by by_cases e:b=X[k].b;exact .inr (fun d=>f (by rw[e,d];exact y));exact .inl e)]
  exact h.cells b q hb f
 ·by_cases e:b=X[k].b∧q=X[k].o+1
  ·obtain ⟨rfl,rfl⟩:=e
   exact ⟨_,r⟩
  ·rw[a b q (by by_cases d:b=X[k].b;exact .inr (fun v=>e ⟨d,v⟩);exact .inl d)]
   exact h.nums b q f hi
 ·by_cases e:j=k
  ·subst e;exact ⟨p,fun _=>⟨l.lt,r⟩⟩
  ·obtain ⟨H,G⟩:=h.done j x (by omega)
   refine ⟨H,fun h3=>?_⟩
   have g:=w _ (yJ x)
   by_cases e:X[j].b=X[k].b∧X[j].o+1=X[k].o+1
   ·obtain ⟨i,d⟩:=e
    have d:X[j].o=X[k].o:=by omega
    have F:Ey X[j].to=Ey X[k].to:=by rw[<-g.cat,<-l.cat,i,d]
    have s:X[j].name=X[k].name:=by
     have h1:=g.name
     rw[i,d,l.name] at h1
     exact (Value.string.inj (yi h1)).symm
    refine ⟨g.lt,?_⟩
    rw[i,d,F,s];exact r
   ·rw[a _ _ (by by_cases d:X[j].b=X[k].b;exact .inr (fun v=>e ⟨d,v⟩);exact .inl d)]
    exact G h3
end
section
variable{W:World}{g:Nat}
theorem Pv(h:Ty W g 66)(i:Nat):EO W g (i*51+1)=if i=0 then 0 else 6:=by
 have e:Fp 66 (i*51+1+1)=2:=by rw[zN,(CW BS i (1+1)).1];rfl
 unfold EO
 rw[DU h,e,yq (by decide),yD rfl]
 by_cases hi:i=0
 ·subst hi;rfl
 ·rw[yq hi,yq (by omega)]
theorem TZ(h:Ty W g 94)(i:Nat):EO W g (i*12+1)=4:=by
 have e:Fp 94 (i*12+1+1)=2:=by rw[zN,(CW F1 i (1+1)).1];rfl
 unfold EO
 rw[DU h,e,yq (by decide),yq (by decide),yD rfl,yD (by omega)]
theorem Rm(h:Ty W g 94)(i:Nat){r:Bool}(hr:W.cell? ⟨g,i*12+3,none⟩=some (.bool r)):EO W g (i*12+10)=if r then 0 else 3:=by
 have e:Fp 94 (i*12+10+1)=2:=by rw[zN,(CW F1 i (10+1)).1];rfl
 unfold EO
 rw[DU h,e,yq (by decide),yq (by decide),yD rfl,yq (by omega),show i*12+10 - 7=i*12+3 by omega,hr]
theorem SO(h:Ty W g 109)(i:Nat):EO W g (i*23+1)=4:=by
 have e:Fp 109 (i*23+1+1)=2:=by rw[zN,(CW Fq i (1+1)).1];rfl
 unfold EO
 rw[DU h,e,yq (by decide),yq (by decide),yq (by decide),yD rfl]
theorem Rn(h:Ty W g 158)(i:Nat):EO W g (i*8)=5:=by
 have e:Fp 158 (i*8+1)=2:=by rw[(CW Kr i 1).1];rfl
 unfold EO
 rw[DU h,e,yq (by decide),yq (by decide),yq (by decide),yq (by decide),yD rfl]
theorem U0(h:Ty W g 131)(i:Nat):EO W g (i*37+2)=5:=by
 have e:Fp 131 (i*37+2+1)=2:=by rw[zN,(CW BT i (2+1)).1];rfl
 unfold EO
 rw[DU h,e,yq (by decide),yq (by decide),yq (by decide),yq (by decide),yq (by decide),yD rfl,yD (by omega)]
theorem U1(h:Ty W g 131)(i:Nat){k:IntKind}{z:Int}(hr:W.cell? ⟨g,i*37,none⟩=some (.int k z)):EO W g (i*37+4)=if z=1 then 0 else 4:=by
 have e:Fp 131 (i*37+4+1)=2:=by rw[zN,(CW BT i (4+1)).1];rfl
 unfold EO
 rw[DU h,e,yq (by decide),yq (by decide),yq (by decide),yq (by decide),yq (by decide),yD rfl,yq (by omega),show i*37+4 - 4=i*37 by omega,hr]
theorem U2(h:Ty W g 135)(i:Nat):EO W g (i*11+1)=5:=by
 have e:Fp 135 (i*11+1+1)=2:=by rw[zN,(CW Gi i (1+1)).1];rfl
 unfold EO
 rw[DU h,e,yq (by decide),yq (by decide),yq (by decide),yq (by decide),yq (by decide),yq (by decide),yD (by omega)]
theorem U3(h:Ty W g 135)(i:Nat):EO W g (i*11+3)=4:=by
 have e:Fp 135 (i*11+3+1)=2:=by rw[zN,(CW Gi i (3+1)).1];rfl
 unfold EO
 rw[DU h,e,yq (by decide),yq (by decide),yq (by decide),yq (by decide),yq (by decide),yq (by decide),yq (by omega)]
theorem Qp{o:Nat}(h:Gh W g o){k:IntKind}{op:Int}(hr:W.cell? ⟨g,o,none⟩=some (.int k op)):EO W g (o+3)=if op=2 then 1 else 0:=by
 obtain ⟨t,ty,a⟩:=h
 have e:Fp t (o+3+1)=1:=(a 4 (by omega)).1
 unfold EO
 rw[DU ty,e,yD rfl,show o+3 - 3=o by omega,hr]
theorem Ky(h:Ty W g 26)(i:Nat):Gh W g (i*6):=
 ⟨_,h,fun j a=>⟨by simp[Fp],by simp only[FR];simp;omega⟩⟩
end
section
variable{B:Nat}{W:World}{M:NP}
theorem EP{to at_:Int}{r:Rf}{b o:Nat}(a:B<=b)(hr:RV W to r b o)(c:Pe W b o)(e:EO W b o=Ey to)(d:to=0∨to=1∨to=2∨to=3∨to=4∨to=5∨to=6):Nf B W ⟨b,o,to,at_,r.name,r.n⟩:=by
 obtain ⟨t,ty,h1,h2⟩:=c
 refine ⟨a,⟨t,ty,.inl h2,?_⟩,hr.2.1,hr.1,hr.2.2,e,d⟩
 rintro (h|h)
 ·rw[h1] at h;cases h
 ·rw[h1] at h;cases h.1
mutual
theorem NQ(hM:∀g,M g->B<=g)(lt:Int):∀(e:Ex) (b o:Nat) (cs:LV),B<=b->Hs W M e cs->W.rangeAt b o cs->Gh W b o->∀u∈(BX W lt e b o).1,Nf B W u
 |.mk op n u rn ri args,b,o,cs,hb,hv,hr,hp=>by
  rw[Hs] at hv
  obtain ⟨a,cap,rfl,h2,h3,l⟩:=hv
  obtain ⟨r,r1,r2,p,j,k⟩:=Bn hr
  intro v c
  rw[BX] at c
  by_cases hs:Nc op args.length=true
  ·rw[yD hs,k] at c
   simp only[yN] at c
   rcases c with rfl|c
   ·have q:=Qp hp r
    obtain ⟨t,ty,i⟩:=hp
    have f:=i 3 (by omega);have m:=i 4 (by omega)
    refine ⟨hb,⟨t,ty,.inr m,?_⟩,p,h3,j,?_,?_⟩
    ·rintro (h|h)
     ·simp only at h;rw[f.1] at h;cases h
     ·simp only at h;rw[f.2] at h;exact absurd h.2 (by decide)
    ·simp only;rw[q];unfold Lq Ey
     by_cases d:op=2
     ·simp only[d,xm];split<;>simp
     ·simp[d]
    ·simp only;unfold Lq
     by_cases d:op=2
     ·simp only[d,xm];split<;>simp
     ·simp[d]
   ·exact NR hM lt args a args.length cap 0 l v c
  ·rw[yq hs] at c;cases c
theorem NR(hM:∀g,M g->B<=g)(lt:Int):∀(l:List Ex) (a:Option Addr) (n cap i:Nat),DA W M a i l->∀u∈(Bp W lt l (some (.slice a n cap)) i).1,Nf B W u
 |[],a,n,cap,i,h=>by intro v b;rw[Bp] at b;cases b
 |e::r,a,n,cap,i,h=>by
  rw[DA] at h
  obtain ⟨⟨g,cs,rfl,h1,h2,h3,j⟩,f⟩:=h
  have c:=NQ hM lt e g (0+i*6) cs (hM g h1) j (by rw[yw];exact h3) (by rw[yw];exact Ky h2 i)
  have d:=NR hM lt r (some ⟨g,0,none⟩) n cap (i+1) f
  intro v b
  rw[Bp] at b
  split at b
  ·rcases yy.1 b with b|b
   ·exact c v b
   ·exact d v b
  ·exact c v b
end
theorem Iw{u:Us}:∀ {l:List (List Us × Bool)},u∈(Bw l).1->∃p∈l,u∈p.1
 |[],h=>by simp[Bw] at h
 |x::r,h=>by
  have e:Bw (x::r)=if x.2 then (x.1++(Bw r).1,(Bw r).2) else (x.1,false):=rfl
  rw[e] at h
  split at h
  ·rcases yy.1 h with h|h
   ·exact ⟨x,by simp,h⟩
   ·obtain ⟨p,h1,h2⟩:=Iw h
    exact ⟨p,by simp[h1],h2⟩
  ·exact ⟨x,by simp,h⟩
theorem Qq{α β:Type}{R:α->β->Prop}{f:α->β->List Us × Bool}{P:Us->Prop}(h:∀a b,R a b->∀u∈(f a b).1,P u):∀ {l:List α} {m:List β},Az R l m->∀p∈List.zipWith f l m,∀u∈p.1,P u
 |[],_,_=>by simp
 |_::_,[],_=>by simp
 |a::l,b::m,hA=>by
  rw[Az] at hA
  simp only[xV,xg]
  exact ⟨h a b hA.1,Qq h hA.2⟩
def If(h:As)(l:List AD)(i:Nat):List Us:=match l[i]? with
 |some d=> [⟨(h.at 51 i 1).block,(h.at 51 i 1).off,if i=0 then 0 else 6,i,d.frm.name,d.frm.n⟩]
 |none=> []
def EJ(L:Bq)(x:Ax):List Us:=(List.range L.reaches.n).flatMap (If L.reaches x.reaches)
def Cw(W:World)(L:Bq)(x:Ax):List Us:=EJ L x++(BQ W L x).1
theorem Qr{N:NP}{L:Bq}{x:Ax}(hN:∀g,N g->B<=g)(hM:∀g,M g->B<=g)(hs:N L.s)(h:C8 N (ET M W) (RV W) W L x):∀u∈Cw W L x,Nf B W u:=by
 intro u d
 rcases yy.1 d with d|d
 ·obtain ⟨i,hi,d⟩:=yW.1 d
  have j:i < x.reaches.length:=by rw[<-h.reaches.1];exact ze.1 hi
  unfold If at d
  rw[yk j] at d
  simp only[zk] at d
  obtain ⟨g,m,l,ty,_,hr,_⟩:=h.reaches.2.2 i j
  rw[AP m,yw] at d
  rw[d]
  exact EP (hN g l) hr (BK ty BS i 1 rfl rfl) (by rw[Pv ty];split<;>rfl) (by split<;>simp)
 ·obtain ⟨p,q,d⟩:=Iw d
  unfold Ed at q
  rcases yy.1 q with q|q
  ·refine Qq (R:=Va N (ET M W) W) (f:=Ck W) (P:=Nf B W) (fun a e A u d=>?_) (h.all2 hs) p q u d
   obtain ⟨b,o,rfl,hb,t,c,w,v⟩:=A
   unfold Ck at d
   split at d
   ·cases d
   ·exact NQ hM e.2 e.1 b o c (hN b hb) v w t u d
  ·simp only[zk] at q
   rw[q] at d
   simp only at d
   split at d
   ·unfold Cb at d
    simp only[yy] at d
    rcases d with ((d|d)|d)|d
    ·obtain ⟨i,hi,d⟩:=yW.1 d
     have j:i < x.farms.length:=by rw[<-h.farms.1];exact ze.1 hi
     obtain ⟨g,m,l,ty,_,hr,C,_,n⟩:=h.farms.2.2 i j
     unfold E8 at d
     rw[yk j] at d
     simp only[CO,AP m,yw,yN,yZ,zK] at d
     rcases d with rfl|rfl
     ·exact EP (hN g l) hr (BK ty F1 i 1 rfl rfl) (by rw[TZ ty];rfl) (by simp)
     ·exact EP (hN g l) n (BK ty F1 i 10 rfl rfl) (by rw[Rm ty i C];split<;>rfl) (by split<;>simp)
    ·obtain ⟨i,hi,d⟩:=yW.1 d
     have j:i < x.rots.length:=by rw[<-h.rots.1];exact ze.1 hi
     obtain ⟨g,m,l,ty,_,hr,_,_,_,_,_,z⟩:=h.rots.2.2 i j
     unfold Gf at d
     rw[yk j] at d
     simp only[CO,AP m,yw,yN] at d
     rcases d with rfl|d
     ·exact EP (hN g l) hr (BK ty Fq i 1 rfl rfl) (by rw[SO ty];rfl) (by simp)
     ·obtain ⟨k,y,d⟩:=yW.1 d
      have r:k < (x.rots[i]).turns.length:=by rw[<-z.1];exact ze.1 y
      obtain ⟨g,m,l,ty,hr,_⟩:=z.2.2 k r
      unfold EL at d
      rw[yk r] at d
      simp only[CO,AP m,yw,qj,zk] at d
      rw[d]
      exact EP (hN g l) hr (M3 ty Kr k rfl rfl) (by rw[Rn ty];rfl) (by simp)
    ·obtain ⟨i,hi,d⟩:=yW.1 d
     have j:i < x.rights.length:=by rw[<-h.rights.1];exact ze.1 hi
     obtain ⟨g,m,l,ty,y,_,hr,n,_⟩:=h.rights.2.2 i j
     unfold CG at d
     rw[yk j] at d
     simp only[CO,AP m,yw,yN,yZ,zK] at d
     rcases d with rfl|rfl
     ·exact EP (hN g l) hr (BK ty BT i 2 rfl rfl) (by rw[U0 ty];rfl) (by simp)
     ·exact EP (hN g l) n (BK ty BT i 4 rfl rfl) (by rw[U1 ty i y];split<;>rfl) (by split<;>simp)
    ·obtain ⟨i,hi,d⟩:=yW.1 d
     have j:i < x.duties.length:=by rw[<-h.duties.1];exact ze.1 hi
     obtain ⟨g,m,l,ty,_,hr,n,_⟩:=h.duties.2.2 i j
     unfold DQ at d
     rw[yk j] at d
     simp only[CO,AP m,yw,yN,yZ,zK] at d
     rcases d with rfl|rfl
     ·exact EP (hN g l) hr (BK ty Gi i 1 rfl rfl) (by rw[U2 ty];rfl) (by simp)
     ·exact EP (hN g l) n (BK ty Gi i 3 rfl rfl) (by rw[U3 ty];rfl) (by simp)
   ·cases d
end
section
variable{B:Nat}{W W':World}{N M:NP}{L:Bq}{x:Ax}{t:Tb}{X:List Us}{k:Nat}{O:NP}
def CR(B:Nat)(W:World)(p:Addr):Prop:=∃b q,p=⟨b,q,none⟩∧b < W.heap.size∧¬ Ie B W b q
def DR(W:World)(p:Addr):Prop:=∃b q,p=⟨b,q,none⟩∧b < W.heap.size∧∃z,W.cell? ⟨b,q,none⟩=some (.int .i64 z)
theorem RJ.hd(h:RJ B W t X k O W'):VM W (CR B W) (DR W) W':=by
 constructor
 ·rintro p ⟨b,q,rfl,h1,h2⟩;exact h.cells b q h1 h2
 ·rintro p ⟨b,q,rfl,h1,h2⟩
  by_cases a:Ie B W b q
  ·exact h.nums b q a h2
  ·rw[h.cells b q h1 a];exact h2
theorem Pw{b q ty:Nat}(h:Ty W b ty)(a:¬ Vm ty q):¬ Ie B W b q:=by
 rintro ⟨_,o,c,rfl,h1,h2,_⟩
 obtain rfl:=h.inj h1
 exact a h2
theorem FY{b q:Nat}(h:Nz W b q):¬ Ie B W b q:=by
 obtain ⟨ty,h1,h2⟩:=h
 exact Pw h1 (by rintro (h|h);rw[h2] at h;cases h;rw[h2] at h;cases h.1)
theorem F5{b o:Nat}(h:Gh W b o){j:Nat}(a:j < 6)(c:j≠4):¬ Ie B W b (o+j):=by
 obtain ⟨ty,h1,h2⟩:=h
 refine Pw h1 ?_
 rintro (h|h)
 ·rw[(h2 j a).1] at h;cases h
 ·rw[(h2 j a).2] at h;exact c h.2
theorem Kz{b o:Nat}(h:Gh W b o){c:IntKind}{op:Int}(hr:W.cell? ⟨b,o,none⟩=some (.int c op))(h2:op≠2):¬ Ie B W b (o+4):=by
 rintro ⟨_,d,a,e,h1,_,h3⟩
 obtain rfl:d=o+3:=by omega
 rw[Qp h hr,yq h2] at h3
 exact h3 rfl
mutual
theorem SP:∀(e:Ex) (b o:Nat) (cs:LV),Hs W M e cs->W.rangeAt b o cs->Gh W b o->R5 W (CR B W) e b o
 |.mk op n u rn ri args,b,o,cs,hv,hr,hp=>by
  rw[Hs] at hv
  obtain ⟨a,cap,rfl,h2,h3,f⟩:=hv
  obtain ⟨d,r1,r2,h,g,c⟩:=Bn hr
  rw[R5]
  exact ⟨a,cap,⟨d,_,_,rfl,hp.lt,F5 (j:=0) hp (by omega) (by omega)⟩,⟨c,_,_,rfl,hp.lt,F5 hp (by omega) (by omega)⟩,h2,Qs args a 0 f⟩
theorem Qs:∀(l:List Ex) (a:Option Addr) (i:Nat),DA W M a i l->JD W (CR B W) a i l
 |[],a,i,h=>by rw[JD];trivial
 |e::r,a,i,h=>by
  rw[DA] at h
  rw[JD]
  obtain ⟨⟨g,cs,rfl,h1,h2,h3,c⟩,b⟩:=h
  exact ⟨⟨g,0,rfl,by rw[yw];exact SP e g (i*6) cs c h3 (Ky h2 i)⟩,Qs r _ (i+1) b⟩
end
theorem Fs{f:Nat->List Us}{c:Nat}(n:Nat)(h:∀i,(f i).length<=c):((List.range n).flatMap f).length<=n*c:=by
 induction n with
 |zero=>simp
 |succ n ih=>rw[Ai,yn,Nat.succ_mul];have:=h n;omega
theorem NS{f:Nat->List Us}{c:Nat}(n:Nat)(h:∀i,i < n->(f i).length<=c):((List.range n).flatMap f).length<=n*c:=by
 induction n with
 |zero=>simp
 |succ n ih=>rw[Ai,yn,Nat.succ_mul];have:=h n (by omega);have:=ih (fun i hi=>h i (by omega));omega
theorem F6(h:Bz x=true):x.lets.length<=64∧x.crops.length<=32∧x.reaches.length<=64∧x.farms.length<=600∧x.rots.length<=64∧x.rights.length<=256∧x.duties.length<=256∧(∀d∈x.rots,d.turns.length<=64)∧∀e∈Ay x,AB e.1<=8:=by
 unfold Bz Kh FM EI at h
 simp only[yF,z7,yU] at h
 obtain ⟨⟨h1,h2,h3,i,b,a,c⟩,g,f⟩:=h
 exact ⟨h1,h2,h3,i,b,a,c,g,f⟩
theorem NT(h:x.lets.length<=64):∀e∈Ay x,0<=e.2∧e.2<=1000000:=by
 intro e b
 unfold Ay Kd Ia F0 Ib Jm Ec Gc Gd at b
 simp only[yy,yN,yZ,zK,yW,Prod.exists] at b
 rcases b with (rfl|rfl|rfl)|⟨d,i,a,rfl⟩|⟨d,i,a,rfl⟩|⟨d,i,a,rfl|rfl|rfl|rfl|rfl|rfl|rfl|rfl⟩|⟨d,i,a,rfl⟩|⟨d,i,a,(rfl|rfl|rfl)|⟨f,g,c,rfl⟩⟩|⟨d,i,a,rfl|rfl|rfl|rfl|rfl⟩|⟨d,i,a,rfl⟩
 all_goals first|exact ⟨by omega,by omega⟩|skip
 have:=List.mem_zipIdx a
 simp only
 omega
theorem NU(h:C8 N (ET M W) (RV W) W L x)(d:Bz x=true):(Cb L x).length<=1000000:=by
 obtain ⟨o,p,s,l,m,j,f,c,_⟩:=F6 d
 unfold Cb
 simp only[yn]
 have r:((List.range L.farms.n).flatMap (E8 L.farms x.farms)).length<=L.farms.n*2:=Fs _ fun i=>by unfold E8;split<;>simp
 have g:((List.range L.rots.n).flatMap (Gf L x.rots)).length<=L.rots.n*66:=NS _ fun i hi=>by
  have a:i < x.rots.length:=by rw[<-h.rots.1];exact hi
  obtain ⟨_,_,_,_,_,_,_,_,_,_,_,b⟩:=h.rots.2.2 i a
  have e:((List.range (A2 L i).n).flatMap (EL (A2 L i) (x.rots[i]).turns)).length<=(A2 L i).n*1:=Fs _ fun k=>by unfold EL;split<;>simp
  have:=c _ (yJ a)
  have:=b.1
  unfold Gf
  rw[yk a]
  simp only[yv]
  omega
 have e:((List.range L.rights.n).flatMap (CG L.rights x.rights)).length<=L.rights.n*2:=Fs _ fun i=>by unfold CG;split<;>simp
 have q:((List.range L.duties.n).flatMap (DQ L.duties x.duties)).length<=L.duties.n*2:=Fs _ fun i=>by unfold DQ;split<;>simp
 have:=h.farms.1;have:=h.rots.1;have:=h.rights.1;have:=h.duties.1
 omega
theorem SQ(hs:N L.s)(h:C8 N (ET M W) (RV W) W L x){Bu:Nat}(r:Bu < W.heap.size)(p:W.cell? ⟨Bu,0,none⟩=some (.pointer (some ⟨L.s,0,none⟩)))(u:Bz x=true):Kf M W (CR B W) (DR W) Bu L x:=by
 have f:∀ {hd:As} {g sz i q:Nat},hd.a=some (aV g 0)->hd.at sz i q=(aV g (i*sz+q)):=fun k=>by rw[AP k,yw]
 refine ⟨h.ok,h.heads (fun _ _ _=>rfl) p,⟨Bu,0,rfl,r,?_⟩,fun j h1 h2=>⟨L.s,j,rfl,h.ty.lt,Pw h.ty ?_⟩,fun i hi=>?_,fun i hi=>?_,fun i hi=>?_,?_,h.farms.1,h.rots.1,fun i hi=>?_,h.rights.1,h.duties.1,NT (F6 u).1,NU h u⟩
 ·rintro ⟨_,o,ty,e,_⟩;omega
 ·have:j=19∨j=20∨j=21∨j=22∨j=23∨j=24∨j=25:=by omega
  rcases this with rfl|rfl|rfl|rfl|rfl|rfl|rfl<;>(intro z;revert z;unfold Vm;decide)
 ·obtain ⟨g,k,t,ty,_⟩:=h.rots.2.2 i (by rw[<-h.rots.1];exact hi)
  rw[f k]
  exact ⟨_,_,rfl,ty.lt,FY (Du ty Fq i 22 rfl)⟩
 ·obtain ⟨g,k,t,ty,_,_,m,_⟩:=h.farms.2.2 i hi
  rw[f k]
  exact ⟨⟨_,_,rfl,ty.lt,FY (Du ty F1 i 3 rfl)⟩,m⟩
 ·obtain ⟨g,k,t,ty,m,_⟩:=h.rights.2.2 i hi
  rw[f k]
  exact ⟨⟨_,_,rfl,ty.lt,FY (Du ty BT i 0 rfl)⟩,m⟩
 ·refine Az.mono (fun a e y=>?_) (h.all2 hs)
  obtain ⟨b,o,rfl,hb,d,c,l,n⟩:=y
  have hr:=SP (B:=B) e.1 b o c n l d
  have m:=n.exV (N:=M) (fun _ h _=>h)
  obtain ⟨a,cap,rfl,G,C,F⟩:=m.cells
  obtain ⟨A,r1,r2,E,w,D⟩:=Bn l
  exact ⟨b,o,_,rfl,l,m,hr,⟨_,_,rfl,d.lt,F5 d (by omega) (by omega)⟩,⟨_,_,rfl,d.lt,F5 d (by omega) (by omega)⟩,⟨_,_,rfl,d.lt,F5 d (by omega) (by omega)⟩,⟨_,_,rfl,d.lt,_,w⟩,
   fun h0=>⟨_,_,rfl,d.lt,Kz d A (by rw[h0];decide)⟩⟩
 ·obtain ⟨_,_,_,_,_,_,_,_,_,_,_,v⟩:=h.rots.2.2 i hi
  exact v.1
end
section
variable{B:Nat}{W W':World}{N M:NP}{E:Int->Ex->Nat->Nat->Prop}{R:Int->Rf->Nat->Nat->Prop}{L:Bq}{x:Ax}{t:Tb}{X:List Us}{O:NP}
theorem Ix:∀ {l:List (List Us × Bool)},(Bw l).2=true->∀p∈l,p.2=true∧∀u∈p.1,u∈(Bw l).1
 |[],_=>by simp
 |y::r,h=>by
  have e:Bw (y::r)=if y.2 then (y.1++(Bw r).1,(Bw r).2) else (y.1,false):=rfl
  rw[e] at h ⊢
  by_cases h1:y.2=true
  ·rw[yD h1] at h ⊢
   have ih:=Ix h
   intro p a
   rcases yN.1 a with rfl|a
   ·exact ⟨h1,fun u b=>yy.2 (.inl b)⟩
   ·exact ⟨(ih p a).1,fun u b=>yy.2 (.inr ((ih p a).2 u b))⟩
  ·rw[yq h1] at h;cases h
theorem Md{α β γ:Type}{R R':α->β->Prop}{f:α->β->γ}{Q:γ->Prop}(h:∀a b,R a b->Q (f a b)->R' a b):∀ {l:List α} {m:List β},Az R l m->(∀p∈List.zipWith f l m,Q p)->Az R' l m
 |[],[],_,_=>trivial
 |a::l,b::m,hA,hq=>by
  rw[Az] at hA
  simp only[xV,xg] at hq
  exact ⟨h a b hA.1 hq.1,Md h hA.2 hq.2⟩
 |[],_::_,hA,_=>by simp[Az] at hA
 |_::_,[],hA,_=>by simp[Az] at hA
def Vn(W:World)(X:List Us)(M:NP)(lt:Int)(e:Ex)(b o:Nat):Prop:=ET M W lt e b o∧(BJ e=false->(BX W lt e b o).2=true∧∀u∈(BX W lt e b o).1,u∈X)
def Vo(X:List Us)(R:Int->Rf->Nat->Nat->Prop)(to:Int)(r:Rf)(b o:Nat):Prop:=R to r b o∧∃at_,(⟨b,o,to,at_,r.name,r.n⟩:Us)∈X
theorem C8.linkE(h:C8 N (ET M W) R W L x)(hs:N L.s)(l:(BQ W L x).2=true)(k:∀u∈(BQ W L x).1,u∈X):C8 N (Vn W X M) R W L x:=by
 have i:=Ix l
 refine h.told (Md (f:=Ck W) (Q:=fun p=>p.2=true∧∀u∈p.1,u∈X) (fun a e m c=>?_) (h.all2 hs) (fun p d=>?_))
 ·obtain ⟨b,o,rfl,hb,d,g⟩:=m
  refine ⟨b,o,rfl,g,fun j=>?_⟩
  unfold Ck at c
  rw[j] at c
  exact c
 ·obtain ⟨h1,h2⟩:=i p (yy.2 (.inl d))
  exact ⟨h1,fun u n=>k u (h2 u n)⟩
theorem Ce{f:Nat->List Us}{n i:Nat}{u:Us}(hi:i < n)(a:u∈f i):u∈(List.range n).flatMap f:=yW.2 ⟨i,ze.2 hi,a⟩
theorem C8.linkR(h:C8 N E R W L x)(v:∀u∈EJ L x,u∈X)(m:∀u∈Cb L x,u∈X):C8 N E (Vo X R) W L x:=by
 have c:∀ {hd:As} {g sz i j:Nat},hd.a=some (aV g 0)->hd.at sz i j=(aV g (i*sz+j)):=fun b=>by rw[AP b,yw]
 have s:∀u∈(List.range L.farms.n).flatMap (E8 L.farms x.farms),u∈X:=fun u f=>m u (by unfold Cb;simp only[yy];exact .inl (.inl (.inl f)))
 have p:∀u∈(List.range L.rots.n).flatMap (Gf L x.rots),u∈X:=fun u f=>m u (by unfold Cb;simp only[yy];exact .inl (.inl (.inr f)))
 have q:∀u∈(List.range L.rights.n).flatMap (CG L.rights x.rights),u∈X:=fun u f=>m u (by unfold Cb;simp only[yy];exact .inl (.inr f))
 have r:∀u∈(List.range L.duties.n).flatMap (DQ L.duties x.duties),u∈X:=fun u f=>m u (by unfold Cb;simp only[yy];exact .inr f)
 refine ⟨h.ty,h.name,h.season,h.cap,h.start,h.hlets,h.hcrops,h.hreaches,h.hfarms,h.hrots,h.hrights,h.hduties,h.lets,h.crops,⟨h.reaches.1,h.reaches.2.1,fun i hi=>?_⟩,⟨h.farms.1,h.farms.2.1,fun i hi=>?_⟩,⟨h.rots.1,h.rots.2.1,fun i hi=>?_⟩,⟨h.rights.1,h.rights.2.1,fun i hi=>?_⟩,⟨h.duties.1,h.duties.2.1,fun i hi=>?_⟩⟩
 ·obtain ⟨g,b,d,ty,h1,hr,h2⟩:=h.reaches.2.2 i hi
  refine ⟨g,b,d,ty,h1,⟨hr,⟨i,v _ (Ce (by rw[h.reaches.1];exact hi) ?_)⟩⟩,h2⟩
  unfold If;rw[yk hi];simp[c b]
 ·obtain ⟨g,b,d,ty,h1,hr,h2,h3,e⟩:=h.farms.2.2 i hi
  refine ⟨g,b,d,ty,h1,⟨hr,⟨0,s _ (Ce (by rw[h.farms.1];exact hi) ?_)⟩⟩,h2,h3,⟨e,⟨0,s _ (Ce (by rw[h.farms.1];exact hi) ?_)⟩⟩⟩
  ·unfold E8;rw[yk hi];simp[c b,CO]
  ·unfold E8;rw[yk hi];simp[c b,CO]
 ·obtain ⟨g,b,d,ty,h1,hr,h2,h3,y,w,t,l⟩:=h.rots.2.2 i hi
  refine ⟨g,b,d,ty,h1,⟨hr,⟨0,p _ (Ce (by rw[h.rots.1];exact hi) ?_)⟩⟩,h2,h3,y,w,t,l.1,l.2.1,fun k o=>?_⟩
  ·unfold Gf;rw[yk hi];simp[c b,CO]
  ·obtain ⟨g,b,d,ty,hr,h1⟩:=l.2.2 k o
   refine ⟨g,b,d,ty,⟨hr,⟨0,p _ (Ce (i:=i) (by rw[h.rots.1];exact hi) ?_)⟩⟩,h1⟩
   unfold Gf;rw[yk hi]
   refine yN.2 (.inr (Ce (i:=k) (by rw[l.1];exact o) ?_))
   unfold EL;rw[yk o];simp[c b,CO]
 ·obtain ⟨g,b,d,ty,h0,h1,hr,e,h2⟩:=h.rights.2.2 i hi
  refine ⟨g,b,d,ty,h0,h1,⟨hr,⟨0,q _ (Ce (by rw[h.rights.1];exact hi) ?_)⟩⟩,⟨e,⟨0,q _ (Ce (by rw[h.rights.1];exact hi) ?_)⟩⟩,h2⟩
  ·unfold CG;rw[yk hi];simp[c b,CO]
  ·unfold CG;rw[yk hi];simp[c b,CO]
 ·obtain ⟨g,b,d,ty,h1,hr,e,h2⟩:=h.duties.2.2 i hi
  refine ⟨g,b,d,ty,h1,⟨hr,⟨0,r _ (Ce (by rw[h.duties.1];exact hi) ?_)⟩⟩,⟨e,⟨0,r _ (Ce (by rw[h.duties.1];exact hi) ?_)⟩⟩,h2⟩
  ·unfold DQ;rw[yk hi];simp[c b,CO]
  ·unfold DQ;rw[yk hi];simp[c b,CO]
theorem RJ.at(h:RJ B W t X X.length O W'){u:Us}(c:u∈X)(h0:u.to≠0):W'.cell? ⟨u.b,u.o+1,none⟩=some (.int .i64 (Gz t (Ey u.to) u.name)):=by
 obtain ⟨j,a,rfl⟩:=zg.1 c
 exact ((h.done j a a).2 h0).2
theorem NV(t:Tb)(l:List Ex):(J0 t l).length=l.length:=by rw[MH];simp
mutual
theorem Qt(h:RJ B W t X X.length O W')(lt:Int):∀(e:Ex) (b o:Nat) (cs:LV),Hs W M e cs->W.rangeAt b o cs->Gh W b o->(BX W lt e b o).2=true->(∀u∈(BX W lt e b o).1,u∈X)->∃c,W'.rangeAt b o c∧Hs W' M (Kw t e) c
 |.mk op n u rn ri args,b,o,cs,hv,hr,hp,ho,hX=>by
  rw[Hs] at hv
  obtain ⟨a,cap,rfl,h2,h3,k⟩:=hv
  obtain ⟨p,r1,r2,s,q,m⟩:=Bn hr
  have i:∀j,j < 6->j≠4->W'.cell? ⟨b,o+j,none⟩=W.cell? ⟨b,o+j,none⟩:=fun j r k=>h.cells b _ hp.lt (F5 hp r k)
  rw[BX] at ho hX
  by_cases hs:Nc op args.length=true
  ·rw[yD hs] at ho hX
   rw[m] at ho hX
   simp only[xg] at hX
   have g:=NW h lt args a args.length cap 0 k ho hX.2
   have d:W'.cell? ⟨b,o+4,none⟩=some (.int .i64 (if op=2 then Gz t 1 rn else ri)):=by
    by_cases f:op=2
    ·have l:=h.at hX.1 (by simp only[Lq,f,xm];split<;>simp)
     rw[yD f]
     simp only[Lq,f,xm,zN] at l
     rw[l]
     split<;>rfl
    ·rw[yq f]
     exact (h.cells b _ hp.lt (Kz hp p f)).trans q
   refine ⟨[iV op,iV n,iV u,.string rn,iV (if op=2 then Gz t 1 rn else ri),.slice a args.length cap],?_,?_⟩
   ·exact A6 ((i 0 (by omega) (by omega)).trans p) (A6 ((i 1 (by omega) (by omega)).trans r1) (A6 ((i 2 (by omega) (by omega)).trans r2) (A6 ((i 3 (by omega) (by omega)).trans s) (A6 d (BU ((i 5 (by omega) (by omega)).trans m))))))
   ·rw[Kw,Hs]
    exact ⟨a,cap,by rw[NV],by rw[NV];exact h2,h3,g⟩
  ·rw[yq hs] at ho;cases ho
theorem NW(h:RJ B W t X X.length O W')(lt:Int):∀(l:List Ex) (a:Option Addr) (n cap i:Nat),DA W M a i l->(Bp W lt l (some (.slice a n cap)) i).2=true->(∀u∈(Bp W lt l (some (.slice a n cap)) i).1,u∈X)->DA W' M a i (J0 t l)
 |[],a,n,cap,i,_,_,_=>by rw[J0,DA];trivial
 |e::r,a,n,cap,i,hr,ho,hX=>by
  rw[DA] at hr
  obtain ⟨⟨g,cs,rfl,h1,h2,h3,f⟩,d⟩:=hr
  rw[Bp] at ho hX
  by_cases b:(BX W lt e g (0+i*6)).2=true
  ·rw[yD b] at ho hX
   simp only[yy,or_imp,forall_and] at hX
   obtain ⟨c,c1,c2⟩:=Qt h lt e g (0+i*6) cs f (by rw[yw];exact h3) (by rw[yw];exact Ky h2 i) b hX.1
   rw[yw] at c1
   rw[J0,DA]
   exact ⟨⟨g,c,rfl,h1,h.tyT h2,c1,c2⟩,NW h lt r (some ⟨g,0,none⟩) n cap (i+1) d ho hX.2⟩
  ·rw[yq b] at ho;cases ho
end
theorem Ro{e:Ex}(h:BJ e=true):e.op=0∧e.args=[]:=by
 unfold BJ DE at h
 simp only[yF,z7] at h
 exact ⟨h.1,List.eq_nil_of_length_eq_zero h.2.2.2.2⟩
theorem SS(h:RJ B W t X X.length O W'){lt:Int}{e:Ex}{b o:Nat}(q:BJ e=true)(p:ET M W lt e b o)(f:Gh W b o):ET M W' lt e b o:=by
 obtain ⟨c,hr,k⟩:=p
 obtain ⟨l,g⟩:=Ro q
 cases e with
 |mk op n u rn ri args=>
 simp only[Ex.op,Ex.args] at l g
 subst g
 rw[Hs] at k
 obtain ⟨a,cap,rfl,h2,h3,i⟩:=k
 obtain ⟨m,r1,r2,w,r,s⟩:=Bn hr
 have d:∀j,j < 6->j≠4->W'.cell? (aV b (o+j))=W.cell? (aV b (o+j)):=fun j v i=>h.cells b _ f.lt (F5 f v i)
 refine ⟨_,A6 ((d 0 (by omega) (by omega)).trans m) (A6 ((d 1 (by omega) (by omega)).trans r1) (A6 ((d 2 (by omega) (by omega)).trans r2) (A6 ((d 3 (by omega) (by omega)).trans w) (A6 ((h.cells b _ f.lt (Kz f m (by rw[l];decide))).trans r) (BU ((d 5 (by omega) (by omega)).trans s)))))),?_⟩
 rw[Hs]
 exact ⟨a,cap,rfl,h2,h3,by rw[DA];trivial⟩
theorem Rp(hN:∀g,N g->B<=g)(hM:∀g,M g->B<=g)(hs:N L.s)(h:C8 N (ET M W) (RV W) W L x)(d:RJ B W t (Cw W L x) (Cw W L x).length O W')(n:(BQ W L x).2=true):C8 N (ET M W') (RV W') W' L (x.mp (fT t) (gT t)):=by
 have z:BZ x=true:=by
  have:=Ix n (if BZ x then Cb L x else [],BZ x) (yy.2 (.inr (by simp)))
  exact this.1
 have f:∀u∈Cb L x,u∈Cw W L x:=fun u k=>yy.2 (.inr ((Ix n (if BZ x then Cb L x else [],BZ x) (yy.2 (.inr (by simp)))).2 u (by rw[yD z];exact k)))
 refine ((h.linkE (X:=Cw W L x) hs n (fun u k=>yy.2 (.inr k))).linkR (X:=Cw W L x) (fun u k=>yy.2 (.inl k)) f).map (fun b ty _ h=>d.tyT h) (fun b o _ h=>d.cells b o h.lt (FY h)) (fun lt e b o _ i l=>?_) (fun to r b o _ i hr=>?_)
 ·obtain ⟨l,a⟩:=l
  unfold fT
  by_cases m:BJ e=true
  ·rw[yD m];exact SS d m l i
  ·rw[yq m]
   obtain ⟨w,v⟩:=a (by simpa using m)
   obtain ⟨c,c1,c2⟩:=l
   exact Qt d lt e b o c c2 c1 i w v
 ·obtain ⟨hr,a⟩:=hr
  have j:¬ Ie B W b o:=by
   obtain ⟨ty,q,y,_⟩:=i
   exact FY ⟨ty,q,y⟩
  unfold gT
  by_cases h0:to=0
  ·rw[yD h0]
   refine ⟨hr.1,(d.cells b o i.lt j).trans hr.2.1,(d.cells b _ i.lt ?_).trans hr.2.2⟩
   obtain ⟨at_,p⟩:=a
   exact (Qr hN hM hs h _ p).notNum h0
  ·rw[yq h0]
   obtain ⟨at_,p⟩:=a
   exact ⟨hr.1,(d.cells b o i.lt j).trans hr.2.1,d.at p h0⟩
end
end Go.Proofs.YtjofgpfocadomaaGreatDoor
namespace Go.Proofs.YtjofgpfocadomaaGreatDoor
open Go.RowKit
attribute [local go_sem] Oper.semAt_some
def J2(B:Nat):Deferred:={target:=.fn (.func 43) #[.pointer (some ⟨B+1,0,none⟩),.pointer (some ⟨B+2,0,none⟩)],args:=#[]}
def J3(D:Nat):Deferred:={target:=.collected D,args:=#[]}
def Px(B:Nat)(w':World)(cs:LV)(x:Ax):Prop:=∃(L:Bq) (N:NP),cs.length=26∧BP N w' L cs x∧∀b,N b->B<=b∧b < w'.heap.size
def Iy(w:World)(x:Ax)(e:Ending)(w':World):Prop:=
 Below w.heap.size w w'∧((AF x≠0∧e=.returned (.tuple #[.agg D8.toArray,.int .i64 (AF x)]))∨(AF x=0∧∃cs,e=.returned (.tuple #[.agg cs.toArray,.int .i64 0])∧Px w.heap.size w' cs (Aj x)))
structure JG (w W:World):Prop where
 below:Below w.heap.size w W
 x:∃row:Array Value,row.size=26∧W.heap[w.heap.size+1]?=some (.cells row 35 (0,0))
 e:∃v:Value,W.heap[w.heap.size+2]?=some (.cells #[v] 40 (0,0))
theorem JG.up{w W W':World}(h:JG w W)(hb:Below (w.heap.size+3) W W'):JG w W':=by
 obtain ⟨row,h1,h2⟩:=h.x
 obtain ⟨v,h3⟩:=h.e
 exact ⟨h.below.trans (hb.mono (by omega)),⟨row,h1,(hb.block _ (by omega)).trans h2⟩,⟨v,(hb.block _ (by omega)).trans h3⟩⟩
def Ly(B:Nat)(tm:Array Value):Prop:=tm.getD 2 undef=.pointer (some ⟨B+1,0,none⟩)∧tm.getD 3 undef=.pointer (some ⟨B+2,0,none⟩)
structure KA (Q:Exit->Act->World->Prop) (w:World) (x:Ax):Prop where
 fail:∀tm W,Ly w.heap.size tm->JG w W->AF x≠0->Q (.panic (Er (AF x))) {tmps:=tm,defers:=[J2 w.heap.size]} W
 failD:∀D tm W,Ly w.heap.size tm->JG w W->AF x≠0->w.heap.size+3<=D->W.heap[D]?=some (.deferred (some []))->Q (.panic (Er (AF x))) {tmps:=tm,defers:=[J3 D,J2 w.heap.size]} W
 done:∀D tm W cs,Ly w.heap.size tm->Below w.heap.size w W->W.heap[w.heap.size+1]?=some (.cells cs.toArray 35 (0,0))->W.heap[w.heap.size+2]?=some (.cells #[.int .i64 0] 40 (0,0))->AF x=0->w.heap.size+3<=D->W.heap[D]?=some (.deferred (some []))->
  Px w.heap.size (W.putObj D (.deferred none)) cs (Aj x)->Q .ret {tmps:=tm,defers:=[J3 D,J2 w.heap.size]} W
theorem NX{W:World}{tm:Array Value}{B:Nat}{cs:LV}{z:Int}(e:Ly B tm)(h1:W.heap[B+1]?=some (.cells cs.toArray 35 (0,0)))(a:cs.length=26)(h2:W.heap[B+2]?=some (.cells #[.int .i64 z] 40 (0,0))):
  (results Tryz.f32 tm).run Tryz.prog W=.ok (.tuple #[.agg cs.toArray,.int .i64 z]) W:=by
 obtain ⟨b,c⟩:=e
 rw[yB] at b c
 have hr:W.rangeAt (B+1) 0 cs:=by
  have:=zl h1 0 cs.length
  simpa using this
 have g:=run_loadVar_mid (P:=Tryz.prog) W (B+1) 0 35 cs _ hr qP rfl (by rw[a];kernel_rfl)
 have c2:W.cell? (aV (B+2) 0)=some (iV z):=by simp[World.cell?,h2]
 have f:(loadVar 40 (aV (B+2) 0)).run Tryz.prog W=.ok (iV z) W:=by
  have d:(isAgg 40).run Tryz.prog W=.ok false W:=by kernel_rfl
  simp[loadVar,d,go_sem,c2]
 simp[results,Tryz.results32,b,c,asAddr,g,f]
theorem Jq{w W:World}{x:Ax}{tm:Array Value}(h:Ly w.heap.size tm)(c:JG w W)(h0:AF x≠0):LeavesInM Fence.wide 10 Tryz.prog Tryz.f32 tm (Iy w x) [J2 w.heap.size] (.panicking (Er (AF x))) W:=by
 obtain ⟨row,d,a⟩:=c.x
 obtain ⟨v,f⟩:=c.e
 refine ⟨by simp,.inr ⟨by simp[Fence.wide],_,_,_,_,rfl,by rfl,fun _ _=>trivial,?_⟩⟩
 refine (Lx 9 (w.heap.size+1) (w.heap.size+2) (by omega) (AF x) row v W a d f).mono ?_
 rintro e j w' ⟨rfl,rfl,rfl⟩
 have i:((W.setRow (w.heap.size+1) D8.toArray).setCell (aV (w.heap.size+2) 0) (iV (AF x))).heap[w.heap.size+1]?=some (.cells D8.toArray 35 (0,0)):=by
  rw[zh _ _ _ _ (by simp)]
  simp[World.setRow,yL,a]
 have g:((W.setRow (w.heap.size+1) D8.toArray).setCell (aV (w.heap.size+2) 0) (iV (AF x))).heap[w.heap.size+2]?=some (.cells #[iV (AF x)] 40 (0,0)):=by
  have:=zm (W.setRow (w.heap.size+1) D8.toArray) (w.heap.size+2) 0 #[v] 40 (iV (AF x)) (by simp[World.setRow,yL,f])
  rw[this];rfl
 refine ⟨_,NX h i rfl g,?_,.inl ⟨h0,rfl⟩⟩
 refine c.below.trans ⟨rfl,rfl,rfl,by simp[World.setRow],fun b hb=>?_⟩
 rw[zh _ _ _ _ (by simp;omega)]
 simp only[World.setRow,yL,yq (show ¬ w.heap.size+1=b by omega)]
theorem SU(w:World)(x:Ax):KA (bodyPostM Fence.wide 10 Tryz.prog Tryz.f32 (Iy w x)) w x:=by
 refine ⟨fun tm W a c h0=>Jq a c h0,fun D tm W a c h0 g hd=>?_,fun D tm W cs a hb h1 h2 h0 g hd hs=>?_⟩
 ·refine ⟨by simp,.inl ⟨D,_,rfl,run_takeDeferred hd,Jq a (c.up ⟨rfl,rfl,rfl,by simp,fun b hb=>World.putObj_heap_other (by omega)⟩) h0⟩⟩
 ·refine ⟨by simp,.inl ⟨D,_,rfl,run_takeDeferred hd,?_⟩⟩
  refine ⟨by simp,.inr ⟨by simp[Fence.wide],_,_,_,_,rfl,by rfl,fun _ _=>trivial,?_⟩⟩
  refine (SK 9 _ _ _).mono ?_
  rintro e h w' ⟨rfl,rfl,rfl⟩
  have d:=hs
  obtain ⟨L,N,f,_⟩:=d
  exact ⟨_,NX a ((World.putObj_heap_other (by omega)).trans h1) f ((World.putObj_heap_other (by omega)).trans h2),hb.trans ⟨rfl,rfl,rfl,by simp,fun b hb=>World.putObj_heap_other (by omega)⟩,.inr ⟨h0,cs,rfl,hs⟩⟩
def VS:Code->Code
 |.seq _ y=>y
 |c=>c
def GR:Nat->Code->Code
 |0,c=>c
 |k+1,c=>GR k (VS c)
end Go.Proofs.YtjofgpfocadomaaGreatDoor
namespace Go.Proofs.YtjofgpfocadomaaGreatDoor
open Go.RowKit
theorem KB(s:Nat)(w:World):Calls Tryz.prog 33 #[.pointer (some ⟨s,0,none⟩)] w fun x w'=>x=.returned (.func (.func 70) #[] #[.pointer (some ⟨w.heap.size,0,none⟩)])∧w'=w.alloc (.cells #[.pointer (some ⟨s,0,none⟩)] 85):=by
 have a:∀(fn:Fn) (first cap:Array Value) (w:World),(Instr.makeFunc fn first cap).run Tryz.prog w=.ok (.func fn first cap) w:=fun _ _ _ _=>rfl
 go_enter Tryz.func33,Tryz.ntmps33
 go_wp2
 go_ret
 exact ⟨rfl,rfl⟩
section
variable{B:Nat}{W W':World}{N N' M:NP}{E:Int->Ex->Nat->Nat->Prop}{R:Int->Rf->Nat->Nat->Prop}{L:Bq}{x:Ax}
theorem C8.ren(h:C8 N E R W L x)(hN:∀g t,N g->Ty W g t->t≠35->t≠40->N' g):C8 N' E R W L x:=by
 refine ⟨h.ty,h.name,h.season,h.cap,h.start,h.hlets,h.hcrops,h.hreaches,h.hfarms,h.hrots,h.hrights,h.hduties,⟨h.lets.1,h.lets.2.1,fun i hi=>?_⟩,⟨h.crops.1,h.crops.2.1,fun i hi=>?_⟩,⟨h.reaches.1,h.reaches.2.1,fun i hi=>?_⟩,⟨h.farms.1,h.farms.2.1,fun i hi=>?_⟩,⟨h.rots.1,h.rots.2.1,fun i hi=>?_⟩,⟨h.rights.1,h.rights.2.1,fun i hi=>?_⟩,⟨h.duties.1,h.duties.2.1,fun i hi=>?_⟩⟩
 ·obtain ⟨g,b,a,ty,h1⟩:=h.lets.2.2 i hi
  exact ⟨g,b,hN g _ a ty (by decide) (by decide),ty,h1⟩
 ·obtain ⟨g,b,a,ty,h1⟩:=h.crops.2.2 i hi
  exact ⟨g,b,hN g _ a ty (by decide) (by decide),ty,h1⟩
 ·obtain ⟨g,b,a,ty,h1⟩:=h.reaches.2.2 i hi
  exact ⟨g,b,hN g _ a ty (by decide) (by decide),ty,h1⟩
 ·obtain ⟨g,b,a,ty,h1⟩:=h.farms.2.2 i hi
  exact ⟨g,b,hN g _ a ty (by decide) (by decide),ty,h1⟩
 ·obtain ⟨g,b,a,ty,h1,h2,h3,f,e,d,j,c⟩:=h.rots.2.2 i hi
  refine ⟨g,b,hN g _ a ty (by decide) (by decide),ty,h1,h2,h3,f,e,d,j,c.1,c.2.1,fun k l=>?_⟩
  obtain ⟨g,b,a,ty,h1⟩:=c.2.2 k l
  exact ⟨g,b,hN g _ a ty (by decide) (by decide),ty,h1⟩
 ·obtain ⟨g,b,a,ty,h1⟩:=h.rights.2.2 i hi
  exact ⟨g,b,hN g _ a ty (by decide) (by decide),ty,h1⟩
 ·obtain ⟨g,b,a,ty,h1⟩:=h.duties.2.2 i hi
  exact ⟨g,b,hN g _ a ty (by decide) (by decide),ty,h1⟩
theorem KC{b ty:Nat}{v:Value}(h:W.heap[b]?=some (.cells #[v] ty (0,0)))(f:∀k z,v≠.int k z)(a:∀q,Fp ty q=1∧FR ty q=q % 6)(q:Nat):¬ Ie B W b q:=by
 rintro ⟨_,o,e,rfl,h1,h2,h3⟩
 have c:Ty W b ty:=⟨_,h⟩
 obtain rfl:=c.inj h1
 apply h3
 unfold EO
 rw[DU c,(a _).1,yD rfl]
 rcases h2 with h2|h2
 ·rw[(a _).1] at h2;cases h2
 ·rw[(a _).2] at h2
  by_cases d:o - 3=0
  ·rw[d]
   simp only[World.cell?,h]
   simp
   cases v<;>simp_all
  ·have:W.cell? ⟨b,o - 3,none⟩=none:=by
    simp only[World.cell?,h]
    simp;omega
   rw[this]
theorem KD{b:Nat}(h:∀t,¬ Ty W b t)(q:Nat):¬ Ie B W b q:=by
 rintro ⟨_,o,a,rfl,h1,h2,h3⟩
 exact h _ h1
def B7(W:World)(b:Nat)(a:LB):Prop:=∃m,W.heap[b]?=some (.cells #[.map (some m)] 137 (0,0))∧BR W m a
theorem Hh{t:Nat}(h:t≠35∧t≠50∧t≠92∧t≠66∧t≠94∧t≠109∧t≠158∧t≠131∧t≠135)(q:Nat):Fp t q=1∧FR t q=q % 6:=by
 obtain ⟨h1,h2,h3,f,b,a,c,e,d⟩:=h
 unfold Fp FR
 rw[yq h1,yq h1,yq h2,yq h2,yq h3,yq h3,yq f,yq f,yq b,yq b,yq a,yq a,yq c,yq c,yq e,yq e,yq d,yq d]
 exact ⟨rfl,rfl⟩
theorem B7.read{t:Tb}{X:List Us}{k b:Nat}{O:NP}{d:LB}(h:B7 W b d)(i:RJ B W t X k O W'):∃m e a,W'.cell? ⟨b,0,none⟩=some (.map (some m))∧BR W' m d∧W'.heap[m]?=some (.map e a)∧e.size=d.length:=by
 obtain ⟨m,h1,h2⟩:=h
 have l:W'.heap[b]?=W.heap[b]?:=i.same b (yd.1 h1).1 (KC h1 (by simp) (Hh (by decide)))
 obtain ⟨e,a,h3,j⟩:=h2.size
 have f:W'.heap[m]?=W.heap[m]?:=i.same m h2.lt (KD fun t ⟨c,g⟩=>by rw[h3] at g;cases g)
 exact ⟨m,e,a,by simp[World.cell?,l,h1],h2.block f,f.trans h3,j⟩
theorem KE{t:Tb}{X:List Us}{k b ty:Nat}{v:Value}{O:NP}(h:W.heap[b]?=some (.cells #[v] ty (0,0)))(e:∀k z,v≠.int k z)(c:∀q,Fp ty q=1∧FR ty q=q % 6)(d:RJ B W t X k O W'):W'.cell? ⟨b,0,none⟩=some v:=by
 have a:W'.heap[b]?=W.heap[b]?:=d.same b (yd.1 h).1 (KC h e c)
 simp[World.cell?,a,h]
mutual
theorem MM(lt:Int):∀(e:Ex) (b o:Nat),∀u∈(BX W lt e b o).1,u.to≠6
 |.mk op n u rn ri args,b,o=>by
  intro v a
  rw[BX] at a
  by_cases hs:Nc op args.length=true
  ·rw[yD hs] at a
   rcases yN.1 a with rfl|a
   ·simp only;unfold Lq;split
    ·split<;>decide
    ·decide
   ·exact Qu lt args _ 0 v a
  ·rw[yq hs] at a;cases a
theorem Qu(lt:Int):∀(l:List Ex) (a:Option Value) (i:Nat),∀u∈(Bp W lt l a i).1,u.to≠6
 |[],a,i=>by intro v d;rw[Bp] at d;cases d
 |e::r,a,i=>by
  intro v d
  by_cases f:∃b o n c,a=some (.slice (some ⟨b,o,none⟩) n c)
  ·obtain ⟨b,o,n,c,rfl⟩:=f
   rw[Bp] at d
   split at d
   ·rcases yy.1 d with d|d
    ·exact MM lt e _ _ v d
    ·exact Qu lt r _ _ v d
   ·exact MM lt e _ _ v d
  ·have g:Bp W lt (e::r) a i=([],false):=by
    rw[Bp]
    intro b o n c h
    exact f ⟨b,o,n,c,h⟩
   rw[g] at d;cases d
end
theorem U4:∀u∈(BQ W L x).1,u.to≠6:=by
 intro u a
 obtain ⟨p,b,a⟩:=Iw a
 unfold Ed at b
 rcases yy.1 b with b|b
 ·obtain ⟨i,hi,rfl⟩:=zg.1 b
  simp only[Dt,List.getElem_zipWith] at a
  unfold Ck at a
  split at a
  ·cases a
  ·exact MM _ _ _ _ u a
 ·simp only[zk] at b
  rw[b] at a
  simp only at a
  split at a
  ·unfold Cb at a
   simp only[yy] at a
   rcases a with ((a|a)|a)|a
   ·obtain ⟨i,hi,a⟩:=yW.1 a
    unfold E8 at a
    split at a
    ·simp only[CO,yN,yZ,zK] at a
     rcases a with rfl|rfl
     ·simp
     ·simp only;split<;>simp
    ·cases a
   ·obtain ⟨i,hi,a⟩:=yW.1 a
    unfold Gf at a
    split at a
    ·simp only[CO,yN] at a
     rcases a with rfl|a
     ·simp
     ·obtain ⟨k,c,a⟩:=yW.1 a
      unfold EL at a
      split at a
      ·simp only[CO,zk] at a
       rw[a];simp
      ·cases a
    ·cases a
   ·obtain ⟨i,hi,a⟩:=yW.1 a
    unfold CG at a
    split at a
    ·simp only[CO,yN,yZ,zK] at a
     rcases a with rfl|rfl
     ·simp
     ·simp only;split<;>simp
    ·cases a
   ·obtain ⟨i,hi,a⟩:=yW.1 a
    unfold DQ at a
    split at a
    ·simp only[CO,yN,yZ,zK] at a
     rcases a with rfl|rfl<;>simp
    ·cases a
  ·cases a
end
structure Ht (w:World) (x:Ax) (W5:World) (L:Bq) (N M:Nat->Prop) (bl bc br bf Bf Bu:Nat):Prop where
 amid:JG w W5
 lets:B7 W5 bl (x.lets.map (·.name))
 crops:B7 W5 bc (x.crops.map (·.name))
 reaches:B7 W5 br (x.reaches.map (·.name))
 farms:B7 W5 bf (x.farms.map (·.name))
 find:W5.heap[Bf]?=some (.cells #[.func (.func 68) #[] #[]] 147 (0,0))
 box:W5.heap[Bu]?=some (.cells #[.pointer (some ⟨L.s,0,none⟩)] 85 (0,0))
 ps:C8 N (ET M W5) (RV W5) W5 L x
 hN:∀g,N g->w.heap.size<=g∧g < W5.heap.size
 hM:∀g,M g->w.heap.size+3<=g∧g < W5.heap.size
 hs:N L.s
 ls:L.s=w.heap.size+1
 fits:Bz x=true
 wr:AF x=if Df (Tb.of x) x&&Cy (Tb.of x) x then 0 else 170
section
variable{w W5 W:World}{x:Ax}{L:Bq}{N M:NP}{bl bc br bf Bf Bu k:Nat}{t:Tb}{X:List Us}{O:NP}
theorem RJ.amid(c:JG w W5)(h:RJ w.heap.size W5 t X k O W):JG w W:=by
 refine ⟨c.below.trans ⟨h.os,h.tape,h.output,h.size,fun b hb=>h.same b (by have:=c.below.size;omega) (fun q g=>by have:=g.1;omega)⟩,?_,?_⟩
 ·obtain ⟨row,h1,h2⟩:=c.x
  obtain ⟨a,f,d⟩:=h.ty _ _ _ h2
  exact ⟨a,by omega,d⟩
 ·obtain ⟨v,h2⟩:=c.e
  obtain ⟨a,f,d⟩:=h.ty _ _ _ h2
  obtain ⟨v',rfl⟩:∃v',a=#[v']:=by
   have:a.size=1:=f
   exact ⟨a[0],by ext i h1 h2;omega;simp at h2;subst h2;rfl⟩
  exact ⟨v',d⟩
theorem Ht.uok(h:Ht w x W5 L N M bl bc br bf Bf Bu):∀u∈Cw W5 L x,Nf w.heap.size W5 u:=Qr (fun g a=>(h.hN g a).1) (fun g a=>by have:=(h.hM g a).1;omega) h.hs h.ps
theorem Ht.uses(h:Ht w x W5 L N M bl bc br bf Bf Bu):Kf M W5 (CR w.heap.size W5) (DR W5) Bu L x:=
 SQ h.hs h.ps (yd.1 h.box).1 (by simp[World.cell?,h.box]) h.fits
theorem Ht.bad(h:Ht w x W5 L N M bl bc br bf Bf Bu){u:Us}(a:u∈Cw W5 L x)(hb:J1 (Tb.of x) u=false):AF x=170:=by
 rw[h.wr]
 rcases yy.1 a with a|a
 ·have:Df (Tb.of x) x=false:=by
   obtain ⟨i,hi,a⟩:=yW.1 a
   have b:i < x.reaches.length:=by rw[<-h.ps.reaches.1];exact ze.1 hi
   unfold If at a
   rw[yk b] at a
   simp only[zk] at a
   unfold Df
   rw[xj]
   refine ⟨(x.reaches[i],i),zg.2 ⟨i,by simpa using b,by simp⟩,?_⟩
   rw[a] at hb
   unfold J1 at hb
   unfold MK
   rw[hb];simp
  rw[this];rfl
 ·have:Cy (Tb.of x) x=false:=by
   rw[ym]
   intro c
   have:=((FX (Tb.of x) h.uses).2 c).2 u a
   rw[hb] at this;cases this
  rw[this];simp
theorem Ht.bad2(h:Ht w x W5 L N M bl bc br bf Bf Bu)(hb:(BQ W5 L x).2=false):AF x=170:=by
 rw[h.wr]
 have:Cy (Tb.of x) x=false:=by
  rw[ym]
  intro a
  have:=((FX (Tb.of x) h.uses).2 a).1
  rw[hb] at this;cases this
 rw[this];simp
theorem Ht.good(h:Ht w x W5 L N M bl bc br bf Bf Bu)(g:RJ w.heap.size W5 (Tb.of x) (Cw W5 L x) (Cw W5 L x).length O W)(f:(BQ W5 L x).2=true):AF x=0:=by
 have a:∀u∈Cw W5 L x,J1 (Tb.of x) u=true:=fun u b=>by
  obtain ⟨j,d,rfl⟩:=zg.1 b
  exact (g.done j d d).1
 rw[h.wr,(FX (Tb.of x) h.uses).1 ⟨f,fun u b=>a u (yy.2 (.inr b))⟩]
 have:Df (Tb.of x) x=true:=by
  unfold Df
  rw[yU]
  intro p e
  obtain ⟨i,hi,rfl⟩:=zg.1 e
  have c:i < x.reaches.length:=by simpa using hi
  have:=a ⟨(L.reaches.at 51 i 1).block,(L.reaches.at 51 i 1).off,if i=0 then 0 else 6,i,x.reaches[i].frm.name,x.reaches[i].frm.n⟩ (yy.2 (.inl (Ce (i:=i) (by rw[h.ps.reaches.1];exact c) (by unfold If;rw[yk c];simp))))
  rw[qd]
  unfold J1 at this
  simpa[MK] using this
 rw[this];rfl
theorem Ht.src(h:Ht w x W5 L N M bl bc br bf Bf Bu)(i:RJ w.heap.size W5 (Tb.of x) (Cw W5 L x) (Cw W5 L x).length O W)(m:(BQ W5 L x).2=true):
  ∃cs,cs.length=26∧W.rangeAt L.s 0 cs∧BP (fun g=>w.heap.size<=g∧g < W5.heap.size∧g≠w.heap.size+1∧g≠w.heap.size+2) W L cs (Aj x):=by
 have h1:=Rp (fun g a=>(h.hN g a).1) (fun g a=>by have:=(h.hM g a).1;omega) h.hs h.ps i m
 have f:=i.amid h.amid
 obtain ⟨row,_,p⟩:=f.x
 obtain ⟨v,k⟩:=f.e
 refine C8.srcV ((h1.imp (E':=EV (fun g=>w.heap.size<=g∧g < W5.heap.size∧g≠w.heap.size+1∧g≠w.heap.size+2) W) (fun _ _ _ h=>h) (fun _ _ _ _=>rfl) (fun lt e b o _ _ l=>?_) (fun _ _ _ _ _ _ h=>h)).ren fun g ty a d n1 n2=>?_)
 ·obtain ⟨c,c1,c2⟩:=l
  exact ⟨c,c1,c2.exV (fun b hb _=>by have:=h.hM b hb;refine ⟨?_,?_,?_,?_⟩<;>omega)⟩
 ·obtain ⟨n,j⟩:=h.hN g a
  refine ⟨n,j,fun e=>?_,fun e=>?_⟩
  ·subst e;exact n1 (d.inj ⟨_,p⟩)
  ·subst e;exact n2 (d.inj ⟨_,k⟩)
end
end Go.Proofs.YtjofgpfocadomaaGreatDoor
namespace Go.Proofs.YtjofgpfocadomaaGreatDoor
open Go.RowKit
attribute [local go_sem] Oper.semAt_some
theorem NY{s:ByteArray}(h:s.toList=[]):s=⟨#[]⟩:=by
 have h1:=(Ds s).2 h
 have:s.data.size=0:=h1
 cases s with
 |mk d=>simp only at this;rw[Array.size_eq_zero_iff] at this;rw[this]
theorem SV{l:LB}{s:ByteArray}{i:Nat}(h:CP l s=some i):i < l.length:=by
 by_cases a:s∈l
 ·obtain ⟨j,h1,h2,_⟩:=IX a
  rw[h] at h1
  cases h1;exact h2
 ·rw[Gg a] at h;cases h
theorem FZ{t:Tb}{to at_:Int}{r:Rf}(h0:to≠0)(h:JF t to at_ r=true):∃i:Nat,CP (t.tab (Ey to)) r.name=some i∧Gz t (Ey to) r.name=i∧(early to=true->(i:Int) < at_)∧i < (t.tab (Ey to)).length:=by
 unfold JF at h
 rw[yq h0] at h
 unfold Gz
 cases a:CP (t.tab (Ey to)) r.name with
 |none=>rw[a] at h;cases h
 |some i=>
  rw[a] at h
  refine ⟨i,rfl,rfl,fun b=>?_,SV a⟩
  simpa[b] using h
theorem G0{t:Tb}{to at_:Int}{r:Rf}(h0:to≠0)(h:JF t to at_ r=false):∀i:Nat,CP (t.tab (Ey to)) r.name=some i->early to=true∧¬ (i:Int) < at_:=by
 intro i a
 unfold JF at h
 rw[yq h0,a] at h
 simp only[Bool.or_eq_false_iff,Bool.not_eq_false',decide_eq_false_iff_not] at h
 exact h
theorem Ft{m:Nat}{W:World}{b:Array MapEntry}{a:Nat}(h:W.heap[m]?=some (.map b a))(ty:TypeId):(Builtin.len_ #[137] ty #[.map (some m)]).run Tryz.prog W=.ok (.int .i64 (b.size:Int)) W:=by
 simp[Builtin.len_,xY qB,MapKept.run_getObj_map h,goInt,Result.andThen]
theorem Vp{Q:QT}{w W W5:World}{x:Ax}{L:Bq}{N M:NP}{bl bc br bf Bf:Nat}(hQ:KA Q w x)(hC:Ht w x W5 L N M bl bc br bf Bf W.heap.size)
 (g4:RJ w.heap.size W5 (Tb.of x) (Cw W5 L x) (EJ L x).length (fun _=>False) (W.alloc (.cells #[.pointer (some ⟨w.heap.size+1,0,none⟩)] 85)))
 (u0 u1 u8 u9 fo ew ge ey hm f8 fc ft fi f2 ek ep dr f0 fa fl ex gk gy fk e8 h9 g8 eu es ea gg fp hc ed e6 fj dz gq fg eq h8 dv g3 g7 ga gm fy f1 hf ef e0 gx fx dt dq gi fu fz gh dy ec el f5 fs ez gj g0 go gd e7 g5 gc e5 gn gl gt du gp fe fm e9 eg f4 fw gr ff g2 e3 eb f7 hg gw ei co az bj cr da b8 ax b9 c8 ci ay cj bi c9 d9 eo ee d7 dg bb cu cz aw bd bu d3 bp bn ar dh bx cm bw d8 bk cv di de av b4 ap ao db bv be cg ck ce d4 dd b0 cp df cy aq bm cd cw b5 bq ct cq d6 ba cc bg b7 cx d5 bt bh cn au bz:Value):
  Fz 32 Tryz.prog (GR 20 (Tryz.f32.body.getD .skip)) Q {tmps:=#[u0,u1,.pointer (some ⟨w.heap.size+1,0,none⟩),.pointer (some ⟨w.heap.size+2,0,none⟩),.pointer (some ⟨bl,0,none⟩),.pointer (some ⟨bc,0,none⟩),.pointer (some ⟨br,0,none⟩),.pointer (some ⟨bf,0,none⟩),u8,u9,fo,ew,ge,.pointer (some ⟨Bf,0,none⟩),ey,hm,f8,fc,ft,fi,f2,ek,ep,dr,f0,fa,fl,ex,gk,gy,fk,e8,h9,g8,eu,es,ea,gg,fp,hc,ed,e6,fj,dz,gq,fg,eq,h8,dv,g3,g7,ga,gm,fy,f1,hf,ef,e0,gx,fx,dt,dq,gi,fu,fz,gh,dy,ec,el,f5,fs,ez,gj,g0,go,gd,e7,g5,gc,e5,gn,gl,gt,du,gp,fe,fm,e9,eg,f4,fw,gr,ff,g2,e3,eb,f7,hg,gw,ei,co,az,bj,cr,da,b8,ax,b9,c8,ci,ay,cj,bi,c9,d9,eo,ee,d7,dg,bb,cu,cz,aw,bd,bu,d3,bp,bn,ar,dh,bx,cm,bw,d8,bk,cv,di,de,av,b4,ap,ao,db,bv,be,cg,ck,ce,d4,dd,b0,cp,df,cy,aq,bm,cd,cw,b5,bq,ct,cq,d6,ba,cc,bg,b7,cx,d5,bt,bh,cn,au,bz],defers:=[J2 w.heap.size]} W:=by
 have HQ:=yb hQ;have r:=yb hC;have am:=yb g4
 clear hQ hC g4
 unfold J2
 refine A9 (A9 (A4 ?_))
 go_wp2_with (first|(go_at_call 33;refine (KB _ _).mono ?_;rintro e w2 ⟨rfl,rfl⟩))
 refine D4 ?_
 refine CA (n:=10) Tryz.func32 rfl (fun _ _=>rfl) (Kj 9 (by omega) r.o.uses) (fun a ha=>by
   obtain ⟨u,_,rfl⟩:=xO.1 ha
   rfl)
  (fun k O V=>RJ w.heap.size W5 (Tb.of x) (Cw W5 L x) ((EJ L x).length+k) O V) (fun _ _ _=>False) (fun ch O V=>ch=Er 170∧AF x=170∧∃k,RJ w.heap.size W5 (Tb.of x) (Cw W5 L x) k O V)
  (fun k a O V=>RJ w.heap.size W5 (Tb.of x) (Cw W5 L x) ((EJ L x).length+k) O V∧∃(ub uo:Nat) (f c:Int) (d:ByteArray) (s:Int) (g:Nat),(BQ W5 L x).1[k]?=some ⟨ub,uo,f,c,d,s⟩∧¬ O g∧g < V.heap.size∧V.heap[g]?=some (.cells #[pV ub uo,iV f,iV c] 89 (0,0))∧a={tmps:=#[u0,u1,pV (w.heap.size+1) 0,pV (w.heap.size+2) 0,pV bl 0,pV bc 0,pV br 0,pV bf 0,u8,u9,fo,ew,ge,pV Bf 0,ey,pV g 0,f8,fc,ft,fi,f2,ek,ep,dr,f0,fa,fl,ex,gk,gy,fk,e8,h9,g8,eu,es,ea,gg,fp,hc,ed,e6,fj,dz,gq,fg,eq,h8,dv,g3,g7,ga,gm,fy,f1,hf,ef,e0,gx,fx,dt,dq,gi,fu,fz,gh,dy,ec,el,f5,fs,ez,gj,g0,go,gd,e7,g5,gc,e5,gn,gl,gt,du,gp,fe,fm,e9,eg,f4,fw,gr,ff,g2,e3,eb,f7,hg,gw,ei,co,az,bj,cr,da,b8,ax,b9,c8,ci,ay,cj,bi,c9,d9,.func (.func 70) #[] #[pV W.heap.size 0],.agg #[pV ub uo,iV f,iV c],d7,dg,bb,cu,cz,aw,bd,bu,d3,bp,bn,ar,dh,bx,cm,bw,d8,bk,cv,di,de,av,b4,ap,ao,db,bv,be,cg,ck,ce,d4,dd,b0,cp,df,cy,aq,bm,cd,cw,b5,bq,ct,cq,d6,ba,cc,bg,b7,cx,d5,bt,bh,cn,au,bz],defers:=[]})
  (fun k=>RJ.stays _) (fun _ _ _ _ _ _ h=>h.elim) ?_ ?_ (fun k O V h=>h.hd) (fun _ _ _ h=>h.elim) ?_ am.o ?_ ?_ ?_ (fun _ _ _ _ _ _ h=>h.elim) ?_
 ·exact fun ch _ O V O' V' h hz ho ht hu hk hO=>⟨h.1,h.2.1,h.2.2.imp fun k h=>RJ.stays k O V O' V' h hz ho ht hu hk hO⟩
 ·rintro a k O V O' V' ⟨h1,ub,uo,f,c,d,s,g,h2,h3,h4,h5,h6⟩ hz ho ht hu hk hO
  exact ⟨RJ.stays _ O V O' V' h1 hz ho ht hu hk hO,ub,uo,f,c,d,s,g,h2,fun h=>(hO g h).elim h3 (fun h=>by omega),by omega,(hk g h3 h4).trans h5,h6⟩
 ·intro ch Z O V G
  cases hx:(BQ W5 L x).2 with
  |true=>rw[hx] at Z;cases Z
  |false=>
   rw[hx] at Z
   cases Z
   exact ⟨rfl,r.o.bad2 hx,_,G⟩
 ·intro k hk O V lo G hO hl ac
  have f6:k < (BQ W5 L x).1.length:=by rw[yT] at hk;exact hk
  rw[zE]
  have HU:=yb (yk f6)
  generalize (BQ W5 L x).1[k]=u at HU ⊢
  obtain ⟨ub,uo,f,c,d,s⟩:=u
  have P:=yb G;have dk:=yb ac
  clear G hO hl ac hk f6
  unfold Us.v
  simp only
  gi_wp2
  have dp:AO O V (V.alloc (.cells #[pV ub uo,iV f,iV c] 89)):=⟨by simp,fun b hb=>yA _ _ _ (dk.o b hb)⟩
  have ad:RJ w.heap.size W5 (Tb.of x) (Cw W5 L x) ((EJ L x).length+k) O (V.alloc (.cells #[pV ub uo,iV f,iV c] 89)):=P.o.below ((yg V.heap.size V).alloc (yf _) _) P.o.size
  have a7:¬ O V.heap.size:=fun h=>qu _ (dk.o _ h)
  first
  |exact ⟨dp,ad,ub,uo,f,c,d,s,V.heap.size,HU.o,a7,by simp,World.alloc_heap_new _ _,rfl⟩
  |(rename_i hK;exact hK _ _ ⟨dp,ad,ub,uo,f,c,d,s,V.heap.size,HU.o,a7,by simp,World.alloc_heap_new _ _,rfl⟩)
  |(rename_i hK _;exact hK _ _ ⟨dp,ad,ub,uo,f,c,d,s,V.heap.size,HU.o,a7,by simp,World.alloc_heap_new _ _,rfl⟩)
  |fail
 ·rintro k hk O V lo a1 hl fb ac ⟨G,ub,uo,f,c,d,s,g,hu,i6,i0,aj,rfl⟩
  have hX:(Cw W5 L x)[(EJ L x).length+k]?=some ⟨ub,uo,f,c,d,s⟩:=by
   unfold Cw
   rw[yV (by omega),xi];exact hu
  have aa:(⟨ub,uo,f,c,d,s⟩:Us)∈Cw W5 L x:=zR hX
  have U:=r.o.uok _ aa
  obtain ⟨c0,⟨z,c1,e4⟩,cf⟩:=G.read U
  have i2:f=0∨f=1∨f=2∨f=3∨f=4∨f=5:=by
   have h6:=U4 _ (zR hu)
   have h7:=U.to
   simp only at h6 h7
   omega
  have d0:V.cell? (aV g 0)=some (pV ub uo):=by simp[World.cell?,aj]
  have d1:V.cell? (aV g 1)=some (iV f):=by simp[World.cell?,aj]
  have d2:V.cell? (aV g 2)=some (iV c):=by simp[World.cell?,aj]
  have b13:V.cell? (aV Bf 0)=some (.func (.func 68) #[] #[]):=KE r.o.find (by simp) (Hh (by decide)) G
  obtain ⟨ml,ai,ie,ae,dw,X,fq⟩:=r.o.lets.read G
  obtain ⟨mc,ak,ic,a0,et,R,g6⟩:=r.o.crops.read G
  obtain ⟨mr,al,ig,a2,e2,K,f9⟩:=r.o.reaches.read G
  obtain ⟨mf,ah,ib,a6,fh,J,gz⟩:=r.o.farms.read G
  have HX:=yb hX;have F:=yb aa;have ih:=yb U;have P:=yb G;have A:=yb c1;have E:=yb cf;have l:=yb c0;have hw:=yb e4;have dk:=yb ac
  have ML:=yb dw;have MC:=yb et;have MR:=yb e2;have MF:=yb fh
  have SL:=yb fq;have SC:=yb g6;have SR:=yb f9;have SF:=yb gz
  have m:Hid (d.size<=maxLen):=yb U.len
  have B:Hid (∀v,AO O V (V.setCell (aV ub (uo+1)) v)):=yb (fun v=>⟨by simp,fun b hb=>zh V (aV ub (uo+1)) b v (fun e=>by
   have h1:=G.own b hb
   have h2:=U.lt
   simp only at e h2
   omega)⟩)
  clear hX aa U G c1 cf c0 e4 ac dw et e2 fh fq g6 f9 gz hu i6 i0 aj hl fb hk
  rcases i2 with rfl|rfl|rfl|rfl|rfl|rfl
  ·have c0:=l.o;have c1:=A.o
   obtain rfl:=hw.o rfl
   clear ae X a0 R a2 K a6 J d2 b13
   cases hb:J1 (Tb.of x) ⟨ub,uo,0,c,d,z⟩ with
   |true=>
    have Y:=yb hb
    obtain ⟨en,hy⟩:d.size=0∧z=0:=by
     have h:=hb
     unfold J1 JF at h
     simpa using h
    have hq:d=⟨#[]⟩:=by
     have h:=(Ds d).1 en
     exact NY h
    clear hb en
    subst hy
    subst hq
    gi_wp2_with fail
    refine ⟨trivial,zj (CallsIn.inRound lo (yX.2 (Cp _ _))) ?_⟩
    rintro e w4 ⟨rfl,q⟩
    obtain rfl:=q.symm
    gi_wp2_with fail
    exact ⟨AO.refl _ _,P.o.skip HX.o rfl Y.o⟩
   |false=>
    have Y:=yb hb
    have dx:¬ (d.size=0∧z=0):=by
     have h:=hb
     unfold J1 JF at h
     simpa using h
    clear hb
    have j:=yb (r.o.bad F.o Y.o)
    have i7:=yb dx
    clear dx
    gi_wp2_with fail
    all_goals first
     |exact absurd ⟨(Ds _).2 (by assumption),(by assumption)⟩ i7.o
     |(refine ⟨trivial,zj (CallsIn.inRound lo (yX.2 (Cj _ _))) ?_⟩
       rintro e w4 ⟨rfl,q⟩
       obtain rfl:=q.symm
       try gi_wp2_with fail
       exact ⟨rfl,AO.refl _ _,rfl,j.o,_,P.o⟩)
  ·have c0:=l.o;have c1:=A.o;have cf:=E.o
   clear a0 R a2 K a6 J d2 c0 c1 cf
   cases hb:J1 (Tb.of x) ⟨ub,uo,1,c,d,s⟩ with
   |true=>
    obtain ⟨i,t,I,C,p⟩:=FZ (to:=1) (by decide) hb
    have Y:=yb hb;have HV:=yb I
    have H:=yb (FQ (most:=(ai.size:Int)) l.o A.o E.o ML.o m.o t (by rw[SL.o];exact Int.ofNat_lt.2 p))
    clear hb t I C p
    have y:∀ty,(Builtin.len_ #[137] ty #[.map (some ml)]).run Tryz.prog V=.ok (iV (ai.size:Int)) V:=fun ty=>Ft X ty
    gi_wp2_with fail
    refine ⟨trivial,zj (CallsIn.inRound lo (yX.2 H.o)) ?_⟩
    rintro e w4 ⟨rfl,rfl⟩
    gi_wp2_with fail
    exact ⟨B.o _,by have h:=P.o.next r.o.uok HX.o (show (1:Int)≠0 by decide) Y.o;rw[show Gz (Tb.of x) (Ey (⟨ub,uo,1,c,d,s⟩:Us).to) (⟨ub,uo,1,c,d,s⟩:Us).name=_ from HV.o] at h;exact h⟩
   |false=>
    have S:=G0 (to:=1) (by decide) hb
    have j:=yb (r.o.bad F.o hb)
    have H:=yb (He (most:=(ai.size:Int)) l.o ML.o m.o (fun i t=>absurd (S i t).1 (show ¬ early 1=true by decide)))
    clear hb S
    have y:∀ty,(Builtin.len_ #[137] ty #[.map (some ml)]).run Tryz.prog V=.ok (iV (ai.size:Int)) V:=fun ty=>Ft X ty
    gi_wp2_with fail
    refine ⟨trivial,zj (CallsIn.inRound lo (yX.2 H.o)) ?_⟩
    rintro e w4 ⟨rfl,q⟩
    obtain rfl:=q.symm
    try gi_wp2_with fail
    exact ⟨rfl,AO.refl _ _,rfl,j.o,_,P.o⟩
  ·have c0:=l.o;have c1:=A.o;have cf:=E.o
   clear a0 R a2 K a6 J c0 c1 cf
   cases hb:J1 (Tb.of x) ⟨ub,uo,2,c,d,s⟩ with
   |true=>
    obtain ⟨i,t,I,C,p⟩:=FZ (to:=2) (by decide) hb
    have Y:=yb hb;have HV:=yb I
    have H:=yb (FQ (most:=c) l.o A.o E.o ML.o m.o t (by simpa using C rfl))
    clear hb t I C p
    gi_wp2_with fail
    refine ⟨trivial,zj (CallsIn.inRound lo (yX.2 H.o)) ?_⟩
    rintro e w4 ⟨rfl,rfl⟩
    gi_wp2_with fail
    exact ⟨B.o _,by have h:=P.o.next r.o.uok HX.o (show (2:Int)≠0 by decide) Y.o;rw[show Gz (Tb.of x) (Ey (⟨ub,uo,2,c,d,s⟩:Us).to) (⟨ub,uo,2,c,d,s⟩:Us).name=_ from HV.o] at h;exact h⟩
   |false=>
    have S:=G0 (to:=2) (by decide) hb
    have j:=yb (r.o.bad F.o hb)
    have H:=yb (He (most:=c) l.o ML.o m.o (fun i t=>(S i t).2))
    clear hb S
    gi_wp2_with fail
    refine ⟨trivial,zj (CallsIn.inRound lo (yX.2 H.o)) ?_⟩
    rintro e w4 ⟨rfl,q⟩
    obtain rfl:=q.symm
    try gi_wp2_with fail
    exact ⟨rfl,AO.refl _ _,rfl,j.o,_,P.o⟩
  ·have c0:=l.o;have c1:=A.o;have cf:=E.o
   clear ae X a2 K a6 J d2 c0 c1 cf
   cases hb:J1 (Tb.of x) ⟨ub,uo,3,c,d,s⟩ with
   |true=>
    obtain ⟨i,t,I,C,p⟩:=FZ (to:=3) (by decide) hb
    have Y:=yb hb;have HV:=yb I
    have H:=yb (FQ (most:=(ak.size:Int)) l.o A.o E.o MC.o m.o t (by rw[SC.o];exact Int.ofNat_lt.2 p))
    clear hb t I C p
    have y:∀ty,(Builtin.len_ #[137] ty #[.map (some mc)]).run Tryz.prog V=.ok (iV (ak.size:Int)) V:=fun ty=>Ft R ty
    gi_wp2_with fail
    refine ⟨trivial,zj (CallsIn.inRound lo (yX.2 H.o)) ?_⟩
    rintro e w4 ⟨rfl,rfl⟩
    gi_wp2_with fail
    exact ⟨B.o _,by have h:=P.o.next r.o.uok HX.o (show (3:Int)≠0 by decide) Y.o;rw[show Gz (Tb.of x) (Ey (⟨ub,uo,3,c,d,s⟩:Us).to) (⟨ub,uo,3,c,d,s⟩:Us).name=_ from HV.o] at h;exact h⟩
   |false=>
    have S:=G0 (to:=3) (by decide) hb
    have j:=yb (r.o.bad F.o hb)
    have H:=yb (He (most:=(ak.size:Int)) l.o MC.o m.o (fun i t=>absurd (S i t).1 (show ¬ early 3=true by decide)))
    clear hb S
    have y:∀ty,(Builtin.len_ #[137] ty #[.map (some mc)]).run Tryz.prog V=.ok (iV (ak.size:Int)) V:=fun ty=>Ft R ty
    gi_wp2_with fail
    refine ⟨trivial,zj (CallsIn.inRound lo (yX.2 H.o)) ?_⟩
    rintro e w4 ⟨rfl,q⟩
    obtain rfl:=q.symm
    try gi_wp2_with fail
    exact ⟨rfl,AO.refl _ _,rfl,j.o,_,P.o⟩
  ·have c0:=l.o;have c1:=A.o;have cf:=E.o
   clear ae X a0 R a6 J d2 c0 c1 cf
   cases hb:J1 (Tb.of x) ⟨ub,uo,4,c,d,s⟩ with
   |true=>
    obtain ⟨i,t,I,C,p⟩:=FZ (to:=4) (by decide) hb
    have Y:=yb hb;have HV:=yb I
    have H:=yb (FQ (most:=(al.size:Int)) l.o A.o E.o MR.o m.o t (by rw[SR.o];exact Int.ofNat_lt.2 p))
    clear hb t I C p
    have y:∀ty,(Builtin.len_ #[137] ty #[.map (some mr)]).run Tryz.prog V=.ok (iV (al.size:Int)) V:=fun ty=>Ft K ty
    gi_wp2_with fail
    refine ⟨trivial,zj (CallsIn.inRound lo (yX.2 H.o)) ?_⟩
    rintro e w4 ⟨rfl,rfl⟩
    gi_wp2_with fail
    exact ⟨B.o _,by have h:=P.o.next r.o.uok HX.o (show (4:Int)≠0 by decide) Y.o;rw[show Gz (Tb.of x) (Ey (⟨ub,uo,4,c,d,s⟩:Us).to) (⟨ub,uo,4,c,d,s⟩:Us).name=_ from HV.o] at h;exact h⟩
   |false=>
    have S:=G0 (to:=4) (by decide) hb
    have j:=yb (r.o.bad F.o hb)
    have H:=yb (He (most:=(al.size:Int)) l.o MR.o m.o (fun i t=>absurd (S i t).1 (show ¬ early 4=true by decide)))
    clear hb S
    have y:∀ty,(Builtin.len_ #[137] ty #[.map (some mr)]).run Tryz.prog V=.ok (iV (al.size:Int)) V:=fun ty=>Ft K ty
    gi_wp2_with fail
    refine ⟨trivial,zj (CallsIn.inRound lo (yX.2 H.o)) ?_⟩
    rintro e w4 ⟨rfl,q⟩
    obtain rfl:=q.symm
    try gi_wp2_with fail
    exact ⟨rfl,AO.refl _ _,rfl,j.o,_,P.o⟩
  ·have c0:=l.o;have c1:=A.o;have cf:=E.o
   clear ae X a0 R a2 K d2 c0 c1 cf
   cases hb:J1 (Tb.of x) ⟨ub,uo,5,c,d,s⟩ with
   |true=>
    obtain ⟨i,t,I,C,p⟩:=FZ (to:=5) (by decide) hb
    have Y:=yb hb;have HV:=yb I
    have H:=yb (FQ (most:=(ah.size:Int)) l.o A.o E.o MF.o m.o t (by rw[SF.o];exact Int.ofNat_lt.2 p))
    clear hb t I C p
    have y:∀ty,(Builtin.len_ #[137] ty #[.map (some mf)]).run Tryz.prog V=.ok (iV (ah.size:Int)) V:=fun ty=>Ft J ty
    gi_wp2_with fail
    refine ⟨trivial,zj (CallsIn.inRound lo (yX.2 H.o)) ?_⟩
    rintro e w4 ⟨rfl,rfl⟩
    gi_wp2_with fail
    exact ⟨B.o _,by have h:=P.o.next r.o.uok HX.o (show (5:Int)≠0 by decide) Y.o;rw[show Gz (Tb.of x) (Ey (⟨ub,uo,5,c,d,s⟩:Us).to) (⟨ub,uo,5,c,d,s⟩:Us).name=_ from HV.o] at h;exact h⟩
   |false=>
    have S:=G0 (to:=5) (by decide) hb
    have j:=yb (r.o.bad F.o hb)
    have H:=yb (He (most:=(ah.size:Int)) l.o MF.o m.o (fun i t=>absurd (S i t).1 (show ¬ early 5=true by decide)))
    clear hb S
    have y:∀ty,(Builtin.len_ #[137] ty #[.map (some mf)]).run Tryz.prog V=.ok (iV (ah.size:Int)) V:=fun ty=>Ft J ty
    gi_wp2_with fail
    refine ⟨trivial,zj (CallsIn.inRound lo (yX.2 H.o)) ?_⟩
    rintro e w4 ⟨rfl,q⟩
    obtain rfl:=q.symm
    try gi_wp2_with fail
    exact ⟨rfl,AO.refl _ _,rfl,j.o,_,P.o⟩
 ·intro ho D O V hD fv G af
  have hx:(BQ W5 L x).2=true:=by
   cases hx:(BQ W5 L x).2 with
   |true=>rfl
   |false=>rw[hx] at ho;cases ho
  have a8:RJ w.heap.size W5 (Tb.of x) (Cw W5 L x) (Cw W5 L x).length O V:=by
   have h:(EJ L x).length+((BQ W5 L x).1.map Us.v).length=(Cw W5 L x).length:=by unfold Cw;simp
   rw[<-h];exact G
  have hA:=a8.amid r.o.amid
  have ag:w.heap.size+3<=D:=by
   obtain ⟨v,Z⟩:=r.o.amid.e
   have h1:=(yd.1 Z).1
   have h2:=am.o.size
   omega
  obtain ⟨cs,an,dj,dl⟩:=r.o.src a8 hx
  rw[r.o.ls] at dj
  obtain ⟨row,ej,dn⟩:=hA.x
  obtain ⟨ve,Z⟩:=hA.e
  have bo:=MD dl
  have c3:(V.setRow (w.heap.size+1) cs.toArray).cell? (aV (w.heap.size+2) 0)=some ve:=by
   simp only[World.cell?,World.setRow,yL,yq (show ¬ w.heap.size+1=w.heap.size+2 by omega)]
   simp[Z]
  have f3:(V.setRow (w.heap.size+1) cs.toArray).frozen? (aV (w.heap.size+2) 0)=false:=by
   simp only[World.frozen?,World.setRow,yL,yq (show ¬ w.heap.size+1=w.heap.size+2 by omega)]
   simp[Z]
  have gs:Hid ((Tryz.prog.info? 35).map (·.size)=some cs.length):=yb (by rw[an];kernel_rfl)
  have fd:Hid ((Tryz.prog.info? 35).map (·.size)=some cs.toArray.size):=yb (by rw[yM];exact gs.o)
  have h0:=r.o.good a8 hx
  have T:Below w.heap.size w ((V.setRow (w.heap.size+1) cs.toArray).setCell (aV (w.heap.size+2) 0) (iV 0)):=hA.below.trans ⟨rfl,rfl,rfl,by simp[World.setRow],fun b hb=>by
   rw[zh _ _ _ _ (by simp;omega)]
   simp only[World.setRow,yL,yq (show ¬ w.heap.size+1=b by omega)]⟩
  have eh:((V.setRow (w.heap.size+1) cs.toArray).setCell (aV (w.heap.size+2) 0) (iV 0)).heap[w.heap.size+1]?=some (.cells cs.toArray 35 (0,0)):=by
   rw[zh _ _ _ _ (by simp)]
   simp[World.setRow,yL,dn]
  have em:((V.setRow (w.heap.size+1) cs.toArray).setCell (aV (w.heap.size+2) 0) (iV 0)).heap[w.heap.size+2]?=some (.cells j8 40 (0,0)):=by
   have:=zm (V.setRow (w.heap.size+1) cs.toArray) (w.heap.size+2) 0 #[ve] 40 (iV 0) (by simp[World.setRow,yL,Z])
   rw[this];rfl
  have ab:∀b,b≠w.heap.size+1->b≠w.heap.size+2->((V.setRow (w.heap.size+1) cs.toArray).setCell (aV (w.heap.size+2) 0) (iV 0)).heap[b]?=V.heap[b]?:=fun b h1 h2=>by
   rw[zh _ _ _ _ (by simpa using h2)]
   simp only[World.setRow,yL,yq (zX h1)]
  have g9:=(ab D (by omega) (by omega)).trans af
  have hh:W5.heap.size<=D:=by have:=am.o.size;omega
  have ia:=a8.size
  have dc:Px w.heap.size (((V.setRow (w.heap.size+1) cs.toArray).setCell (aV (w.heap.size+2) 0) (iV 0)).putObj D (.deferred none)) cs (Aj x):=by
   refine ⟨L,_,an,dl.same (fun _ h=>h) (fun b hb=>?_),fun b hb=>⟨hb.1,?_⟩⟩
   ·obtain ⟨k1,k2,k3,k4⟩:=hb
    rw[World.putObj_heap_other (by omega),ab b k3 k4]
   ·obtain ⟨k1,k2,k3,k4⟩:=hb
    simp[World.setRow];omega
  have dm:=yb (fun tm I=>HQ.o.done D tm _ cs I T eh em h0 ag g9 dc)
  have hj:=yb dj;have e1:=yb bo;have i1:=yb dn;have i8:Hid (row.size=cs.toArray.size):=yb (by rw[ej,yM,an])
  clear hx a8 hA ag dj dl ej dn Z bo h0 T eh em ab g9 hh ia dc hD fv G af ho an
  simp only[Exit.inBlock,Exit.then]
  refine A9 (A4 ?_)
  go_wp2_with (first|(refine yj rfl 35 _ rfl (w.heap.size+1) 0 rfl cs _ hj.o qP rfl gs.o ?_)|(refine za rfl 35 _ _ rfl (w.heap.size+1) cs.toArray rfl rfl 35 row i1.o fd.o i8.o (z6 e1.o) ?_))
  refine A4 ?_
  go_wp2
  exact dm.o _ ⟨rfl,rfl⟩
 ·rintro D ch O V hD fv ⟨rfl,cl,k,G⟩ af
  have ag:w.heap.size+3<=D:=by
   obtain ⟨v,Z⟩:=r.o.amid.e
   have h1:=(yd.1 Z).1
   have h2:=am.o.size
   omega
  simp only[Exit.inBlock,Exit.then]
  have h:=fun tm I=>HQ.o.failD D tm V I (G.amid r.o.amid) (by rw[cl];decide) ag af
  rw[cl] at h
  exact h _ ⟨rfl,rfl⟩
end Go.Proofs.YtjofgpfocadomaaGreatDoor
namespace Go.Proofs.YtjofgpfocadomaaGreatDoor
open Go.RowKit
section
variable{N:NP}{E E':Int->Ex->Nat->Nat->Prop}{R R':Int->Rf->Nat->Nat->Prop}{w W:World}{L:Bq}{x:Ax}
theorem C8.moved(h:C8 N E R W L x){Bx:Nat}(b:Ty W Bx 35)(a:∀q,q < 26->W.cell? ⟨Bx,q,none⟩=W.cell? ⟨L.s,q,none⟩)(c:∀lt e o,o+6<=26->E lt e L.s o->E lt e Bx o):C8 N E R W {L with s:=Bx} x:=
 ⟨b,⟨h.name.1,(a 0 (by omega)).trans h.name.2⟩,c _ _ _ (by omega) h.season,c _ _ _ (by omega) h.cap,c _ _ _ (by omega) h.start,(a _ (by omega)).trans h.hlets,(a _ (by omega)).trans h.hcrops,(a _ (by omega)).trans h.hreaches,(a _ (by omega)).trans h.hfarms,(a _ (by omega)).trans h.hrots,(a _ (by omega)).trans h.hrights,(a _ (by omega)).trans h.hduties,h.lets,h.crops,h.reaches,h.farms,h.rots,h.rights,h.duties⟩
theorem SW{M:NP}{Bx s:Nat}(b:∀q,q < 26->W.cell? ⟨Bx,q,none⟩=W.cell? ⟨s,q,none⟩)(lt:Int)(e:Ex)(o:Nat)(g:o+6<=26)(h:ET M W lt e s o):ET M W lt e Bx o:=by
 obtain ⟨c,h1,h2⟩:=h
 obtain ⟨a,cap,rfl,_⟩:=(h2.exV (N:=M) (fun _ h _=>h)).cells
 refine ⟨_,fun j v d=>?_,h2⟩
 have f:=(yx.1 d).1
 simp only[yv,yE] at f
 rw[b _ (by omega)]
 exact h1 j v d
theorem B7.same{b:Nat}{a:LB}{w':World}(h:B7 w b a)(hb:∀(c:Nat) (o:Obj),w.heap[c]?=some o->(∀row:Array Value,o≠Obj.cells row 35 (0,0))->w'.heap[c]?=w.heap[c]?):B7 w' b a:=by
 obtain ⟨m,h1,h2⟩:=h
 obtain ⟨f,d,h3,_⟩:=h2.size
 exact ⟨m,(hb b _ h1 (by rintro row e;cases e)).trans h1,h2.block (hb m _ h3 (by rintro row e;cases e))⟩
end
def RL(B:Nat)(W5:World)(t:Tb)(X:List Us)(n:Nat)(o:Obj)(k:Nat)(wr:World):Prop:=wr.heap.size=n∧RJ B W5 t X k (fun _=>False) (wr.alloc o)
section
variable{B:Nat}{W5 wr w':World}{t:Tb}{X:List Us}{n k:Nat}{o:Obj}
theorem RL.heap(h:RL B W5 t X n o k wr){b:Nat}(hb:b < n):(wr.alloc o).heap[b]?=wr.heap[b]?:=yA _ _ _ (by rw[h.1];exact hb)
theorem RL.cell(h:RL B W5 t X n o k wr){b q:Nat}(hb:b < n):(wr.alloc o).cell? ⟨b,q,none⟩=wr.cell? ⟨b,q,none⟩:=Ab (h.heap hb)
theorem RL.drew(h:RL B W5 t X n o k wr):RL B W5 t X n o k wr.drew:=⟨h.1,h.2.move (yf _) rfl rfl rfl (fun _ _=>rfl) (fun _ h=>h.elim)⟩
theorem Lz{b q:Nat}{v:Value}(hb:b < wr.heap.size):(wr.setCell ⟨b,q,none⟩ v).alloc o=(wr.alloc o).setCell ⟨b,q,none⟩ v:=by
 unfold World.setCell World.alloc
 simp only[World.mk.injEq,and_true]
 apply Array.ext_getElem?
 intro i
 simp only[Array.getElem?_push,yL,Array.size_modify]
 by_cases h1:i=wr.heap.size
 ·subst h1;simp[show ¬ b=wr.heap.size by omega]
 ·simp[h1]
theorem RL.next{u:Us}(h:RL B W5 t X n o k wr)(c:∀u∈X,Nf B W5 u)(d:X[k]?=some u)(hb:u.b < n)(h0:u.to≠0)(a:J1 t u=true):RL B W5 t X n o (k+1) (wr.setCell ⟨u.b,u.o+1,none⟩ (.int .i64 (Gz t (Ey u.to) u.name))):=by
 refine ⟨by simpa using h.1,?_⟩
 rw[Lz (by rw[h.1];exact hb)]
 exact h.2.next c d h0 a
theorem RL.skip{u:Us}(h:RL B W5 t X n o k wr)(b:X[k]?=some u)(h0:u.to=0)(a:J1 t u=true):RL B W5 t X n o (k+1) wr:=⟨h.1,h.2.skip b h0 a⟩
theorem RL.read{u:Us}(h:RL B W5 t X n o k wr)(a:Nf B W5 u)(hb:u.b < n):wr.cell? ⟨u.b,u.o,none⟩=some (.string u.name)∧(∃z,wr.cell? ⟨u.b,u.o+1,none⟩=some (.int .i64 z)∧(u.to=0->z=u.n))∧wr.frozen? ⟨u.b,u.o+1,none⟩=false:=by
 obtain ⟨h1,h2,h3⟩:=h.2.read a
 rw[h.cell hb] at h1 h2
 refine ⟨h1,h2,?_⟩
 unfold World.frozen? at h3 ⊢
 rw[h.heap hb] at h3
 exact h3
end
section
variable{w W5 wr:World}{x:Ax}{L:Bq}{N M:NP}{bl bc br bf Bf Bu k n:Nat}{t:Tb}{X:List Us}{o:Obj}
theorem RL.amid(c:JG w W5)(h:RL w.heap.size W5 t X n o k wr)(d:w.heap.size+3<=n):JG w wr:=by
 have a:=RJ.amid c h.2
 obtain ⟨row,h1,h2⟩:=a.x
 obtain ⟨v,h3⟩:=a.e
 rw[h.heap (by omega)] at h2 h3
 refine ⟨⟨a.below.os,a.below.tape,a.below.output,by rw[h.1];omega,fun b hb=>?_⟩,⟨row,h1,h2⟩,⟨v,h3⟩⟩
 rw[<-h.heap (by omega)]
 exact a.below.block b hb
theorem KF{f:Nat->List Us}{g:Nat->Us}:∀n,(∀i,i < n->f i=[g i])->(List.range n).flatMap f=(List.range n).map g
 |0,_=>rfl
 |n+1,h=>by rw[Ai,KF n (fun i hi=>h i (by omega)),h n (by omega),List.range_succ];simp
theorem KG{E:Int->Ex->Nat->Nat->Prop}{R:Int->Rf->Nat->Nat->Prop}(h:C8 N E R W5 L x):(EJ L x).length=x.reaches.length:=by
 unfold EJ
 rw[KF (g:=fun i=>⟨(L.reaches.at 51 i 1).block,(L.reaches.at 51 i 1).off,if i=0 then 0 else 6,i,(x.reaches.map (·.frm.name)).getD i ⟨#[]⟩,(x.reaches.map (·.frm.n)).getD i 0⟩) _ (fun i hi=>by
  have a:i < x.reaches.length:=by rw[<-h.reaches.1];exact hi
  unfold If;rw[yk a];simp[xH,a])]
 simp[h.reaches.1]
theorem Py{E:Int->Ex->Nat->Nat->Prop}{R:Int->Rf->Nat->Nat->Prop}(h:C8 N E R W5 L x){i g:Nat}(hi:i < x.reaches.length)(c:L.reaches.a=some ⟨g,0,none⟩):(Cw W5 L x)[i]?=some ⟨g,i*51+1,if i=0 then 0 else 6,i,x.reaches[i].frm.name,x.reaches[i].frm.n⟩:=by
 unfold Cw
 rw[zo (by rw[KG h];exact hi)]
 unfold EJ
 rw[KF (g:=fun i=>⟨(L.reaches.at 51 i 1).block,(L.reaches.at 51 i 1).off,if i=0 then 0 else 6,i,(x.reaches.map (·.frm.name)).getD i ⟨#[]⟩,(x.reaches.map (·.frm.n)).getD i 0⟩) _ (fun i hi=>by
  have b:i < x.reaches.length:=by rw[<-h.reaches.1];exact hi
  unfold If;rw[yk b];simp[xH,b])]
 rw[List.getElem?_map,List.getElem?_range (by rw[h.reaches.1];exact hi)]
 simp[xH,hi,AP c]
end
theorem Hi{ops:Array Oper}{p:Oper->Bool}{i:Nat}{o:Oper}(h:ops.all p=true)(a:ops[i]?=some o):p o=true:=by
 rw[zt] at h
 exact h o (zY a)
theorem A8{l:Array Bool}{i j:Nat}(h:i≠j):(l.setIfInBounds i true).getD j false=l.getD j false:=xd false h
theorem Bl{l:Array Value}{i j:Nat}{v:Value}(h:i≠j):(l.setIfInBounds i v).getD j undef=l.getD j undef:=by simp[h]
def MP(lo hi:Nat)(d:Option Tmp):Bool:=match d with
 |some k=>decide (lo<=k)&&decide (k<=hi)
 |none=>true
theorem EU{lo hi:Nat}{ops:Array Oper}{e:Act}{c:Array Bool->Array Value->World->Prop}{h:Nat->Value->World->Prop}{b:Array Bool}{a:Act}{w':World}(d:ops.all (fun o=>MP lo hi o.dst)=true)(hM:J4 ops e c h b a w'):
  ∀t,(t < lo∨hi < t)->a.tmps.getD t undef=e.tmps.getD t undef:=by
 intro t i
 refine hM.free t fun j g o f hd=>?_
 have hs:MP lo hi o.dst=true:=Hi (p:=fun o=>MP lo hi o.dst) d f
 rw[hd] at hs
 simp only[MP,yF,z7] at hs
 exact (show ¬ (lo<=t∧t<=hi) from by omega) hs
def UG(B g rn rc mr i:Nat)(j:Nat)(v:Value)(_:World):Prop:=match j with
 |0=>v=.func (.func 68) #[] #[]
 |1=>v=.pointer (some ⟨B+1,21,none⟩)
 |2=>v=.slice (some ⟨g,0,none⟩) rn rc
 |3=>v=.int .i64 i
 |4=>v=.pointer (some ⟨g,i*51,none⟩)
 |5=>v=.pointer (some ⟨g,i*51+1,none⟩)
 |6=>v=.map (some mr)
 |7=>v=.int .i64 i
 |_=>True
structure JX (R1 R2:World->Prop) (l:Array Bool) (_:Array Value) (w:World):Prop where
 one:l.getD 8 false=false->R1 w
 two:l.getD 8 false=true->R2 w
theorem JX.quiet{R1 R2:World->Prop}{l:Array Bool}{tm a:Array Value}{w:World}{i:Nat}(h:JX R1 R2 l tm w)(hi:i≠8):JX R1 R2 (l.setIfInBounds i true) a w:=
 ⟨fun k=>h.one (by rw[A8 hi] at k;exact k),fun k=>h.two (by rw[A8 hi] at k;exact k)⟩
theorem UH{k:Act}{wr:World}{Q:QT}{B Bf g rn rc br mr i:Nat}{R1 R2 R3:World->Prop}(ops:Array Oper)(m:DH Tryz.f32 32=some ops)
 (h2:k.tmps.getD 2 undef=.pointer (some ⟨B+1,0,none⟩))(K:k.tmps.getD 6 undef=.pointer (some ⟨br,0,none⟩))(E:k.tmps.getD 13 undef=.pointer (some ⟨Bf,0,none⟩))(s:k.tmps.getD 14 undef=.int .i64 i)(G:k.tmps.size=174)
 (hi:i < rn)(h0:R1 wr.drew)
 (z:∀W,R1 W->W.cell? ⟨Bf,0,none⟩=some (.func (.func 68) #[] #[])∧W.cell? ⟨B+1,21,none⟩=some (.slice (some ⟨g,0,none⟩) rn rc)∧W.cell? ⟨br,0,none⟩=some (.map (some mr)))
 (n:∀W,R1 W->Calls Tryz.prog 68 #[.pointer (some ⟨g,i*51+1,none⟩),.map (some mr),.int .i64 i] W fun e w'=>(e=.returned (.tuple #[])∧R2 w')∨(e=.panicked (Er 170)∧R3 w'))
 (A:∀(a:Act) W,a.defers=k.defers->(∀t,(t < 105∨113 < t)->a.tmps.getD t undef=k.tmps.getD t undef)->R3 W->Q (.panic (Er 170)) a W)
 (x:∀(a:Act) W,a.tmps.size=174->a.defers=k.defers->(∀t,(t < 105∨113 < t)->a.tmps.getD t undef=k.tmps.getD t undef)->R2 W->Q .normal a W):
  (Code.region 32 ops true).wp Tryz.prog Q k wr:=by
 obtain rfl:=yi ((rfl:DH Tryz.f32 32=some _).symm.trans m)
 clear m
 refine BN (by kernel_rfl) (JX R1 R2) (UG B g rn rc mr i) (fun _ _ _=>True) (by kernel_rfl) (by rw[G];kernel_rfl) (by kernel_rfl) (fun _ j v w w' _ _ _ h=>by unfold UG at h ⊢;exact h) ⟨fun _=>h0,fun h=>(by cases h)⟩ ?_ ?_
 ·intro O c a w' hM b o l
  have f:=yb hM.ext
  have D:=(yd.1 l).1
  have y:=hM.size
  have U:=yb hi
  have M:(i:Int) < (rn:Int):=by omega
  match O,D with
  |0,_=>
   have d:=hM.old b 13 (by kernel_rfl) _ E
   have q:c.getD 8 false=false:=by
    rw[ym];intro u
    have:=A1 hM.down 8 8 0 (by kernel_rfl) u
    rw[hM.not_yet b] at this;cases this
   obtain ⟨H,J,I⟩:=z _ (f.o.one q)
   clear hi
   obtain rfl:=yi l
   go_simp
   exact ⟨_,rfl,f.o.quiet (by decide),trivial,rfl⟩
  |1,_=>
   have d:=hM.old b 2 (by kernel_rfl) _ h2
   clear hi
   obtain rfl:=yi l
   go_simp
   exact ⟨_,rfl,f.o.quiet (by decide),trivial,rfl⟩
  |2,_=>
   have d:a.tmps[106]?.getD undef=pV (B+1) 21:=hM.dep b 1 106 (by kernel_rfl) (by kernel_rfl)
   have q:c.getD 8 false=false:=by
    rw[ym];intro u
    have:=A1 hM.down 8 8 2 (by kernel_rfl) u
    rw[hM.not_yet b] at this;cases this
   obtain ⟨H,J,I⟩:=z _ (f.o.one q)
   clear hi
   obtain rfl:=yi l
   go_simp
   exact ⟨_,rfl,f.o.quiet (by decide),trivial,rfl⟩
  |3,_=>
   have d:=hM.old b 14 (by kernel_rfl) _ s
   clear hi
   obtain rfl:=yi l
   go_simp
   exact ⟨_,rfl,f.o.quiet (by decide),trivial,rfl⟩
  |4,_=>
   have R:a.tmps[107]?.getD undef=.slice (some (aV g 0)) rn rc:=hM.dep b 2 107 (by kernel_rfl) (by kernel_rfl)
   have P:a.tmps[108]?.getD undef=iV i:=hM.dep b 3 108 (by kernel_rfl) (by kernel_rfl)
   clear hi
   obtain rfl:=yi l
   go_simp
   exact ⟨_,rfl,f.o.quiet (by decide),trivial,rfl⟩
  |5,_=>
   have d:a.tmps[109]?.getD undef=pV g (i*51):=hM.dep b 4 109 (by kernel_rfl) (by kernel_rfl)
   clear hi
   obtain rfl:=yi l
   go_simp
   exact ⟨_,rfl,f.o.quiet (by decide),trivial,rfl⟩
  |6,_=>
   have d:=hM.old b 6 (by kernel_rfl) _ K
   have q:c.getD 8 false=false:=by
    rw[ym];intro u
    have:=A1 hM.down 8 8 6 (by kernel_rfl) u
    rw[hM.not_yet b] at this;cases this
   obtain ⟨H,J,I⟩:=z _ (f.o.one q)
   clear hi
   obtain rfl:=yi l
   go_simp
   exact ⟨_,rfl,f.o.quiet (by decide),trivial,rfl⟩
  |7,_=>
   have d:=hM.old b 14 (by kernel_rfl) _ s
   clear hi
   obtain rfl:=yi l
   go_simp
   exact ⟨_,rfl,f.o.quiet (by decide),trivial,rfl⟩
  |8,_=>
   have R:a.tmps[105]?.getD undef=.func (.func 68) #[] #[]:=hM.dep b 0 105 (by kernel_rfl) (by kernel_rfl)
   have P:a.tmps[110]?.getD undef=pV g (i*51+1):=hM.dep b 5 110 (by kernel_rfl) (by kernel_rfl)
   have V:a.tmps[111]?.getD undef=.map (some mr):=hM.dep b 6 111 (by kernel_rfl) (by kernel_rfl)
   have T:a.tmps[112]?.getD undef=iV i:=hM.dep b 7 112 (by kernel_rfl) (by kernel_rfl)
   have F:=f.o.one (hM.not_yet b)
   have L:=yb (n _ F)
   have S:=yb (EU (lo:=105) (hi:=113) (by kernel_rfl) hM)
   have C:=yb hM.defers
   have N:Hid (8 < c.size):=yb (by rw[y];show 8 < 9;omega)
   clear hi
   obtain rfl:=yi l
   go_simp
   refine L.o.mono ?_
   rintro e w2 (⟨rfl,p⟩|⟨rfl,p⟩)
   ·exact ⟨_,rfl,⟨fun h=>(by simp[N.o] at h),fun _=>p⟩,trivial,trivial⟩
   ·exact A _ _ C.o S.o p
 ·intro c a w' r hM
  exact x a w' (hM.tmps.trans G) hM.defers (EU (lo:=105) (hi:=113) (by kernel_rfl) hM) (hM.ext.two (r 8 (show 8 < 9 by omega)))
def Jr(n0:Nat)(w w':World):Prop:=w.heap.size<=w'.heap.size∧∀(b:Nat) (o:Obj),n0<=b->w.heap[b]?=some o->w'.heap[b]?=some o∨∃z a:Value,o=.cells #[z] 137 (0,0)∧w'.heap[b]?=some (.cells #[a] 137 (0,0))
theorem Jr.refl(n0:Nat)(w:World):Jr n0 w w:=⟨yf _,fun _ _ _ h=>.inl h⟩
theorem Jr.below{n0:Nat}{w w':World}(h:Below w.heap.size w w'):Jr n0 w w':=⟨h.size,fun b _ _ hb=>.inl ((h.block b (yd.1 hb).1).trans hb)⟩
theorem BR.leB{n0:Nat}{w w':World}{m:Nat}{b:LB}(h:BR w m b)(c:Jr n0 w w')(e:n0<=m):BR w' m b:=by
 obtain ⟨d,a,h1,h2⟩:=h
 rcases c.2 m _ e h1 with h3|⟨z,f,h3,_⟩
 ·exact ⟨d,a,h3,h2⟩
 ·cases h3
def I1(n0:Nat)(v:Value)(w:World):Prop:=∃b z,v=.pointer (some ⟨b,0,none⟩)∧n0<=b∧w.heap[b]?=some (.cells #[z] 137 (0,0))
theorem I1.leB{n0:Nat}{v:Value}{w w':World}(h:I1 n0 v w)(c:Jr n0 w w'):I1 n0 v w':=by
 obtain ⟨b,z,h1,h2,h3⟩:=h
 rcases c.2 b _ h2 h3 with a|⟨_,d,_,a⟩
 ·exact ⟨b,z,h1,h2,a⟩
 ·exact ⟨b,d,h1,h2,a⟩
def F7(n0:Nat)(v:Value)(a:LB)(w:World):Prop:=∃m,v=.map (some m)∧n0<=m∧BR w m a∧a.Nodup
theorem F7.leB{n0:Nat}{v:Value}{a:LB}{w w':World}(h:F7 n0 v a w)(b:Jr n0 w w'):F7 n0 v a w':=by
 obtain ⟨m,h1,h2,h3,c⟩:=h
 exact ⟨m,h1,h2,h3.leB b h2,c⟩
def U5(n0 B:Nat)(h0 h1 h2 h3:As)(n0s n1s n2s n3s:LB)(j:Nat)(v:Value)(w:World):Prop:=match j with
 |0=>v=.pointer (some ⟨B,19,none⟩)
 |1=>v=.slice h0.a h0.n h0.c
 |2=>F7 n0 v n0s w
 |3=>v=.pointer (some ⟨B,20,none⟩)
 |4=>v=.slice h1.a h1.n h1.c
 |5=>F7 n0 v n1s w
 |6=>v=.pointer (some ⟨B,21,none⟩)
 |7=>v=.slice h2.a h2.n h2.c
 |8=>F7 n0 v n2s w
 |9=>v=.pointer (some ⟨B,22,none⟩)
 |10=>v=.slice h3.a h3.n h3.c
 |11=>F7 n0 v n3s w
 |12|13|14|15=>I1 n0 v w
 |_=>True
theorem NZ{n0 B:Nat}{h0 h1 h2 h3:As}{n0s n1s n2s n3s:LB}(j:Nat)(v:Value)(w w':World)(a:Jr n0 w w')(h:U5 n0 B h0 h1 h2 h3 n0s n1s n2s n3s j v w):U5 n0 B h0 h1 h2 h3 n0s n1s n2s n3s j v w':=by
 unfold U5 at h ⊢
 split at h
 all_goals first|exact h|exact h.leB a
def UP(n0:Nat)(v:Value)(a:LB)(w:World):Prop:=∃b,v=.pointer (some ⟨b,0,none⟩)∧n0<=b∧b < w.heap.size∧B7 w b a
def Vq(n0:Nat)(n0s n1s n2s n3s:LB)(l:Array Bool)(tm:Array Value)(w:World)(q:Nat):Prop:=l.getD (16+q) false=true->UP n0 (tm.getD (4+q) undef) ((([n0s,n1s,n2s,n3s]:List LB))[q]?.getD []) w
structure FG (n0:Nat) (V:World) (n0s n1s n2s n3s:List ByteArray) (l:Array Bool) (tm:Array Value) (w:World):Prop where
 below:Below n0 V w
 apart:∀p q,p < 4->q < 4->p≠q->l.getD (12+p) false=true->l.getD (12+q) false=true->tm.getD (4+p) undef≠tm.getD (4+q) undef
 full:∀q,q < 4->Vq n0 n0s n1s n2s n3s l tm w q
section
variable{n0:Nat}{V w w':World}{n0s n1s n2s n3s:LB}{l:Array Bool}{tm:Array Value}
theorem B7.below{b:Nat}{a:LB}(h:B7 w b a)(hb:Below w.heap.size w w'):B7 w' b a:=by
 obtain ⟨m,h1,h2⟩:=h
 exact ⟨m,(hb.block b (yd.1 h1).1).trans h1,h2.block (hb.block m h2.lt)⟩
theorem FG.quiet(h:FG n0 V n0s n1s n2s n3s l tm w){i t:Nat}{v:Value}(hi:i < 12)(m:7 < t)(f:n0<=w.heap.size)(hb:Below w.heap.size w w'):FG n0 V n0s n1s n2s n3s (l.setIfInBounds i true) (tm.setIfInBounds t v) w':=by
 refine ⟨h.below.trans (hb.mono f),fun p q j a c e d=>?_,fun q a k=>?_⟩
 ·rw[A8 (by omega)] at e d
  rw[Bl (by omega),Bl (by omega)]
  exact h.apart p q j a c e d
 ·rw[A8 (by omega)] at k
  rw[Bl (by omega)]
  obtain ⟨b,h1,h2,h3,g⟩:=h.full q a k
  exact ⟨b,h1,h2,yu h3 hb.size,g.below hb⟩
theorem FG.alloc(h:FG n0 V n0s n1s n2s n3s l tm w){q:Nat}(v:q < 4)(s:n0<=w.heap.size)(n:tm.size=174)(g:∀p,p < 4->l.getD (12+p) false=true->I1 n0 (tm.getD (4+p) undef) w)(m:l.getD (16+q) false=false)(z:Value):
  FG n0 V n0s n1s n2s n3s (l.setIfInBounds (12+q) true) (tm.setIfInBounds (4+q) (.pointer (some ⟨w.heap.size,0,none⟩))) (w.alloc (.cells #[z] 137)):=by
 have hb:Below w.heap.size w (w.alloc (.cells #[z] 137)):=(yg _ _).alloc (yf _) _
 have a:(tm.setIfInBounds (4+q) (pV w.heap.size 0)).getD (4+q) undef=pV w.heap.size 0:=by simp[n,show 4+q < 174 by omega]
 have c:∀p,p < 4->p≠q->(l.setIfInBounds (12+q) true).getD (12+p) false=true->∃b,tm.getD (4+p) undef=pV b 0∧b < w.heap.size:=fun p f d k=>by
  rw[A8 (by omega)] at k
  obtain ⟨b,z,h1,_,h3⟩:=g p f k
  exact ⟨b,h1,(yd.1 h3).1⟩
 refine ⟨h.below.trans (hb.mono s),fun p r f hr d o j=>?_,fun p f k=>?_⟩
 ·by_cases i:p=q
  ·subst i
   obtain ⟨b,h1,h2⟩:=c r hr (zX d) j
   rw[a,Bl (by omega),h1]
   intro e;simp at e<;>omega
  ·obtain ⟨b,h1,h2⟩:=c p f i o
   by_cases t:r=q
   ·subst t
    rw[a,Bl (by omega),h1]
    intro e;simp at e<;>omega
   ·rw[Bl (by omega),Bl (by omega)]
    rw[A8 (by omega)] at o j
    exact h.apart p r f hr d o j
 ·rw[A8 (by omega)] at k
  by_cases i:p=q
  ·subst i;rw[m] at k;cases k
  ·rw[Bl (by omega)]
   obtain ⟨b,h1,h2,h3,u⟩:=h.full p f k
   exact ⟨b,h1,h2,yu h3 hb.size,u.below hb⟩
theorem FG.store(h:FG n0 V n0s n1s n2s n3s l tm w){q b m:Nat}{z:Value}(F:q < 4)(E:n0<=b)(hb:w.heap[b]?=some (.cells #[z] 137 (0,0)))(s:tm.getD (4+q) undef=.pointer (some ⟨b,0,none⟩))
 (I:BR w m ((([n0s,n1s,n2s,n3s]:List LB))[q]?.getD []))(u:l.getD (12+q) false=true)(j:∀p,p < 4->l.getD (16+p) false=true->l.getD (12+p) false=true):
  FG n0 V n0s n1s n2s n3s (l.setIfInBounds (16+q) true) tm (w.setCell ⟨b,0,none⟩ (.map (some m)))∧Jr n0 w (w.setCell ⟨b,0,none⟩ (.map (some m))):=by
 have d:(w.setCell (aV b 0) (.map (some m))).heap[b]?=some (.cells #[.map (some m)] 137 (0,0)):=by
  have:=zm w b 0 #[z] 137 (.map (some m)) hb
  rw[this];rfl
 have a:∀c,c≠b->(w.setCell (aV b 0) (.map (some m))).heap[c]?=w.heap[c]?:=fun c A=>zh w (aV b 0) c _ A
 have f:∀n i,BR w n i->BR (w.setCell (aV b 0) (.map (some m))) n i:=fun n i h=>by
  obtain ⟨J,y,h1,_⟩:=h.size
  exact h.block (a n (fun e=>by rw[e,hb] at h1;cases h1))
 refine ⟨⟨?_,fun p r t hr g C B=>?_,fun p t k=>?_⟩,by simp,fun c o A v=>?_⟩
 ·exact h.below.trans ⟨rfl,rfl,rfl,by simp,fun c A=>a c (by omega)⟩
 ·rw[A8 (by omega)] at C B
  exact h.apart p r t hr g C B
 ·by_cases D:p=q
  ·subst D
   exact ⟨b,s,E,by simpa using (yd.1 hb).1,m,d,f _ _ I⟩
  ·rw[A8 (by omega)] at k
   obtain ⟨x,h1,h2,h3,n,H,G⟩:=h.full p t k
   have g:x≠b:=fun e=>h.apart p q t F D (j p t k) u (by rw[h1,s,e])
   exact ⟨x,h1,h2,by simpa using h3,n,(a x g).trans H,f _ _ G⟩
 ·by_cases e:c=b
  ·subst e
   rw[hb] at v
   exact .inr ⟨z,.map (some m),(yi v).symm,d⟩
  ·exact .inl ((a c e).trans v)
end
theorem Vr{R:Act}{V:World}{Q:QT}{B:Nat}{h0 h1 h2 h3:As}{n0s n1s n2s n3s:LB}(ops:Array Oper)(U:DH Tryz.f32 11=some ops)
 (S:R.tmps.getD 1 undef=.pointer (some ⟨B,0,none⟩))(hz:R.tmps.size=174)
 (hc:∀W,Below V.heap.size V W->W.cell? ⟨B,19,none⟩=some (.slice h0.a h0.n h0.c)∧W.cell? ⟨B,20,none⟩=some (.slice h1.a h1.n h1.c)∧W.cell? ⟨B,21,none⟩=some (.slice h2.a h2.n h2.c)∧W.cell? ⟨B,22,none⟩=some (.slice h3.a h3.n h3.c))
 (a2:∀W,Below V.heap.size V W->B9 W h0 7 0 n0s)(af:∀W,Below V.heap.size V W->B9 W h1 7 0 n1s)(ad:∀W,Below V.heap.size V W->B9 W h2 51 0 n2s)(ae:∀W,Below V.heap.size V W->B9 W h3 12 0 n3s)
 (ab:n0s.length<=100000)(a8:n1s.length<=100000)(ag:n2s.length<=100000)(aa:n3s.length<=100000)
 (O:∀(a:Act) W,a.defers=R.defers->(∀t,(t < 4∨54 < t)->a.tmps.getD t undef=R.tmps.getD t undef)->Below V.heap.size V W->¬ (n0s.Nodup∧n1s.Nodup∧n2s.Nodup∧n3s.Nodup)->Q (.panic (Er 171)) a W)
 (a6:∀(a:Act) W (bl bc br bf:Nat),a.tmps.size=174->a.defers=R.defers->(∀t,t∉[4,5,6,7,43,44,45,46,47,48,49,50,51,52,53,54]->a.tmps.getD t undef=R.tmps.getD t undef)->
   a.tmps.getD 4 undef=.pointer (some ⟨bl,0,none⟩)->a.tmps.getD 5 undef=.pointer (some ⟨bc,0,none⟩)->a.tmps.getD 6 undef=.pointer (some ⟨br,0,none⟩)->a.tmps.getD 7 undef=.pointer (some ⟨bf,0,none⟩)->
   B7 W bl n0s->B7 W bc n1s->B7 W br n2s->B7 W bf n3s->(V.heap.size<=bl∧bl < W.heap.size)->(V.heap.size<=bc∧bc < W.heap.size)->(V.heap.size<=br∧br < W.heap.size)->(V.heap.size<=bf∧bf < W.heap.size)->Below V.heap.size V W->(n0s.Nodup∧n1s.Nodup∧n2s.Nodup∧n3s.Nodup)->Q .normal a W):
  (Code.region 11 ops true).wp Tryz.prog Q R V:=by
 obtain rfl:=yi ((rfl:DH Tryz.f32 11=some _).symm.trans U)
 clear U
 have T:∀ {ac:Array Bool->Array Value->World->Prop} {Pp:Nat->Value->World->Prop} {f:Array Bool} {a:Act} {w':World},J4 _ R ac Pp f a w'->∀t,t∉[4,5,6,7,43,44,45,46,47,48,49,50,51,52,53,54]->a.tmps.getD t undef=R.tmps.getD t undef:=fun hM t Z=>by
  refine hM.free t fun mm ah o A hd=>Z ?_
  have hs:=Hi (ops:=(Tryz.f32.body.bind (CK 11)).getD #[]) (p:=fun o=>match o.dst with|some k=>decide (k∈[4,5,6,7,43,44,45,46,47,48,49,50,51,52,53,54])|none=>true) (by kernel_rfl) A
  rw[hd] at hs
  exact yR hs
 refine BN (by kernel_rfl) (FG V.heap.size V n0s n1s n2s n3s) (U5 V.heap.size B h0 h1 h2 h3 n0s n1s n2s n3s) (fun _=>Jr V.heap.size) (by kernel_rfl) (by rw[hz];kernel_rfl) (by kernel_rfl) (fun _ j v w w' _ _ hl h=>NZ j v w w' hl h) ?_ ?_ ?_
 ·refine ⟨(yg _ _).drew,fun p q L hq ai k1 k2=>?_,fun q hq k=>?_⟩
  ·exfalso
   match p,L with
   |0,_=>cases k1
   |1,_=>cases k1
   |2,_=>cases k1
   |3,_=>cases k1
  ·exfalso
   match q,hq with
   |0,_=>cases k
   |1,_=>cases k
   |2,_=>cases k
   |3,_=>cases k
 ·intro ix f a w' hM i o A
  have r:=yb hM.ext
  have a7:=(yd.1 A).1
  have a0:V.heap.size<=w'.heap.size:=hM.ext.below.size
  have l:=yb a0
  have P:Hid (a.tmps.size=174):=yb (hM.tmps.trans hz)
  have HF:=yb (T hM)
  have N:=yb hM.defers
  have K:Hid (∀p,p < 4->f.getD (12+p) false=true->I1 V.heap.size (a.tmps.getD (4+p) undef) w'):=yb (fun p L k=>by
   match p,L with
   |0,_=>exact hM.done 12 k _ 4 rfl rfl
   |1,_=>exact hM.done 13 k _ 5 rfl rfl
   |2,_=>exact hM.done 14 k _ 6 rfl rfl
   |3,_=>exact hM.done 15 k _ 7 rfl rfl)
  clear a0
  match ix,a7 with
  |0,_=>
   have d:=hM.old i 1 (by kernel_rfl) _ S
   obtain rfl:=yi A
   go_simp
   exact ⟨_,rfl,r.o.quiet (by decide) (by decide) l.o (yg _ _),Jr.refl _ _,rfl⟩
  |1,_=>
   have d:a.tmps[43]?.getD undef=pV B 19:=hM.dep i 0 43 (by kernel_rfl) (by kernel_rfl)
   obtain ⟨x0,x1,x2,x3⟩:=hc _ r.o.below
   obtain rfl:=yi A
   go_simp
   exact ⟨_,rfl,r.o.quiet (by decide) (by decide) l.o (yg _ _),Jr.refl _ _,rfl⟩
  |2,_=>
   have d:a.tmps[44]?.getD undef=.slice h0.a h0.n h0.c:=hM.dep i 1 44 (by kernel_rfl) (by kernel_rfl)
   have M:=yb (Rd (a2 _ r.o.below) ab)
   unfold As.v at M
   obtain rfl:=yi A
   go_simp
   refine M.o.mono ?_
   rintro e w2 ⟨g,⟨s,m,rfl,H,I⟩|⟨s,rfl⟩⟩
   ·exact ⟨_,rfl,r.o.quiet (by decide) (by decide) l.o g,Jr.below g,m,rfl,yt l.o H,I,s⟩
   ·exact O _ _ N.o (fun t Z=>HF.o t (by simp;omega)) (r.o.below.trans (g.mono l.o)) (fun h=>s h.1)
  |3,_=>
   have d:=hM.old i 1 (by kernel_rfl) _ S
   obtain rfl:=yi A
   go_simp
   exact ⟨_,rfl,r.o.quiet (by decide) (by decide) l.o (yg _ _),Jr.refl _ _,rfl⟩
  |4,_=>
   have d:a.tmps[46]?.getD undef=pV B 20:=hM.dep i 3 46 (by kernel_rfl) (by kernel_rfl)
   obtain ⟨x0,x1,x2,x3⟩:=hc _ r.o.below
   obtain rfl:=yi A
   go_simp
   exact ⟨_,rfl,r.o.quiet (by decide) (by decide) l.o (yg _ _),Jr.refl _ _,rfl⟩
  |5,_=>
   have d:a.tmps[47]?.getD undef=.slice h1.a h1.n h1.c:=hM.dep i 4 47 (by kernel_rfl) (by kernel_rfl)
   have M:=yb (Pc (af _ r.o.below) a8)
   unfold As.v at M
   obtain rfl:=yi A
   go_simp
   refine M.o.mono ?_
   rintro e w2 ⟨g,⟨s,m,rfl,H,I⟩|⟨s,rfl⟩⟩
   ·exact ⟨_,rfl,r.o.quiet (by decide) (by decide) l.o g,Jr.below g,m,rfl,yt l.o H,I,s⟩
   ·exact O _ _ N.o (fun t Z=>HF.o t (by simp;omega)) (r.o.below.trans (g.mono l.o)) (fun h=>s h.2.1)
  |6,_=>
   have d:=hM.old i 1 (by kernel_rfl) _ S
   obtain rfl:=yi A
   go_simp
   exact ⟨_,rfl,r.o.quiet (by decide) (by decide) l.o (yg _ _),Jr.refl _ _,rfl⟩
  |7,_=>
   have d:a.tmps[49]?.getD undef=pV B 21:=hM.dep i 6 49 (by kernel_rfl) (by kernel_rfl)
   obtain ⟨x0,x1,x2,x3⟩:=hc _ r.o.below
   obtain rfl:=yi A
   go_simp
   exact ⟨_,rfl,r.o.quiet (by decide) (by decide) l.o (yg _ _),Jr.refl _ _,rfl⟩
  |8,_=>
   have d:a.tmps[50]?.getD undef=.slice h2.a h2.n h2.c:=hM.dep i 7 50 (by kernel_rfl) (by kernel_rfl)
   have M:=yb (Ny (ad _ r.o.below) ag)
   unfold As.v at M
   obtain rfl:=yi A
   go_simp
   refine M.o.mono ?_
   rintro e w2 ⟨g,⟨s,m,rfl,H,I⟩|⟨s,rfl⟩⟩
   ·exact ⟨_,rfl,r.o.quiet (by decide) (by decide) l.o g,Jr.below g,m,rfl,yt l.o H,I,s⟩
   ·exact O _ _ N.o (fun t Z=>HF.o t (by simp;omega)) (r.o.below.trans (g.mono l.o)) (fun h=>s h.2.2.1)
  |9,_=>
   have d:=hM.old i 1 (by kernel_rfl) _ S
   obtain rfl:=yi A
   go_simp
   exact ⟨_,rfl,r.o.quiet (by decide) (by decide) l.o (yg _ _),Jr.refl _ _,rfl⟩
  |10,_=>
   have d:a.tmps[52]?.getD undef=pV B 22:=hM.dep i 9 52 (by kernel_rfl) (by kernel_rfl)
   obtain ⟨x0,x1,x2,x3⟩:=hc _ r.o.below
   obtain rfl:=yi A
   go_simp
   exact ⟨_,rfl,r.o.quiet (by decide) (by decide) l.o (yg _ _),Jr.refl _ _,rfl⟩
  |11,_=>
   have d:a.tmps[53]?.getD undef=.slice h3.a h3.n h3.c:=hM.dep i 10 53 (by kernel_rfl) (by kernel_rfl)
   have M:=yb (Pd (ae _ r.o.below) aa)
   unfold As.v at M
   obtain rfl:=yi A
   go_simp
   refine M.o.mono ?_
   rintro e w2 ⟨g,⟨s,m,rfl,H,I⟩|⟨s,rfl⟩⟩
   ·exact ⟨_,rfl,r.o.quiet (by decide) (by decide) l.o g,Jr.below g,m,rfl,yt l.o H,I,s⟩
   ·exact O _ _ N.o (fun t Z=>HF.o t (by simp;omega)) (r.o.below.trans (g.mono l.o)) (fun h=>s h.2.2.2)
  |12,_=>
   have y:f.getD (16+0) false=false:=by
    rw[ym];intro X
    have:=A1 hM.down 8 16 12 (by kernel_rfl) X
    rw[hM.not_yet i] at this;cases this
   have F:=yb y
   clear y
   obtain rfl:=yi A
   go_simp
   exact ⟨_,rfl,r.o.alloc (q:=0) (by decide) l.o P.o K.o F.o _,Jr.below ((yg _ _).alloc (yf _) _),_,_,rfl,l.o,World.alloc_heap_new _ _⟩
  |13,_=>
   have y:f.getD (16+1) false=false:=by
    rw[ym];intro X
    have:=A1 hM.down 8 17 13 (by kernel_rfl) X
    rw[hM.not_yet i] at this;cases this
   have F:=yb y
   clear y
   obtain rfl:=yi A
   go_simp
   exact ⟨_,rfl,r.o.alloc (q:=1) (by decide) l.o P.o K.o F.o _,Jr.below ((yg _ _).alloc (yf _) _),_,_,rfl,l.o,World.alloc_heap_new _ _⟩
  |14,_=>
   have y:f.getD (16+2) false=false:=by
    rw[ym];intro X
    have:=A1 hM.down 8 18 14 (by kernel_rfl) X
    rw[hM.not_yet i] at this;cases this
   have F:=yb y
   clear y
   obtain rfl:=yi A
   go_simp
   exact ⟨_,rfl,r.o.alloc (q:=2) (by decide) l.o P.o K.o F.o _,Jr.below ((yg _ _).alloc (yf _) _),_,_,rfl,l.o,World.alloc_heap_new _ _⟩
  |15,_=>
   have y:f.getD (16+3) false=false:=by
    rw[ym];intro X
    have:=A1 hM.down 8 19 15 (by kernel_rfl) X
    rw[hM.not_yet i] at this;cases this
   have F:=yb y
   clear y
   obtain rfl:=yi A
   go_simp
   exact ⟨_,rfl,r.o.alloc (q:=3) (by decide) l.o P.o K.o F.o _,Jr.below ((yg _ _).alloc (yf _) _),_,_,rfl,l.o,World.alloc_heap_new _ _⟩
  |16,_=>
   have hb:I1 V.heap.size (a.tmps[4]?.getD undef) w':=hM.dep i 12 4 (by kernel_rfl) (by kernel_rfl)
   have H:F7 V.heap.size (a.tmps[45]?.getD undef) n0s w':=hM.dep i 2 45 (by kernel_rfl) (by kernel_rfl)
   obtain ⟨b,z,Y,x,g⟩:=hb
   obtain ⟨m,d2,G,E,J⟩:=H
   have C:∀p,p < 4->f.getD (16+p) false=true->f.getD (12+p) false=true:=fun p L k=>by
    match p,L with
    |0,_=>exact A1 hM.down 8 16 12 (by kernel_rfl) k
    |1,_=>exact A1 hM.down 8 17 13 (by kernel_rfl) k
    |2,_=>exact A1 hM.down 8 18 14 (by kernel_rfl) k
    |3,_=>exact A1 hM.down 8 19 15 (by kernel_rfl) k
   have D:=yb (r.o.store (q:=0) (m:=m) (by decide) x g (by rw[yB];exact Y) E (hM.came i 12 (by kernel_rfl)) C)
   have c1:w'.cell? (aV b 0)=some z:=by simp[World.cell?,g]
   have c2:w'.frozen? (aV b 0)=false:=by simp[World.frozen?,g]
   clear x g G E J C
   obtain rfl:=yi A
   go_simp
   exact ⟨undef,rfl,D.o.1,D.o.2,trivial⟩
  |17,_=>
   have hb:I1 V.heap.size (a.tmps[5]?.getD undef) w':=hM.dep i 13 5 (by kernel_rfl) (by kernel_rfl)
   have H:F7 V.heap.size (a.tmps[48]?.getD undef) n1s w':=hM.dep i 5 48 (by kernel_rfl) (by kernel_rfl)
   obtain ⟨b,z,Y,x,g⟩:=hb
   obtain ⟨m,d2,G,E,J⟩:=H
   have C:∀p,p < 4->f.getD (16+p) false=true->f.getD (12+p) false=true:=fun p L k=>by
    match p,L with
    |0,_=>exact A1 hM.down 8 16 12 (by kernel_rfl) k
    |1,_=>exact A1 hM.down 8 17 13 (by kernel_rfl) k
    |2,_=>exact A1 hM.down 8 18 14 (by kernel_rfl) k
    |3,_=>exact A1 hM.down 8 19 15 (by kernel_rfl) k
   have D:=yb (r.o.store (q:=1) (m:=m) (by decide) x g (by rw[yB];exact Y) E (hM.came i 13 (by kernel_rfl)) C)
   have c1:w'.cell? (aV b 0)=some z:=by simp[World.cell?,g]
   have c2:w'.frozen? (aV b 0)=false:=by simp[World.frozen?,g]
   clear x g G E J C
   obtain rfl:=yi A
   go_simp
   exact ⟨undef,rfl,D.o.1,D.o.2,trivial⟩
  |18,_=>
   have hb:I1 V.heap.size (a.tmps[6]?.getD undef) w':=hM.dep i 14 6 (by kernel_rfl) (by kernel_rfl)
   have H:F7 V.heap.size (a.tmps[51]?.getD undef) n2s w':=hM.dep i 8 51 (by kernel_rfl) (by kernel_rfl)
   obtain ⟨b,z,Y,x,g⟩:=hb
   obtain ⟨m,d2,G,E,J⟩:=H
   have C:∀p,p < 4->f.getD (16+p) false=true->f.getD (12+p) false=true:=fun p L k=>by
    match p,L with
    |0,_=>exact A1 hM.down 8 16 12 (by kernel_rfl) k
    |1,_=>exact A1 hM.down 8 17 13 (by kernel_rfl) k
    |2,_=>exact A1 hM.down 8 18 14 (by kernel_rfl) k
    |3,_=>exact A1 hM.down 8 19 15 (by kernel_rfl) k
   have D:=yb (r.o.store (q:=2) (m:=m) (by decide) x g (by rw[yB];exact Y) E (hM.came i 14 (by kernel_rfl)) C)
   have c1:w'.cell? (aV b 0)=some z:=by simp[World.cell?,g]
   have c2:w'.frozen? (aV b 0)=false:=by simp[World.frozen?,g]
   clear x g G E J C
   obtain rfl:=yi A
   go_simp
   exact ⟨undef,rfl,D.o.1,D.o.2,trivial⟩
  |19,_=>
   have hb:I1 V.heap.size (a.tmps[7]?.getD undef) w':=hM.dep i 15 7 (by kernel_rfl) (by kernel_rfl)
   have H:F7 V.heap.size (a.tmps[54]?.getD undef) n3s w':=hM.dep i 11 54 (by kernel_rfl) (by kernel_rfl)
   obtain ⟨b,z,Y,x,g⟩:=hb
   obtain ⟨m,d2,G,E,J⟩:=H
   have C:∀p,p < 4->f.getD (16+p) false=true->f.getD (12+p) false=true:=fun p L k=>by
    match p,L with
    |0,_=>exact A1 hM.down 8 16 12 (by kernel_rfl) k
    |1,_=>exact A1 hM.down 8 17 13 (by kernel_rfl) k
    |2,_=>exact A1 hM.down 8 18 14 (by kernel_rfl) k
    |3,_=>exact A1 hM.down 8 19 15 (by kernel_rfl) k
   have D:=yb (r.o.store (q:=3) (m:=m) (by decide) x g (by rw[yB];exact Y) E (hM.came i 15 (by kernel_rfl)) C)
   have c1:w'.cell? (aV b 0)=some z:=by simp[World.cell?,g]
   have c2:w'.frozen? (aV b 0)=false:=by simp[World.frozen?,g]
   clear x g G E J C
   obtain rfl:=yi A
   go_simp
   exact ⟨undef,rfl,D.o.1,D.o.2,trivial⟩
 ·intro f a w' u hM
  obtain ⟨bl,l1,l2,l3,l4⟩:=hM.ext.full 0 (by decide) (u 16 (show 16 < 20 by omega))
  obtain ⟨bc,c1,c2,c3,c4⟩:=hM.ext.full 1 (by decide) (u 17 (show 17 < 20 by omega))
  obtain ⟨br,r1,r2,r3,r4⟩:=hM.ext.full 2 (by decide) (u 18 (show 18 < 20 by omega))
  obtain ⟨bf,f1,f2,f3,f4⟩:=hM.ext.full 3 (by decide) (u 19 (show 19 < 20 by omega))
  obtain ⟨_,_,_,_,g0⟩:F7 V.heap.size _ n0s w':=hM.done 2 (u 2 (show 2 < 20 by omega)) _ 45 rfl rfl
  obtain ⟨_,_,_,_,g1⟩:F7 V.heap.size _ n1s w':=hM.done 5 (u 5 (show 5 < 20 by omega)) _ 48 rfl rfl
  obtain ⟨_,_,_,_,g2⟩:F7 V.heap.size _ n2s w':=hM.done 8 (u 8 (show 8 < 20 by omega)) _ 51 rfl rfl
  obtain ⟨_,_,_,_,g3⟩:F7 V.heap.size _ n3s w':=hM.done 11 (u 11 (show 11 < 20 by omega)) _ 54 rfl rfl
  exact a6 a w' bl bc br bf (hM.tmps.trans hz) hM.defers (T hM) l1 c1 r1 f1 l4 c4 r4 f4 ⟨l2,l3⟩ ⟨c2,c3⟩ ⟨r2,r3⟩ ⟨f2,f3⟩ hM.ext.below ⟨g0,g1,g2,g3⟩
theorem UQ{Q:QT}{w V W5:World}{x:Ax}{L:Bq}{N M:NP}{bl bc br bf Bf:Nat}(hQ:KA Q w x)(f:Ht w x W5 L N M bl bc br bf Bf V.heap.size)
 (a6:RL w.heap.size W5 (Tb.of x) (Cw W5 L x) V.heap.size (.cells #[.pointer (some ⟨w.heap.size+1,0,none⟩)] 85) 0 V)(al:Bf < V.heap.size)(ag:br < V.heap.size)(am:W5.heap.size=V.heap.size+1)
 (u0 u1 u8 u9 u10 u11 u12 u14 u15 u16 u17 u18 u19 u20 u21 u22 u23 u24 u25 u26 u27 u28 u29 u30 u31 u32 u33 u34 u35 u36 u37 u38 u39 u40 u41 u42 u43 u44 u45 u46 u47 u48 u49 u50 u51 u52 u53 u54 u55 u56 u57 u58 u59 u60 u61 u62 u63 u64 u65 u66 u67 u68 u69 u70 u71 u72 u73 u74 u75 u76 u77 u78 u79 u80 u81 u82 u83 u84 u85 u86 u87 u88 u89 u90 u91 u92 u93 u94 u95 u96 u97 u98 u99 u100 u101 u102 u103 u104 u105 u106 u107 u108 u109 u110 u111 u112 u113 u114 u115 u116 u117 u118 u119 u120 u121 u122 u123 u124 u125 u126 u127 u128 u129 u130 u131 u132 u133 u134 u135 u136 u137 u138 u139 u140 u141 u142 u143 u144 u145 u146 u147 u148 u149 u150 u151 u152 u153 u154 u155 u156 u157 u158 u159 u160 u161 u162 u163 u164 u165 u166 u167 u168 u169 u170 u171 u172 u173:Value):
  Fz 32 Tryz.prog (GR 19 (Tryz.f32.body.getD .skip)) Q {tmps:=#[u0,u1,.pointer (some ⟨w.heap.size+1,0,none⟩),.pointer (some ⟨w.heap.size+2,0,none⟩),.pointer (some ⟨bl,0,none⟩),.pointer (some ⟨bc,0,none⟩),.pointer (some ⟨br,0,none⟩),.pointer (some ⟨bf,0,none⟩),u8,u9,u10,u11,u12,.pointer (some ⟨Bf,0,none⟩),u14,u15,u16,u17,u18,u19,u20,u21,u22,u23,u24,u25,u26,u27,u28,u29,u30,u31,u32,u33,u34,u35,u36,u37,u38,u39,u40,u41,u42,u43,u44,u45,u46,u47,u48,u49,u50,u51,u52,u53,u54,u55,u56,u57,u58,u59,u60,u61,u62,u63,u64,u65,u66,u67,u68,u69,u70,u71,u72,u73,u74,u75,u76,u77,u78,u79,u80,u81,u82,u83,u84,u85,u86,u87,u88,u89,u90,u91,u92,u93,u94,u95,u96,u97,u98,u99,u100,u101,u102,u103,u104,u105,u106,u107,u108,u109,u110,u111,u112,u113,u114,u115,u116,u117,u118,u119,u120,u121,u122,u123,u124,u125,u126,u127,u128,u129,u130,u131,u132,u133,u134,u135,u136,u137,u138,u139,u140,u141,u142,u143,u144,u145,u146,u147,u148,u149,u150,u151,u152,u153,u154,u155,u156,u157,u158,u159,u160,u161,u162,u163,u164,u165,u166,u167,u168,u169,u170,u171,u172,u173],defers:=[J2 w.heap.size]} V:=by
 have R:=f.ls
 have Y:w.heap.size+3<=V.heap.size:=by
  obtain ⟨v,he⟩:=f.amid.e
  have h1:=(yd.1 he).1
  rcases zQ (w.heap.size+2) V.heap.size with h|h
  ·omega
  ·have h2:w.heap.size+2=V.heap.size:=by omega
   rw[h2,f.box] at he
   cases he
 have p:L.reaches.ok:=f.ps.reaches.ok
 have U:∀k wr,RL w.heap.size W5 (Tb.of x) (Cw W5 L x) V.heap.size (.cells #[.pointer (some ⟨w.heap.size+1,0,none⟩)] 85) k wr->wr.cell? ⟨w.heap.size+1,21,none⟩=some L.reaches.v:=fun k wr h=>by
  rw[<-h.cell (by omega),h.2.cells _ _ (by omega) (FY ⟨_,R▸f.ps.ty,rfl⟩),<-R]
  exact f.ps.hreaches
 have K:L.reaches.n<=140737488355328:=p.1
 have P:L.reaches.n=x.reaches.length:=f.ps.reaches.1
 have A:∀k wr,RL w.heap.size W5 (Tb.of x) (Cw W5 L x) V.heap.size (.cells #[.pointer (some ⟨w.heap.size+1,0,none⟩)] 85) k wr->wr.cell? ⟨Bf,0,none⟩=some (.func (.func 68) #[] #[]):=fun k wr h=>by
  rw[<-h.cell al];exact KE f.find (by simp) (Hh (by decide)) h.2
 obtain ⟨mr,af⟩:∃mr,∀k wr,RL w.heap.size W5 (Tb.of x) (Cw W5 L x) V.heap.size (.cells #[.pointer (some ⟨w.heap.size+1,0,none⟩)] 85) k wr->wr.cell? ⟨br,0,none⟩=some (.map (some mr))∧BR wr mr (x.reaches.map (·.name)):=by
  obtain ⟨m,h1,h2⟩:=f.reaches
  obtain ⟨es,ax,h3,_⟩:=h2.size
  have ay:m < V.heap.size:=by
   rcases zQ m V.heap.size with h|h
   ·exact h
   ·have h4:m=V.heap.size:=by have:=h2.lt;omega
    rw[h4,f.box] at h3;cases h3
  refine ⟨m,fun k wr h=>⟨?_,?_⟩⟩
  ·rw[<-h.cell ag];exact KE h1 (by simp) (Hh (by decide)) h.2
  ·refine h2.block ?_
   rw[<-h.heap ay]
   exact h.2.same m h2.lt (KD fun t ⟨c,hc⟩=>by rw[h3] at hc;cases hc)
 have ab:=yb U;have a2:=yb A;have S:=yb af
 have HQ:=yb hQ;have E:=yb f;have b9:=yb Y;have aq:=yb am;have HN:=yb P
 have aw:=yb a6
 have y:Hid (∀k tm wr,RL w.heap.size W5 (Tb.of x) (Cw W5 L x) V.heap.size (.cells #[.pointer (some ⟨w.heap.size+1,0,none⟩)] 85) k wr->Ly w.heap.size tm->AF x=170->Q (.panic (Er 170)) {tmps:=tm,defers:=[J2 w.heap.size]} wr):=yb (fun k tm wr h hv I=>by
  have:=hQ.fail tm wr hv (RL.amid f.amid h Y) (by rw[I];decide)
  rw[I] at this;exact this)
 have l:=U 0 V a6
 have ac:=f.ps.reaches.2.2
 have ap:=yb ac
 generalize an:L.reaches=rr at l K P
 obtain ⟨ra,rn,rc⟩:=rr
 have q:=yb an
 unfold As.v at l
 simp only at l K
 clear R Y p U P A af hQ f a6 al ag am ac an
 unfold J2
 refine A9 (A4 ?_)
 go_wp2
 clear l
 go_loopw [91] (fun iv wr=>∃i:Nat,iv=.int .i64 i∧i<=rn∧Hid (RL w.heap.size W5 (Tb.of x) (Cw W5 L x) V.heap.size (.cells #[.pointer (some ⟨w.heap.size+1,0,none⟩)] 85) i wr)) (fun iv _=>rn - (intOf iv).toNat)
 case atStart=>exact ⟨0,rfl,yH _,aw⟩
 case round=>
  obtain ⟨i,rfl,hi,HR⟩:=hrel
  by_cases ad:i < rn
  ·have hl:i < x.reaches.length:=by rw[<-HN.o,q.o];exact ad
   obtain ⟨g,ha,hg,ty,O⟩:=ap.o i hl
   rw[q.o] at ha
   simp only at ha
   subst ha
   have hX:=Py E.o.ps hl (by rw[q.o])
   have b:=zR hX
   have r:=E.o.uok _ b
   have ah:g < V.heap.size:=by
    have h1:=(E.o.hN g hg).2
    rcases zQ g V.heap.size with h|h
    ·exact h
    ·have h4:g=V.heap.size:=by have:=aq.o;omega
     obtain ⟨c,hc⟩:=ty
     rw[h4,E.o.box] at hc;cases hc
   have a0:(x.reaches[i].frm.name).size<=maxLen:=r.len
   generalize x.reaches[i].frm.name=Z at hX b r a0
   generalize x.reaches[i].frm.n=un at hX b r
   have HX:=yb hX;have H:=yb b;have a7:=yb r;have D:=yb ah;have J:=yb a0
   have ao:(i:Int) < (rn:Int):=by omega
   have bb:Hid (i < (x.reaches.map (·.name)).length):=yb (by rw[yT];exact hl)
   clear hX b r ah a0 hg ty O hl
   by_cases h0:i=0
   ·subst h0
    obtain ⟨c0,⟨z,c1,s⟩,cf⟩:=HR.o.read a7.o D.o
    simp only[Nat.zero_mul,yw] at c0 c1 s
    obtain rfl:=s (by simp)
    have b8:wr.cell? ⟨w.heap.size+1,21,none⟩=some (.slice (some ⟨g,0,none⟩) rn rc):=by
     have h:=ab.o _ _ HR.o
     rw[q.o] at h;exact h
    clear cf s
    cases hb:J1 (Tb.of x) ⟨g,0*51+1,if (0:Nat)=0 then 0 else 6,(0:Nat),Z,z⟩ with
    |true=>
     have HB:=yb hb
     obtain ⟨ae,az⟩:Z.size=0∧z=0:=by
      have h:=hb
      unfold J1 JF at h
      simpa using h
     have au:Z=⟨#[]⟩:=NY ((Ds Z).1 ae)
     clear hb ae
     subst az
     subst au
     go_wp2_with (first|(go_at_call 69;refine (Cp _ _).mono ?_;rintro e w5 ⟨rfl,T⟩;obtain rfl:=T.symm))
     exact ⟨⟨1,rfl,by omega,yb (HR.o.skip HX.o (by simp) HB.o)⟩,by simp[intOf];omega⟩
    |false=>
     have u:=yb (E.o.bad H.o hb)
     have a8:¬ (Z.size=0∧z=0):=by
      have h:=hb
      unfold J1 JF at h
      simpa using h
     have b5:=yb a8
     clear hb a8
     go_wp2_with (first|(exact absurd ⟨(Ds _).2 (by assumption),(by assumption)⟩ b5.o)|(go_at_call 69;refine (Cj _ _).mono ?_;rintro e w5 ⟨rfl,T⟩;obtain rfl:=T.symm))
     all_goals first
      |exact y.o _ _ _ HR.o ⟨rfl,rfl⟩ u.o
      |fail
   ·have aa:=yb HR.o.drew
    have X:(if i=0 then (0:Int) else 6)=6:=by rw[yq h0]
    have hS:∀W,RL w.heap.size W5 (Tb.of x) (Cw W5 L x) V.heap.size (.cells #[.pointer (some ⟨w.heap.size+1,0,none⟩)] 85) i W->W.cell? ⟨Bf,0,none⟩=some (.func (.func 68) #[] #[])∧W.cell? ⟨w.heap.size+1,21,none⟩=some (.slice (some ⟨g,0,none⟩) rn rc)∧W.cell? ⟨br,0,none⟩=some (.map (some mr)):=fun W h=>⟨a2.o _ _ h,by have h:=ab.o _ _ h;rw[q.o] at h;exact h,(S.o _ _ h).1⟩
    have HS:=yb hS
    have b7:((i:Int)==0)=false:=by simp;omega
    have ba:=yb X
    have G:=yb ad
    cases hb:J1 (Tb.of x) ⟨g,i*51+1,if i=0 then 0 else 6,(i:Int),Z,un⟩ with
    |true=>
     have HB:=yb hb
     rw[X] at hb
     obtain ⟨j,hp,hv,ai,ar⟩:=FZ (to:=6) (by decide) hb
     have d:Hid (∀W,RL w.heap.size W5 (Tb.of x) (Cw W5 L x) V.heap.size (.cells #[.pointer (some ⟨w.heap.size+1,0,none⟩)] 85) i W->Calls Tryz.prog 68 #[.pointer (some ⟨g,i*51+1,none⟩),.map (some mr),.int .i64 i] W fun e w'=>(e=.returned (.tuple #[])∧RL w.heap.size W5 (Tb.of x) (Cw W5 L x) V.heap.size (.cells #[.pointer (some ⟨w.heap.size+1,0,none⟩)] 85) (i+1) w')∨(e=.panicked (Er 170)∧False)):=yb (fun W h=>by
      obtain ⟨c0,⟨z,c1,s⟩,cf⟩:=h.read a7.o D.o
      refine (FQ (most:=(i:Int)) c0 c1 cf (S.o _ _ h).2 J.o hp (ai rfl)).mono ?_
      rintro e w2 ⟨rfl,rfl⟩
      refine .inl ⟨rfl,?_⟩
      have h:=h.next E.o.uok HX.o D.o (by simp only;rw[X];decide) HB.o
      simp only[X] at h
      rw[show Gz (Tb.of x) (Ey 6) Z=_ from hv] at h
      exact h)
     clear hb hp hv ai ar X hS h0
     go_wp2_with fail
     refine UH (B:=w.heap.size) (Bf:=Bf) (g:=g) (rn:=rn) (rc:=rc) (br:=br) (mr:=mr) (i:=i) (R1:=fun W=>RL w.heap.size W5 (Tb.of x) (Cw W5 L x) V.heap.size (.cells #[.pointer (some ⟨w.heap.size+1,0,none⟩)] 85) i W) (R2:=fun W=>RL w.heap.size W5 (Tb.of x) (Cw W5 L x) V.heap.size (.cells #[.pointer (some ⟨w.heap.size+1,0,none⟩)] 85) (i+1) W) (R3:=fun _=>False) _ ?_ ?_ ?_ ?_ ?_ ?_ ?_ ?_ ?_ ?_ ?_ ?_
     ·rfl
     ·rfl
     ·rfl
     ·rfl
     ·rfl
     ·rfl
     ·exact G.o
     ·exact aa.o
     ·exact HS.o
     ·exact d.o
     ·exact fun _ _ _ _ h=>h.elim
     ·intro a W aj F C ak
      have b4:=yb ak
      obtain ⟨v105,v106,v107,v108,v109,v110,v111,v112,v113,rfl⟩:∃v105 v106 v107 v108 v109 v110 v111 v112 v113:Value,a={tmps:=#[u0,u1,.pointer (some ⟨w.heap.size+1,0,none⟩),.pointer (some ⟨w.heap.size+2,0,none⟩),.pointer (some ⟨bl,0,none⟩),.pointer (some ⟨bc,0,none⟩),.pointer (some ⟨br,0,none⟩),.pointer (some ⟨bf,0,none⟩),u8,u9,u10,u11,u12,.pointer (some ⟨Bf,0,none⟩),.int .i64 i,u15,u16,u17,u18,u19,u20,u21,u22,u23,u24,u25,u26,u27,u28,u29,u30,u31,u32,u33,u34,u35,u36,u37,u38,u39,u40,u41,u42,u43,u44,u45,u46,u47,u48,u49,u50,u51,u52,u53,u54,u55,u56,u57,u58,u59,u60,u61,u62,u63,u64,u65,u66,u67,u68,u69,u70,u71,u72,u73,u74,u75,u76,u77,u78,u79,u80,u81,u82,u83,u84,u85,u86,u87,.pointer (some ⟨w.heap.size+1,21,none⟩),.slice (some ⟨g,0,none⟩) rn rc,.int .i64 rn,.int .i64 i,.bool true,.int .i64 i,.int .i64 i,.bool false,u96,u97,u98,u99,u100,u101,u102,u103,u104,v105,v106,v107,v108,v109,v110,v111,v112,v113,u114,u115,u116,u117,u118,u119,u120,u121,u122,u123,u124,u125,u126,u127,u128,u129,u130,u131,u132,u133,u134,u135,u136,u137,u138,u139,u140,u141,u142,u143,u144,u145,u146,u147,u148,u149,u150,u151,u152,u153,u154,u155,u156,u157,u158,u159,u160,u161,u162,u163,u164,u165,u166,u167,u168,u169,u170,u171,u172,u173],defers:=[J2 w.heap.size]}:=by
       refine ⟨a.tmps.getD 105 undef,a.tmps.getD 106 undef,a.tmps.getD 107 undef,a.tmps.getD 108 undef,a.tmps.getD 109 undef,a.tmps.getD 110 undef,a.tmps.getD 111 undef,a.tmps.getD 112 undef,a.tmps.getD 113 undef,(Gk [105,106,107,108,109,110,111,112,113] (aj.trans rfl) F (fun t ht=>C t ?_)).trans (by kernel_rfl)⟩
       simp at ht;omega
      clear aj F C ak
      unfold J2
      go_wp2
      exact ⟨⟨i+1,by push_cast;rfl,by omega,b4⟩,by simp[intOf];omega⟩
    |false=>
     have u:=yb (E.o.bad H.o hb)
     rw[X] at hb
     have hn:=G0 (to:=6) (by decide) hb
     have d:Hid (∀W,RL w.heap.size W5 (Tb.of x) (Cw W5 L x) V.heap.size (.cells #[.pointer (some ⟨w.heap.size+1,0,none⟩)] 85) i W->Calls Tryz.prog 68 #[.pointer (some ⟨g,i*51+1,none⟩),.map (some mr),.int .i64 i] W fun e w'=>(e=.returned (.tuple #[])∧False)∨(e=.panicked (Er 170)∧RL w.heap.size W5 (Tb.of x) (Cw W5 L x) V.heap.size (.cells #[.pointer (some ⟨w.heap.size+1,0,none⟩)] 85) i w')):=yb (fun W h=>by
      obtain ⟨c0,⟨z,c1,s⟩,cf⟩:=h.read a7.o D.o
      refine (He (most:=(i:Int)) c0 (S.o _ _ h).2 J.o (fun j hp=>(hn j hp).2)).mono ?_
      rintro e w2 ⟨rfl,rfl⟩
      exact .inr ⟨rfl,h⟩)
     clear hb hn X hS h0
     go_wp2_with fail
     refine UH (B:=w.heap.size) (Bf:=Bf) (g:=g) (rn:=rn) (rc:=rc) (br:=br) (mr:=mr) (i:=i) (R1:=fun W=>RL w.heap.size W5 (Tb.of x) (Cw W5 L x) V.heap.size (.cells #[.pointer (some ⟨w.heap.size+1,0,none⟩)] 85) i W) (R2:=fun _=>False) (R3:=fun W=>RL w.heap.size W5 (Tb.of x) (Cw W5 L x) V.heap.size (.cells #[.pointer (some ⟨w.heap.size+1,0,none⟩)] 85) i W) _ ?_ ?_ ?_ ?_ ?_ ?_ ?_ ?_ ?_ ?_ ?_ ?_
     ·rfl
     ·rfl
     ·rfl
     ·rfl
     ·rfl
     ·rfl
     ·exact G.o
     ·exact aa.o
     ·exact HS.o
     ·exact d.o
     ·intro a W F C hr
      obtain ⟨tm,df⟩:=a
      obtain rfl:df=[J2 w.heap.size]:=F
      exact y.o i tm W hr ⟨(C 2 (by omega)).trans rfl,(C 3 (by omega)).trans rfl⟩ u.o
     ·exact fun _ _ _ _ _ h=>h.elim
  ·obtain rfl:i=rn:=by omega
   have ao:decide ((i:Int) < (i:Int))=false:=by simp
   have av:Hid (Ht w x W5 L N M bl bc br bf Bf wr.heap.size):=yb (by rw[HR.o.1];exact E.o)
   have b0:Hid (RJ w.heap.size W5 (Tb.of x) (Cw W5 L x) (EJ L x).length (fun _=>False) (wr.alloc (.cells #[.pointer (some ⟨w.heap.size+1,0,none⟩)] 85))):=yb (by
    rw[KG E.o.ps,<-HN.o,q.o]
    exact HR.o.2)
   go_wp2
   exact Vp HQ.o av.o b0.o _ _ _ _ _ _ _ _ _ _ _ _ _ _ _ _ _ _ _ _ _ _ _ _ _ _ _ _ _ _ _ _ _ _ _ _ _ _ _ _ _ _ _ _ _ _ _ _ _ _ _ _ _ _ _ _ _ _ _ _ _ _ _ _ _ _ _ _ _ _ _ _ _ _ _ _ _ _ _ _ _ _ _ _ _ _ _ _ _ _ _ _ _ _ _ _ _ _ _ _ _ _ _ _ _ _ _ _ _ _ _ _ _ _ _ _ _ _ _ _ _ _ _ _ _ _ _ _ _ _ _ _ _ _ _ _ _ _ _ _ _ _ _ _ _ _ _ _ _ _ _ _ _ _ _ _ _ _ _ _ _ _ _ _ _ _ _
structure Gl (w:World) (x:Ax) (L:Bq) (cs:List Value) (N:Nat->Prop) (V:World):Prop where
 amid:JG w V
 par:V.heap[w.heap.size]?=some (.cells cs.toArray 35 (0,0))
 src:BP N w L cs x
 hN:∀b,N b->b < w.heap.size
 slim:MB x
section
variable{w V V' w':World}{x:Ax}{L L0:Bq}{cs cs0:LV}{N:NP}
theorem Gl.up(h:Gl w x L cs N V)(hb:Below (w.heap.size+3) V V'):Gl w x L cs N V':=
 ⟨h.amid.up hb,(hb.block _ (by omega)).trans h.par,h.src,h.hN,h.slim⟩
theorem Gl.size(h:Gl w x L cs N V):w.heap.size+3<=V.heap.size:=by
 obtain ⟨v,a⟩:=h.amid.e
 have:=(yd.1 a).1
 omega
theorem Gl.at(h:Gl w x L cs N V):BP (fun b=>b < V.heap.size) V L cs x:=by
 have a:=h.size
 exact h.src.same (fun b hb=>by have:=h.hN b hb;omega) (fun b hb=>h.amid.below.block b (h.hN b hb))
theorem Gl.len(h:Gl w x L cs N V):cs.length=26:=by
 obtain ⟨c0,c1,c2,rfl,b,g1,a⟩:=h.src.cells
 obtain ⟨c,e,rfl,i⟩:=b.cells
 obtain ⟨a1,j,rfl,f⟩:=g1.cells
 obtain ⟨d,g,rfl,k⟩:=a.cells
 rfl
theorem Gl.range(h:Gl w x L cs N V):V.rangeAt w.heap.size 0 cs:=by
 have:=zl h.par 0 cs.length
 simpa using this
theorem Cr(W:World){b c:Nat}(row:Array Value)(h:c≠b):(W.setRow b row).heap[c]?=W.heap[c]?:=by
 simp only[World.setRow,yL,yq (zX h)]
theorem Js(W:World)(b:Nat)(row:Array Value):(W.setRow b row).heap.size=W.heap.size:=by simp[World.setRow]
def Jt:Obj:=.cells #[.func (.func 68) #[] #[]] 147
def Qw(b:Nat):Obj:=.cells #[.pointer (some ⟨b,0,none⟩)] 85
theorem UR(h:Gl w x L0 cs0 N V){bl bc br bf:Nat}(h1:B7 V bl (x.lets.map (·.name)))(h2:B7 V bc (x.crops.map (·.name)))(h3:B7 V br (x.reaches.map (·.name)))(S:B7 V bf (x.farms.map (·.name)))
 (U:Bz x=true)(X:AF x=if Df (Tb.of x) x&&Cy (Tb.of x) x then 0 else 170)
 (v:cs.length=26)(hb:Below V.heap.size V w')(hs:L.s=V.heap.size)(hr:w'.rangeAt L.s 0 cs)(I:C8 (fun g=>V.heap.size<=g∧g≠V.heap.size+1) (ET (fun g=>V.heap.size+2<=g) w') (RV w') w' L x):
  Ht w x (((w'.setRow (w.heap.size+1) cs.toArray).alloc Jt).alloc (Qw (w.heap.size+1))) {L with s:=w.heap.size+1} (fun g=>(V.heap.size<=g∧g≠V.heap.size+1∧g < w'.heap.size)∨g=w.heap.size+1) (fun g=>V.heap.size+2<=g∧g < w'.heap.size) bl bc br bf w'.heap.size (w'.heap.size+1):=by
 have hz:=h.size
 have a0:=hb.size
 obtain ⟨row,K,p⟩:=h.amid.x
 obtain ⟨T,A⟩:=h.amid.e
 have W:w'.heap[w.heap.size+1]?=some (.cells row 35 (0,0)):=(hb.block _ (by omega)).trans p
 generalize l:((w'.setRow (w.heap.size+1) cs.toArray).alloc Jt).alloc (Qw (w.heap.size+1))=W5
 have a:(w'.setRow (w.heap.size+1) cs.toArray).heap.size=w'.heap.size:=Js _ _ _
 have R:W5.heap.size=w'.heap.size+2:=by rw[<-l];simp[a]
 have n:∀b,b < w'.heap.size->b≠w.heap.size+1->W5.heap[b]?=w'.heap[b]?:=fun b f m=>by
  rw[<-l,yA _ _ _ (by simp[a];omega),yA _ _ _ (by rw[a];omega),Cr _ _ m]
 have z:W5.heap[w.heap.size+1]?=some (.cells cs.toArray 35 (0,0)):=by
  rw[<-l,yA _ _ _ (by simp[a];omega),yA _ _ _ (by rw[a];omega)]
  exact qp _ _ _ _ _ _ W
 have O:W5.heap[w'.heap.size]?=some Jt:=by
  rw[<-l,yA _ _ _ (by simp[a])]
  have:=World.alloc_heap_new (w'.setRow (w.heap.size+1) cs.toArray) Jt
  rwa [a] at this
 have Q:W5.heap[w'.heap.size+1]?=some (Qw (w.heap.size+1)):=by
  rw[<-l]
  have:=World.alloc_heap_new ((w'.setRow (w.heap.size+1) cs.toArray).alloc Jt) (Qw (w.heap.size+1))
  have G:((w'.setRow (w.heap.size+1) cs.toArray).alloc Jt).heap.size=w'.heap.size+1:=by simp[a]
  rwa [G] at this
 have F:W5.os=w'.os∧W5.tape=w'.tape∧W5.output=w'.output:=by rw[<-l];exact ⟨rfl,rfl,rfl⟩
 clear l a
 have u:Below w.heap.size w W5:=by
  have h0:=h.amid.below.trans (hb.mono (by omega))
  exact ⟨F.1.trans h0.os,F.2.1.trans h0.tape,F.2.2.trans h0.output,by omega,fun b f=>(n b (by omega) (by omega)).trans (h0.block b f)⟩
 have i:∀(c:Nat) (o:Obj),V.heap[c]?=some o->(∀row:Array Value,o≠Obj.cells row 35 (0,0))->W5.heap[c]?=V.heap[c]?:=fun c o H E=>by
  have f:=(yd.1 H).1
  have m:c≠w.heap.size+1:=fun e=>by
   rw[e,p] at H
   exact E row (yi H).symm
  rw[n c (by omega) m,hb.block c f]
 have k:∀q,q < 26->W5.cell? (aV (w.heap.size+1) q)=W5.cell? (aV L.s q):=fun q M=>by
  have Y:W5.cell? (aV L.s q)=w'.cell? (aV L.s q):=Ab (n _ I.ty.lt (by omega))
  have J:=hr q cs[q] (yk (by omega))
  rw[yw] at J
  rw[Y,J]
  simp[World.cell?,z,v,M]
 refine ⟨⟨u,⟨_,by simp[v],z⟩,⟨T,(n _ (by omega) (by omega)).trans ((hb.block _ (by omega)).trans A)⟩⟩,h1.same i,h2.same i,h3.same i,S.same i,O,Q,?_,fun g j=>?_,fun g j=>?_,.inr rfl,rfl,U,X⟩
 ·have P:C8 (fun g=>V.heap.size<=g∧g≠V.heap.size+1∧g < w'.heap.size) (ET (fun g=>V.heap.size+2<=g) w') (RV w') w' L x:=I.ren fun g t j B _ _=>⟨j.1,j.2,B.lt⟩
  have y:∀b,(V.heap.size<=b∧b≠V.heap.size+1∧b < w'.heap.size)∨b=L.s->W5.heap[b]?=w'.heap[b]?:=fun b d=>by
   rcases d with d|rfl
   ·exact n b d.2.2 (by omega)
   ·exact n _ I.ty.lt (by omega)
  have Z:C8 (fun g=>V.heap.size<=g∧g≠V.heap.size+1∧g < w'.heap.size) (ET (fun g=>V.heap.size+2<=g∧g < w'.heap.size) W5) (RV W5) W5 L x:=by
   refine P.imp (fun b t d B=>B.same (y b d)) (fun b o d _=>Ab (y b d)) (fun lt e b o d _ C=>?_) (fun to r b o d _ D=>⟨D.1,(Ab (y b d)).trans D.2.1,(Ab (y b d)).trans D.2.2⟩)
   obtain ⟨c,c1,c2⟩:=C
   exact ⟨c,A0 c1 (y b d),c2.same (fun g j f=>⟨j,f⟩) (fun g j f=>n g f (by omega))⟩
  exact (Z.moved ⟨_,z⟩ k (fun lt e o E C=>SW k lt e o E C)).ren fun g t j _ _ _=>.inl j
 ·rcases j with j|rfl
  ·exact ⟨by omega,by omega⟩
  ·exact ⟨by omega,by omega⟩
 ·exact ⟨by omega,by omega⟩
end
theorem B7.lt{W:World}{b:Nat}{a:LB}(h:B7 W b a):b < W.heap.size:=by
 obtain ⟨m,h1,_⟩:=h
 exact (yd.1 h1).1
theorem US{Q:QT}{w V:World}{x:Ax}{L:Bq}{cs:LV}{N:NP}{bl bc br bf:Nat}(hQ:KA Q w x)(d:Gl w x L cs N V)
 (h1:B7 V bl (x.lets.map (·.name)))(h2:B7 V bc (x.crops.map (·.name)))(h3:B7 V br (x.reaches.map (·.name)))(h4:B7 V bf (x.farms.map (·.name)))
 (hf:Bz x=true)(hw:AF x=if Df (Tb.of x) x&&Cy (Tb.of x) x then 0 else 170)
 (u0 u8 u9 cz d2 ci e3 db dr ea ew d7 ce dz ey cl bt dp em ct d3 cy e6 cn ef eg df d0 cv ej cj d4 ep en e9 cm cp dl cd cq ec cc e7 eq cf d6 dk dy ex es d9 dx dh bv bq cu da dw cr ck el bw e8 d5 dd cx e0 dg ch ed eh cg e2 dc d1 du bz dj c8 cw ei et e1 de dq c9 e4 dm ek eb ez dv eu be ah ap s ax l a7 m X aj ac an ag Z aq I bh ak bd p A W T r k Y bo b4 F bg u ay t am ar D bj b9 O av B z b7 q y af ao aa ab b8 au bk ba U C b0 a8 G az bp v bn ai n a2 R i P ad j a0 bb J S:Value):
  Fz 32 Tryz.prog (GR 17 (Tryz.f32.body.getD .skip)) Q {tmps:=#[u0,.pointer (some ⟨w.heap.size,0,none⟩),.pointer (some ⟨w.heap.size+1,0,none⟩),.pointer (some ⟨w.heap.size+2,0,none⟩),.pointer (some ⟨bl,0,none⟩),.pointer (some ⟨bc,0,none⟩),.pointer (some ⟨br,0,none⟩),.pointer (some ⟨bf,0,none⟩),u8,u9,cz,d2,ci,e3,db,dr,ea,ew,d7,ce,dz,ey,cl,bt,dp,em,ct,d3,cy,e6,cn,ef,eg,df,d0,cv,ej,cj,d4,ep,en,e9,cm,cp,dl,cd,cq,ec,cc,e7,eq,cf,d6,dk,dy,ex,es,d9,dx,dh,bv,bq,cu,da,dw,cr,ck,el,bw,e8,d5,dd,cx,e0,dg,ch,ed,eh,cg,e2,dc,d1,du,bz,dj,c8,cw,ei,et,e1,de,dq,c9,e4,dm,ek,eb,ez,dv,eu,be,ah,ap,s,ax,l,a7,m,X,aj,ac,an,ag,Z,aq,I,bh,ak,bd,p,A,W,T,r,k,Y,bo,b4,F,bg,u,ay,t,am,ar,D,bj,b9,O,av,B,z,b7,q,y,af,ao,aa,ab,b8,au,bk,ba,U,C,b0,a8,G,az,bp,v,bn,ai,n,a2,R,i,P,ad,j,a0,bb,J,S],defers:=[J2 w.heap.size]} V:=by
 have dt:Hid ((Tryz.prog.info? 35).map (·.size)=some cs.length):=yb (by rw[d.len];kernel_rfl)
 have bm:=yb d.range
 have e5:=yb d.at
 have HQ:=yb hQ;have HP:=yb d
 have bu:=yb h1;have dn:=yb h2;have b5:=yb h3;have co:=yb h4;have HF:=yb hf;have HW:=yb hw
 obtain ⟨row,b,hx⟩:=d.amid.x
 have HX:=yb hx;have M:=yb b;have HZ:=yb d.size
 clear hQ d h1 h2 h3 h4 hf hw b hx
 unfold J2
 refine A9 (A4 ?_)
 go_upto_region 25 with fail
 refine wp_region_lit ?_
 refine yj rfl 35 _ rfl w.heap.size 0 rfl cs _ bm.o qP rfl dt.o ?_
 refine zw rfl fun K hK=>?_
 go_simp
 refine (Pu e5.o (fun _ h=>h) HP.o.slim).mono ?_
 rintro e w2 ⟨L2,a,rfl,E,c,g,al,aw,H⟩
 have d8:=yb ((g.block _ (by have:=HZ.o;omega)).trans HX.o)
 have f:=yb E;have ae:=yb (z6 c);have bi:=yb g;have bx:=yb al;have eo:=yb aw;have ee:=yb H
 clear E c g al aw H
 refine hK _ _ ?_
 clear hK K
 refine za rfl 35 _ _ rfl (w.heap.size+1) a.toArray rfl rfl 35 row d8.o (by rw[yM,f.o];kernel_rfl) (by simp[f.o,M.o]) ae.o ?_
 refine wpList_nil ?_
 simp only[]
 refine A9 (A4 ?_)
 go_wp2
 have HC:=UR HP.o bu.o dn.o b5.o co.o HF.o HW.o f.o bi.o bx.o eo.o ee.o
 have di:(w2.setRow (w.heap.size+1) a.toArray).heap.size=w2.heap.size:=Js _ _ _
 have a6:((w2.setRow (w.heap.size+1) a.toArray).alloc Jt).heap.size=w2.heap.size+1:=by simp[di]
 have f1:=bi.o.size
 have f0:=b5.o.lt
 rw[<-a6] at HC
 exact UQ (V:=(w2.setRow (w.heap.size+1) a.toArray).alloc Jt) (Bf:=w2.heap.size) HQ.o HC ⟨rfl,RJ.start _ _ _ _⟩ (by omega) (by omega) (by simp) _ _ _ _ _ _ _ _ _ _ _ _ _ _ _ _ _ _ _ _ _ _ _ _ _ _ _ _ _ _ _ _ _ _ _ _ _ _ _ _ _ _ _ _ _ _ _ _ _ _ _ _ _ _ _ _ _ _ _ _ _ _ _ _ _ _ _ _ _ _ _ _ _ _ _ _ _ _ _ _ _ _ _ _ _ _ _ _ _ _ _ _ _ _ _ _ _ _ _ _ _ _ _ _ _ _ _ _ _ _ _ _ _ _ _ _ _ _ _ _ _ _ _ _ _ _ _ _ _ _ _ _ _ _ _ _ _ _ _ _ _ _ _ _ _ _ _ _ _ _ _ _ _ _ _ _ _ _ _ _ _ _ _ _ _ _ _
theorem SY{α:Type}{w:World}{sz j:Nat}{f:α->ByteArray}{h:As}{l:List α}(h1:h.n=l.length)(h2:l.length<=140737488355328)
 (h3:∀i (hi:i < l.length),∃b o cs,h.a=some ⟨b,o,none⟩∧b < w.heap.size∧cs.length=sz∧w.rangeAt b (o+i*sz) cs∧(∀v∈cs,v.oneCell'=true)∧cs[j]?=some (.string (f l[i]))∧(f l[i]).size<=maxLen):B9 w h sz j (l.map f):=by
 refine ⟨by rw[yT];exact h1,by rw[yT];exact h2,fun i hi=>?_⟩
 have c:i < l.length:=by simpa using hi
 obtain ⟨b,o,cs,p,d,e,g,m,q,k⟩:=h3 i c
 rw[zE]
 exact ⟨b,o,cs,p,d,e,g,m,q,k⟩
theorem Me{α:Type}{N:NP}{w:World}{sz j:Nat}{P:LV->α->Prop}{f:α->ByteArray}{h:As}{l:List α}(hr:BF N w sz P h l)(hN:∀b,N b->b < w.heap.size)
 (c:∀cs d,P cs d->(∀v∈cs,v.oneCell'=true)∧cs[j]?=some (.string (f d))∧(f d).size<=maxLen):B9 w h sz j (l.map f):=by
 obtain ⟨h1,h2,h3⟩:=hr
 refine SY h1 h2 fun i hi=>?_
 obtain ⟨b,o,cs,p,a,g,k,m⟩:=h3 i hi
 obtain ⟨q,n,e⟩:=c _ _ m
 exact ⟨b,o,cs,p,hN b a,g,k,q,n,e⟩
structure Vs (w:World) (L:Bq) (x:Ax):Prop where
 lets:B9 w L.lets 7 0 (x.lets.map (·.name))
 crops:B9 w L.crops 7 0 (x.crops.map (·.name))
 reaches:B9 w L.reaches 51 0 (x.reaches.map (·.name))
 farms:B9 w L.farms 12 0 (x.farms.map (·.name))
 rots:B9 w L.rots 23 0 (x.rots.map (·.name))
 rights:B9 w L.rights 37 1 (x.rights.map (·.name))
 duties:B9 w L.duties 11 0 (x.duties.map (·.name))
theorem BP.nms{N:NP}{w:World}{L:Bq}{cs:LV}{x:Ax}(h:BP N w L cs x)(hN:∀b,N b->b < w.heap.size):Vs w L x:=by
 refine ⟨Me h.lets hN fun cs d hd=>⟨Qk cs d hd,?_⟩,Me h.crops hN fun cs d hd=>⟨NA cs d hd,?_⟩,Me h.reaches hN fun cs d hd=>⟨IY cs d hd,?_⟩,Me h.farms hN fun cs d hd=>⟨NC cs d hd,?_⟩,?_,Me h.rights hN fun cs d hd=>⟨IZ cs d hd,?_⟩,Me h.duties hN fun cs d hd=>⟨ND cs d hd,?_⟩⟩
 ·obtain ⟨h1,c,rfl,_⟩:=hd;exact ⟨rfl,h1⟩
 ·obtain ⟨h1,c,rfl,_⟩:=hd;exact ⟨rfl,h1⟩
 ·obtain ⟨h1,_,c0,c1,c2,c3,c4,c5,c6,c7,rfl,_⟩:=hd;exact ⟨rfl,h1⟩
 ·obtain ⟨h1,_,_,c,rfl,_⟩:=hd;exact ⟨rfl,h1⟩
 ·obtain ⟨h1,h2,h3⟩:=h.rots
  refine SY h1 h2 fun i hi=>?_
  obtain ⟨b,o,cs,k,e,f,g,a⟩:=h3 i hi
  have j:=Ir a
  obtain ⟨l,_,c0,c1,c2,rfl,_⟩:=a
  exact ⟨b,o,_,k,hN b e,f,g,j,rfl,l⟩
 ·obtain ⟨h1,_,_,c0,c1,c2,c3,c4,rfl,_⟩:=hd;exact ⟨rfl,h1⟩
 ·obtain ⟨h1,_,_,c,rfl,_⟩:=hd;exact ⟨rfl,h1⟩
theorem B9.up{w w':World}{h:As}{sz j:Nat}{a:LB}(hr:B9 w h sz j a)(hb:Below w.heap.size w w'):B9 w' h sz j a:=by
 obtain ⟨h1,h2,h3⟩:=hr
 refine ⟨h1,h2,fun i hi=>?_⟩
 obtain ⟨b,o,cs,g,c,d,e,f⟩:=h3 i hi
 exact ⟨b,o,cs,g,yu c hb.size,d,A0 e (hb.block b c),f⟩
structure Qx (L:Bq) (x:Ax) (c:Nat->Option Value):Prop where
 name:c 0=some (.string x.name)
 lets:c 19=some L.lets.v
 crops:c 20=some L.crops.v
 reaches:c 21=some L.reaches.v
 farms:c 22=some L.farms.v
 rots:c 23=some L.rots.v
 rights:c 24=some L.rights.v
 duties:c 25=some L.duties.v
theorem BP.at{N:NP}{w:World}{L:Bq}{cs:LV}{x:Ax}(h:BP N w L cs x):Qx L x (cs[·]?):=by
 obtain ⟨c0,c1,c2,rfl,b,g1,a⟩:=h.cells
 obtain ⟨i,d,rfl,e⟩:=b.cells
 obtain ⟨a1,f,rfl,j⟩:=g1.cells
 obtain ⟨c,k,rfl,g⟩:=a.cells
 exact ⟨rfl,rfl,rfl,rfl,rfl,rfl,rfl,rfl⟩
theorem Gl.cells{w V:World}{x:Ax}{L:Bq}{cs:LV}{N:NP}(h:Gl w x L cs N V):Qx L x (fun q=>V.cell? ⟨w.heap.size,q,none⟩):=by
 have e:∀q,V.cell? (aV w.heap.size q)=cs[q]?:=fun q=>by simp[World.cell?,h.par]
 have:=h.src.at
 simp only[e]
 exact this
def Fu(B:Nat)(w:World)(v:Value)(l:LB):Prop:=w.ownsRow B 9 1 v l.length (l.map .string)∧∀s∈l,s.size<=maxLen
theorem Rr(B:Nat)(w:World):Fu B w (.slice none 0 0) []:=⟨⟨rfl,.inl ⟨rfl,rfl⟩⟩,by simp⟩
theorem Fu.up{B:Nat}{w w':World}{v:Value}{l:LB}(h:Fu B w v l)(hb:Below w.heap.size w w'):Fu B w' v l:=by
 obtain ⟨⟨h1,h2⟩,h0⟩:=h
 refine ⟨⟨h1,h2.imp id ?_⟩,h0⟩
 rintro ⟨g,cap,a,h3,d,b,c⟩
 exact ⟨g,cap,a,h3,d,(hb.block g (yd.1 b).1).trans b,c⟩
theorem O0{B:Nat}{c w w':World}{v:Value}{l:LB}(h:Below B c w)(i:B<=w.heap.size)(d:Fu B w v l)(a:w.grownBy w' v.ownBlock):Below B c w':=by
 refine h.trans ⟨a.os,a.tape,a.output,a.size,fun b hb=>a.block b (by omega) (fun e=>?_)⟩
 rcases d.1.2 with ⟨rfl,_⟩|⟨g,cap,f,rfl,j,_⟩
 ·cases e
 ·simp only[Value.ownBlock,z8] at e
  omega
theorem Fu.nm{B:Nat}{w:World}{v:Value}{l:LB}(h:Fu B w v l)(c:l.length<=140737488355328):∃h:As,v=h.v∧B9 w h 1 0 l:=by
 obtain ⟨⟨h1,⟨rfl,h2⟩|⟨g,cap,e,rfl,j,a,f,k,m,d⟩⟩,h0⟩:=h
 ·obtain rfl:=zr.1 h2
  exact ⟨⟨none,0,0⟩,rfl,rfl,by simp,fun i hi=>absurd hi (by simp)⟩
 ·refine ⟨⟨some (aV g 0),l.length,cap⟩,rfl,rfl,c,fun i hi=>⟨g,0,[.string l[i]],rfl,(yd.1 a).1,rfl,?_,by simp[Value.oneCell'],rfl,h0 _ (yJ hi)⟩⟩
  refine BU ?_
  have b:(l.map Value.string)[i]?=some (.string l[i]):=by simp[hi]
  rw[<-d,zZ,yD (by omega)] at b
  simp only[World.cell?,a]
  simpa using b
theorem G1{ops:Array Oper}{rest:List Oper}{o:Oper}{a:Act}{Q:QT}{W:World}(B:Nat)(f:o.guard=none)(s x:Operand)(A:o.op=.call {callee:=.builtin .append,args:=#[s,x],argTypes:=#[117,117]})
 (v:Value)(l:LB)(hs:a.eval s=v)(d:Fu B W v l)(b c:Nat)(k:ByteArray)(D:a.eval x=.slice (some ⟨b,0,none⟩) 1 c)(hb:W.heap[b]?=some (.cells #[.string k] 9 (0,0)))(G:k.size<=maxLen)(n:l.length+1<=1000000)(g:B<=W.heap.size)
 (h:∀(p:Option Addr) (c:Nat) w',Fu B w' (.slice p (l.length+1) c) (l++[k])->W.grownBy w' v.ownBlock->wpList Tryz.prog ops Q rest (a.put o.dst (.slice p (l.length+1) c)) w'):wpList Tryz.prog ops Q (o::rest) a W:=by
 refine zw f fun K H=>?_
 have e:(Tryz.prog.info? 9).map (fun i=>(i.zero,i.size,i.bytes))=some (some (.string ⟨#[]⟩),1,16):=by kernel_rfl
 obtain ⟨I,hi,q,t,r⟩:=info_parts e
 have y:BI W (.slice (some (aV b 0)) 1 c) 1 1 [.string k]:=by
  refine ⟨rfl,by simp[Value.oneCell'],_,_,rfl,.inr ⟨b,0,rfl,(yd.1 hb).1,fun j u w=>?_⟩⟩
  cases j with
  |zero=>cases w;simp[World.cell?,hb]
  |succ j=>simp at w
 have C:=Gr (ops:=#[]) (E:=True) (Q:=Q) (K:=K) (o:=o) Tryz.underlying117 hi q t r rfl (by decide) (by decide) B f s x A v l.length _ hs d.1 _ 1 [.string k] D y n g (fun p c w' F z=>H _ _ (h p c w' ⟨by
  rw[yn,zD]
  exact F,fun u m=>by
  rcases yy.1 m with m|m
  ·exact d.2 u m
  ·rw[zk.1 m];exact G⟩ z))
 rwa [yD (by simp[Region.wanted,f])] at C
theorem I2{α:Type}{l:List α}{i:Nat}(h:i < l.length):l.take i++[l[i]]=l.take (i+1):=(yG h).symm
theorem SZ{f:FuncId}{args:Array Value}{w:World}{a:LB}(h:Calls Tryz.prog f args w (Ef w a))(b:a.Nodup):Calls Tryz.prog f args w fun e w'=>(∃m,e=.returned (.map (some m)))∧Below w.heap.size w w':=
 h.mono fun e w' c=>by
  obtain ⟨h1,⟨_,m,h2,_⟩|⟨h2,_⟩⟩:=c
  ·exact ⟨⟨m,h2⟩,h1⟩
  ·exact absurd b h2
theorem UI{f:FuncId}{args:Array Value}{w:World}{a:LB}(h:Calls Tryz.prog f args w (Ef w a))(b:¬ a.Nodup):Calls Tryz.prog f args w fun e w'=>e=.panicked (Er 171)∧Below w.heap.size w w':=
 h.mono fun e w' c=>by
  obtain ⟨h1,⟨h2,_⟩|⟨_,h2⟩⟩:=c
  ·exact absurd h2 b
  ·exact ⟨h2,h1⟩
end Go.Proofs.YtjofgpfocadomaaGreatDoor
namespace Go.Proofs.YtjofgpfocadomaaGreatDoor
open Go.RowKit
theorem B7.up{V W:World}{b:Nat}{a:LB}(h:B7 V b a)(hb:Below V.heap.size V W):B7 W b a:=
 h.same fun c _ d _=>hb.block c (yd.1 d).1
theorem Vt{Q:QT}{w V:World}{x:Ax}{L:Bq}{cs:LV}{N:NP}{bl bc br bf:Nat}(hQ:KA Q w x)(hP:Gl w x L cs N V)
 (h1:B7 V bl (x.lets.map (·.name)))(h2:B7 V bc (x.crops.map (·.name)))(h3:B7 V br (x.reaches.map (·.name)))(h4:B7 V bf (x.farms.map (·.name)))
 (hf:Bz x=true)(hw:AF x=if (D9 x).Nodup∧(x.duties.map (·.name)).Nodup then (if Df (Tb.of x) x&&Cy (Tb.of x) x then 0 else 170) else 171)
 (u0 u8 u9 ec ef dw fd en f3 fj g5 ek dr f9 g7 dz de f1 fx e6 eg eb ff e1 fp fq es ed e7 fu dx eh fz fy fi e0 e3 ex dp e4 fl dn fg g0 dt ej ey f8 g6 g2 el f7 eu dh df e8 em f6 e5 dy fw di fh ei ep ea fa et dv fo fs du fc eo ee f4 dk ew dl e9 ft g3 fb eq f2 dm fe ez fv fk g8 f5 g4 d6 cg cn au ct am bv an bn ch c9 ck cf bp co bb d8 ci d4 ao b0 bm bj ar al bo dc cz b9 d7 aw cu av cj cp b8 d9 d2 be cr b4 az d0 aq ax ce cl bx bz d1 cq da d3 bk b7 cx bw ba cw dd ay db bt ap bu bh aj bg cc ak bq d5 bd bi:Value):
  Fz 32 Tryz.prog (GR 12 (Tryz.f32.body.getD .skip)) Q {tmps:=#[u0,.pointer (some ⟨w.heap.size,0,none⟩),.pointer (some ⟨w.heap.size+1,0,none⟩),.pointer (some ⟨w.heap.size+2,0,none⟩),.pointer (some ⟨bl,0,none⟩),.pointer (some ⟨bc,0,none⟩),.pointer (some ⟨br,0,none⟩),.pointer (some ⟨bf,0,none⟩),u8,u9,ec,ef,dw,fd,en,f3,fj,g5,ek,dr,f9,g7,dz,de,f1,fx,e6,eg,eb,ff,e1,fp,fq,es,ed,e7,fu,dx,eh,fz,fy,fi,e0,e3,ex,dp,e4,fl,dn,fg,g0,dt,ej,ey,f8,g6,g2,el,f7,eu,dh,df,e8,em,f6,e5,dy,fw,di,fh,ei,ep,ea,fa,et,dv,fo,fs,du,fc,eo,ee,f4,dk,ew,dl,e9,ft,g3,fb,eq,f2,dm,fe,ez,fv,fk,g8,f5,g4,d6,cg,cn,au,ct,am,bv,an,bn,ch,c9,ck,cf,bp,co,bb,d8,ci,d4,ao,b0,bm,bj,ar,al,bo,dc,cz,b9,d7,aw,cu,av,cj,cp,b8,d9,d2,be,cr,b4,az,d0,aq,ax,ce,cl,bx,bz,d1,cq,da,d3,bk,b7,cx,bw,ba,cw,dd,ay,db,bt,ap,bu,bh,aj,bg,cc,ak,bq,d5,bd,bi],defers:=[J2 w.heap.size]} V:=by
 have ac:=yb (hP.at.nms fun _ h=>h)
 have P:=yb hP.cells
 have HZ:Hid (w.heap.size < V.heap.size):=yb (by have:=hP.size;omega)
 have HQ:=yb hQ;have HP:=yb hP;have r:=yb hP.slim
 have dg:=yb h1;have f0:=yb h2;have fm:=yb h3;have e2:=yb h4;have HF:=yb hf;have HW:=yb hw
 have U:Hid (∀tm wr,Ly w.heap.size tm->Below V.heap.size V wr->¬ ((D9 x).Nodup∧(x.duties.map (·.name)).Nodup)->Q (.panic (Er 171)) {tmps:=tm,defers:=[J2 w.heap.size]} wr):=yb (fun tm wr hv hb hn=>by
  rw[yq hn] at hw
  have:=hQ.fail tm wr hv (hP.up (hb.mono hP.size)).amid (by rw[hw];decide)
  rw[hw] at this;exact this)
 have a2:Hid (Fu V.heap.size V (.slice none 0 0) ([]++(x.rots.map (fun d:BA=>d.name)).take 0)):=yb (Rr _ _)
 have a0:=yb (yg V.heap.size V)
 have hc:V.cell? (aV w.heap.size 23)=some (.slice L.rots.a L.rots.n L.rots.c):=hP.cells.rots
 have j:=ac.o.rots
 generalize L.rots=rr at hc j
 obtain ⟨ra,rn,rc⟩:=rr
 have g:=yb j.2.2
 have k:=yb j.1
 have g9:rn<=140737488355328:=by have:=j.1;have:=j.2.1;simp only at*;omega
 simp only at hc g k
 clear hQ hP h1 h2 h3 h4 hf hw j
 unfold J2
 iterate 2
  refine A9 (A4 ?_)
  go_wp2
 clear hc
 go_loopw [8,58] (fun v8 iv wr=>∃i:Nat,i<=rn∧iv=iV i∧Hid (Fu V.heap.size wr v8 ([]++(x.rots.map (fun d:BA=>d.name)).take i))∧Hid (Below V.heap.size V wr)) (fun _ iv _=>rn - (intOf iv).toNat)
 case atStart=>exact ⟨0,yH _,rfl,a2,a0⟩
 case round=>
  clear a2 a0
  obtain ⟨i,hi,rfl,HO,C⟩:=hrel
  by_cases O:i < rn
  ·obtain ⟨b,o,f,ha,hb,l,a6,B,E,H⟩:=g.o i (by rw[<-k.o];exact O)
   subst ha
   have HL:=yb l
   have ae:=yb (A0 a6 (C.o.block b hb))
   have X:=yb (z6 B)
   have W:Hid ((Tryz.prog.info? 109).map (·.size)=some f.length):=yb (by rw[l];kernel_rfl)
   have M:Hid ((Tryz.prog.info? 109).map (·.size)=some f.toArray.size):=yb (by rw[yM];exact W.o)
   have I:i < (x.rots.map (fun d:BA=>d.name)).length:=by rw[<-k.o];exact O
   generalize Y:(x.rots.map (fun d:BA=>d.name))[i]=u at E H
   have dq:(wr.alloc (.cells f.toArray 109)).cell? (aV wr.heap.size 0)=some (.string u):=by
    have h:=World.alloc_heap_new wr (.cells f.toArray 109)
    simp only[World.cell?,h]
    simpa using E
   have D:Hid (Below wr.heap.size wr ((wr.alloc (.cells f.toArray 109)).alloc (.cells #[.string u] 9))):=yb (((yg _ _).alloc (yf _) _).alloc (by simp) _)
   have G:=yb (HO.o.up D.o)
   have ag:=yb (C.o.trans (D.o.mono C.o.size))
   have R:Hid (((wr.alloc (.cells f.toArray 109)).alloc (.cells #[.string u] 9)).heap[wr.heap.size+1]?=some (.cells #[.string u] 9 (0,0))):=yb (by
    have h:=World.alloc_heap_new (wr.alloc (.cells f.toArray 109)) (.cells #[.string u] 9)
    simpa using h)
   have ah:=yb H
   have y:Hid (([]++(x.rots.map (fun d:BA=>d.name)).take i).length+1<=1000000):=yb (by
    have h1:=r.o.rots;have h2:=r.o.rights
    simp only[yn,zb,yT,yE] at I ⊢
    omega)
   have s:Hid (V.heap.size<=((wr.alloc (.cells f.toArray 109)).alloc (.cells #[.string u] 9)).heap.size):=yb (yt C.o.size D.o.size)
   have t:Hid (([]++(x.rots.map (fun d:BA=>d.name)).take i)++[u]=[]++(x.rots.map (fun d:BA=>d.name)).take (i+1)):=yb (by
    rw[yI,<-Y,I2 I])
   have K:(i:Int) < (rn:Int):=by omega
   generalize ai:[]++(x.rots.map (fun d:BA=>d.name)).take i=ls at HO G y t
   clear l a6 B E H I Y ai hb
   go_wp2_with (first|(refine yj rfl 109 _ rfl b (o+i*23) rfl f _ ae.o qw rfl W.o ?_)|(refine za rfl 109 _ _ rfl wr.heap.size f.toArray rfl rfl 109 _ (World.alloc_heap_new _ _) M.o (by simp[HL.o]) X.o ?_;rw[World.setRow_alloc_new])|(at_builtin;refine G1 V.heap.size rfl _ _ rfl u8 ls rfl G.o (wr.heap.size+1) 1 u rfl R.o ah.o y.o s.o ?_;intro ad c w5 q S;have aa:=yb q;have ab:=yb (O0 ag.o s.o G.o S);clear q S))
   exact ⟨⟨i+1,by omega,by push_cast;rfl,yb (by rw[<-t.o];exact aa.o),ab⟩,by simp[intOf];omega⟩
  ·obtain rfl:i=rn:=by omega
   have K:decide ((i:Int) < (i:Int))=false:=by simp
   have J:Hid (Fu V.heap.size wr u8 (x.rots.map (fun d:BA=>d.name)++(x.rights.map (fun d:B6=>d.name)).take 0)):=yb (by
    have h:=HO.o
    rw[k.o,yQ] at h
    simpa using h)
   clear HO g k
   go_wp2
   have hc:wr.cell? (aV w.heap.size 24)=some (.slice L.rights.a L.rights.n L.rights.c):=(C.o.cell (p:=(aV w.heap.size 24)) HZ.o).trans P.o.rights
   have j:=ac.o.rights
   generalize L.rights=rr at hc j
   obtain ⟨ra,rn,rc⟩:=rr
   have g:=yb j.2.2
   have k:=yb j.1
   have dj:rn<=140737488355328:=by have:=j.1;have:=j.2.1;simp only at*;omega
   simp only at hc g k
   clear j K
   refine A9 (A4 ?_)
   go_wp2
   clear hc
   obtain ⟨wo,rfl⟩:∃z:World,z=wr:=⟨_,rfl⟩
   obtain ⟨vo,rfl⟩:∃z:Value,z=u8:=⟨_,rfl⟩
   have a2:=J
   have a0:=C
   clear J C
   go_loopw [8,71] (fun v8 iv wr=>∃i:Nat,i<=rn∧iv=iV i∧Hid (Fu V.heap.size wr v8 ((x.rots.map (fun d:BA=>d.name))++(x.rights.map (fun d:B6=>d.name)).take i))∧Hid (Below V.heap.size V wr)) (fun _ iv _=>rn - (intOf iv).toNat)
   case atStart=>exact ⟨0,yH _,rfl,a2,a0⟩
   case round=>
    clear a2 a0
    obtain ⟨i,hi,rfl,HO,C⟩:=hrel
    by_cases O:i < rn
    ·obtain ⟨b,o,f,ha,hb,l,a6,B,E,H⟩:=g.o i (by rw[<-k.o];exact O)
     subst ha
     have HL:=yb l
     have ae:=yb (A0 a6 (C.o.block b hb))
     have X:=yb (z6 B)
     have W:Hid ((Tryz.prog.info? 131).map (·.size)=some f.length):=yb (by rw[l];kernel_rfl)
     have M:Hid ((Tryz.prog.info? 131).map (·.size)=some f.toArray.size):=yb (by rw[yM];exact W.o)
     have I:i < (x.rights.map (fun d:B6=>d.name)).length:=by rw[<-k.o];exact O
     generalize Y:(x.rights.map (fun d:B6=>d.name))[i]=u at E H
     have dq:(wr.alloc (.cells f.toArray 131)).cell? (aV wr.heap.size 1)=some (.string u):=by
      have h:=World.alloc_heap_new wr (.cells f.toArray 131)
      simp only[World.cell?,h]
      simpa using E
     have D:Hid (Below wr.heap.size wr ((wr.alloc (.cells f.toArray 131)).alloc (.cells #[.string u] 9))):=yb (((yg _ _).alloc (yf _) _).alloc (by simp) _)
     have G:=yb (HO.o.up D.o)
     have ag:=yb (C.o.trans (D.o.mono C.o.size))
     have R:Hid (((wr.alloc (.cells f.toArray 131)).alloc (.cells #[.string u] 9)).heap[wr.heap.size+1]?=some (.cells #[.string u] 9 (0,0))):=yb (by
      have h:=World.alloc_heap_new (wr.alloc (.cells f.toArray 131)) (.cells #[.string u] 9)
      simpa using h)
     have ah:=yb H
     have y:Hid (((x.rots.map (fun d:BA=>d.name))++(x.rights.map (fun d:B6=>d.name)).take i).length+1<=1000000):=yb (by
      have h1:=r.o.rots;have h2:=r.o.rights
      simp only[yn,zb,yT] at I ⊢
      omega)
     have s:Hid (V.heap.size<=((wr.alloc (.cells f.toArray 131)).alloc (.cells #[.string u] 9)).heap.size):=yb (yt C.o.size D.o.size)
     have t:Hid (((x.rots.map (fun d:BA=>d.name))++(x.rights.map (fun d:B6=>d.name)).take i)++[u]=(x.rots.map (fun d:BA=>d.name))++(x.rights.map (fun d:B6=>d.name)).take (i+1)):=yb (by
      rw[yI,<-Y,I2 I])
     have K:(i:Int) < (rn:Int):=by omega
     generalize ai:(x.rots.map (fun d:BA=>d.name))++(x.rights.map (fun d:B6=>d.name)).take i=ls at HO G y t
     clear l a6 B E H I Y ai hb
     go_wp2_with (first|(refine yj rfl 131 _ rfl b (o+i*37) rfl f _ ae.o qz rfl W.o ?_)|(refine za rfl 131 _ _ rfl wr.heap.size f.toArray rfl rfl 131 _ (World.alloc_heap_new _ _) M.o (by simp[HL.o]) X.o ?_;rw[World.setRow_alloc_new])|(at_builtin;refine G1 V.heap.size rfl _ _ rfl u8 ls rfl G.o (wr.heap.size+1) 1 u rfl R.o ah.o y.o s.o ?_;intro ad c w5 q S;have aa:=yb q;have ab:=yb (O0 ag.o s.o G.o S);clear q S))
     exact ⟨⟨i+1,by omega,by push_cast;rfl,yb (by rw[<-t.o];exact aa.o),ab⟩,by simp[intOf];omega⟩
    ·obtain rfl:i=rn:=by omega
     have K:decide ((i:Int) < (i:Int))=false:=by simp
     have J:Hid (Fu V.heap.size wr u8 (D9 x)):=yb (by
      have h:=HO.o
      rw[k.o,yQ] at h
      exact h)
     clear HO g k
     go_wp2
     have cm:(D9 x).length<=100000:=by
      obtain ⟨_,_,_,_,h1,h2,_⟩:=F6 HF.o
      unfold D9
      simp only[yn,yT]
      omega
     obtain ⟨⟨sa,sn,sc⟩,af,cy⟩:=J.o.nm (by omega)
     unfold As.v at af
     simp only at af
     subst af
     have cv:=yb cy
     have cd:=yb cm
     have b5:Hid ((x.duties.map (·.name)).length<=100000):=yb (by rw[yT];exact r.o.duties)
     clear J cy cm K
     by_cases a7:(D9 x).Nodup
     ·have HR:=yb a7
      clear a7
      refine A9 (A4 ?_)
      go_wp2_with (first|(go_at_call 65;refine (SZ (M2 (h:=⟨sa,sn,sc⟩) cv.o cd.o) HR.o).mono ?_;rintro e w2 ⟨⟨m,rfl⟩,Z⟩;have A:=yb (C.o.trans (Z.mono C.o.size));clear Z))
      have hc:w2.cell? (aV w.heap.size 25)=some (.slice L.duties.a L.duties.n L.duties.c):=(A.o.cell (p:=(aV w.heap.size 25)) HZ.o).trans P.o.duties
      have c8:=yb (ac.o.duties.up A.o)
      by_cases a8:(x.duties.map (·.name)).Nodup
      ·have HD:=yb a8
       clear a8
       refine A9 (A4 ?_)
       go_wp2_with (first|(go_at_call 66;refine (SZ (Kp c8.o b5.o) HD.o).mono ?_;rintro e w3 ⟨⟨m3,rfl⟩,T⟩;have F:=yb (A.o.trans (T.mono A.o.size));clear T))
       exact US HQ.o (HP.o.up (F.o.mono HP.o.size)) (dg.o.up F.o) (f0.o.up F.o) (fm.o.up F.o) (e2.o.up F.o) HF.o (by rw[HW.o,yD ⟨HR.o,HD.o⟩]) _ _ _ _ _ _ _ _ _ _ _ _ _ _ _ _ _ _ _ _ _ _ _ _ _ _ _ _ _ _ _ _ _ _ _ _ _ _ _ _ _ _ _ _ _ _ _ _ _ _ _ _ _ _ _ _ _ _ _ _ _ _ _ _ _ _ _ _ _ _ _ _ _ _ _ _ _ _ _ _ _ _ _ _ _ _ _ _ _ _ _ _ _ _ _ _ _ _ _ _ _ _ _ _ _ _ _ _ _ _ _ _ _ _ _ _ _ _ _ _ _ _ _ _ _ _ _ _ _ _ _ _ _ _ _ _ _ _ _ _ _ _ _ _ _ _ _ _ _ _ _ _ _ _ _ _ _ _ _ _ _ _ _ _ _ _ _
      ·have HD:=yb a8
       clear a8
       refine A9 (A4 ?_)
       go_wp2_with (first|(go_at_call 66;refine (UI (Kp c8.o b5.o) HD.o).mono ?_;rintro e w3 ⟨rfl,T⟩;have F:=yb (A.o.trans (T.mono A.o.size));clear T))
       exact U.o _ _ ⟨rfl,rfl⟩ F.o (fun h=>HD.o h.2)
     ·have HR:=yb a7
      clear a7
      refine A9 (A4 ?_)
      go_wp2_with (first|(go_at_call 65;refine (UI (M2 (h:=⟨sa,sn,sc⟩) cv.o cd.o) HR.o).mono ?_;rintro e w2 ⟨rfl,Z⟩;have A:=yb (C.o.trans (Z.mono C.o.size));clear Z))
      exact U.o _ _ ⟨rfl,rfl⟩ A.o (fun h=>HR.o h.1)
 end Go.Proofs.YtjofgpfocadomaaGreatDoor
namespace Go.Proofs.YtjofgpfocadomaaGreatDoor
open Go.RowKit
theorem Vu{Q:QT}{w V:World}{x:Ax}{L:Bq}{cs:LV}{N:NP}(hQ:KA Q w x)(hP:Gl w x L cs N V)
 (hf:Bz x=true)(hw:AF x=if GQ x then (if Df (Tb.of x) x&&Cy (Tb.of x) x then 0 else 170) else 171)
 (u0 u4 u5 u6 u7 u8 u9 cm cp bz dj cy d9 dp e7 cv bv de e9 cc bm d7 e1 cg cr cl dl ce dt du d2 cn ci dy c8 ct e3 e2 dn cd ep ew em eq ez el ey f0 en es eu ex e8 e4 cw dd d4 bo bn ch cx dc cf c9 e0 bp dm cu d0 ck dg d3 bx dr dv bw di cz co da bq d5 bt cj dw e5 dh d1 d8 bu dk d6 dz dq ea db e6 b9 ad ak r ap i a0 j T af a8 ai ac X al H ba ag b8 m A S P q g U bh av F bb u aq s ah an E bd ay J ao C z aw n y ab aj a6 a7 ax am be az R D au a2 G ar bi v bg ae l Z M d K aa f Y b0 I O:Value):
  Fz 32 Tryz.prog (GR 11 (Tryz.f32.body.getD .skip)) Q {tmps:=#[u0,.pointer (some ⟨w.heap.size,0,none⟩),.pointer (some ⟨w.heap.size+1,0,none⟩),.pointer (some ⟨w.heap.size+2,0,none⟩),u4,u5,u6,u7,u8,u9,cm,cp,bz,dj,cy,d9,dp,e7,cv,bv,de,e9,cc,bm,d7,e1,cg,cr,cl,dl,ce,dt,du,d2,cn,ci,dy,c8,ct,e3,e2,dn,cd,ep,ew,em,eq,ez,el,ey,f0,en,es,eu,ex,e8,e4,cw,dd,d4,bo,bn,ch,cx,dc,cf,c9,e0,bp,dm,cu,d0,ck,dg,d3,bx,dr,dv,bw,di,cz,co,da,bq,d5,bt,cj,dw,e5,dh,d1,d8,bu,dk,d6,dz,dq,ea,db,e6,b9,ad,ak,r,ap,i,a0,j,T,af,a8,ai,ac,X,al,H,ba,ag,b8,m,A,S,P,q,g,U,bh,av,F,bb,u,aq,s,ah,an,E,bd,ay,J,ao,C,z,aw,n,y,ab,aj,a6,a7,ax,am,be,az,R,D,au,a2,G,ar,bi,v,bg,ae,l,Z,M,d,K,aa,f,Y,b0,I,O],defers:=[J2 w.heap.size]} V:=by
 have bj:=yb (hP.at.nms fun _ h=>h)
 have b:=yb hP.cells
 have HZ:Hid (w.heap.size < V.heap.size):=yb (by have:=hP.size;omega)
 have HQ:=yb hQ;have HP:=yb hP;have c:=yb hP.slim
 have HF:=yb hf;have HW:=yb hw
 have cq:Hid (∀tm wr,Ly w.heap.size tm->Below V.heap.size V wr->¬ GQ x->Q (.panic (Er 171)) {tmps:=tm,defers:=[J2 w.heap.size]} wr):=yb (fun tm wr hv hb hn=>by
  rw[yq hn] at hw
  have:=hQ.fail tm wr hv (hP.up (hb.mono hP.size)).amid (by rw[hw];decide)
  rw[hw] at this;exact this)
 clear hQ hP hf hw
 unfold J2
 refine A9 (A4 ?_)
 go_wp2_with fail
 refine Vr (B:=w.heap.size) (h0:=L.lets) (h1:=L.crops) (h2:=L.reaches) (h3:=L.farms) (n0s:=x.lets.map (·.name)) (n1s:=x.crops.map (·.name)) (n2s:=x.reaches.map (·.name)) (n3s:=x.farms.map (·.name)) _ ?_ ?_ ?_ ?_ ?_ ?_ ?_ ?_ ?_ ?_ ?_ ?_ ?_ ?_
 ·rfl
 ·rfl
 ·rfl
 ·exact fun W hb=>⟨(hb.cell (p:=(aV w.heap.size 19)) HZ.o).trans b.o.lets,(hb.cell (p:=(aV w.heap.size 20)) HZ.o).trans b.o.crops,(hb.cell (p:=(aV w.heap.size 21)) HZ.o).trans b.o.reaches,(hb.cell (p:=(aV w.heap.size 22)) HZ.o).trans b.o.farms⟩
 ·exact fun W hb=>bj.o.lets.up hb
 ·exact fun W hb=>bj.o.crops.up hb
 ·exact fun W hb=>bj.o.reaches.up hb
 ·exact fun W hb=>bj.o.farms.up hb
 ·rw[yT];exact c.o.lets
 ·rw[yT];exact c.o.crops
 ·rw[yT];exact c.o.reaches
 ·rw[yT];exact c.o.farms
 ·intro a W dx bk hb hn
  obtain ⟨tm,df⟩:=a
  obtain rfl:df=[J2 w.heap.size]:=dx
  exact cq.o tm W ⟨(bk 2 (by omega)).trans rfl,(bk 3 (by omega)).trans rfl⟩ hb (fun h=>hn ⟨h.1,h.2.1,h.2.2.1,h.2.2.2.1⟩)
 ·intro a W bl bc br bf et dx bk g4 g5 g6 g7 m4 m5 m6 m7 b4 b5 b6 b7 hb hn
  have e:a={tmps:=#[u0,pV w.heap.size 0,pV (w.heap.size+1) 0,pV (w.heap.size+2) 0,(a.tmps.getD 4 undef),(a.tmps.getD 5 undef),(a.tmps.getD 6 undef),(a.tmps.getD 7 undef),u8,u9,cm,cp,bz,dj,cy,d9,dp,e7,cv,bv,de,e9,cc,bm,d7,e1,cg,cr,cl,dl,ce,dt,du,d2,cn,ci,dy,c8,ct,e3,e2,dn,cd,(a.tmps.getD 43 undef),(a.tmps.getD 44 undef),(a.tmps.getD 45 undef),(a.tmps.getD 46 undef),(a.tmps.getD 47 undef),(a.tmps.getD 48 undef),(a.tmps.getD 49 undef),(a.tmps.getD 50 undef),(a.tmps.getD 51 undef),(a.tmps.getD 52 undef),(a.tmps.getD 53 undef),(a.tmps.getD 54 undef),e8,e4,cw,dd,d4,bo,bn,ch,cx,dc,cf,c9,e0,bp,dm,cu,d0,ck,dg,d3,bx,dr,dv,bw,di,cz,co,da,bq,d5,bt,cj,dw,e5,dh,d1,d8,bu,dk,d6,dz,dq,ea,db,e6,b9,ad,ak,r,ap,i,a0,j,T,af,a8,ai,ac,X,al,H,ba,ag,b8,m,A,S,P,q,g,U,bh,av,F,bb,u,aq,s,ah,an,E,bd,ay,J,ao,C,z,aw,n,y,ab,aj,a6,a7,ax,am,be,az,R,D,au,a2,G,ar,bi,v,bg,ae,l,Z,M,d,K,aa,f,Y,b0,I,O],defers:=[J2 w.heap.size]}:=(Gk [4,5,6,7,43,44,45,46,47,48,49,50,51,52,53,54] (et.trans rfl) dx (fun t ht=>bk t ht)).trans (by kernel_rfl)
  rw[g4,g5,g6,g7] at e
  obtain ⟨ee,ek,ej,v46,ei,ec,eg,eb,v51,ef,ed,eh,rfl⟩:∃ee ek ej v46 ei ec eg eb v51 ef ed eh:Value,a={tmps:=#[u0,pV w.heap.size 0,pV (w.heap.size+1) 0,pV (w.heap.size+2) 0,pV bl 0,pV bc 0,pV br 0,pV bf 0,u8,u9,cm,cp,bz,dj,cy,d9,dp,e7,cv,bv,de,e9,cc,bm,d7,e1,cg,cr,cl,dl,ce,dt,du,d2,cn,ci,dy,c8,ct,e3,e2,dn,cd,ee,ek,ej,v46,ei,ec,eg,eb,v51,ef,ed,eh,e8,e4,cw,dd,d4,bo,bn,ch,cx,dc,cf,c9,e0,bp,dm,cu,d0,ck,dg,d3,bx,dr,dv,bw,di,cz,co,da,bq,d5,bt,cj,dw,e5,dh,d1,d8,bu,dk,d6,dz,dq,ea,db,e6,b9,ad,ak,r,ap,i,a0,j,T,af,a8,ai,ac,X,al,H,ba,ag,b8,m,A,S,P,q,g,U,bh,av,F,bb,u,aq,s,ah,an,E,bd,ay,J,ao,C,z,aw,n,y,ab,aj,a6,a7,ax,am,be,az,R,D,au,a2,G,ar,bi,v,bg,ae,l,Z,M,d,K,aa,f,Y,b0,I,O],defers:=[J2 w.heap.size]}:=⟨_,_,_,_,_,_,_,_,_,_,_,_,e⟩
  have eo:AF x=if (D9 x).Nodup∧(x.duties.map (·.name)).Nodup then (if Df (Tb.of x) x&&Cy (Tb.of x) x then 0 else 170) else 171:=by
   rw[HW.o]
   by_cases h:GQ x
   ·rw[yD h];exact (yD ⟨h.2.2.2.2.1,h.2.2.2.2.2⟩).symm
   ·rw[yq h];exact (yq (fun k=>h ⟨hn.1,hn.2.1,hn.2.2.1,hn.2.2.2,k.1,k.2⟩)).symm
  exact Vt HQ.o (HP.o.up (hb.mono HP.o.size)) m4 m5 m6 m7 HF.o eo _ _ _ _ _ _ _ _ _ _ _ _ _ _ _ _ _ _ _ _ _ _ _ _ _ _ _ _ _ _ _ _ _ _ _ _ _ _ _ _ _ _ _ _ _ _ _ _ _ _ _ _ _ _ _ _ _ _ _ _ _ _ _ _ _ _ _ _ _ _ _ _ _ _ _ _ _ _ _ _ _ _ _ _ _ _ _ _ _ _ _ _ _ _ _ _ _ _ _ _ _ _ _ _ _ _ _ _ _ _ _ _ _ _ _ _ _ _ _ _ _ _ _ _ _ _ _ _ _ _ _ _ _ _ _ _ _ _ _ _ _ _ _ _ _ _ _ _ _ _ _ _ _ _ _ _ _ _ _ _ _ _ _ _ _ _ _
end Go.Proofs.YtjofgpfocadomaaGreatDoor
