/- Parts of the proof, in short words: Ra Rb Rc Rd Re Rf Rg Rh Ri Rs Rj Rk Rl Rm Rn Ro -/
import Derived.Test.YtjofgpfocadomaaGreatDoorUi0
import Derived.Test.YtjofgpfocadomaaGreatDoorUi5
import Derived.Test.YtjofgpfocadomaaGreatDoorUi6
import Derived.Test.YtjofgpfocadomaaGreatDoorUi4
import Derived.BigFrameIn
set_option maxRecDepth 100000
set_option maxHeartbeats 16000000
set_option linter.unusedSimpArgs false
namespace Go.Proofs.YtjofgpfocadomaaGreatDoor
open Go.RowKit
structure Tb where
 lets:List ByteArray
 crops:List ByteArray
 reaches:List ByteArray
 farms:List ByteArray
def Tb.of(x:Av):Tb:=⟨x.lets.map (·.name),x.crops.map (·.name),x.reaches.map (·.name),x.farms.map (·.name)⟩
def Tb.tab(t:Tb)(c:Int):LB:=if c=3 then t.crops else if c=4 then t.reaches else if c=6 then t.reaches else if c=5 then t.farms else t.lets
def Et(to:Int):Int:=if to=2 then 1 else to
def early(to:Int):Bool:=decide (to=2)||decide (to=6)
def JF(t:Tb)(to at_:Int)(r:Rf):Bool:=
 if to=0 then decide (r.name.size=0∧r.n=0) else match CG (t.tab (Et to)) r.name with
  |some i=>!early to||decide ((i:Int) < at_)
  |none=>false
def Gs(t:Tb)(c:Int)(s:ByteArray):Int:=match CG (t.tab c) s with
 |some i=>(i:Int)
 |none=>0
def gT(t:Tb)(to:Int)(r:Rf):Rf:=if to=0 then r else {r with n:=Gs t (Et to) r.name}
mutual
def Ip(t:Tb):Ex->Ex
 |.mk op n u rn ri args=>.mk op n u rn (if op=2 then Gs t 1 rn else ri) (H2 t args)
def H2(t:Tb):List Ex->List Ex
 |[]=> []
 |e::r=>Ip t e::H2 t r
end
theorem MW(t:Tb):∀l:List Ex,H2 t l=l.map (Ip t)
 |[]=>rfl
 |e::r=>by rw[H2,MW t r];rfl
def fT(t:Tb)(_:Int)(e:Ex):Ex:=if BA e then e else Ip t e
mutual
def Sx(t:Tb)(lt:Int):Ex->Bool
 |.mk op _ _ rn ri args=>Nv op args.length&&(JF t (Kd op lt) (Nw op lt) ⟨rn,ri⟩&&RE t lt args)
def RE(t:Tb)(lt:Int):List Ex->Bool
 |[]=>true
 |e::r=>Sx t lt e&&RE t lt r
end
def JG(t:Tb)(e:Ks):Bool:=BA e.1||Sx t e.2 e.1
def MX(t:Tb)(d:CE):Bool:=JF t 4 0 d.on&&JF t (if d.river then 0 else 3) 0 d.crop
def QE(t:Tb)(d:Br):Bool:=JF t 4 0 d.on&&d.turns.all fun k=>JF t 5 0 k.farm
def Ke(t:Tb)(d:AW):Bool:=JF t 5 0 d.farm&&JF t (if d.kind=1 then 0 else 4) 0 d.reach
def MY(t:Tb)(d:CU):Bool:=JF t 5 0 d.farm&&JF t 4 0 d.reach
def Cw(t:Tb)(x:Av):Bool:=(Ax x).all (JG t)&&(BZ x&&(x.farms.all (MX t)&&(x.rots.all (QE t)&&(x.rights.all (Ke t)&&x.duties.all (MY t)))))
def MZ(t:Tb)(p:AA × Nat):Bool:=JF t (if p.2=0 then 0 else 6) p.2 p.1.frm
def Dh(t:Tb)(x:Av):Bool:=x.reaches.zipIdx.all (MZ t)
def BD(x:Av):Bool:=Kw x&&(FR x.rots&&EU x)
def Db(x:Av):LB:=x.rots.map (·.name)++x.rights.map (·.name)
def D5(x:Av):Bool:=At x.name&&((x.lets.map (·.name)).all At&&((x.crops.map (·.name)).all At&&((x.reaches.map (·.name)).all At&&((x.farms.map (·.name)).all At&&((x.rots.map (·.name)).all At&&((x.rights.map (·.name)).all At&&(x.duties.map (·.name)).all At))))))
def H3(x:Av):Prop:=(x.lets.map (·.name)).Nodup∧(x.crops.map (·.name)).Nodup∧(x.reaches.map (·.name)).Nodup∧(x.farms.map (·.name)).Nodup∧(Db x).Nodup∧(x.duties.map (·.name)).Nodup
instance (x:Av):Decidable (H3 x):=by unfold H3;infer_instance
def Ah(x:Av):Av:=x.mp (fT (Tb.of x)) (gT (Tb.of x))
def AE(x:Av):Int:=
 if BD x then (if D5 x then (if H3 x then (if Dh (Tb.of x) x&&Cw (Tb.of x) x then 0 else 170) else 171) else 170) else 2
def Jb(t:Tb)(u:Us):Bool:=JF t u.to u.at_ ⟨u.name,u.n⟩
def IG(t:Tb)(p:List Us × Bool):Prop:=p.2=true∧∀u∈p.1,Jb t u=true
theorem O7(t:Tb):∀l:List (List Us × Bool),IG t (BC l)↔∀p∈l,IG t p
 |[]=>by simp[IG,BC]
 |x::r=>by
  have ih:=O7 t r
  simp only[xp,<-ih]
  have e:BC (x::r)=if x.2 then (x.1++(BC r).1,(BC r).2) else (x.1,false):=rfl
  rw[e]
  unfold IG
  by_cases h:x.2=true
  ·simp only[h,zD,yz,true_and]
   constructor
   ·rintro ⟨h1,h2⟩;exact ⟨fun u a=>h2 u (.inl a),h1,fun u a=>h2 u (.inr a)⟩
   ·rintro ⟨h1,h2,h3⟩;exact ⟨h2,fun u a=>a.elim (h1 u) (h3 u)⟩
  ·simp[h]
mutual
theorem Mm(t:Tb){w:World}{C:Addr->Prop}(lt:Int):∀(e:Ex) (b o:Nat),Rn w C e b o->(IG t (BY w lt e b o)↔Sx t lt e=true)
 |.mk op n u rn ri args,b,o,h=>by
  rw[Rn] at h
  obtain ⟨a,cap,h1,h2,h3,g⟩:=h
  rw[BY,Sx]
  by_cases hs:Nv op args.length=true
  ·rw[yw hs,hs,h2.1]
   have ih:=Mn t lt args a args.length cap 0 g
   unfold IG at ih ⊢
   simp only[xp,Bool.true_and,yG,<-ih,Jb]
   constructor
   ·rintro ⟨f,c,d⟩;exact ⟨c,f,d⟩
   ·rintro ⟨c,f,d⟩;exact ⟨f,c,d⟩
  ·rw[yt hs]
   simp[IG,hs]
theorem Mn(t:Tb){w:World}{C:Addr->Prop}(lt:Int):∀(l:List Ex) (a:Option Addr) (n cap i:Nat),JT w C a i l->(IG t (Bv w lt l (some (.slice a n cap)) i)↔RE t lt l=true)
 |[],a,n,cap,i,h=>by simp[Bv,RE,IG]
 |e::r,a,n,cap,i,h=>by
  rw[JT] at h
  obtain ⟨⟨b,o,rfl,h1⟩,h2⟩:=h
  have m:=Mm t lt e b (o+i*6) h1
  have j:=Mn t lt r (some ⟨b,o,none⟩) n cap (i+1) h2
  rw[Bv,RE,yG,<-m,<-j]
  unfold IG
  by_cases g:(BY w lt e b (o+i*6)).2=true
  ·simp only[g,zD,true_and,yz]
   constructor
   ·rintro ⟨f,d⟩;exact ⟨fun u c=>d u (.inl c),f,fun u c=>d u (.inr c)⟩
   ·rintro ⟨f,d,k⟩;exact ⟨d,fun u c=>c.elim (f u) (k u)⟩
  ·simp[g]
end
theorem O8{α β γ:Type}{R:α->β->Prop}{f:α->β->γ}{p:γ->Prop}{q:β->Prop}(h:∀a b,R a b->(p (f a b)↔q b)):∀ {l:List α} {m:List β},AB R l m->((∀c∈List.zipWith f l m,p c)↔∀b∈m,q b)
 |[],[],_=>by simp
 |a::l,b::m,hA=>by
  rw[AB] at hA
  simp only[xX,xp,h a b hA.1,O8 h hA.2]
 |[],b::m,hA=>by simp[AB] at hA
 |a::l,[],hA=>by simp[AB] at hA
theorem T5{N:NP}{w:World}{C D:Addr->Prop}(t:Tb)(a:Array Value)(e:Ks)(h:Vz N w C D a e):IG t (Cl w a e)↔JG t e=true:=by
 obtain ⟨b,o,cs,rfl,_,_,hr,_⟩:=h
 unfold Cl JG
 by_cases c:BA e.1=true
 ·simp[c,IG]
 ·rw[yt c,Bool.or_eq_true,or_iff_right c]
  exact Mm t e.2 e.1 b o hr
theorem RF{f:Nat->List Us}{n:Nat}{p:Us->Prop}:(∀u∈(List.range n).flatMap f,p u)↔∀i,i < n->∀u∈f i,p u:=by
 constructor
 ·intro h i hi u a;exact h u (yY.2 ⟨i,zg.2 hi,a⟩)
 ·intro h u a
  obtain ⟨i,hi,a⟩:=yY.1 a
  exact h i (zg.1 hi) u a
theorem G1{α:Type}{l:List α}{n:Nat}(a:n=l.length){f:Nat->List Us}{p:Us->Prop}{q:α->Bool}(h:∀i (hi:i < l.length),(∀u∈f i,p u)↔q l[i]=true):(∀u∈(List.range n).flatMap f,p u)↔l.all q=true:=by
 rw[RF,yR]
 constructor
 ·intro k d hd
  obtain ⟨i,hi,rfl⟩:=zh.1 hd
  exact (h i hi).1 (k i (by omega))
 ·intro k i hi
  exact (h i (by omega)).2 (k _ (yM (by omega)))
theorem G2{N:NP}{w:World}{C D:Addr->Prop}{Bu:Nat}{L:Bt}{x:Av}(t:Tb)(h:Ku N w C D Bu L x):IG t (BQ w L x)↔Cw t x=true:=by
 unfold BQ En Cw
 rw[O7]
 simp only[yz,ze,or_imp,forall_and,forall_eq,yG]
 refine and_congr ?_ ?_
 ·rw[yR]
  exact O8 (T5 t) h.top
 ·unfold IG
  simp only
  refine and_congr_right fun a=>?_
  rw[yw a]
  unfold Cc
  simp only[yz,or_imp,forall_and]
  rw[G1 h.nfarms (q:=MX t) fun i hi=>?_,G1 h.nrots (q:=QE t) fun i hi=>?_,G1 h.nrights (q:=Ke t) fun i hi=>?_,G1 h.nduties (q:=MY t) fun i hi=>?_]
  ·simp only[and_assoc]
  ·unfold E2;rw[yk hi];simp[MY,Jb,CV]
  ·unfold CJ;rw[yk hi];simp[Ke,Jb,CV]
  ·unfold Gm;rw[yk hi]
   simp only[xp,QE,yG,Jb,CV]
   refine and_congr Iff.rfl ?_
   refine G1 (h.nturns i hi) fun k a=>?_
   unfold EY;rw[yk a];simp[CV]
  ·unfold Ei;rw[yk hi];simp[MX,Jb,CV]
def O9(W:World)(b:Nat):Nat:=match W.heap[b]? with
 |some (.cells _ t _)=>t
 |_=>0
theorem E5{W:World}{b t:Nat}(h:Ty W b t):O9 W b=t:=by
 obtain ⟨c,e⟩:=h
 unfold O9;rw[e]
def F1(W:World)(b o:Nat):Int:=
 if Fu (O9 W b) (o+1)=1 then (match W.cell? ⟨b,o - 3,none⟩ with
  |some (.int _ z)=>if z=2 then 1 else 0
  |_=>0)
 else if O9 W b=66 then (if o < 51 then 0 else 6)
 else if O9 W b=94 then (if o % 12=1 then 4 else match W.cell? ⟨b,o - 7,none⟩ with
  |some (.bool r)=>if r then 0 else 3
  |_=>3)
 else if O9 W b=109 then 4
 else if O9 W b=158 then 5
 else if O9 W b=131 then (if o % 37=2 then 5 else match W.cell? ⟨b,o - 4,none⟩ with
  |some (.int _ z)=>if z=1 then 0 else 4
  |_=>4)
 else (if o % 11=1 then 5 else 4)
def VD(t q:Nat):Prop:=Fu t q=2∨(Fu t q=1∧FX t q=4)
def Iq(B:Nat)(W:World)(b q:Nat):Prop:=B<=b∧∃o t,q=o+1∧Ty W b t∧VD t (o+1)∧F1 W b o≠0
structure Ny (B:Nat) (W:World) (u:Us):Prop where
 base:B<=u.b
 t:∃t,Ty W u.b t∧VD t (u.o+1)∧¬ VD t u.o
 name:W.cell? ⟨u.b,u.o,none⟩=some (.string u.name)
 len:u.name.size<=maxLen
 n:W.cell? ⟨u.b,u.o+1,none⟩=some (.int .i64 u.n)
 cat:F1 W u.b u.o=Et u.to
 to:u.to=0∨u.to=1∨u.to=2∨u.to=3∨u.to=4∨u.to=5∨u.to=6
theorem Mo{u:Us}:Et u.to=0↔u.to=0:=by
 unfold Et;split<;>omega
structure RJ (B:Nat) (W4:World) (t:Tb) (X:List Us) (k:Nat) (O:Nat->Prop) (W:World):Prop where
 os:W.os=W4.os
 tape:W.tape=W4.tape
 output:W.output=W4.output
 size:W4.heap.size<=W.heap.size
 own:∀b,O b->W4.heap.size<=b
 ty:∀(b:Nat) (c:Array Value) (t:TypeId),W4.heap[b]?=some (.cells c t (0,0))->∃c':Array Value,c'.size=c.size∧W.heap[b]?=some (.cells c' t (0,0))
 same:∀b:Nat,b < W4.heap.size->(∀q,¬ Iq B W4 b q)->W.heap[b]?=W4.heap[b]?
 cells:∀b q,b < W4.heap.size->¬ Iq B W4 b q->W.cell? ⟨b,q,none⟩=W4.cell? ⟨b,q,none⟩
 nums:∀b q,Iq B W4 b q->(∃z,W4.cell? ⟨b,q,none⟩=some (.int .i64 z))->∃z,W.cell? ⟨b,q,none⟩=some (.int .i64 z)
 done:∀j (h:j < X.length),j < k->Jb t X[j]=true∧(X[j].to≠0->X[j].b < W4.heap.size∧W.cell? ⟨X[j].b,X[j].o+1,none⟩=some (.int .i64 (Gs t (Et X[j].to) X[j].name)))
section
variable{B:Nat}{W4 W w':World}{t:Tb}{X:List Us}{k:Nat}{O:NP}
theorem RJ.start(B:Nat)(W4:World)(t:Tb)(X:List Us):RJ B W4 t X 0 (fun _=>False) W4:=
 ⟨rfl,rfl,rfl,yf _,fun _ h=>h.elim,fun _ c _ h=>⟨c,rfl,h⟩,fun _ _ _=>rfl,fun _ _ _ _=>rfl,fun _ _ _ h=>h,fun _ _ h=>by omega⟩
theorem RJ.tyT(h:RJ B W4 t X k O W){b ty:Nat}(hb:Ty W4 b ty):Ty W b ty:=by
 obtain ⟨c,e⟩:=hb
 obtain ⟨d,_,a⟩:=h.ty b c ty e
 exact ⟨d,a⟩
theorem RJ.move{i:NP}(h:RJ B W4 t X k O W)(r:W.heap.size<=w'.heap.size)(v:w'.os=W.os)(o:w'.tape=W.tape)(l:w'.output=W.output)(d:∀b,b < W4.heap.size->w'.heap[b]?=W.heap[b]?)(p:∀b,i b->W4.heap.size<=b):RJ B W4 t X k i w':=by
 refine ⟨v.trans h.os,o.trans h.tape,l.trans h.output,yu h.size r,p,fun b c ty hb=>?_,fun b hb a=>(d b hb).trans (h.same b hb a),fun b q hb a=>(Ab (d b hb)).trans (h.cells b q hb a),fun b q a hi=>?_,fun j m g=>?_⟩
 ·obtain ⟨u,s,n⟩:=h.ty b c ty hb
  exact ⟨u,s,(d b (yd.1 hb).1).trans n⟩
 ·obtain ⟨z,f⟩:=h.nums b q a hi
  obtain ⟨_,_,ty,_,h1,_⟩:=a
  exact ⟨z,(Ab (d b h1.lt)).trans f⟩
 ·obtain ⟨h1,h2⟩:=h.done j m g
  refine ⟨h1,fun h3=>?_⟩
  have e:=h2 h3
  exact ⟨e.1,(Ab (d _ e.1)).trans e.2⟩
theorem RJ.stays:Ca (RJ B W4 t X):=by
 intro k O W j W' h f i c e g d
 refine h.move f i c e (fun b hb=>g b (fun a=>by have:=h.own b a;omega) (yv hb h.size)) (fun b hb=>?_)
 rcases d b hb with h1|h1
 ·exact h.own b h1
 ·have:=h.size;omega
theorem RJ.below{a:Nat}(h:RJ B W4 t X k O W)(hb:Below a W w')(d:W4.heap.size<=a):RJ B W4 t X k O w':=
 h.move hb.size hb.os hb.tape hb.output (fun b c=>hb.block b (by omega)) h.own
theorem Ny.notName{u:Us}(h:Ny B W4 u):¬ Iq B W4 u.b u.o:=by
 rintro ⟨_,o,ty,e,h1,h2,_⟩
 obtain ⟨a,d,f,c⟩:=h.t
 obtain rfl:=h1.inj d
 rw[<-e] at h2
 exact c h2
theorem Ny.lt{u:Us}(h:Ny B W4 u):u.b < W4.heap.size:=by
 obtain ⟨a,c,d,e⟩:=h.t
 exact c.lt
theorem Ny.num{u:Us}(h:Ny B W4 u)(h0:u.to≠0):Iq B W4 u.b (u.o+1):=by
 obtain ⟨a,d,c,f⟩:=h.t
 exact ⟨h.base,u.o,a,rfl,d,c,by rw[h.cat];exact fun e=>h0 (Mo.1 e)⟩
theorem Ny.notNum{u:Us}(h:Ny B W4 u)(h0:u.to=0):¬ Iq B W4 u.b (u.o+1):=by
 rintro ⟨_,o,ty,e,h1,h2,h3⟩
 obtain rfl:o=u.o:=by omega
 rw[h.cat] at h3
 exact h3 (Mo.2 h0)
theorem RJ.read{u:Us}(h:RJ B W4 t X k O W)(a:Ny B W4 u):W.cell? ⟨u.b,u.o,none⟩=some (.string u.name)∧(∃z,W.cell? ⟨u.b,u.o+1,none⟩=some (.int .i64 z)∧(u.to=0->z=u.n))∧W.frozen? ⟨u.b,u.o+1,none⟩=false:=by
 refine ⟨(h.cells _ _ a.lt a.notName).trans a.name,?_,?_⟩
 ·by_cases h0:u.to=0
  ·exact ⟨u.n,(h.cells _ _ a.lt (a.notNum h0)).trans a.n,fun _=>rfl⟩
  ·obtain ⟨z,d⟩:=h.nums _ _ (a.num h0) ⟨_,a.n⟩
   exact ⟨z,d,fun e=>absurd e h0⟩
 ·obtain ⟨c,f,g,i⟩:=a.t
  exact (h.tyT f).frozen
theorem RJ.skip{u:Us}(h:RJ B W4 t X k O W)(c:X[k]?=some u)(h0:u.to=0)(a:Jb t u=true):RJ B W4 t X (k+1) O W:=by
 obtain ⟨f,rfl⟩:=yA.1 c
 refine ⟨h.os,h.tape,h.output,h.size,h.own,h.ty,h.same,h.cells,h.nums,fun j b d=>?_⟩
 by_cases e:j=k
 ·subst e;exact ⟨a,fun h=>absurd h0 h⟩
 ·exact h.done j b (by omega)
theorem RJ.next{u:Us}(h:RJ B W4 t X k O W)(x:∀u∈X,Ny B W4 u)(C:X[k]?=some u)(h0:u.to≠0)(v:Jb t u=true):RJ B W4 t X (k+1) O (W.setCell ⟨u.b,u.o+1,none⟩ (.int .i64 (Gs t (Et u.to) u.name))):=by
 obtain ⟨D,rfl⟩:=yA.1 C
 have l:=x _ (yM D)
 obtain ⟨_,⟨z,G,_⟩,_⟩:=h.read l
 obtain ⟨n,J,K,p⟩:=Ac (iV (Gs t (Et X[k].to) X[k].name)) G
 have y:=l.num h0
 have a:∀b q,(b≠X[k].b∨q≠X[k].o+1)->(W.setCell ⟨X[k].b,X[k].o+1,none⟩ (iV (Gs t (Et X[k].to) X[k].name))).cell? (aV b q)=W.cell? (aV b q):=fun b q f=>
  World.cell?_setCell_other _ _ _ _ (fun e=>by cases e;simp at f)
 refine ⟨n.os.trans h.os,n.tape.trans h.tape,n.output.trans h.output,yu h.size n.size,h.own,fun b c ty hb=>?_,fun b hb f=>?_,fun b q hb f=>?_,fun b q f hi=>?_,fun j w I=>?_⟩
 ·obtain ⟨A,i,d⟩:=h.ty b c ty hb
  by_cases m:b=X[k].b
  ·subst m
   exact ⟨_,by rw[Array.size_setIfInBounds];exact i,zp W _ _ A ty _ d⟩
  ·exact ⟨A,i,(zk W _ b _ m).trans d⟩
 ·have m:b≠X[k].b:=fun e=>f _ (e▸y)
  exact (zk W _ b _ m).trans (h.same b hb f)
 ·rw[a b q (by by_cases e:b=X[k].b;exact .inr (fun d=>f (by rw[e,d];exact y));exact .inl e)]
  exact h.cells b q hb f
 ·by_cases e:b=X[k].b∧q=X[k].o+1
  ·obtain ⟨rfl,rfl⟩:=e
   exact ⟨_,p⟩
  ·rw[a b q (by by_cases d:b=X[k].b;exact .inr (fun r=>e ⟨d,r⟩);exact .inl d)]
   exact h.nums b q f hi
 ·by_cases e:j=k
  ·subst e;exact ⟨v,fun _=>⟨l.lt,p⟩⟩
  ·obtain ⟨F,E⟩:=h.done j w (by omega)
   refine ⟨F,fun h3=>?_⟩
   have g:=x _ (yM w)
   by_cases e:X[j].b=X[k].b∧X[j].o+1=X[k].o+1
   ·obtain ⟨i,d⟩:=e
    have d:X[j].o=X[k].o:=by omega
    have H:Et X[j].to=Et X[k].to:=by rw[<-g.cat,<-l.cat,i,d]
    have s:X[j].name=X[k].name:=by
     have h1:=g.name
     rw[i,d,l.name] at h1
     exact (Value.string.inj (yi h1)).symm
    refine ⟨g.lt,?_⟩
    rw[i,d,H,s];exact p
   ·rw[a _ _ (by by_cases d:X[j].b=X[k].b;exact .inr (fun r=>e ⟨d,r⟩);exact .inl d)]
    exact E h3
end
section
variable{W:World}{g:Nat}
theorem PO(h:Ty W g 66)(i:Nat):F1 W g (i*51+1)=if i=0 then 0 else 6:=by
 have e:Fu 66 (i*51+1+1)=2:=by rw[zR,(D3 BS i (1+1)).1];rfl
 unfold F1
 rw[E5 h,e,yt (by decide),yw rfl]
 by_cases hi:i=0
 ·subst hi;rfl
 ·rw[yt hi,yt (by omega)]
theorem Ue(h:Ty W g 94)(i:Nat):F1 W g (i*12+1)=4:=by
 have e:Fu 94 (i*12+1+1)=2:=by rw[zR,(D3 Fe i (1+1)).1];rfl
 unfold F1
 rw[E5 h,e,yt (by decide),yt (by decide),yw rfl,yw (by omega)]
theorem RG(h:Ty W g 94)(i:Nat){r:Bool}(hr:W.cell? ⟨g,i*12+3,none⟩=some (.bool r)):F1 W g (i*12+10)=if r then 0 else 3:=by
 have e:Fu 94 (i*12+10+1)=2:=by rw[zR,(D3 Fe i (10+1)).1];rfl
 unfold F1
 rw[E5 h,e,yt (by decide),yt (by decide),yw rfl,yt (by omega),show i*12+10 - 7=i*12+3 by omega,hr]
theorem T6(h:Ty W g 109)(i:Nat):F1 W g (i*23+1)=4:=by
 have e:Fu 109 (i*23+1+1)=2:=by rw[zR,(D3 Fv i (1+1)).1];rfl
 unfold F1
 rw[E5 h,e,yt (by decide),yt (by decide),yt (by decide),yw rfl]
theorem RH(h:Ty W g 158)(i:Nat):F1 W g (i*8)=5:=by
 have e:Fu 158 (i*8+1)=2:=by rw[(D3 KF i 1).1];rfl
 unfold F1
 rw[E5 h,e,yt (by decide),yt (by decide),yt (by decide),yt (by decide),yw rfl]
theorem Uf(h:Ty W g 131)(i:Nat):F1 W g (i*37+2)=5:=by
 have e:Fu 131 (i*37+2+1)=2:=by rw[zR,(D3 BT i (2+1)).1];rfl
 unfold F1
 rw[E5 h,e,yt (by decide),yt (by decide),yt (by decide),yt (by decide),yt (by decide),yw rfl,yw (by omega)]
theorem Ug(h:Ty W g 131)(i:Nat){k:IntKind}{z:Int}(hr:W.cell? ⟨g,i*37,none⟩=some (.int k z)):F1 W g (i*37+4)=if z=1 then 0 else 4:=by
 have e:Fu 131 (i*37+4+1)=2:=by rw[zR,(D3 BT i (4+1)).1];rfl
 unfold F1
 rw[E5 h,e,yt (by decide),yt (by decide),yt (by decide),yt (by decide),yt (by decide),yw rfl,yt (by omega),show i*37+4 - 4=i*37 by omega,hr]
theorem Uh(h:Ty W g 135)(i:Nat):F1 W g (i*11+1)=5:=by
 have e:Fu 135 (i*11+1+1)=2:=by rw[zR,(D3 Gq i (1+1)).1];rfl
 unfold F1
 rw[E5 h,e,yt (by decide),yt (by decide),yt (by decide),yt (by decide),yt (by decide),yt (by decide),yw (by omega)]
theorem Ui(h:Ty W g 135)(i:Nat):F1 W g (i*11+3)=4:=by
 have e:Fu 135 (i*11+3+1)=2:=by rw[zR,(D3 Gq i (3+1)).1];rfl
 unfold F1
 rw[E5 h,e,yt (by decide),yt (by decide),yt (by decide),yt (by decide),yt (by decide),yt (by decide),yt (by omega)]
theorem QF{o:Nat}(h:Gp W g o){k:IntKind}{op:Int}(hr:W.cell? ⟨g,o,none⟩=some (.int k op)):F1 W g (o+3)=if op=2 then 1 else 0:=by
 obtain ⟨t,ty,a⟩:=h
 have e:Fu t (o+3+1)=1:=(a 4 (by omega)).1
 unfold F1
 rw[E5 ty,e,yw rfl,show o+3 - 3=o by omega,hr]
theorem KK(h:Ty W g 26)(i:Nat):Gp W g (i*6):=
 ⟨_,h,fun j a=>⟨by simp[Fu],by simp only[FX];simp;omega⟩⟩
end
section
variable{B:Nat}{W:World}{M:NP}
theorem F2{to at_:Int}{r:Rf}{b o:Nat}(c:B<=b)(hr:RV W to r b o)(d:PA W b o)(e:F1 W b o=Et to)(a:to=0∨to=1∨to=2∨to=3∨to=4∨to=5∨to=6):Ny B W ⟨b,o,to,at_,r.name,r.n⟩:=by
 obtain ⟨t,ty,h1,h2⟩:=d
 refine ⟨c,⟨t,ty,.inl h2,?_⟩,hr.2.1,hr.1,hr.2.2,e,a⟩
 rintro (h|h)
 ·rw[h1] at h;cases h
 ·rw[h1] at h;cases h.1
mutual
theorem Oa(hM:∀g,M g->B<=g)(lt:Int):∀(e:Ex) (b o:Nat) (cs:LV),B<=b->I1 W M e cs->W.rangeAt b o cs->Gp W b o->∀u∈(BY W lt e b o).1,Ny B W u
 |.mk op n u rn ri args,b,o,cs,hb,hv,hr,hp=>by
  rw[I1] at hv
  obtain ⟨a,cap,rfl,h2,h3,k⟩:=hv
  obtain ⟨q,r1,r2,l,m,p⟩:=Bp hr
  intro v c
  rw[BY] at c
  by_cases hs:Nv op args.length=true
  ·rw[yw hs,p] at c
   simp only[yI] at c
   rcases c with rfl|c
   ·have r:=QF hp q
    obtain ⟨t,ty,f⟩:=hp
    have i:=f 3 (by omega);have j:=f 4 (by omega)
    refine ⟨hb,⟨t,ty,.inr j,?_⟩,l,h3,m,?_,?_⟩
    ·rintro (h|h)
     ·simp only at h;rw[i.1] at h;cases h
     ·simp only at h;rw[i.2] at h;exact absurd h.2 (by decide)
    ·simp only;rw[r];unfold Kd Et
     by_cases d:op=2
     ·simp only[d,zD];split<;>simp
     ·simp[d]
    ·simp only;unfold Kd
     by_cases d:op=2
     ·simp only[d,zD];split<;>simp
     ·simp[d]
   ·exact Ob hM lt args a args.length cap 0 k v c
  ·rw[yt hs] at c;cases c
theorem Ob(hM:∀g,M g->B<=g)(lt:Int):∀(l:List Ex) (a:Option Addr) (n cap i:Nat),DI W M a i l->∀u∈(Bv W lt l (some (.slice a n cap)) i).1,Ny B W u
 |[],a,n,cap,i,h=>by intro v b;rw[Bv] at b;cases b
 |e::r,a,n,cap,i,h=>by
  rw[DI] at h
  obtain ⟨⟨g,cs,rfl,h1,h2,h3,f⟩,h5⟩:=h
  have c:=Oa hM lt e g (0+i*6) cs (hM g h1) f (by rw[yy];exact h3) (by rw[yy];exact KK h2 i)
  have d:=Ob hM lt r (some ⟨g,0,none⟩) n cap (i+1) h5
  intro v b
  rw[Bv] at b
  split at b
  ·rcases yz.1 b with b|b
   ·exact c v b
   ·exact d v b
  ·exact c v b
end
theorem II{u:Us}:∀ {l:List (List Us × Bool)},u∈(BC l).1->∃p∈l,u∈p.1
 |[],h=>by simp[BC] at h
 |x::r,h=>by
  have e:BC (x::r)=if x.2 then (x.1++(BC r).1,(BC r).2) else (x.1,false):=rfl
  rw[e] at h
  split at h
  ·rcases yz.1 h with h|h
   ·exact ⟨x,by simp,h⟩
   ·obtain ⟨p,h1,h2⟩:=II h
    exact ⟨p,by simp[h1],h2⟩
  ·exact ⟨x,by simp,h⟩
theorem QG{α β:Type}{R:α->β->Prop}{f:α->β->List Us × Bool}{P:Us->Prop}(h:∀a b,R a b->∀u∈(f a b).1,P u):∀ {l:List α} {m:List β},AB R l m->∀p∈List.zipWith f l m,∀u∈p.1,P u
 |[],_,_=>by simp
 |_::_,[],_=>by simp
 |a::l,b::m,hA=>by
  rw[AB] at hA
  simp only[xX,xp]
  exact ⟨h a b hA.1,QG h hA.2⟩
def Ir(h:Au)(l:List AA)(i:Nat):List Us:=match l[i]? with
 |some d=> [⟨(h.at 51 i 1).block,(h.at 51 i 1).off,if i=0 then 0 else 6,i,d.frm.name,d.frm.n⟩]
 |none=> []
def EW(L:Bt)(x:Av):List Us:=(List.range L.reaches.n).flatMap (Ir L.reaches x.reaches)
def Cx(W:World)(L:Bt)(x:Av):List Us:=EW L x++(BQ W L x).1
theorem QH{N:NP}{L:Bt}{x:Av}(hN:∀g,N g->B<=g)(hM:∀g,M g->B<=g)(hs:N L.s)(h:C8 N (ET M W) (RV W) W L x):∀u∈Cx W L x,Ny B W u:=by
 intro u d
 rcases yz.1 d with d|d
 ·obtain ⟨i,hi,d⟩:=yY.1 d
  have j:i < x.reaches.length:=by rw[<-h.reaches.1];exact zg.1 hi
  unfold Ir at d
  rw[yk j] at d
  simp only[ze] at d
  obtain ⟨g,n,l,ty,_,hr,_⟩:=h.reaches.2.2 i j
  rw[AO n,yy] at d
  rw[d]
  exact F2 (hN g l) hr (BL ty BS i 1 rfl rfl) (by rw[PO ty];split<;>rfl) (by split<;>simp)
 ·obtain ⟨p,q,d⟩:=II d
  unfold En at q
  rcases yz.1 q with q|q
  ·refine QG (R:=Vr N (ET M W) W) (f:=Cl W) (P:=Ny B W) (fun a e C u d=>?_) (h.all2 hs) p q u d
   obtain ⟨b,o,rfl,hb,t,c,w,y⟩:=C
   unfold Cl at d
   split at d
   ·cases d
   ·exact Oa hM e.2 e.1 b o c (hN b hb) y w t u d
  ·simp only[ze] at q
   rw[q] at d
   simp only at d
   split at d
   ·unfold Cc at d
    simp only[yz] at d
    rcases d with ((d|d)|d)|d
    ·obtain ⟨i,hi,d⟩:=yY.1 d
     have j:i < x.farms.length:=by rw[<-h.farms.1];exact zg.1 hi
     obtain ⟨g,n,l,ty,_,hr,A,_,m⟩:=h.farms.2.2 i j
     unfold Ei at d
     rw[yk j] at d
     simp only[CV,AO n,yy,yI,yZ,zH] at d
     rcases d with rfl|rfl
     ·exact F2 (hN g l) hr (BL ty Fe i 1 rfl rfl) (by rw[Ue ty];rfl) (by simp)
     ·exact F2 (hN g l) m (BL ty Fe i 10 rfl rfl) (by rw[RG ty i A];split<;>rfl) (by split<;>simp)
    ·obtain ⟨i,hi,d⟩:=yY.1 d
     have j:i < x.rots.length:=by rw[<-h.rots.1];exact zg.1 hi
     obtain ⟨g,n,l,ty,_,hr,_,_,_,_,_,z⟩:=h.rots.2.2 i j
     unfold Gm at d
     rw[yk j] at d
     simp only[CV,AO n,yy,yI] at d
     rcases d with rfl|d
     ·exact F2 (hN g l) hr (BL ty Fv i 1 rfl rfl) (by rw[T6 ty];rfl) (by simp)
     ·obtain ⟨k,v,d⟩:=yY.1 d
      have r:k < (x.rots[i]).turns.length:=by rw[<-z.1];exact zg.1 v
      obtain ⟨g,n,l,ty,hr,_⟩:=z.2.2 k r
      unfold EY at d
      rw[yk r] at d
      simp only[CV,AO n,yy,xZ,ze] at d
      rw[d]
      exact F2 (hN g l) hr (Mf ty KF k rfl rfl) (by rw[RH ty];rfl) (by simp)
    ·obtain ⟨i,hi,d⟩:=yY.1 d
     have j:i < x.rights.length:=by rw[<-h.rights.1];exact zg.1 hi
     obtain ⟨g,n,l,ty,v,_,hr,m,_⟩:=h.rights.2.2 i j
     unfold CJ at d
     rw[yk j] at d
     simp only[CV,AO n,yy,yI,yZ,zH] at d
     rcases d with rfl|rfl
     ·exact F2 (hN g l) hr (BL ty BT i 2 rfl rfl) (by rw[Uf ty];rfl) (by simp)
     ·exact F2 (hN g l) m (BL ty BT i 4 rfl rfl) (by rw[Ug ty i v];split<;>rfl) (by split<;>simp)
    ·obtain ⟨i,hi,d⟩:=yY.1 d
     have j:i < x.duties.length:=by rw[<-h.duties.1];exact zg.1 hi
     obtain ⟨g,n,l,ty,_,hr,m,_⟩:=h.duties.2.2 i j
     unfold E2 at d
     rw[yk j] at d
     simp only[CV,AO n,yy,yI,yZ,zH] at d
     rcases d with rfl|rfl
     ·exact F2 (hN g l) hr (BL ty Gq i 1 rfl rfl) (by rw[Uh ty];rfl) (by simp)
     ·exact F2 (hN g l) m (BL ty Gq i 3 rfl rfl) (by rw[Ui ty];rfl) (by simp)
   ·cases d
end
section
variable{B:Nat}{W W':World}{N M:NP}{L:Bt}{x:Av}{t:Tb}{X:List Us}{k:Nat}{O:NP}
def CR(B:Nat)(W:World)(p:Addr):Prop:=∃b q,p=⟨b,q,none⟩∧b < W.heap.size∧¬ Iq B W b q
def DR(W:World)(p:Addr):Prop:=∃b q,p=⟨b,q,none⟩∧b < W.heap.size∧∃z,W.cell? ⟨b,q,none⟩=some (.int .i64 z)
theorem RJ.hd(h:RJ B W t X k O W'):Wg W (CR B W) (DR W) W':=by
 constructor
 ·rintro p ⟨b,q,rfl,h1,h2⟩;exact h.cells b q h1 h2
 ·rintro p ⟨b,q,rfl,h1,h2⟩
  by_cases a:Iq B W b q
  ·exact h.nums b q a h2
  ·rw[h.cells b q h1 a];exact h2
theorem PQ{b q ty:Nat}(h:Ty W b ty)(c:¬ VD ty q):¬ Iq B W b q:=by
 rintro ⟨_,o,a,rfl,h1,h2,_⟩
 obtain rfl:=h.inj h1
 exact c h2
theorem G3{b q:Nat}(h:NV W b q):¬ Iq B W b q:=by
 obtain ⟨ty,h1,h2⟩:=h
 exact PQ h1 (by rintro (h|h);rw[h2] at h;cases h;rw[h2] at h;cases h.1)
theorem Fi{b o:Nat}(h:Gp W b o){j:Nat}(a:j < 6)(c:j≠4):¬ Iq B W b (o+j):=by
 obtain ⟨ty,h1,h2⟩:=h
 refine PQ h1 ?_
 rintro (h|h)
 ·rw[(h2 j a).1] at h;cases h
 ·rw[(h2 j a).2] at h;exact c h.2
theorem KL{b o:Nat}(h:Gp W b o){d:IntKind}{op:Int}(hr:W.cell? ⟨b,o,none⟩=some (.int d op))(h2:op≠2):¬ Iq B W b (o+4):=by
 rintro ⟨_,c,a,e,h1,_,h3⟩
 obtain rfl:c=o+3:=by omega
 rw[QF h hr,yt h2] at h3
 exact h3 rfl
mutual
theorem T7:∀(e:Ex) (b o:Nat) (cs:LV),I1 W M e cs->W.rangeAt b o cs->Gp W b o->Rn W (CR B W) e b o
 |.mk op n u rn ri args,b,o,cs,hv,hr,hp=>by
  rw[I1] at hv
  obtain ⟨a,cap,rfl,h2,h3,f⟩:=hv
  obtain ⟨d,r1,r2,h,g,c⟩:=Bp hr
  rw[Rn]
  exact ⟨a,cap,⟨d,_,_,rfl,hp.lt,Fi (j:=0) hp (by omega) (by omega)⟩,⟨c,_,_,rfl,hp.lt,Fi hp (by omega) (by omega)⟩,h2,QI args a 0 f⟩
theorem QI:∀(l:List Ex) (a:Option Addr) (i:Nat),DI W M a i l->JT W (CR B W) a i l
 |[],a,i,h=>by rw[JT];trivial
 |e::r,a,i,h=>by
  rw[DI] at h
  rw[JT]
  obtain ⟨⟨g,cs,rfl,h1,h2,h3,b⟩,h5⟩:=h
  exact ⟨⟨g,0,rfl,by rw[yy];exact T7 e g (i*6) cs b h3 (KK h2 i)⟩,QI r _ (i+1) h5⟩
end
theorem Fx{f:Nat->List Us}{c:Nat}(n:Nat)(h:∀i,(f i).length<=c):((List.range n).flatMap f).length<=n*c:=by
 induction n with
 |zero=>simp
 |succ n ih=>rw[Aj,ym,Nat.succ_mul];have:=h n;omega
theorem Oc{f:Nat->List Us}{c:Nat}(n:Nat)(h:∀i,i < n->(f i).length<=c):((List.range n).flatMap f).length<=n*c:=by
 induction n with
 |zero=>simp
 |succ n ih=>rw[Aj,ym,Nat.succ_mul];have:=h n (by omega);have:=ih (fun i hi=>h i (by omega));omega
theorem Fj(h:BD x=true):x.lets.length<=64∧x.crops.length<=32∧x.reaches.length<=64∧x.farms.length<=600∧x.rots.length<=64∧x.rights.length<=256∧x.duties.length<=256∧(∀d∈x.rots,d.turns.length<=64)∧∀e∈Ax x,Ar e.1<=8:=by
 unfold BD Kw FR EU at h
 simp only[yG,z7,yR] at h
 obtain ⟨⟨h1,h2,h3,c,h5,h6,f⟩,a,b⟩:=h
 exact ⟨h1,h2,h3,c,h5,h6,f,a,b⟩
theorem Od(h:x.lets.length<=64):∀e∈Ax x,0<=e.2∧e.2<=1000000:=by
 intro e b
 unfold Ax JB Il Fc Im JC Em Gj Gk at b
 simp only[yz,yI,yZ,zH,yY,Prod.exists] at b
 rcases b with (rfl|rfl|rfl)|⟨d,i,a,rfl⟩|⟨d,i,a,rfl⟩|⟨d,i,a,rfl|rfl|rfl|rfl|rfl|rfl|rfl|rfl⟩|⟨d,i,a,rfl⟩|⟨d,i,a,(rfl|rfl|rfl)|⟨g,f,c,rfl⟩⟩|⟨d,i,a,rfl|rfl|rfl|rfl|rfl⟩|⟨d,i,a,rfl⟩
 all_goals first|exact ⟨by omega,by omega⟩|skip
 have:=List.mem_zipIdx a
 simp only
 omega
theorem Oe(h:C8 N (ET M W) (RV W) W L x)(c:BD x=true):(Cc L x).length<=1000000:=by
 obtain ⟨g,f,p,l,s,o,q,d,_⟩:=Fj c
 unfold Cc
 simp only[ym]
 have r:((List.range L.farms.n).flatMap (Ei L.farms x.farms)).length<=L.farms.n*2:=Fx _ fun i=>by unfold Ei;split<;>simp
 have m:((List.range L.rots.n).flatMap (Gm L x.rots)).length<=L.rots.n*66:=Oc _ fun i hi=>by
  have a:i < x.rots.length:=by rw[<-h.rots.1];exact hi
  obtain ⟨_,_,_,_,_,_,_,_,_,_,_,e⟩:=h.rots.2.2 i a
  have b:((List.range (A2 L i).n).flatMap (EY (A2 L i) (x.rots[i]).turns)).length<=(A2 L i).n*1:=Fx _ fun k=>by unfold EY;split<;>simp
  have:=d _ (yM a)
  have:=e.1
  unfold Gm
  rw[yk a]
  simp only[yx]
  omega
 have b:((List.range L.rights.n).flatMap (CJ L.rights x.rights)).length<=L.rights.n*2:=Fx _ fun i=>by unfold CJ;split<;>simp
 have j:((List.range L.duties.n).flatMap (E2 L.duties x.duties)).length<=L.duties.n*2:=Fx _ fun i=>by unfold E2;split<;>simp
 have:=h.farms.1;have:=h.rots.1;have:=h.rights.1;have:=h.duties.1
 omega
theorem T8(hs:N L.s)(h:C8 N (ET M W) (RV W) W L x){Bu:Nat}(r:Bu < W.heap.size)(n:W.cell? ⟨Bu,0,none⟩=some (.pointer (some ⟨L.s,0,none⟩)))(t:BD x=true):Ku M W (CR B W) (DR W) Bu L x:=by
 have f:∀ {hd:Au} {g sz i q:Nat},hd.a=some (aV g 0)->hd.at sz i q=(aV g (i*sz+q)):=fun k=>by rw[AO k,yy]
 refine ⟨h.ok,h.heads (fun _ _ _=>rfl) n,⟨Bu,0,rfl,r,?_⟩,fun j h1 h2=>⟨L.s,j,rfl,h.ty.lt,PQ h.ty ?_⟩,fun i hi=>?_,fun i hi=>?_,fun i hi=>?_,?_,h.farms.1,h.rots.1,fun i hi=>?_,h.rights.1,h.duties.1,Od (Fj t).1,Oe h t⟩
 ·rintro ⟨_,o,ty,e,_⟩;omega
 ·have:j=19∨j=20∨j=21∨j=22∨j=23∨j=24∨j=25:=by omega
  rcases this with rfl|rfl|rfl|rfl|rfl|rfl|rfl<;>(intro y;revert y;unfold VD;decide)
 ·obtain ⟨g,k,u,ty,_⟩:=h.rots.2.2 i (by rw[<-h.rots.1];exact hi)
  rw[f k]
  exact ⟨_,_,rfl,ty.lt,G3 (Dy ty Fv i 22 rfl)⟩
 ·obtain ⟨g,k,u,ty,_,_,m,_⟩:=h.farms.2.2 i hi
  rw[f k]
  exact ⟨⟨_,_,rfl,ty.lt,G3 (Dy ty Fe i 3 rfl)⟩,m⟩
 ·obtain ⟨g,k,u,ty,m,_⟩:=h.rights.2.2 i hi
  rw[f k]
  exact ⟨⟨_,_,rfl,ty.lt,G3 (Dy ty BT i 0 rfl)⟩,m⟩
 ·refine AB.mono (fun a e v=>?_) (h.all2 hs)
  obtain ⟨b,o,rfl,hb,d,c,l,p⟩:=v
  have hr:=T7 (B:=B) e.1 b o c p l d
  have m:=p.exV (N:=M) (fun _ h _=>h)
  obtain ⟨a,cap,rfl,E,D,C⟩:=m.cells
  obtain ⟨A,r1,r2,F,z,G⟩:=Bp l
  exact ⟨b,o,_,rfl,l,m,hr,⟨_,_,rfl,d.lt,Fi d (by omega) (by omega)⟩,⟨_,_,rfl,d.lt,Fi d (by omega) (by omega)⟩,⟨_,_,rfl,d.lt,Fi d (by omega) (by omega)⟩,⟨_,_,rfl,d.lt,_,z⟩,
   fun h0=>⟨_,_,rfl,d.lt,KL d A (by rw[h0];decide)⟩⟩
 ·obtain ⟨_,_,_,_,_,_,_,_,_,_,_,w⟩:=h.rots.2.2 i hi
  exact w.1
end
section
variable{B:Nat}{W W':World}{N M:NP}{E:Int->Ex->Nat->Nat->Prop}{R:Int->Rf->Nat->Nat->Prop}{L:Bt}{x:Av}{t:Tb}{X:List Us}{O:NP}
theorem IJ:∀ {l:List (List Us × Bool)},(BC l).2=true->∀p∈l,p.2=true∧∀u∈p.1,u∈(BC l).1
 |[],_=>by simp
 |y::r,h=>by
  have e:BC (y::r)=if y.2 then (y.1++(BC r).1,(BC r).2) else (y.1,false):=rfl
  rw[e] at h ⊢
  by_cases h1:y.2=true
  ·rw[yw h1] at h ⊢
   have ih:=IJ h
   intro p a
   rcases yI.1 a with rfl|a
   ·exact ⟨h1,fun u b=>yz.2 (.inl b)⟩
   ·exact ⟨(ih p a).1,fun u b=>yz.2 (.inr ((ih p a).2 u b))⟩
  ·rw[yt h1] at h;cases h
theorem Mp{α β γ:Type}{R R':α->β->Prop}{f:α->β->γ}{Q:γ->Prop}(h:∀a b,R a b->Q (f a b)->R' a b):∀ {l:List α} {m:List β},AB R l m->(∀p∈List.zipWith f l m,Q p)->AB R' l m
 |[],[],_,_=>trivial
 |a::l,b::m,hA,hq=>by
  rw[AB] at hA
  simp only[xX,xp] at hq
  exact ⟨h a b hA.1 hq.1,Mp h hA.2 hq.2⟩
 |[],_::_,hA,_=>by simp[AB] at hA
 |_::_,[],hA,_=>by simp[AB] at hA
def VE(W:World)(X:List Us)(M:NP)(lt:Int)(e:Ex)(b o:Nat):Prop:=ET M W lt e b o∧(BA e=false->(BY W lt e b o).2=true∧∀u∈(BY W lt e b o).1,u∈X)
def VF(X:List Us)(R:Int->Rf->Nat->Nat->Prop)(to:Int)(r:Rf)(b o:Nat):Prop:=R to r b o∧∃at_,(⟨b,o,to,at_,r.name,r.n⟩:Us)∈X
theorem C8.linkE(h:C8 N (ET M W) R W L x)(hs:N L.s)(n:(BQ W L x).2=true)(m:∀u∈(BQ W L x).1,u∈X):C8 N (VE W X M) R W L x:=by
 have i:=IJ n
 refine h.told (Mp (f:=Cl W) (Q:=fun p=>p.2=true∧∀u∈p.1,u∈X) (fun a e l c=>?_) (h.all2 hs) (fun p d=>?_))
 ·obtain ⟨b,o,rfl,hb,d,g⟩:=l
  refine ⟨b,o,rfl,g,fun j=>?_⟩
  unfold Cl at c
  rw[j] at c
  exact c
 ·obtain ⟨h1,h2⟩:=i p (yz.2 (.inl d))
  exact ⟨h1,fun u k=>m u (h2 u k)⟩
theorem Cg{f:Nat->List Us}{n i:Nat}{u:Us}(hi:i < n)(a:u∈f i):u∈(List.range n).flatMap f:=yY.2 ⟨i,zg.2 hi,a⟩
theorem C8.linkR(h:C8 N E R W L x)(v:∀u∈EW L x,u∈X)(m:∀u∈Cc L x,u∈X):C8 N E (VF X R) W L x:=by
 have c:∀ {hd:Au} {g sz i j:Nat},hd.a=some (aV g 0)->hd.at sz i j=(aV g (i*sz+j)):=fun b=>by rw[AO b,yy]
 have r:∀u∈(List.range L.farms.n).flatMap (Ei L.farms x.farms),u∈X:=fun u f=>m u (by unfold Cc;simp only[yz];exact .inl (.inl (.inl f)))
 have q:∀u∈(List.range L.rots.n).flatMap (Gm L x.rots),u∈X:=fun u f=>m u (by unfold Cc;simp only[yz];exact .inl (.inl (.inr f)))
 have s:∀u∈(List.range L.rights.n).flatMap (CJ L.rights x.rights),u∈X:=fun u f=>m u (by unfold Cc;simp only[yz];exact .inl (.inr f))
 have p:∀u∈(List.range L.duties.n).flatMap (E2 L.duties x.duties),u∈X:=fun u f=>m u (by unfold Cc;simp only[yz];exact .inr f)
 refine ⟨h.ty,h.name,h.season,h.cap,h.start,h.hlets,h.hcrops,h.hreaches,h.hfarms,h.hrots,h.hrights,h.hduties,h.lets,h.crops,⟨h.reaches.1,h.reaches.2.1,fun i hi=>?_⟩,⟨h.farms.1,h.farms.2.1,fun i hi=>?_⟩,⟨h.rots.1,h.rots.2.1,fun i hi=>?_⟩,⟨h.rights.1,h.rights.2.1,fun i hi=>?_⟩,⟨h.duties.1,h.duties.2.1,fun i hi=>?_⟩⟩
 ·obtain ⟨g,b,e,ty,h1,hr,h2⟩:=h.reaches.2.2 i hi
  refine ⟨g,b,e,ty,h1,⟨hr,⟨i,v _ (Cg (by rw[h.reaches.1];exact hi) ?_)⟩⟩,h2⟩
  unfold Ir;rw[yk hi];simp[c b]
 ·obtain ⟨g,b,e,ty,h1,hr,h2,h3,d⟩:=h.farms.2.2 i hi
  refine ⟨g,b,e,ty,h1,⟨hr,⟨0,r _ (Cg (by rw[h.farms.1];exact hi) ?_)⟩⟩,h2,h3,⟨d,⟨0,r _ (Cg (by rw[h.farms.1];exact hi) ?_)⟩⟩⟩
  ·unfold Ei;rw[yk hi];simp[c b,CV]
  ·unfold Ei;rw[yk hi];simp[c b,CV]
 ·obtain ⟨g,b,e,ty,h1,hr,h2,h3,t,h5,h6,l⟩:=h.rots.2.2 i hi
  refine ⟨g,b,e,ty,h1,⟨hr,⟨0,q _ (Cg (by rw[h.rots.1];exact hi) ?_)⟩⟩,h2,h3,t,h5,h6,l.1,l.2.1,fun k o=>?_⟩
  ·unfold Gm;rw[yk hi];simp[c b,CV]
  ·obtain ⟨g,b,e,ty,hr,h1⟩:=l.2.2 k o
   refine ⟨g,b,e,ty,⟨hr,⟨0,q _ (Cg (i:=i) (by rw[h.rots.1];exact hi) ?_)⟩⟩,h1⟩
   unfold Gm;rw[yk hi]
   refine yI.2 (.inr (Cg (i:=k) (by rw[l.1];exact o) ?_))
   unfold EY;rw[yk o];simp[c b,CV]
 ·obtain ⟨g,b,e,ty,h0,h1,hr,d,h2⟩:=h.rights.2.2 i hi
  refine ⟨g,b,e,ty,h0,h1,⟨hr,⟨0,s _ (Cg (by rw[h.rights.1];exact hi) ?_)⟩⟩,⟨d,⟨0,s _ (Cg (by rw[h.rights.1];exact hi) ?_)⟩⟩,h2⟩
  ·unfold CJ;rw[yk hi];simp[c b,CV]
  ·unfold CJ;rw[yk hi];simp[c b,CV]
 ·obtain ⟨g,b,e,ty,h1,hr,d,h2⟩:=h.duties.2.2 i hi
  refine ⟨g,b,e,ty,h1,⟨hr,⟨0,p _ (Cg (by rw[h.duties.1];exact hi) ?_)⟩⟩,⟨d,⟨0,p _ (Cg (by rw[h.duties.1];exact hi) ?_)⟩⟩,h2⟩
  ·unfold E2;rw[yk hi];simp[c b,CV]
  ·unfold E2;rw[yk hi];simp[c b,CV]
theorem RJ.at(h:RJ B W t X X.length O W'){u:Us}(c:u∈X)(h0:u.to≠0):W'.cell? ⟨u.b,u.o+1,none⟩=some (.int .i64 (Gs t (Et u.to) u.name)):=by
 obtain ⟨j,a,rfl⟩:=zh.1 c
 exact ((h.done j a a).2 h0).2
theorem Of(t:Tb)(l:List Ex):(H2 t l).length=l.length:=by rw[MW];simp
mutual
theorem QJ(h:RJ B W t X X.length O W')(lt:Int):∀(e:Ex) (b o:Nat) (cs:LV),I1 W M e cs->W.rangeAt b o cs->Gp W b o->(BY W lt e b o).2=true->(∀u∈(BY W lt e b o).1,u∈X)->∃c,W'.rangeAt b o c∧I1 W' M (Ip t e) c
 |.mk op n u rn ri args,b,o,cs,hv,hr,hp,ho,hX=>by
  rw[I1] at hv
  obtain ⟨a,cap,rfl,h2,h3,i⟩:=hv
  obtain ⟨l,r1,r2,p,q,k⟩:=Bp hr
  have d:∀j,j < 6->j≠4->W'.cell? ⟨b,o+j,none⟩=W.cell? ⟨b,o+j,none⟩:=fun j m i=>h.cells b _ hp.lt (Fi hp m i)
  rw[BY] at ho hX
  by_cases hs:Nv op args.length=true
  ·rw[yw hs] at ho hX
   rw[k] at ho hX
   simp only[xp] at hX
   have g:=Og h lt args a args.length cap 0 i ho hX.2
   have f:W'.cell? ⟨b,o+4,none⟩=some (.int .i64 (if op=2 then Gs t 1 rn else ri)):=by
    by_cases h5:op=2
    ·have h6:=h.at hX.1 (by simp only[Kd,h5,zD];split<;>simp)
     rw[yw h5]
     simp only[Kd,h5,zD,zR] at h6
     rw[h6]
     split<;>rfl
    ·rw[yt h5]
     exact (h.cells b _ hp.lt (KL hp l h5)).trans q
   refine ⟨[iV op,iV n,iV u,.string rn,iV (if op=2 then Gs t 1 rn else ri),.slice a args.length cap],?_,?_⟩
   ·exact A6 ((d 0 (by omega) (by omega)).trans l) (A6 ((d 1 (by omega) (by omega)).trans r1) (A6 ((d 2 (by omega) (by omega)).trans r2) (A6 ((d 3 (by omega) (by omega)).trans p) (A6 f (BU ((d 5 (by omega) (by omega)).trans k))))))
   ·rw[Ip,I1]
    exact ⟨a,cap,by rw[Of],by rw[Of];exact h2,h3,g⟩
  ·rw[yt hs] at ho;cases ho
theorem Og(h:RJ B W t X X.length O W')(lt:Int):∀(l:List Ex) (a:Option Addr) (n cap i:Nat),DI W M a i l->(Bv W lt l (some (.slice a n cap)) i).2=true->(∀u∈(Bv W lt l (some (.slice a n cap)) i).1,u∈X)->DI W' M a i (H2 t l)
 |[],a,n,cap,i,_,_,_=>by rw[H2,DI];trivial
 |e::r,a,n,cap,i,hr,ho,hX=>by
  rw[DI] at hr
  obtain ⟨⟨g,cs,rfl,h1,h2,h3,d⟩,h5⟩:=hr
  rw[Bv] at ho hX
  by_cases b:(BY W lt e g (0+i*6)).2=true
  ·rw[yw b] at ho hX
   simp only[yz,or_imp,forall_and] at hX
   obtain ⟨c,c1,c2⟩:=QJ h lt e g (0+i*6) cs d (by rw[yy];exact h3) (by rw[yy];exact KK h2 i) b hX.1
   rw[yy] at c1
   rw[H2,DI]
   exact ⟨⟨g,c,rfl,h1,h.tyT h2,c1,c2⟩,Og h lt r (some ⟨g,0,none⟩) n cap (i+1) h5 ho hX.2⟩
  ·rw[yt b] at ho;cases ho
end
theorem RI{e:Ex}(h:BA e=true):e.op=0∧e.args=[]:=by
 unfold BA Dv at h
 simp only[yG,z7] at h
 exact ⟨h.1,List.eq_nil_of_length_eq_zero h.2.2.2.2⟩
theorem T9(h:RJ B W t X X.length O W'){lt:Int}{e:Ex}{b o:Nat}(q:BA e=true)(p:ET M W lt e b o)(f:Gp W b o):ET M W' lt e b o:=by
 obtain ⟨c,hr,g⟩:=p
 obtain ⟨l,i⟩:=RI q
 cases e with
 |mk op n u rn ri args=>
 simp only[Ex.op,Ex.args] at l i
 subst i
 rw[I1] at g
 obtain ⟨a,cap,rfl,h2,h3,k⟩:=g
 obtain ⟨m,r1,r2,s,v,w⟩:=Bp hr
 have d:∀j,j < 6->j≠4->W'.cell? (aV b (o+j))=W.cell? (aV b (o+j)):=fun j r k=>h.cells b _ f.lt (Fi f r k)
 refine ⟨_,A6 ((d 0 (by omega) (by omega)).trans m) (A6 ((d 1 (by omega) (by omega)).trans r1) (A6 ((d 2 (by omega) (by omega)).trans r2) (A6 ((d 3 (by omega) (by omega)).trans s) (A6 ((h.cells b _ f.lt (KL f m (by rw[l];decide))).trans v) (BU ((d 5 (by omega) (by omega)).trans w)))))),?_⟩
 rw[I1]
 exact ⟨a,cap,rfl,h2,h3,by rw[DI];trivial⟩
theorem RM(hN:∀g,N g->B<=g)(hM:∀g,M g->B<=g)(hs:N L.s)(h:C8 N (ET M W) (RV W) W L x)(d:RJ B W t (Cx W L x) (Cx W L x).length O W')(p:(BQ W L x).2=true):C8 N (ET M W') (RV W') W' L (x.mp (fT t) (gT t)):=by
 have v:BZ x=true:=by
  have:=IJ p (if BZ x then Cc L x else [],BZ x) (yz.2 (.inr (by simp)))
  exact this.1
 have f:∀u∈Cc L x,u∈Cx W L x:=fun u j=>yz.2 (.inr ((IJ p (if BZ x then Cc L x else [],BZ x) (yz.2 (.inr (by simp)))).2 u (by rw[yw v];exact j)))
 refine ((h.linkE (X:=Cx W L x) hs p (fun u j=>yz.2 (.inr j))).linkR (X:=Cx W L x) (fun u j=>yz.2 (.inl j)) f).map (fun b ty _ h=>d.tyT h) (fun b o _ h=>d.cells b o h.lt (G3 h)) (fun lt e b o _ i l=>?_) (fun to r b o _ i hr=>?_)
 ·obtain ⟨l,a⟩:=l
  unfold fT
  by_cases m:BA e=true
  ·rw[yw m];exact T9 d m l i
  ·rw[yt m]
   obtain ⟨y,w⟩:=a (by simpa using m)
   obtain ⟨c,c1,c2⟩:=l
   exact QJ d lt e b o c c2 c1 i y w
 ·obtain ⟨hr,a⟩:=hr
  have k:¬ Iq B W b o:=by
   obtain ⟨ty,q,z,_⟩:=i
   exact G3 ⟨ty,q,z⟩
  unfold gT
  by_cases h0:to=0
  ·rw[yw h0]
   refine ⟨hr.1,(d.cells b o i.lt k).trans hr.2.1,(d.cells b _ i.lt ?_).trans hr.2.2⟩
   obtain ⟨at_,n⟩:=a
   exact (QH hN hM hs h _ n).notNum h0
  ·rw[yt h0]
   obtain ⟨at_,n⟩:=a
   exact ⟨hr.1,(d.cells b o i.lt k).trans hr.2.1,d.at n h0⟩
end
end Go.Proofs.YtjofgpfocadomaaGreatDoor
namespace Go.Proofs.YtjofgpfocadomaaGreatDoor
open Go.RowKit
attribute [local go_sem] Oper.semAt_some
def Jc(B:Nat):Deferred:={target:=.fn (.func 43) #[.pointer (some ⟨B+1,0,none⟩),.pointer (some ⟨B+2,0,none⟩)],args:=#[]}
def Jd(D:Nat):Deferred:={target:=.collected D,args:=#[]}
def PR(B:Nat)(w':World)(cs:LV)(x:Av):Prop:=∃(L:Bt) (N:NP),cs.length=26∧BH N w' L cs x∧∀b,N b->B<=b∧b < w'.heap.size
def IK(w:World)(x:Av)(e:Ending)(w':World):Prop:=
 Below w.heap.size w w'∧((AE x≠0∧e=.returned (.tuple #[.agg Da.toArray,.int .i64 (AE x)]))∨(AE x=0∧∃cs,e=.returned (.tuple #[.agg cs.toArray,.int .i64 0])∧PR w.heap.size w' cs (Ah x)))
structure JV (w W:World):Prop where
 below:Below w.heap.size w W
 x:∃row:Array Value,row.size=26∧W.heap[w.heap.size+1]?=some (.cells row 35 (0,0))
 e:∃v:Value,W.heap[w.heap.size+2]?=some (.cells #[v] 40 (0,0))
theorem JV.up{w W W':World}(h:JV w W)(hb:Below (w.heap.size+3) W W'):JV w W':=by
 obtain ⟨row,h1,h2⟩:=h.x
 obtain ⟨v,h3⟩:=h.e
 exact ⟨h.below.trans (hb.mono (by omega)),⟨row,h1,(hb.block _ (by omega)).trans h2⟩,⟨v,(hb.block _ (by omega)).trans h3⟩⟩
def LM(B:Nat)(tm:Array Value):Prop:=tm.getD 2 undef=.pointer (some ⟨B+1,0,none⟩)∧tm.getD 3 undef=.pointer (some ⟨B+2,0,none⟩)
structure KM (Q:Exit->Act->World->Prop) (w:World) (x:Av):Prop where
 fail:∀tm W,LM w.heap.size tm->JV w W->AE x≠0->Q (.panic (EE (AE x))) {tmps:=tm,defers:=[Jc w.heap.size]} W
 failD:∀D tm W,LM w.heap.size tm->JV w W->AE x≠0->w.heap.size+3<=D->W.heap[D]?=some (.deferred (some []))->Q (.panic (EE (AE x))) {tmps:=tm,defers:=[Jd D,Jc w.heap.size]} W
 done:∀D tm W cs,LM w.heap.size tm->Below w.heap.size w W->W.heap[w.heap.size+1]?=some (.cells cs.toArray 35 (0,0))->W.heap[w.heap.size+2]?=some (.cells #[.int .i64 0] 40 (0,0))->AE x=0->w.heap.size+3<=D->W.heap[D]?=some (.deferred (some []))->
  PR w.heap.size (W.putObj D (.deferred none)) cs (Ah x)->Q .ret {tmps:=tm,defers:=[Jd D,Jc w.heap.size]} W
theorem Oh{W:World}{tm:Array Value}{B:Nat}{cs:LV}{z:Int}(e:LM B tm)(h1:W.heap[B+1]?=some (.cells cs.toArray 35 (0,0)))(a:cs.length=26)(h2:W.heap[B+2]?=some (.cells #[.int .i64 z] 40 (0,0))):
  (results Tryz.f32 tm).run Tryz.prog W=.ok (.tuple #[.agg cs.toArray,.int .i64 z]) W:=by
 obtain ⟨v1,b⟩:=e
 rw[yE] at v1 b
 have hr:W.rangeAt (B+1) 0 cs:=by
  have:=zo h1 0 cs.length
  simpa using this
 have f:=run_loadVar_mid (P:=Tryz.prog) W (B+1) 0 35 cs _ hr qV rfl (by rw[a];kernel_rfl)
 have c2:W.cell? (aV (B+2) 0)=some (iV z):=by simp[World.cell?,h2]
 have d:(loadVar 40 (aV (B+2) 0)).run Tryz.prog W=.ok (iV z) W:=by
  have c:(isAgg 40).run Tryz.prog W=.ok false W:=by kernel_rfl
  simp[loadVar,c,go_sem,c2]
 simp[results,Tryz.results32,v1,b,asAddr,f,d]
theorem JH{w W:World}{x:Av}{tm:Array Value}(g:LM w.heap.size tm)(c:JV w W)(h0:AE x≠0):LeavesInM Fence.wide 10 Tryz.prog Tryz.f32 tm (IK w x) [Jc w.heap.size] (.panicking (EE (AE x))) W:=by
 obtain ⟨row,d,a⟩:=c.x
 obtain ⟨v,f⟩:=c.e
 refine ⟨by simp,.inr ⟨by simp[Fence.wide],_,_,_,_,rfl,by rfl,fun _ _=>trivial,?_⟩⟩
 refine (LL 9 (w.heap.size+1) (w.heap.size+2) (by omega) (AE x) row v W a d f).mono ?_
 rintro e j w' ⟨rfl,rfl,rfl⟩
 have i:((W.setRow (w.heap.size+1) Da.toArray).setCell (aV (w.heap.size+2) 0) (iV (AE x))).heap[w.heap.size+1]?=some (.cells Da.toArray 35 (0,0)):=by
  rw[zk _ _ _ _ (by simp)]
  simp[World.setRow,yN,a]
 have h:((W.setRow (w.heap.size+1) Da.toArray).setCell (aV (w.heap.size+2) 0) (iV (AE x))).heap[w.heap.size+2]?=some (.cells #[iV (AE x)] 40 (0,0)):=by
  have:=zp (W.setRow (w.heap.size+1) Da.toArray) (w.heap.size+2) 0 #[v] 40 (iV (AE x)) (by simp[World.setRow,yN,f])
  rw[this];rfl
 refine ⟨_,Oh g i rfl h,?_,.inl ⟨h0,rfl⟩⟩
 refine c.below.trans ⟨rfl,rfl,rfl,by simp[World.setRow],fun b hb=>?_⟩
 rw[zk _ _ _ _ (by simp;omega)]
 simp only[World.setRow,yN,yt (show ¬ w.heap.size+1=b by omega)]
theorem Ta(w:World)(x:Av):KM (bodyPostM Fence.wide 10 Tryz.prog Tryz.f32 (IK w x)) w x:=by
 refine ⟨fun tm W a c h0=>JH a c h0,fun D tm W a c h0 g hd=>?_,fun D tm W cs a hb h1 h2 h0 g hd hs=>?_⟩
 ·refine ⟨by simp,.inl ⟨D,_,rfl,run_takeDeferred hd,JH a (c.up ⟨rfl,rfl,rfl,by simp,fun b hb=>World.putObj_heap_other (by omega)⟩) h0⟩⟩
 ·refine ⟨by simp,.inl ⟨D,_,rfl,run_takeDeferred hd,?_⟩⟩
  refine ⟨by simp,.inr ⟨by simp[Fence.wide],_,_,_,_,rfl,by rfl,fun _ _=>trivial,?_⟩⟩
  refine (T4 9 _ _ _).mono ?_
  rintro e h w' ⟨rfl,rfl,rfl⟩
  have d:=hs
  obtain ⟨L,N,f,_⟩:=d
  exact ⟨_,Oh a ((World.putObj_heap_other (by omega)).trans h1) f ((World.putObj_heap_other (by omega)).trans h2),hb.trans ⟨rfl,rfl,rfl,by simp,fun b hb=>World.putObj_heap_other (by omega)⟩,.inr ⟨h0,cs,rfl,hs⟩⟩
def Wm:Code->Code
 |.seq _ y=>y
 |c=>c
def H4:Nat->Code->Code
 |0,c=>c
 |k+1,c=>H4 k (Wm c)
end Go.Proofs.YtjofgpfocadomaaGreatDoor
namespace Go.Proofs.YtjofgpfocadomaaGreatDoor
open Go.RowKit
theorem KN(s:Nat)(w:World):Calls Tryz.prog 33 #[.pointer (some ⟨s,0,none⟩)] w fun x w'=>x=.returned (.func (.func 70) #[] #[.pointer (some ⟨w.heap.size,0,none⟩)])∧w'=w.alloc (.cells #[.pointer (some ⟨s,0,none⟩)] 85):=by
 have a:∀(fn:Fn) (first cap:Array Value) (w:World),(Instr.makeFunc fn first cap).run Tryz.prog w=.ok (.func fn first cap) w:=fun _ _ _ _=>rfl
 go_enter Tryz.func33,Tryz.ntmps33
 go_wp2
 go_ret
 exact ⟨rfl,rfl⟩
section
variable{B:Nat}{W W':World}{N N' M:NP}{E:Int->Ex->Nat->Nat->Prop}{R:Int->Rf->Nat->Nat->Prop}{L:Bt}{x:Av}
theorem C8.ren(h:C8 N E R W L x)(hN:∀g t,N g->Ty W g t->t≠35->t≠40->N' g):C8 N' E R W L x:=by
 refine ⟨h.ty,h.name,h.season,h.cap,h.start,h.hlets,h.hcrops,h.hreaches,h.hfarms,h.hrots,h.hrights,h.hduties,⟨h.lets.1,h.lets.2.1,fun i hi=>?_⟩,⟨h.crops.1,h.crops.2.1,fun i hi=>?_⟩,⟨h.reaches.1,h.reaches.2.1,fun i hi=>?_⟩,⟨h.farms.1,h.farms.2.1,fun i hi=>?_⟩,⟨h.rots.1,h.rots.2.1,fun i hi=>?_⟩,⟨h.rights.1,h.rights.2.1,fun i hi=>?_⟩,⟨h.duties.1,h.duties.2.1,fun i hi=>?_⟩⟩
 ·obtain ⟨g,a,b,ty,h1⟩:=h.lets.2.2 i hi
  exact ⟨g,a,hN g _ b ty (by decide) (by decide),ty,h1⟩
 ·obtain ⟨g,a,b,ty,h1⟩:=h.crops.2.2 i hi
  exact ⟨g,a,hN g _ b ty (by decide) (by decide),ty,h1⟩
 ·obtain ⟨g,a,b,ty,h1⟩:=h.reaches.2.2 i hi
  exact ⟨g,a,hN g _ b ty (by decide) (by decide),ty,h1⟩
 ·obtain ⟨g,a,b,ty,h1⟩:=h.farms.2.2 i hi
  exact ⟨g,a,hN g _ b ty (by decide) (by decide),ty,h1⟩
 ·obtain ⟨g,a,b,ty,h1,h2,h3,e,h5,h6,f,c⟩:=h.rots.2.2 i hi
  refine ⟨g,a,hN g _ b ty (by decide) (by decide),ty,h1,h2,h3,e,h5,h6,f,c.1,c.2.1,fun k d=>?_⟩
  obtain ⟨g,a,b,ty,h1⟩:=c.2.2 k d
  exact ⟨g,a,hN g _ b ty (by decide) (by decide),ty,h1⟩
 ·obtain ⟨g,a,b,ty,h1⟩:=h.rights.2.2 i hi
  exact ⟨g,a,hN g _ b ty (by decide) (by decide),ty,h1⟩
 ·obtain ⟨g,a,b,ty,h1⟩:=h.duties.2.2 i hi
  exact ⟨g,a,hN g _ b ty (by decide) (by decide),ty,h1⟩
theorem KO{b ty:Nat}{v:Value}(h:W.heap[b]?=some (.cells #[v] ty (0,0)))(e:∀k z,v≠.int k z)(a:∀q,Fu ty q=1∧FX ty q=q % 6)(q:Nat):¬ Iq B W b q:=by
 rintro ⟨_,o,d,rfl,h1,h2,h3⟩
 have c:Ty W b ty:=⟨_,h⟩
 obtain rfl:=c.inj h1
 apply h3
 unfold F1
 rw[E5 c,(a _).1,yw rfl]
 rcases h2 with h2|h2
 ·rw[(a _).1] at h2;cases h2
 ·rw[(a _).2] at h2
  by_cases h5:o - 3=0
  ·rw[h5]
   simp only[World.cell?,h]
   simp
   cases v<;>simp_all
  ·have:W.cell? ⟨b,o - 3,none⟩=none:=by
    simp only[World.cell?,h]
    simp;omega
   rw[this]
theorem KP{b:Nat}(h:∀t,¬ Ty W b t)(q:Nat):¬ Iq B W b q:=by
 rintro ⟨_,o,a,rfl,h1,h2,h3⟩
 exact h _ h1
def B6(W:World)(b:Nat)(a:LB):Prop:=∃m,W.heap[b]?=some (.cells #[.map (some m)] 137 (0,0))∧BR W m a
theorem Hr{t:Nat}(h:t≠35∧t≠50∧t≠92∧t≠66∧t≠94∧t≠109∧t≠158∧t≠131∧t≠135)(q:Nat):Fu t q=1∧FX t q=q % 6:=by
 obtain ⟨h1,h2,h3,c,h5,h6,d,a,b⟩:=h
 unfold Fu FX
 rw[yt h1,yt h1,yt h2,yt h2,yt h3,yt h3,yt c,yt c,yt h5,yt h5,yt h6,yt h6,yt d,yt d,yt a,yt a,yt b,yt b]
 exact ⟨rfl,rfl⟩
theorem B6.read{t:Tb}{X:List Us}{k b:Nat}{O:NP}{d:LB}(h:B6 W b d)(f:RJ B W t X k O W'):∃m e a,W'.cell? ⟨b,0,none⟩=some (.map (some m))∧BR W' m d∧W'.heap[m]?=some (.map e a)∧e.size=d.length:=by
 obtain ⟨m,h1,h2⟩:=h
 have l:W'.heap[b]?=W.heap[b]?:=f.same b (yd.1 h1).1 (KO h1 (by simp) (Hr (by decide)))
 obtain ⟨e,a,h3,j⟩:=h2.size
 have g:W'.heap[m]?=W.heap[m]?:=f.same m h2.lt (KP fun t ⟨c,i⟩=>by rw[h3] at i;cases i)
 exact ⟨m,e,a,by simp[World.cell?,l,h1],h2.block g,g.trans h3,j⟩
theorem KQ{t:Tb}{X:List Us}{k b ty:Nat}{v:Value}{O:NP}(h:W.heap[b]?=some (.cells #[v] ty (0,0)))(e:∀k z,v≠.int k z)(a:∀q,Fu ty q=1∧FX ty q=q % 6)(c:RJ B W t X k O W'):W'.cell? ⟨b,0,none⟩=some v:=by
 have d:W'.heap[b]?=W.heap[b]?:=c.same b (yd.1 h).1 (KO h e a)
 simp[World.cell?,d,h]
mutual
theorem N0(lt:Int):∀(e:Ex) (b o:Nat),∀u∈(BY W lt e b o).1,u.to≠6
 |.mk op n u rn ri args,b,o=>by
  intro v a
  rw[BY] at a
  by_cases hs:Nv op args.length=true
  ·rw[yw hs] at a
   rcases yI.1 a with rfl|a
   ·simp only;unfold Kd;split
    ·split<;>decide
    ·decide
   ·exact QK lt args _ 0 v a
  ·rw[yt hs] at a;cases a
theorem QK(lt:Int):∀(l:List Ex) (a:Option Value) (i:Nat),∀u∈(Bv W lt l a i).1,u.to≠6
 |[],a,i=>by intro v d;rw[Bv] at d;cases d
 |e::r,a,i=>by
  intro v d
  by_cases f:∃b o n c,a=some (.slice (some ⟨b,o,none⟩) n c)
  ·obtain ⟨b,o,n,c,rfl⟩:=f
   rw[Bv] at d
   split at d
   ·rcases yz.1 d with d|d
    ·exact N0 lt e _ _ v d
    ·exact QK lt r _ _ v d
   ·exact N0 lt e _ _ v d
  ·have g:Bv W lt (e::r) a i=([],false):=by
    rw[Bv]
    intro b o n c h
    exact f ⟨b,o,n,c,h⟩
   rw[g] at d;cases d
end
theorem Uj:∀u∈(BQ W L x).1,u.to≠6:=by
 intro u a
 obtain ⟨p,b,a⟩:=II a
 unfold En at b
 rcases yz.1 b with b|b
 ·obtain ⟨i,hi,rfl⟩:=zh.1 b
  simp only[Dx,List.getElem_zipWith] at a
  unfold Cl at a
  split at a
  ·cases a
  ·exact N0 _ _ _ _ u a
 ·simp only[ze] at b
  rw[b] at a
  simp only at a
  split at a
  ·unfold Cc at a
   simp only[yz] at a
   rcases a with ((a|a)|a)|a
   ·obtain ⟨i,hi,a⟩:=yY.1 a
    unfold Ei at a
    split at a
    ·simp only[CV,yI,yZ,zH] at a
     rcases a with rfl|rfl
     ·simp
     ·simp only;split<;>simp
    ·cases a
   ·obtain ⟨i,hi,a⟩:=yY.1 a
    unfold Gm at a
    split at a
    ·simp only[CV,yI] at a
     rcases a with rfl|a
     ·simp
     ·obtain ⟨k,c,a⟩:=yY.1 a
      unfold EY at a
      split at a
      ·simp only[CV,ze] at a
       rw[a];simp
      ·cases a
    ·cases a
   ·obtain ⟨i,hi,a⟩:=yY.1 a
    unfold CJ at a
    split at a
    ·simp only[CV,yI,yZ,zH] at a
     rcases a with rfl|rfl
     ·simp
     ·simp only;split<;>simp
    ·cases a
   ·obtain ⟨i,hi,a⟩:=yY.1 a
    unfold E2 at a
    split at a
    ·simp only[CV,yI,yZ,zH] at a
     rcases a with rfl|rfl<;>simp
    ·cases a
  ·cases a
end
structure I2 (w:World) (x:Av) (W5:World) (L:Bt) (N M:Nat->Prop) (bl bc br bf Bf Bu:Nat):Prop where
 amid:JV w W5
 lets:B6 W5 bl (x.lets.map (·.name))
 crops:B6 W5 bc (x.crops.map (·.name))
 reaches:B6 W5 br (x.reaches.map (·.name))
 farms:B6 W5 bf (x.farms.map (·.name))
 find:W5.heap[Bf]?=some (.cells #[.func (.func 68) #[] #[]] 147 (0,0))
 box:W5.heap[Bu]?=some (.cells #[.pointer (some ⟨L.s,0,none⟩)] 85 (0,0))
 ps:C8 N (ET M W5) (RV W5) W5 L x
 hN:∀g,N g->w.heap.size<=g∧g < W5.heap.size
 hM:∀g,M g->w.heap.size+3<=g∧g < W5.heap.size
 hs:N L.s
 ls:L.s=w.heap.size+1
 fits:BD x=true
 wr:AE x=if Dh (Tb.of x) x&&Cw (Tb.of x) x then 0 else 170
section
variable{w W5 W:World}{x:Av}{L:Bt}{N M:NP}{bl bc br bf Bf Bu k:Nat}{t:Tb}{X:List Us}{O:NP}
theorem RJ.amid(c:JV w W5)(h:RJ w.heap.size W5 t X k O W):JV w W:=by
 refine ⟨c.below.trans ⟨h.os,h.tape,h.output,h.size,fun b hb=>h.same b (by have:=c.below.size;omega) (fun q g=>by have:=g.1;omega)⟩,?_,?_⟩
 ·obtain ⟨row,h1,h2⟩:=c.x
  obtain ⟨a,f,d⟩:=h.ty _ _ _ h2
  exact ⟨a,by omega,d⟩
 ·obtain ⟨v,h2⟩:=c.e
  obtain ⟨a,f,d⟩:=h.ty _ _ _ h2
  obtain ⟨v',rfl⟩:∃v',a=#[v']:=by
   have:a.size=1:=f
   exact ⟨a[0],by ext i h1 h2;omega;simp at h2;subst h2;rfl⟩
  exact ⟨v',d⟩
theorem I2.uok(h:I2 w x W5 L N M bl bc br bf Bf Bu):∀u∈Cx W5 L x,Ny w.heap.size W5 u:=QH (fun g a=>(h.hN g a).1) (fun g a=>by have:=(h.hM g a).1;omega) h.hs h.ps
theorem I2.uses(h:I2 w x W5 L N M bl bc br bf Bf Bu):Ku M W5 (CR w.heap.size W5) (DR W5) Bu L x:=
 T8 h.hs h.ps (yd.1 h.box).1 (by simp[World.cell?,h.box]) h.fits
theorem I2.bad(h:I2 w x W5 L N M bl bc br bf Bf Bu){u:Us}(a:u∈Cx W5 L x)(hb:Jb (Tb.of x) u=false):AE x=170:=by
 rw[h.wr]
 rcases yz.1 a with a|a
 ·have:Dh (Tb.of x) x=false:=by
   obtain ⟨i,hi,a⟩:=yY.1 a
   have b:i < x.reaches.length:=by rw[<-h.ps.reaches.1];exact zg.1 hi
   unfold Ir at a
   rw[yk b] at a
   simp only[ze] at a
   unfold Dh
   rw[xq]
   refine ⟨(x.reaches[i],i),zh.2 ⟨i,by simpa using b,by simp⟩,?_⟩
   rw[a] at hb
   unfold Jb at hb
   unfold MZ
   rw[hb];simp
  rw[this];rfl
 ·have:Cw (Tb.of x) x=false:=by
   rw[yn]
   intro c
   have:=((G2 (Tb.of x) h.uses).2 c).2 u a
   rw[hb] at this;cases this
  rw[this];simp
theorem I2.bad2(h:I2 w x W5 L N M bl bc br bf Bf Bu)(hb:(BQ W5 L x).2=false):AE x=170:=by
 rw[h.wr]
 have:Cw (Tb.of x) x=false:=by
  rw[yn]
  intro a
  have:=((G2 (Tb.of x) h.uses).2 a).1
  rw[hb] at this;cases this
 rw[this];simp
theorem I2.good(h:I2 w x W5 L N M bl bc br bf Bf Bu)(e:RJ w.heap.size W5 (Tb.of x) (Cx W5 L x) (Cx W5 L x).length O W)(g:(BQ W5 L x).2=true):AE x=0:=by
 have a:∀u∈Cx W5 L x,Jb (Tb.of x) u=true:=fun u b=>by
  obtain ⟨j,c,rfl⟩:=zh.1 b
  exact (e.done j c c).1
 rw[h.wr,(G2 (Tb.of x) h.uses).1 ⟨g,fun u b=>a u (yz.2 (.inr b))⟩]
 have:Dh (Tb.of x) x=true:=by
  unfold Dh
  rw[yR]
  intro p f
  obtain ⟨i,hi,rfl⟩:=zh.1 f
  have d:i < x.reaches.length:=by simpa using hi
  have:=a ⟨(L.reaches.at 51 i 1).block,(L.reaches.at 51 i 1).off,if i=0 then 0 else 6,i,x.reaches[i].frm.name,x.reaches[i].frm.n⟩ (yz.2 (.inl (Cg (i:=i) (by rw[h.ps.reaches.1];exact d) (by unfold Ir;rw[yk d];simp))))
  rw[qj]
  unfold Jb at this
  simpa[MZ] using this
 rw[this];rfl
theorem I2.src(h:I2 w x W5 L N M bl bc br bf Bf Bu)(i:RJ w.heap.size W5 (Tb.of x) (Cx W5 L x) (Cx W5 L x).length O W)(p:(BQ W5 L x).2=true):
  ∃cs,cs.length=26∧W.rangeAt L.s 0 cs∧BH (fun g=>w.heap.size<=g∧g < W5.heap.size∧g≠w.heap.size+1∧g≠w.heap.size+2) W L cs (Ah x):=by
 have h1:=RM (fun g d=>(h.hN g d).1) (fun g d=>by have:=(h.hM g d).1;omega) h.hs h.ps i p
 have f:=i.amid h.amid
 obtain ⟨row,_,n⟩:=f.x
 obtain ⟨v,k⟩:=f.e
 refine C8.srcV ((h1.imp (E':=EV (fun g=>w.heap.size<=g∧g < W5.heap.size∧g≠w.heap.size+1∧g≠w.heap.size+2) W) (fun _ _ _ h=>h) (fun _ _ _ _=>rfl) (fun lt e b o _ _ j=>?_) (fun _ _ _ _ _ _ h=>h)).ren fun g ty d a n1 n2=>?_)
 ·obtain ⟨c,c1,c2⟩:=j
  exact ⟨c,c1,c2.exV (fun b hb _=>by have:=h.hM b hb;refine ⟨?_,?_,?_,?_⟩<;>omega)⟩
 ·obtain ⟨m,l⟩:=h.hN g d
  refine ⟨m,l,fun e=>?_,fun e=>?_⟩
  ·subst e;exact n1 (a.inj ⟨_,n⟩)
  ·subst e;exact n2 (a.inj ⟨_,k⟩)
end
end Go.Proofs.YtjofgpfocadomaaGreatDoor
namespace Go.Proofs.YtjofgpfocadomaaGreatDoor
open Go.RowKit
attribute [local go_sem] Oper.semAt_some
theorem Oi{s:ByteArray}(h:s.toList=[]):s=⟨#[]⟩:=by
 have h1:=(Dw s).2 h
 have:s.data.size=0:=h1
 cases s with
 |mk d=>simp only at this;rw[Array.size_eq_zero_iff] at this;rw[this]
theorem Tc{l:LB}{s:ByteArray}{i:Nat}(h:CG l s=some i):i < l.length:=by
 by_cases a:s∈l
 ·obtain ⟨j,h1,h2,_⟩:=J8 a
  rw[h] at h1
  cases h1;exact h2
 ·rw[Gn a] at h;cases h
theorem G4{t:Tb}{to at_:Int}{r:Rf}(h0:to≠0)(h:JF t to at_ r=true):∃i:Nat,CG (t.tab (Et to)) r.name=some i∧Gs t (Et to) r.name=i∧(early to=true->(i:Int) < at_)∧i < (t.tab (Et to)).length:=by
 unfold JF at h
 rw[yt h0] at h
 unfold Gs
 cases a:CG (t.tab (Et to)) r.name with
 |none=>rw[a] at h;cases h
 |some i=>
  rw[a] at h
  refine ⟨i,rfl,rfl,fun b=>?_,Tc a⟩
  simpa[b] using h
theorem G5{t:Tb}{to at_:Int}{r:Rf}(h0:to≠0)(h:JF t to at_ r=false):∀i:Nat,CG (t.tab (Et to)) r.name=some i->early to=true∧¬ (i:Int) < at_:=by
 intro i a
 unfold JF at h
 rw[yt h0,a] at h
 simp only[Bool.or_eq_false_iff,Bool.not_eq_false',decide_eq_false_iff_not] at h
 exact h
theorem Fy{m:Nat}{W:World}{b:Array MapEntry}{a:Nat}(h:W.heap[m]?=some (.map b a))(ty:TypeId):(Builtin.len_ #[137] ty #[.map (some m)]).run Tryz.prog W=.ok (.int .i64 (b.size:Int)) W:=by
 simp[Builtin.len_,qb qH,MapKept.run_getObj_map h,goInt,Result.andThen]
theorem VG{Q:QT}{w W W5:World}{x:Av}{L:Bt}{N M:NP}{bl bc br bf Bf:Nat}(hQ:KM Q w x)(hC:I2 w x W5 L N M bl bc br bf Bf W.heap.size)
 (ec:RJ w.heap.size W5 (Tb.of x) (Cx W5 L x) (EW L x).length (fun _=>False) (W.alloc (.cells #[.pointer (some ⟨w.heap.size+1,0,none⟩)] 85)))
 (u0 u1 u8 u9 eh fg dy eb i2 g7 dz gx gn gl hh fa go fk g2 es e6 e7 g4 hg fd fb f4 fq gs f9 g8 ef fm e1 fi gd eq gk ek e0 dt gr gh g6 f1 ea g3 gc fj ee fh dr eg fl ft fy fz gg ez em h9 f8 du e4 gi gt fp ex fc f2 gw el fo ew f7 e9 gp ga hc fu dx e5 ff fw fx gz gy fs e2 hf en g9 gm bd ar aw cy ap dd bx b7 b4 cv az bo bj cx au dw fv cd ay da ci cn bg dh av d4 bt aq c8 b0 cp ax bm cz d7 d6 cj dj ct ce de cg df d5 bw bz bh ba b5 dc bb di cr bu cq co bk cu bp bi cc b9 b8 d3 dg c9 db d9 be cl d8 cw ck bv:Value):
  FE 32 Tryz.prog (H4 20 (Tryz.f32.body.getD .skip)) Q {tmps:=#[u0,u1,.pointer (some ⟨w.heap.size+1,0,none⟩),.pointer (some ⟨w.heap.size+2,0,none⟩),.pointer (some ⟨bl,0,none⟩),.pointer (some ⟨bc,0,none⟩),.pointer (some ⟨br,0,none⟩),.pointer (some ⟨bf,0,none⟩),u8,u9,eh,fg,dy,.pointer (some ⟨Bf,0,none⟩),eb,i2,g7,dz,gx,gn,gl,hh,fa,go,fk,g2,es,e6,e7,g4,hg,fd,fb,f4,fq,gs,f9,g8,ef,fm,e1,fi,gd,eq,gk,ek,e0,dt,gr,gh,g6,f1,ea,g3,gc,fj,ee,fh,dr,eg,fl,ft,fy,fz,gg,ez,em,h9,f8,du,e4,gi,gt,fp,ex,fc,f2,gw,el,fo,ew,f7,e9,gp,ga,hc,fu,dx,e5,ff,fw,fx,gz,gy,fs,e2,hf,en,g9,gm,bd,ar,aw,cy,ap,dd,bx,b7,b4,cv,az,bo,bj,cx,au,dw,fv,cd,ay,da,ci,cn,bg,dh,av,d4,bt,aq,c8,b0,cp,ax,bm,cz,d7,d6,cj,dj,ct,ce,de,cg,df,d5,bw,bz,bh,ba,b5,dc,bb,di,cr,bu,cq,co,bk,cu,bp,bi,cc,b9,b8,d3,dg,c9,db,d9,be,cl,d8,cw,ck,bv],defers:=[Jc w.heap.size]} W:=by
 have HQ:=yb hQ;have r:=yb hC;have aj:=yb ec
 clear hQ hC ec
 unfold Jc
 refine A9 (A9 (A4 ?_))
 go_wp2_with (first|(go_at_call 33;refine (KN _ _).mono ?_;rintro e w2 ⟨rfl,rfl⟩))
 refine D7 ?_
 refine CC (n:=10) Tryz.func32 rfl (fun _ _=>rfl) (Ky 9 (by omega) r.o.uses) (fun a ha=>by
   obtain ⟨u,_,rfl⟩:=xR.1 ha
   rfl)
  (fun k O V=>RJ w.heap.size W5 (Tb.of x) (Cx W5 L x) ((EW L x).length+k) O V) (fun _ _ _=>False) (fun ch O V=>ch=EE 170∧AE x=170∧∃k,RJ w.heap.size W5 (Tb.of x) (Cx W5 L x) k O V)
  (fun k a O V=>RJ w.heap.size W5 (Tb.of x) (Cx W5 L x) ((EW L x).length+k) O V∧∃(ub uo:Nat) (f c:Int) (d:ByteArray) (s:Int) (g:Nat),(BQ W5 L x).1[k]?=some ⟨ub,uo,f,c,d,s⟩∧¬ O g∧g < V.heap.size∧V.heap[g]?=some (.cells #[pV ub uo,iV f,iV c] 89 (0,0))∧a={tmps:=#[u0,u1,pV (w.heap.size+1) 0,pV (w.heap.size+2) 0,pV bl 0,pV bc 0,pV br 0,pV bf 0,u8,u9,eh,fg,dy,pV Bf 0,eb,pV g 0,g7,dz,gx,gn,gl,hh,fa,go,fk,g2,es,e6,e7,g4,hg,fd,fb,f4,fq,gs,f9,g8,ef,fm,e1,fi,gd,eq,gk,ek,e0,dt,gr,gh,g6,f1,ea,g3,gc,fj,ee,fh,dr,eg,fl,ft,fy,fz,gg,ez,em,h9,f8,du,e4,gi,gt,fp,ex,fc,f2,gw,el,fo,ew,f7,e9,gp,ga,hc,fu,dx,e5,ff,fw,fx,gz,gy,fs,e2,hf,en,g9,gm,bd,ar,aw,cy,ap,dd,bx,b7,b4,cv,az,bo,bj,cx,au,.func (.func 70) #[] #[pV W.heap.size 0],.agg #[pV ub uo,iV f,iV c],cd,ay,da,ci,cn,bg,dh,av,d4,bt,aq,c8,b0,cp,ax,bm,cz,d7,d6,cj,dj,ct,ce,de,cg,df,d5,bw,bz,bh,ba,b5,dc,bb,di,cr,bu,cq,co,bk,cu,bp,bi,cc,b9,b8,d3,dg,c9,db,d9,be,cl,d8,cw,ck,bv],defers:=[]})
  (fun k=>RJ.stays _) (fun _ _ _ _ _ _ h=>h.elim) ?_ ?_ (fun k O V h=>h.hd) (fun _ _ _ h=>h.elim) ?_ aj.o ?_ ?_ ?_ (fun _ _ _ _ _ _ h=>h.elim) ?_
 ·exact fun ch _ O V O' V' h hz ho ht hu hk hO=>⟨h.1,h.2.1,h.2.2.imp fun k h=>RJ.stays k O V O' V' h hz ho ht hu hk hO⟩
 ·rintro a k O V O' V' ⟨h1,ub,uo,f,c,d,s,g,h2,h3,h4,h5,h6⟩ hz ho ht hu hk hO
  exact ⟨RJ.stays _ O V O' V' h1 hz ho ht hu hk hO,ub,uo,f,c,d,s,g,h2,fun h=>(hO g h).elim h3 (fun h=>by omega),by omega,(hk g h3 h4).trans h5,h6⟩
 ·intro ch U O V H
  cases hx:(BQ W5 L x).2 with
  |true=>rw[hx] at U;cases U
  |false=>
   rw[hx] at U
   cases U
   exact ⟨rfl,r.o.bad2 hx,_,H⟩
 ·intro k hk O V lo H hO hl ad
  have dv:k < (BQ W5 L x).1.length:=by rw[yX] at hk;exact hk
  rw[zG]
  have HU:=yb (yk dv)
  generalize (BQ W5 L x).1[k]=u at HU ⊢
  obtain ⟨ub,uo,f,c,d,s⟩:=u
  have R:=yb H;have dm:=yb ad
  clear H hO hl ad hk dv
  unfold Us.v
  simp only
  gi_wp2
  have dp:AL O V (V.alloc (.cells #[pV ub uo,iV f,iV c] 89)):=⟨by simp,fun b hb=>yD _ _ _ (dm.o b hb)⟩
  have a8:RJ w.heap.size W5 (Tb.of x) (Cx W5 L x) ((EW L x).length+k) O (V.alloc (.cells #[pV ub uo,iV f,iV c] 89)):=R.o.below ((yg V.heap.size V).alloc (yf _) _) R.o.size
  have a0:¬ O V.heap.size:=fun h=>qC _ (dm.o _ h)
  first
  |exact ⟨dp,a8,ub,uo,f,c,d,s,V.heap.size,HU.o,a0,by simp,World.alloc_heap_new _ _,rfl⟩
  |(rename_i hK;exact hK _ _ ⟨dp,a8,ub,uo,f,c,d,s,V.heap.size,HU.o,a0,by simp,World.alloc_heap_new _ _,rfl⟩)
  |(rename_i hK _;exact hK _ _ ⟨dp,a8,ub,uo,f,c,d,s,V.heap.size,HU.o,a0,by simp,World.alloc_heap_new _ _,rfl⟩)
  |fail
 ·rintro k hk O V lo a1 hl f6 ad ⟨H,ub,uo,f,c,d,s,g,hu,i7,ib,ae,rfl⟩
  have hX:(Cx W5 L x)[(EW L x).length+k]?=some ⟨ub,uo,f,c,d,s⟩:=by
   unfold Cx
   rw[yU (by omega),zW];exact hu
  have ac:(⟨ub,uo,f,c,d,s⟩:Us)∈Cx W5 L x:=zX hX
  have Z:=r.o.uok _ ac
  obtain ⟨c0,⟨z,c1,ei⟩,cf⟩:=H.read Z
  have hm:f=0∨f=1∨f=2∨f=3∨f=4∨f=5:=by
   have h6:=Uj _ (zX hu)
   have h7:=Z.to
   simp only at h6 h7
   omega
  have d0:V.cell? (aV g 0)=some (pV ub uo):=by simp[World.cell?,ae]
  have d1:V.cell? (aV g 1)=some (iV f):=by simp[World.cell?,ae]
  have d2:V.cell? (aV g 2)=some (iV c):=by simp[World.cell?,ae]
  have b13:V.cell? (aV Bf 0)=some (.func (.func 68) #[] #[]):=KQ r.o.find (by simp) (Hr (by decide)) H
  obtain ⟨ml,ak,ig,am,h8,Y,ed⟩:=r.o.lets.read H
  obtain ⟨mc,ah,ic,a7,e8,P,ey⟩:=r.o.crops.read H
  obtain ⟨mr,an,ih,ab,eu,K,e3⟩:=r.o.reaches.read H
  obtain ⟨mf,ao,ie,a6,g0,J,f5⟩:=r.o.farms.read H
  have HX:=yb hX;have F:=yb ac;have ii:=yb Z;have R:=yb H;have y:=yb c1;have E:=yb cf;have l:=yb c0;have hj:=yb ei;have dm:=yb ad
  have ML:=yb h8;have MC:=yb e8;have MR:=yb eu;have MF:=yb g0
  have SL:=yb ed;have SC:=yb ey;have SR:=yb e3;have SF:=yb f5
  have m:Hid (d.size<=maxLen):=yb Z.len
  have A:Hid (∀v,AL O V (V.setCell (aV ub (uo+1)) v)):=yb (fun v=>⟨by simp,fun b hb=>zk V (aV ub (uo+1)) b v (fun e=>by
   have h1:=H.own b hb
   have h2:=Z.lt
   simp only at e h2
   omega)⟩)
  clear hX ac Z H c1 cf c0 ei ad h8 e8 eu g0 ed ey e3 f5 hu i7 ib ae hl f6 hk
  rcases hm with rfl|rfl|rfl|rfl|rfl|rfl
  ·have c0:=l.o;have c1:=y.o
   obtain rfl:=hj.o rfl
   clear am Y a7 P ab K a6 J d2 b13
   cases hb:Jb (Tb.of x) ⟨ub,uo,0,c,d,z⟩ with
   |true=>
    have X:=yb hb
    obtain ⟨ge,ia⟩:d.size=0∧z=0:=by
     have h:=hb
     unfold Jb JF at h
     simpa using h
    have i1:d=⟨#[]⟩:=by
     have h:=(Dw d).1 ge
     exact Oi h
    clear hb ge
    subst ia
    subst i1
    gi_wp2_with fail
    refine ⟨trivial,zm (CallsIn.inRound lo (z6.2 (Cp _ _))) ?_⟩
    rintro e w4 ⟨rfl,q⟩
    obtain rfl:=q.symm
    gi_wp2_with fail
    exact ⟨AL.refl _ _,R.o.skip HX.o rfl X.o⟩
   |false=>
    have X:=yb hb
    have eo:¬ (d.size=0∧z=0):=by
     have h:=hb
     unfold Jb JF at h
     simpa using h
    clear hb
    have j:=yb (r.o.bad F.o X.o)
    have i0:=yb eo
    clear eo
    gi_wp2_with fail
    all_goals first
     |exact absurd ⟨(Dw _).2 (by assumption),(by assumption)⟩ i0.o
     |(refine ⟨trivial,zm (CallsIn.inRound lo (z6.2 (Ck _ _))) ?_⟩
       rintro e w4 ⟨rfl,q⟩
       obtain rfl:=q.symm
       try gi_wp2_with fail
       exact ⟨rfl,AL.refl _ _,rfl,j.o,_,R.o⟩)
  ·have c0:=l.o;have c1:=y.o;have cf:=E.o
   clear a7 P ab K a6 J d2 c0 c1 cf
   cases hb:Jb (Tb.of x) ⟨ub,uo,1,c,d,s⟩ with
   |true=>
    obtain ⟨i,t,I,C,p⟩:=G4 (to:=1) (by decide) hb
    have X:=yb hb;have HV:=yb I
    have G:=yb (FW (most:=(ak.size:Int)) l.o y.o E.o ML.o m.o t (by rw[SL.o];exact Int.ofNat_lt.2 p))
    clear hb t I C p
    have B:∀ty,(Builtin.len_ #[137] ty #[.map (some ml)]).run Tryz.prog V=.ok (iV (ak.size:Int)) V:=fun ty=>Fy Y ty
    gi_wp2_with fail
    refine ⟨trivial,zm (CallsIn.inRound lo (z6.2 G.o)) ?_⟩
    rintro e w4 ⟨rfl,rfl⟩
    gi_wp2_with fail
    exact ⟨A.o _,by have h:=R.o.next r.o.uok HX.o (show (1:Int)≠0 by decide) X.o;rw[show Gs (Tb.of x) (Et (⟨ub,uo,1,c,d,s⟩:Us).to) (⟨ub,uo,1,c,d,s⟩:Us).name=_ from HV.o] at h;exact h⟩
   |false=>
    have T:=G5 (to:=1) (by decide) hb
    have j:=yb (r.o.bad F.o hb)
    have G:=yb (Ho (most:=(ak.size:Int)) l.o ML.o m.o (fun i t=>absurd (T i t).1 (show ¬ early 1=true by decide)))
    clear hb T
    have B:∀ty,(Builtin.len_ #[137] ty #[.map (some ml)]).run Tryz.prog V=.ok (iV (ak.size:Int)) V:=fun ty=>Fy Y ty
    gi_wp2_with fail
    refine ⟨trivial,zm (CallsIn.inRound lo (z6.2 G.o)) ?_⟩
    rintro e w4 ⟨rfl,q⟩
    obtain rfl:=q.symm
    try gi_wp2_with fail
    exact ⟨rfl,AL.refl _ _,rfl,j.o,_,R.o⟩
  ·have c0:=l.o;have c1:=y.o;have cf:=E.o
   clear a7 P ab K a6 J c0 c1 cf
   cases hb:Jb (Tb.of x) ⟨ub,uo,2,c,d,s⟩ with
   |true=>
    obtain ⟨i,t,I,C,p⟩:=G4 (to:=2) (by decide) hb
    have X:=yb hb;have HV:=yb I
    have G:=yb (FW (most:=c) l.o y.o E.o ML.o m.o t (by simpa using C rfl))
    clear hb t I C p
    gi_wp2_with fail
    refine ⟨trivial,zm (CallsIn.inRound lo (z6.2 G.o)) ?_⟩
    rintro e w4 ⟨rfl,rfl⟩
    gi_wp2_with fail
    exact ⟨A.o _,by have h:=R.o.next r.o.uok HX.o (show (2:Int)≠0 by decide) X.o;rw[show Gs (Tb.of x) (Et (⟨ub,uo,2,c,d,s⟩:Us).to) (⟨ub,uo,2,c,d,s⟩:Us).name=_ from HV.o] at h;exact h⟩
   |false=>
    have T:=G5 (to:=2) (by decide) hb
    have j:=yb (r.o.bad F.o hb)
    have G:=yb (Ho (most:=c) l.o ML.o m.o (fun i t=>(T i t).2))
    clear hb T
    gi_wp2_with fail
    refine ⟨trivial,zm (CallsIn.inRound lo (z6.2 G.o)) ?_⟩
    rintro e w4 ⟨rfl,q⟩
    obtain rfl:=q.symm
    try gi_wp2_with fail
    exact ⟨rfl,AL.refl _ _,rfl,j.o,_,R.o⟩
  ·have c0:=l.o;have c1:=y.o;have cf:=E.o
   clear am Y ab K a6 J d2 c0 c1 cf
   cases hb:Jb (Tb.of x) ⟨ub,uo,3,c,d,s⟩ with
   |true=>
    obtain ⟨i,t,I,C,p⟩:=G4 (to:=3) (by decide) hb
    have X:=yb hb;have HV:=yb I
    have G:=yb (FW (most:=(ah.size:Int)) l.o y.o E.o MC.o m.o t (by rw[SC.o];exact Int.ofNat_lt.2 p))
    clear hb t I C p
    have B:∀ty,(Builtin.len_ #[137] ty #[.map (some mc)]).run Tryz.prog V=.ok (iV (ah.size:Int)) V:=fun ty=>Fy P ty
    gi_wp2_with fail
    refine ⟨trivial,zm (CallsIn.inRound lo (z6.2 G.o)) ?_⟩
    rintro e w4 ⟨rfl,rfl⟩
    gi_wp2_with fail
    exact ⟨A.o _,by have h:=R.o.next r.o.uok HX.o (show (3:Int)≠0 by decide) X.o;rw[show Gs (Tb.of x) (Et (⟨ub,uo,3,c,d,s⟩:Us).to) (⟨ub,uo,3,c,d,s⟩:Us).name=_ from HV.o] at h;exact h⟩
   |false=>
    have T:=G5 (to:=3) (by decide) hb
    have j:=yb (r.o.bad F.o hb)
    have G:=yb (Ho (most:=(ah.size:Int)) l.o MC.o m.o (fun i t=>absurd (T i t).1 (show ¬ early 3=true by decide)))
    clear hb T
    have B:∀ty,(Builtin.len_ #[137] ty #[.map (some mc)]).run Tryz.prog V=.ok (iV (ah.size:Int)) V:=fun ty=>Fy P ty
    gi_wp2_with fail
    refine ⟨trivial,zm (CallsIn.inRound lo (z6.2 G.o)) ?_⟩
    rintro e w4 ⟨rfl,q⟩
    obtain rfl:=q.symm
    try gi_wp2_with fail
    exact ⟨rfl,AL.refl _ _,rfl,j.o,_,R.o⟩
  ·have c0:=l.o;have c1:=y.o;have cf:=E.o
   clear am Y a7 P a6 J d2 c0 c1 cf
   cases hb:Jb (Tb.of x) ⟨ub,uo,4,c,d,s⟩ with
   |true=>
    obtain ⟨i,t,I,C,p⟩:=G4 (to:=4) (by decide) hb
    have X:=yb hb;have HV:=yb I
    have G:=yb (FW (most:=(an.size:Int)) l.o y.o E.o MR.o m.o t (by rw[SR.o];exact Int.ofNat_lt.2 p))
    clear hb t I C p
    have B:∀ty,(Builtin.len_ #[137] ty #[.map (some mr)]).run Tryz.prog V=.ok (iV (an.size:Int)) V:=fun ty=>Fy K ty
    gi_wp2_with fail
    refine ⟨trivial,zm (CallsIn.inRound lo (z6.2 G.o)) ?_⟩
    rintro e w4 ⟨rfl,rfl⟩
    gi_wp2_with fail
    exact ⟨A.o _,by have h:=R.o.next r.o.uok HX.o (show (4:Int)≠0 by decide) X.o;rw[show Gs (Tb.of x) (Et (⟨ub,uo,4,c,d,s⟩:Us).to) (⟨ub,uo,4,c,d,s⟩:Us).name=_ from HV.o] at h;exact h⟩
   |false=>
    have T:=G5 (to:=4) (by decide) hb
    have j:=yb (r.o.bad F.o hb)
    have G:=yb (Ho (most:=(an.size:Int)) l.o MR.o m.o (fun i t=>absurd (T i t).1 (show ¬ early 4=true by decide)))
    clear hb T
    have B:∀ty,(Builtin.len_ #[137] ty #[.map (some mr)]).run Tryz.prog V=.ok (iV (an.size:Int)) V:=fun ty=>Fy K ty
    gi_wp2_with fail
    refine ⟨trivial,zm (CallsIn.inRound lo (z6.2 G.o)) ?_⟩
    rintro e w4 ⟨rfl,q⟩
    obtain rfl:=q.symm
    try gi_wp2_with fail
    exact ⟨rfl,AL.refl _ _,rfl,j.o,_,R.o⟩
  ·have c0:=l.o;have c1:=y.o;have cf:=E.o
   clear am Y a7 P ab K d2 c0 c1 cf
   cases hb:Jb (Tb.of x) ⟨ub,uo,5,c,d,s⟩ with
   |true=>
    obtain ⟨i,t,I,C,p⟩:=G4 (to:=5) (by decide) hb
    have X:=yb hb;have HV:=yb I
    have G:=yb (FW (most:=(ao.size:Int)) l.o y.o E.o MF.o m.o t (by rw[SF.o];exact Int.ofNat_lt.2 p))
    clear hb t I C p
    have B:∀ty,(Builtin.len_ #[137] ty #[.map (some mf)]).run Tryz.prog V=.ok (iV (ao.size:Int)) V:=fun ty=>Fy J ty
    gi_wp2_with fail
    refine ⟨trivial,zm (CallsIn.inRound lo (z6.2 G.o)) ?_⟩
    rintro e w4 ⟨rfl,rfl⟩
    gi_wp2_with fail
    exact ⟨A.o _,by have h:=R.o.next r.o.uok HX.o (show (5:Int)≠0 by decide) X.o;rw[show Gs (Tb.of x) (Et (⟨ub,uo,5,c,d,s⟩:Us).to) (⟨ub,uo,5,c,d,s⟩:Us).name=_ from HV.o] at h;exact h⟩
   |false=>
    have T:=G5 (to:=5) (by decide) hb
    have j:=yb (r.o.bad F.o hb)
    have G:=yb (Ho (most:=(ao.size:Int)) l.o MF.o m.o (fun i t=>absurd (T i t).1 (show ¬ early 5=true by decide)))
    clear hb T
    have B:∀ty,(Builtin.len_ #[137] ty #[.map (some mf)]).run Tryz.prog V=.ok (iV (ao.size:Int)) V:=fun ty=>Fy J ty
    gi_wp2_with fail
    refine ⟨trivial,zm (CallsIn.inRound lo (z6.2 G.o)) ?_⟩
    rintro e w4 ⟨rfl,q⟩
    obtain rfl:=q.symm
    try gi_wp2_with fail
    exact ⟨rfl,AL.refl _ _,rfl,j.o,_,R.o⟩
 ·intro ho D O V hD gj H ag
  have hx:(BQ W5 L x).2=true:=by
   cases hx:(BQ W5 L x).2 with
   |true=>rfl
   |false=>rw[hx] at ho;cases ho
  have a2:RJ w.heap.size W5 (Tb.of x) (Cx W5 L x) (Cx W5 L x).length O V:=by
   have h:(EW L x).length+((BQ W5 L x).1.map Us.v).length=(Cx W5 L x).length:=by unfold Cx;simp
   rw[<-h];exact H
  have hA:=a2.amid r.o.amid
  have af:w.heap.size+3<=D:=by
   obtain ⟨v,U⟩:=r.o.amid.e
   have h1:=(yd.1 U).1
   have h2:=aj.o.size
   omega
  obtain ⟨cs,ai,dn,dq⟩:=r.o.src a2 hx
  rw[r.o.ls] at dn
  obtain ⟨row,g5,dl⟩:=hA.x
  obtain ⟨ve,U⟩:=hA.e
  have bn:=MT dq
  have c3:(V.setRow (w.heap.size+1) cs.toArray).cell? (aV (w.heap.size+2) 0)=some ve:=by
   simp only[World.cell?,World.setRow,yN,yt (show ¬ w.heap.size+1=w.heap.size+2 by omega)]
   simp[U]
  have f3:(V.setRow (w.heap.size+1) cs.toArray).frozen? (aV (w.heap.size+2) 0)=false:=by
   simp only[World.frozen?,World.setRow,yN,yt (show ¬ w.heap.size+1=w.heap.size+2 by omega)]
   simp[U]
  have et:Hid ((Tryz.prog.info? 35).map (·.size)=some cs.length):=yb (by rw[ai];kernel_rfl)
  have fe:Hid ((Tryz.prog.info? 35).map (·.size)=some cs.toArray.size):=yb (by rw[yq];exact et.o)
  have h0:=r.o.good a2 hx
  have S:Below w.heap.size w ((V.setRow (w.heap.size+1) cs.toArray).setCell (aV (w.heap.size+2) 0) (iV 0)):=hA.below.trans ⟨rfl,rfl,rfl,by simp[World.setRow],fun b hb=>by
   rw[zk _ _ _ _ (by simp;omega)]
   simp only[World.setRow,yN,yt (show ¬ w.heap.size+1=b by omega)]⟩
  have gq:((V.setRow (w.heap.size+1) cs.toArray).setCell (aV (w.heap.size+2) 0) (iV 0)).heap[w.heap.size+1]?=some (.cells cs.toArray 35 (0,0)):=by
   rw[zk _ _ _ _ (by simp)]
   simp[World.setRow,yN,dl]
  have f0:((V.setRow (w.heap.size+1) cs.toArray).setCell (aV (w.heap.size+2) 0) (iV 0)).heap[w.heap.size+2]?=some (.cells jg 40 (0,0)):=by
   have:=zp (V.setRow (w.heap.size+1) cs.toArray) (w.heap.size+2) 0 #[ve] 40 (iV 0) (by simp[World.setRow,yN,U])
   rw[this];rfl
  have aa:∀b,b≠w.heap.size+1->b≠w.heap.size+2->((V.setRow (w.heap.size+1) cs.toArray).setCell (aV (w.heap.size+2) 0) (iV 0)).heap[b]?=V.heap[b]?:=fun b h1 h2=>by
   rw[zk _ _ _ _ (by simpa using h2)]
   simp only[World.setRow,yN,yt (xi h1)]
  have ej:=(aa D (by omega) (by omega)).trans ag
  have i8:W5.heap.size<=D:=by have:=aj.o.size;omega
  have hw:=a2.size
  have bq:PR w.heap.size (((V.setRow (w.heap.size+1) cs.toArray).setCell (aV (w.heap.size+2) 0) (iV 0)).putObj D (.deferred none)) cs (Ah x):=by
   refine ⟨L,_,ai,dq.same (fun _ h=>h) (fun b hb=>?_),fun b hb=>⟨hb.1,?_⟩⟩
   ·obtain ⟨k1,k2,k3,k4⟩:=hb
    rw[World.putObj_heap_other (by omega),aa b k3 k4]
   ·obtain ⟨k1,k2,k3,k4⟩:=hb
    simp[World.setRow];omega
  have dk:=yb (fun tm I=>HQ.o.done D tm _ cs I S gq f0 h0 af ej bq)
  have hy:=yb dn;have ep:=yb bn;have hq:=yb dl;have i6:Hid (row.size=cs.toArray.size):=yb (by rw[g5,yq,ai])
  clear hx a2 hA af dn dq g5 dl U bn h0 S gq f0 aa ej i8 hw bq hD gj H ag ho ai
  simp only[Exit.inBlock,Exit.then]
  refine A9 (A4 ?_)
  go_wp2_with (first|(refine yj rfl 35 _ rfl (w.heap.size+1) 0 rfl cs _ hy.o qV rfl et.o ?_)|(refine zb rfl 35 _ _ rfl (w.heap.size+1) cs.toArray rfl rfl 35 row hq.o fe.o i6.o (yB ep.o) ?_))
  refine A4 ?_
  go_wp2
  exact dk.o _ ⟨rfl,rfl⟩
 ·rintro D ch O V hD gj ⟨rfl,cm,k,H⟩ ag
  have af:w.heap.size+3<=D:=by
   obtain ⟨v,U⟩:=r.o.amid.e
   have h1:=(yd.1 U).1
   have h2:=aj.o.size
   omega
  simp only[Exit.inBlock,Exit.then]
  have h:=fun tm I=>HQ.o.failD D tm V I (H.amid r.o.amid) (by rw[cm];decide) af ag
  rw[cm] at h
  exact h _ ⟨rfl,rfl⟩
end Go.Proofs.YtjofgpfocadomaaGreatDoor
namespace Go.Proofs.YtjofgpfocadomaaGreatDoor
open Go.RowKit
section
variable{N:NP}{E E':Int->Ex->Nat->Nat->Prop}{R R':Int->Rf->Nat->Nat->Prop}{w W:World}{L:Bt}{x:Av}
theorem C8.moved(h:C8 N E R W L x){Bx:Nat}(c:Ty W Bx 35)(a:∀q,q < 26->W.cell? ⟨Bx,q,none⟩=W.cell? ⟨L.s,q,none⟩)(b:∀lt e o,o+6<=26->E lt e L.s o->E lt e Bx o):C8 N E R W {L with s:=Bx} x:=
 ⟨c,⟨h.name.1,(a 0 (by omega)).trans h.name.2⟩,b _ _ _ (by omega) h.season,b _ _ _ (by omega) h.cap,b _ _ _ (by omega) h.start,(a _ (by omega)).trans h.hlets,(a _ (by omega)).trans h.hcrops,(a _ (by omega)).trans h.hreaches,(a _ (by omega)).trans h.hfarms,(a _ (by omega)).trans h.hrots,(a _ (by omega)).trans h.hrights,(a _ (by omega)).trans h.hduties,h.lets,h.crops,h.reaches,h.farms,h.rots,h.rights,h.duties⟩
theorem Td{M:NP}{Bx s:Nat}(b:∀q,q < 26->W.cell? ⟨Bx,q,none⟩=W.cell? ⟨s,q,none⟩)(lt:Int)(e:Ex)(o:Nat)(g:o+6<=26)(h:ET M W lt e s o):ET M W lt e Bx o:=by
 obtain ⟨c,h1,h2⟩:=h
 obtain ⟨a,cap,rfl,_⟩:=(h2.exV (N:=M) (fun _ h _=>h)).cells
 refine ⟨_,fun j v d=>?_,h2⟩
 have f:=(yA.1 d).1
 simp only[yx,yH] at f
 rw[b _ (by omega)]
 exact h1 j v d
theorem B6.same{b:Nat}{a:LB}{w':World}(h:B6 w b a)(hb:∀(c:Nat) (o:Obj),w.heap[c]?=some o->(∀row:Array Value,o≠Obj.cells row 35 (0,0))->w'.heap[c]?=w.heap[c]?):B6 w' b a:=by
 obtain ⟨m,h1,h2⟩:=h
 obtain ⟨f,d,h3,_⟩:=h2.size
 exact ⟨m,(hb b _ h1 (by rintro row e;cases e)).trans h1,h2.block (hb m _ h3 (by rintro row e;cases e))⟩
end
def RL(B:Nat)(W5:World)(t:Tb)(X:List Us)(n:Nat)(o:Obj)(k:Nat)(wr:World):Prop:=wr.heap.size=n∧RJ B W5 t X k (fun _=>False) (wr.alloc o)
section
variable{B:Nat}{W5 wr w':World}{t:Tb}{X:List Us}{n k:Nat}{o:Obj}
theorem RL.heap(h:RL B W5 t X n o k wr){b:Nat}(hb:b < n):(wr.alloc o).heap[b]?=wr.heap[b]?:=yD _ _ _ (by rw[h.1];exact hb)
theorem RL.cell(h:RL B W5 t X n o k wr){b q:Nat}(hb:b < n):(wr.alloc o).cell? ⟨b,q,none⟩=wr.cell? ⟨b,q,none⟩:=Ab (h.heap hb)
theorem RL.drew(h:RL B W5 t X n o k wr):RL B W5 t X n o k wr.drew:=⟨h.1,h.2.move (yf _) rfl rfl rfl (fun _ _=>rfl) (fun _ h=>h.elim)⟩
theorem LN{b q:Nat}{v:Value}(hb:b < wr.heap.size):(wr.setCell ⟨b,q,none⟩ v).alloc o=(wr.alloc o).setCell ⟨b,q,none⟩ v:=by
 unfold World.setCell World.alloc
 simp only[World.mk.injEq,and_true]
 apply Array.ext_getElem?
 intro i
 simp only[Array.getElem?_push,yN,Array.size_modify]
 by_cases h1:i=wr.heap.size
 ·subst h1;simp[show ¬ b=wr.heap.size by omega]
 ·simp[h1]
theorem RL.next{u:Us}(h:RL B W5 t X n o k wr)(c:∀u∈X,Ny B W5 u)(d:X[k]?=some u)(hb:u.b < n)(h0:u.to≠0)(a:Jb t u=true):RL B W5 t X n o (k+1) (wr.setCell ⟨u.b,u.o+1,none⟩ (.int .i64 (Gs t (Et u.to) u.name))):=by
 refine ⟨by simpa using h.1,?_⟩
 rw[LN (by rw[h.1];exact hb)]
 exact h.2.next c d h0 a
theorem RL.skip{u:Us}(h:RL B W5 t X n o k wr)(b:X[k]?=some u)(h0:u.to=0)(a:Jb t u=true):RL B W5 t X n o (k+1) wr:=⟨h.1,h.2.skip b h0 a⟩
theorem RL.read{u:Us}(h:RL B W5 t X n o k wr)(a:Ny B W5 u)(hb:u.b < n):wr.cell? ⟨u.b,u.o,none⟩=some (.string u.name)∧(∃z,wr.cell? ⟨u.b,u.o+1,none⟩=some (.int .i64 z)∧(u.to=0->z=u.n))∧wr.frozen? ⟨u.b,u.o+1,none⟩=false:=by
 obtain ⟨h1,h2,h3⟩:=h.2.read a
 rw[h.cell hb] at h1 h2
 refine ⟨h1,h2,?_⟩
 unfold World.frozen? at h3 ⊢
 rw[h.heap hb] at h3
 exact h3
end
section
variable{w W5 wr:World}{x:Av}{L:Bt}{N M:NP}{bl bc br bf Bf Bu k n:Nat}{t:Tb}{X:List Us}{o:Obj}
theorem RL.amid(c:JV w W5)(h:RL w.heap.size W5 t X n o k wr)(d:w.heap.size+3<=n):JV w wr:=by
 have a:=RJ.amid c h.2
 obtain ⟨row,h1,h2⟩:=a.x
 obtain ⟨v,h3⟩:=a.e
 rw[h.heap (by omega)] at h2 h3
 refine ⟨⟨a.below.os,a.below.tape,a.below.output,by rw[h.1];omega,fun b hb=>?_⟩,⟨row,h1,h2⟩,⟨v,h3⟩⟩
 rw[<-h.heap (by omega)]
 exact a.below.block b hb
theorem KR{f:Nat->List Us}{g:Nat->Us}:∀n,(∀i,i < n->f i=[g i])->(List.range n).flatMap f=(List.range n).map g
 |0,_=>rfl
 |n+1,h=>by rw[Aj,KR n (fun i hi=>h i (by omega)),h n (by omega),List.range_succ];simp
theorem KS{E:Int->Ex->Nat->Nat->Prop}{R:Int->Rf->Nat->Nat->Prop}(h:C8 N E R W5 L x):(EW L x).length=x.reaches.length:=by
 unfold EW
 rw[KR (g:=fun i=>⟨(L.reaches.at 51 i 1).block,(L.reaches.at 51 i 1).off,if i=0 then 0 else 6,i,(x.reaches.map (·.frm.name)).getD i ⟨#[]⟩,(x.reaches.map (·.frm.n)).getD i 0⟩) _ (fun i hi=>by
  have a:i < x.reaches.length:=by rw[<-h.reaches.1];exact hi
  unfold Ir;rw[yk a];simp[xK,a])]
 simp[h.reaches.1]
theorem PS{E:Int->Ex->Nat->Nat->Prop}{R:Int->Rf->Nat->Nat->Prop}(h:C8 N E R W5 L x){i g:Nat}(hi:i < x.reaches.length)(c:L.reaches.a=some ⟨g,0,none⟩):(Cx W5 L x)[i]?=some ⟨g,i*51+1,if i=0 then 0 else 6,i,x.reaches[i].frm.name,x.reaches[i].frm.n⟩:=by
 unfold Cx
 rw[zn (by rw[KS h];exact hi)]
 unfold EW
 rw[KR (g:=fun i=>⟨(L.reaches.at 51 i 1).block,(L.reaches.at 51 i 1).off,if i=0 then 0 else 6,i,(x.reaches.map (·.frm.name)).getD i ⟨#[]⟩,(x.reaches.map (·.frm.n)).getD i 0⟩) _ (fun i hi=>by
  have b:i < x.reaches.length:=by rw[<-h.reaches.1];exact hi
  unfold Ir;rw[yk b];simp[xK,b])]
 rw[qw,List.getElem?_range (by rw[h.reaches.1];exact hi)]
 simp[xK,hi,AO c]
end
theorem Hs{ops:Array Oper}{p:Oper->Bool}{i:Nat}{o:Oper}(h:ops.all p=true)(a:ops[i]?=some o):p o=true:=by
 rw[zu] at h
 exact h o (zV a)
theorem A8{l:Array Bool}{i j:Nat}(h:i≠j):(l.setIfInBounds i true).getD j false=l.getD j false:=xk false h
theorem Bn{l:Array Value}{i j:Nat}{v:Value}(h:i≠j):(l.setIfInBounds i v).getD j undef=l.getD j undef:=by simp[h]
def N6(lo hi:Nat)(d:Option Tmp):Bool:=match d with
 |some k=>decide (lo<=k)&&decide (k<=hi)
 |none=>true
theorem F7{lo hi:Nat}{ops:Array Oper}{e:Act}{c:Array Bool->Array Value->World->Prop}{g:Nat->Value->World->Prop}{b:Array Bool}{a:Act}{w':World}(d:ops.all (fun o=>N6 lo hi o.dst)=true)(hM:Je ops e c g b a w'):
  ∀t,(t < lo∨hi < t)->a.tmps.getD t undef=e.tmps.getD t undef:=by
 intro t i
 refine hM.free t fun j f o h hd=>?_
 have hs:N6 lo hi o.dst=true:=Hs (p:=fun o=>N6 lo hi o.dst) d h
 rw[hd] at hs
 simp only[N6,yG,z7] at hs
 exact (show ¬ (lo<=t∧t<=hi) from by omega) hs
def UX(B g rn rc mr i:Nat)(j:Nat)(v:Value)(_:World):Prop:=match j with
 |0=>v=.func (.func 68) #[] #[]
 |1=>v=.pointer (some ⟨B+1,21,none⟩)
 |2=>v=.slice (some ⟨g,0,none⟩) rn rc
 |3=>v=.int .i64 i
 |4=>v=.pointer (some ⟨g,i*51,none⟩)
 |5=>v=.pointer (some ⟨g,i*51+1,none⟩)
 |6=>v=.map (some mr)
 |7=>v=.int .i64 i
 |_=>True
structure Kf (R1 R2:World->Prop) (l:Array Bool) (_:Array Value) (w:World):Prop where
 one:l.getD 8 false=false->R1 w
 two:l.getD 8 false=true->R2 w
theorem Kf.quiet{R1 R2:World->Prop}{l:Array Bool}{tm a:Array Value}{w:World}{i:Nat}(h:Kf R1 R2 l tm w)(hi:i≠8):Kf R1 R2 (l.setIfInBounds i true) a w:=
 ⟨fun k=>h.one (by rw[A8 hi] at k;exact k),fun k=>h.two (by rw[A8 hi] at k;exact k)⟩
theorem UY{l:Act}{wr:World}{Q:QT}{B Bf g rn rc br mr i:Nat}{R1 R2 R3:World->Prop}(ops:Array Oper)(m:DQ Tryz.f32 32=some ops)
 (h2:l.tmps.getD 2 undef=.pointer (some ⟨B+1,0,none⟩))(h6:l.tmps.getD 6 undef=.pointer (some ⟨br,0,none⟩))(z:l.tmps.getD 13 undef=.pointer (some ⟨Bf,0,none⟩))(s:l.tmps.getD 14 undef=.int .i64 i)(J:l.tmps.size=174)
 (hi:i < rn)(h0:R1 wr.drew)
 (D:∀W,R1 W->W.cell? ⟨Bf,0,none⟩=some (.func (.func 68) #[] #[])∧W.cell? ⟨B+1,21,none⟩=some (.slice (some ⟨g,0,none⟩) rn rc)∧W.cell? ⟨br,0,none⟩=some (.map (some mr)))
 (n:∀W,R1 W->Calls Tryz.prog 68 #[.pointer (some ⟨g,i*51+1,none⟩),.map (some mr),.int .i64 i] W fun e w'=>(e=.returned (.tuple #[])∧R2 w')∨(e=.panicked (EE 170)∧R3 w'))
 (C:∀(a:Act) W,a.defers=l.defers->(∀t,(t < 105∨113 < t)->a.tmps.getD t undef=l.tmps.getD t undef)->R3 W->Q (.panic (EE 170)) a W)
 (F:∀(a:Act) W,a.tmps.size=174->a.defers=l.defers->(∀t,(t < 105∨113 < t)->a.tmps.getD t undef=l.tmps.getD t undef)->R2 W->Q .normal a W):
  (Code.region 32 ops true).wp Tryz.prog Q l wr:=by
 obtain rfl:=yi ((rfl:DQ Tryz.f32 32=some _).symm.trans m)
 clear m
 refine BO (by kernel_rfl) (Kf R1 R2) (UX B g rn rc mr i) (fun _ _ _=>True) (by kernel_rfl) (by rw[J];kernel_rfl) (by kernel_rfl) (fun _ j v w w' _ _ _ h=>by unfold UX at h ⊢;exact h) ⟨fun _=>h0,fun h=>(by cases h)⟩ ?_ ?_
 ·intro R c a w' hM b o k
  have f:=yb hM.ext
  have y:=(yd.1 k).1
  have x:=hM.size
  have S:=yb hi
  have O:(i:Int) < (rn:Int):=by omega
  match R,y with
  |0,_=>
   have d:=hM.old b 13 (by kernel_rfl) _ z
   have u:c.getD 8 false=false:=by
    rw[yn];intro r
    have:=A1 hM.down 8 8 0 (by kernel_rfl) r
    rw[hM.not_yet b] at this;cases this
   obtain ⟨I,G,H⟩:=D _ (f.o.one u)
   clear hi
   obtain rfl:=yi k
   go_simp
   exact ⟨_,rfl,f.o.quiet (by decide),trivial,rfl⟩
  |1,_=>
   have d:=hM.old b 2 (by kernel_rfl) _ h2
   clear hi
   obtain rfl:=yi k
   go_simp
   exact ⟨_,rfl,f.o.quiet (by decide),trivial,rfl⟩
  |2,_=>
   have d:a.tmps[106]?.getD undef=pV (B+1) 21:=hM.dep b 1 106 (by kernel_rfl) (by kernel_rfl)
   have u:c.getD 8 false=false:=by
    rw[yn];intro r
    have:=A1 hM.down 8 8 2 (by kernel_rfl) r
    rw[hM.not_yet b] at this;cases this
   obtain ⟨I,G,H⟩:=D _ (f.o.one u)
   clear hi
   obtain rfl:=yi k
   go_simp
   exact ⟨_,rfl,f.o.quiet (by decide),trivial,rfl⟩
  |3,_=>
   have d:=hM.old b 14 (by kernel_rfl) _ s
   clear hi
   obtain rfl:=yi k
   go_simp
   exact ⟨_,rfl,f.o.quiet (by decide),trivial,rfl⟩
  |4,_=>
   have N:a.tmps[107]?.getD undef=.slice (some (aV g 0)) rn rc:=hM.dep b 2 107 (by kernel_rfl) (by kernel_rfl)
   have L:a.tmps[108]?.getD undef=iV i:=hM.dep b 3 108 (by kernel_rfl) (by kernel_rfl)
   clear hi
   obtain rfl:=yi k
   go_simp
   exact ⟨_,rfl,f.o.quiet (by decide),trivial,rfl⟩
  |5,_=>
   have d:a.tmps[109]?.getD undef=pV g (i*51):=hM.dep b 4 109 (by kernel_rfl) (by kernel_rfl)
   clear hi
   obtain rfl:=yi k
   go_simp
   exact ⟨_,rfl,f.o.quiet (by decide),trivial,rfl⟩
  |6,_=>
   have d:=hM.old b 6 (by kernel_rfl) _ h6
   have u:c.getD 8 false=false:=by
    rw[yn];intro r
    have:=A1 hM.down 8 8 6 (by kernel_rfl) r
    rw[hM.not_yet b] at this;cases this
   obtain ⟨I,G,H⟩:=D _ (f.o.one u)
   clear hi
   obtain rfl:=yi k
   go_simp
   exact ⟨_,rfl,f.o.quiet (by decide),trivial,rfl⟩
  |7,_=>
   have d:=hM.old b 14 (by kernel_rfl) _ s
   clear hi
   obtain rfl:=yi k
   go_simp
   exact ⟨_,rfl,f.o.quiet (by decide),trivial,rfl⟩
  |8,_=>
   have N:a.tmps[105]?.getD undef=.func (.func 68) #[] #[]:=hM.dep b 0 105 (by kernel_rfl) (by kernel_rfl)
   have L:a.tmps[110]?.getD undef=pV g (i*51+1):=hM.dep b 5 110 (by kernel_rfl) (by kernel_rfl)
   have U:a.tmps[111]?.getD undef=.map (some mr):=hM.dep b 6 111 (by kernel_rfl) (by kernel_rfl)
   have T:a.tmps[112]?.getD undef=iV i:=hM.dep b 7 112 (by kernel_rfl) (by kernel_rfl)
   have E:=f.o.one (hM.not_yet b)
   have P:=yb (n _ E)
   have K:=yb (F7 (lo:=105) (hi:=113) (by kernel_rfl) hM)
   have A:=yb hM.defers
   have M:Hid (8 < c.size):=yb (by rw[x];show 8 < 9;omega)
   clear hi
   obtain rfl:=yi k
   go_simp
   refine P.o.mono ?_
   rintro e w2 (⟨rfl,p⟩|⟨rfl,p⟩)
   ·exact ⟨_,rfl,⟨fun h=>(by simp[M.o] at h),fun _=>p⟩,trivial,trivial⟩
   ·exact C _ _ A.o K.o p
 ·intro c a w' q hM
  exact F a w' (hM.tmps.trans J) hM.defers (F7 (lo:=105) (hi:=113) (by kernel_rfl) hM) (hM.ext.two (q 8 (show 8 < 9 by omega)))
def JI(n0:Nat)(w w':World):Prop:=w.heap.size<=w'.heap.size∧∀(b:Nat) (o:Obj),n0<=b->w.heap[b]?=some o->w'.heap[b]?=some o∨∃z a:Value,o=.cells #[z] 137 (0,0)∧w'.heap[b]?=some (.cells #[a] 137 (0,0))
theorem JI.refl(n0:Nat)(w:World):JI n0 w w:=⟨yf _,fun _ _ _ h=>.inl h⟩
theorem JI.below{n0:Nat}{w w':World}(h:Below w.heap.size w w'):JI n0 w w':=⟨h.size,fun b _ _ hb=>.inl ((h.block b (yd.1 hb).1).trans hb)⟩
theorem BR.leB{n0:Nat}{w w':World}{m:Nat}{b:LB}(h:BR w m b)(e:JI n0 w w')(d:n0<=m):BR w' m b:=by
 obtain ⟨c,a,h1,h2⟩:=h
 rcases e.2 m _ d h1 with h3|⟨z,f,h3,_⟩
 ·exact ⟨c,a,h3,h2⟩
 ·cases h3
def Ib(n0:Nat)(v:Value)(w:World):Prop:=∃b z,v=.pointer (some ⟨b,0,none⟩)∧n0<=b∧w.heap[b]?=some (.cells #[z] 137 (0,0))
theorem Ib.leB{n0:Nat}{v:Value}{w w':World}(h:Ib n0 v w)(d:JI n0 w w'):Ib n0 v w':=by
 obtain ⟨b,z,h1,h2,h3⟩:=h
 rcases d.2 b _ h2 h3 with a|⟨_,c,_,a⟩
 ·exact ⟨b,z,h1,h2,a⟩
 ·exact ⟨b,c,h1,h2,a⟩
def Fk(n0:Nat)(v:Value)(a:LB)(w:World):Prop:=∃m,v=.map (some m)∧n0<=m∧BR w m a∧a.Nodup
theorem Fk.leB{n0:Nat}{v:Value}{a:LB}{w w':World}(h:Fk n0 v a w)(c:JI n0 w w'):Fk n0 v a w':=by
 obtain ⟨m,h1,h2,h3,b⟩:=h
 exact ⟨m,h1,h2,h3.leB c h2,b⟩
def Uk(n0 B:Nat)(h0 h1 h2 h3:Au)(n0s n1s n2s n3s:LB)(j:Nat)(v:Value)(w:World):Prop:=match j with
 |0=>v=.pointer (some ⟨B,19,none⟩)
 |1=>v=.slice h0.a h0.n h0.c
 |2=>Fk n0 v n0s w
 |3=>v=.pointer (some ⟨B,20,none⟩)
 |4=>v=.slice h1.a h1.n h1.c
 |5=>Fk n0 v n1s w
 |6=>v=.pointer (some ⟨B,21,none⟩)
 |7=>v=.slice h2.a h2.n h2.c
 |8=>Fk n0 v n2s w
 |9=>v=.pointer (some ⟨B,22,none⟩)
 |10=>v=.slice h3.a h3.n h3.c
 |11=>Fk n0 v n3s w
 |12|13|14|15=>Ib n0 v w
 |_=>True
theorem Oj{n0 B:Nat}{h0 h1 h2 h3:Au}{n0s n1s n2s n3s:LB}(j:Nat)(v:Value)(w w':World)(a:JI n0 w w')(h:Uk n0 B h0 h1 h2 h3 n0s n1s n2s n3s j v w):Uk n0 B h0 h1 h2 h3 n0s n1s n2s n3s j v w':=by
 unfold Uk at h ⊢
 split at h
 all_goals first|exact h|exact h.leB a
def V8(n0:Nat)(v:Value)(a:LB)(w:World):Prop:=∃b,v=.pointer (some ⟨b,0,none⟩)∧n0<=b∧b < w.heap.size∧B6 w b a
def VH(n0:Nat)(n0s n1s n2s n3s:LB)(l:Array Bool)(tm:Array Value)(w:World)(q:Nat):Prop:=l.getD (16+q) false=true->V8 n0 (tm.getD (4+q) undef) ((([n0s,n1s,n2s,n3s]:List LB))[q]?.getD []) w
structure FM (n0:Nat) (V:World) (n0s n1s n2s n3s:List ByteArray) (l:Array Bool) (tm:Array Value) (w:World):Prop where
 below:Below n0 V w
 apart:∀p q,p < 4->q < 4->p≠q->l.getD (12+p) false=true->l.getD (12+q) false=true->tm.getD (4+p) undef≠tm.getD (4+q) undef
 full:∀q,q < 4->VH n0 n0s n1s n2s n3s l tm w q
section
variable{n0:Nat}{V w w':World}{n0s n1s n2s n3s:LB}{l:Array Bool}{tm:Array Value}
theorem B6.below{b:Nat}{a:LB}(h:B6 w b a)(hb:Below w.heap.size w w'):B6 w' b a:=by
 obtain ⟨m,h1,h2⟩:=h
 exact ⟨m,(hb.block b (yd.1 h1).1).trans h1,h2.block (hb.block m h2.lt)⟩
theorem FM.quiet(h:FM n0 V n0s n1s n2s n3s l tm w){i t:Nat}{v:Value}(hi:i < 12)(m:7 < t)(j:n0<=w.heap.size)(hb:Below w.heap.size w w'):FM n0 V n0s n1s n2s n3s (l.setIfInBounds i true) (tm.setIfInBounds t v) w':=by
 refine ⟨h.below.trans (hb.mono j),fun p q f a c e d=>?_,fun q a k=>?_⟩
 ·rw[A8 (by omega)] at e d
  rw[Bn (by omega),Bn (by omega)]
  exact h.apart p q f a c e d
 ·rw[A8 (by omega)] at k
  rw[Bn (by omega)]
  obtain ⟨b,h1,h2,h3,g⟩:=h.full q a k
  exact ⟨b,h1,h2,yv h3 hb.size,g.below hb⟩
theorem FM.alloc(h:FM n0 V n0s n1s n2s n3s l tm w){q:Nat}(v:q < 4)(u:n0<=w.heap.size)(o:tm.size=174)(g:∀p,p < 4->l.getD (12+p) false=true->Ib n0 (tm.getD (4+p) undef) w)(j:l.getD (16+q) false=false)(z:Value):
  FM n0 V n0s n1s n2s n3s (l.setIfInBounds (12+q) true) (tm.setIfInBounds (4+q) (.pointer (some ⟨w.heap.size,0,none⟩))) (w.alloc (.cells #[z] 137)):=by
 have hb:Below w.heap.size w (w.alloc (.cells #[z] 137)):=(yg _ _).alloc (yf _) _
 have a:(tm.setIfInBounds (4+q) (pV w.heap.size 0)).getD (4+q) undef=pV w.heap.size 0:=by simp[o,show 4+q < 174 by omega]
 have c:∀p,p < 4->p≠q->(l.setIfInBounds (12+q) true).getD (12+p) false=true->∃b,tm.getD (4+p) undef=pV b 0∧b < w.heap.size:=fun p f d k=>by
  rw[A8 (by omega)] at k
  obtain ⟨b,z,h1,_,h3⟩:=g p f k
  exact ⟨b,h1,(yd.1 h3).1⟩
 refine ⟨h.below.trans (hb.mono u),fun p r f hr d n m=>?_,fun p f k=>?_⟩
 ·by_cases i:p=q
  ·subst i
   obtain ⟨b,h1,h2⟩:=c r hr (xi d) m
   rw[a,Bn (by omega),h1]
   intro e;simp at e<;>omega
  ·obtain ⟨b,h1,h2⟩:=c p f i n
   by_cases t:r=q
   ·subst t
    rw[a,Bn (by omega),h1]
    intro e;simp at e<;>omega
   ·rw[Bn (by omega),Bn (by omega)]
    rw[A8 (by omega)] at n m
    exact h.apart p r f hr d n m
 ·rw[A8 (by omega)] at k
  by_cases i:p=q
  ·subst i;rw[j] at k;cases k
  ·rw[Bn (by omega)]
   obtain ⟨b,h1,h2,h3,s⟩:=h.full p f k
   exact ⟨b,h1,h2,yv h3 hb.size,s.below hb⟩
theorem FM.store(h:FM n0 V n0s n1s n2s n3s l tm w){q b m:Nat}{z:Value}(E:q < 4)(G:n0<=b)(hb:w.heap[b]?=some (.cells #[z] 137 (0,0)))(s:tm.getD (4+q) undef=.pointer (some ⟨b,0,none⟩))
 (H:BR w m ((([n0s,n1s,n2s,n3s]:List LB))[q]?.getD []))(x:l.getD (12+q) false=true)(i:∀p,p < 4->l.getD (16+p) false=true->l.getD (12+p) false=true):
  FM n0 V n0s n1s n2s n3s (l.setIfInBounds (16+q) true) tm (w.setCell ⟨b,0,none⟩ (.map (some m)))∧JI n0 w (w.setCell ⟨b,0,none⟩ (.map (some m))):=by
 have d:(w.setCell (aV b 0) (.map (some m))).heap[b]?=some (.cells #[.map (some m)] 137 (0,0)):=by
  have:=zp w b 0 #[z] 137 (.map (some m)) hb
  rw[this];rfl
 have a:∀c,c≠b->(w.setCell (aV b 0) (.map (some m))).heap[c]?=w.heap[c]?:=fun c y=>zk w (aV b 0) c _ y
 have f:∀n g,BR w n g->BR (w.setCell (aV b 0) (.map (some m))) n g:=fun n g h=>by
  obtain ⟨I,u,h1,_⟩:=h.size
  exact h.block (a n (fun e=>by rw[e,hb] at h1;cases h1))
 refine ⟨⟨?_,fun p r t hr j C B=>?_,fun p t k=>?_⟩,by simp,fun c o y A=>?_⟩
 ·exact h.below.trans ⟨rfl,rfl,rfl,by simp,fun c y=>a c (by omega)⟩
 ·rw[A8 (by omega)] at C B
  exact h.apart p r t hr j C B
 ·by_cases D:p=q
  ·subst D
   exact ⟨b,s,G,by simpa using (yd.1 hb).1,m,d,f _ _ H⟩
  ·rw[A8 (by omega)] at k
   obtain ⟨v,h1,h2,h3,n,F,h5⟩:=h.full p t k
   have j:v≠b:=fun e=>h.apart p q t E D (i p t k) x (by rw[h1,s,e])
   exact ⟨v,h1,h2,by simpa using h3,n,(a v j).trans F,f _ _ h5⟩
 ·by_cases e:c=b
  ·subst e
   rw[hb] at A
   exact .inr ⟨z,.map (some m),(yi A).symm,d⟩
  ·exact .inl ((a c e).trans A)
end
theorem VI{P:Act}{V:World}{Q:QT}{B:Nat}{h0 h1 h2 h3:Au}{n0s n1s n2s n3s:LB}(ops:Array Oper)(T:DQ Tryz.f32 11=some ops)
 (R:P.tmps.getD 1 undef=.pointer (some ⟨B,0,none⟩))(hz:P.tmps.size=174)
 (hc:∀W,Below V.heap.size V W->W.cell? ⟨B,19,none⟩=some (.slice h0.a h0.n h0.c)∧W.cell? ⟨B,20,none⟩=some (.slice h1.a h1.n h1.c)∧W.cell? ⟨B,21,none⟩=some (.slice h2.a h2.n h2.c)∧W.cell? ⟨B,22,none⟩=some (.slice h3.a h3.n h3.c))
 (ab:∀W,Below V.heap.size V W->B8 W h0 7 0 n0s)(ag:∀W,Below V.heap.size V W->B8 W h1 7 0 n1s)(a2:∀W,Below V.heap.size V W->B8 W h2 51 0 n2s)(a7:∀W,Below V.heap.size V W->B8 W h3 12 0 n3s)
 (a6:n0s.length<=100000)(ac:n1s.length<=100000)(ae:n2s.length<=100000)(a8:n3s.length<=100000)
 (N:∀(a:Act) W,a.defers=P.defers->(∀t,(t < 4∨54 < t)->a.tmps.getD t undef=P.tmps.getD t undef)->Below V.heap.size V W->¬ (n0s.Nodup∧n1s.Nodup∧n2s.Nodup∧n3s.Nodup)->Q (.panic (EE 171)) a W)
 (aa:∀(a:Act) W (bl bc br bf:Nat),a.tmps.size=174->a.defers=P.defers->(∀t,t∉[4,5,6,7,43,44,45,46,47,48,49,50,51,52,53,54]->a.tmps.getD t undef=P.tmps.getD t undef)->
   a.tmps.getD 4 undef=.pointer (some ⟨bl,0,none⟩)->a.tmps.getD 5 undef=.pointer (some ⟨bc,0,none⟩)->a.tmps.getD 6 undef=.pointer (some ⟨br,0,none⟩)->a.tmps.getD 7 undef=.pointer (some ⟨bf,0,none⟩)->
   B6 W bl n0s->B6 W bc n1s->B6 W br n2s->B6 W bf n3s->(V.heap.size<=bl∧bl < W.heap.size)->(V.heap.size<=bc∧bc < W.heap.size)->(V.heap.size<=br∧br < W.heap.size)->(V.heap.size<=bf∧bf < W.heap.size)->Below V.heap.size V W->(n0s.Nodup∧n1s.Nodup∧n2s.Nodup∧n3s.Nodup)->Q .normal a W):
  (Code.region 11 ops true).wp Tryz.prog Q P V:=by
 obtain rfl:=yi ((rfl:DQ Tryz.f32 11=some _).symm.trans T)
 clear T
 have U:∀ {af:Array Bool->Array Value->World->Prop} {Pp:Nat->Value->World->Prop} {f:Array Bool} {a:Act} {w':World},Je _ P af Pp f a w'->∀t,t∉[4,5,6,7,43,44,45,46,47,48,49,50,51,52,53,54]->a.tmps.getD t undef=P.tmps.getD t undef:=fun hM t Z=>by
  refine hM.free t fun mm ai o D hd=>Z ?_
  have hs:=Hs (ops:=(Tryz.f32.body.bind (CN 11)).getD #[]) (p:=fun o=>match o.dst with|some k=>decide (k∈[4,5,6,7,43,44,45,46,47,48,49,50,51,52,53,54])|none=>true) (by kernel_rfl) D
  rw[hd] at hs
  exact yO hs
 refine BO (by kernel_rfl) (FM V.heap.size V n0s n1s n2s n3s) (Uk V.heap.size B h0 h1 h2 h3 n0s n1s n2s n3s) (fun _=>JI V.heap.size) (by kernel_rfl) (by rw[hz];kernel_rfl) (by kernel_rfl) (fun _ j v w w' _ _ hl h=>Oj j v w w' hl h) ?_ ?_ ?_
 ·refine ⟨(yg _ _).drew,fun p q M hq ah k1 k2=>?_,fun q hq k=>?_⟩
  ·exfalso
   match p,M with
   |0,_=>cases k1
   |1,_=>cases k1
   |2,_=>cases k1
   |3,_=>cases k1
  ·exfalso
   match q,hq with
   |0,_=>cases k
   |1,_=>cases k
   |2,_=>cases k
   |3,_=>cases k
 ·intro ix f a w' hM i o D
  have r:=yb hM.ext
  have ad:=(yd.1 D).1
  have a0:V.heap.size<=w'.heap.size:=hM.ext.below.size
  have l:=yb a0
  have O:Hid (a.tmps.size=174):=yb (hM.tmps.trans hz)
  have HF:=yb (U hM)
  have S:=yb hM.defers
  have K:Hid (∀p,p < 4->f.getD (12+p) false=true->Ib V.heap.size (a.tmps.getD (4+p) undef) w'):=yb (fun p M k=>by
   match p,M with
   |0,_=>exact hM.done 12 k _ 4 rfl rfl
   |1,_=>exact hM.done 13 k _ 5 rfl rfl
   |2,_=>exact hM.done 14 k _ 6 rfl rfl
   |3,_=>exact hM.done 15 k _ 7 rfl rfl)
  clear a0
  match ix,ad with
  |0,_=>
   have d:=hM.old i 1 (by kernel_rfl) _ R
   obtain rfl:=yi D
   go_simp
   exact ⟨_,rfl,r.o.quiet (by decide) (by decide) l.o (yg _ _),JI.refl _ _,rfl⟩
  |1,_=>
   have d:a.tmps[43]?.getD undef=pV B 19:=hM.dep i 0 43 (by kernel_rfl) (by kernel_rfl)
   obtain ⟨x0,x1,x2,x3⟩:=hc _ r.o.below
   obtain rfl:=yi D
   go_simp
   exact ⟨_,rfl,r.o.quiet (by decide) (by decide) l.o (yg _ _),JI.refl _ _,rfl⟩
  |2,_=>
   have d:a.tmps[44]?.getD undef=.slice h0.a h0.n h0.c:=hM.dep i 1 44 (by kernel_rfl) (by kernel_rfl)
   have L:=yb (Rv (ab _ r.o.below) a6)
   unfold Au.v at L
   obtain rfl:=yi D
   go_simp
   refine L.o.mono ?_
   rintro e w2 ⟨g,⟨s,m,rfl,F,H⟩|⟨s,rfl⟩⟩
   ·exact ⟨_,rfl,r.o.quiet (by decide) (by decide) l.o g,JI.below g,m,rfl,yu l.o F,H,s⟩
   ·exact N _ _ S.o (fun t Z=>HF.o t (by simp;omega)) (r.o.below.trans (g.mono l.o)) (fun h=>s h.1)
  |3,_=>
   have d:=hM.old i 1 (by kernel_rfl) _ R
   obtain rfl:=yi D
   go_simp
   exact ⟨_,rfl,r.o.quiet (by decide) (by decide) l.o (yg _ _),JI.refl _ _,rfl⟩
  |4,_=>
   have d:a.tmps[46]?.getD undef=pV B 20:=hM.dep i 3 46 (by kernel_rfl) (by kernel_rfl)
   obtain ⟨x0,x1,x2,x3⟩:=hc _ r.o.below
   obtain rfl:=yi D
   go_simp
   exact ⟨_,rfl,r.o.quiet (by decide) (by decide) l.o (yg _ _),JI.refl _ _,rfl⟩
  |5,_=>
   have d:a.tmps[47]?.getD undef=.slice h1.a h1.n h1.c:=hM.dep i 4 47 (by kernel_rfl) (by kernel_rfl)
   have L:=yb (Py (ag _ r.o.below) ac)
   unfold Au.v at L
   obtain rfl:=yi D
   go_simp
   refine L.o.mono ?_
   rintro e w2 ⟨g,⟨s,m,rfl,F,H⟩|⟨s,rfl⟩⟩
   ·exact ⟨_,rfl,r.o.quiet (by decide) (by decide) l.o g,JI.below g,m,rfl,yu l.o F,H,s⟩
   ·exact N _ _ S.o (fun t Z=>HF.o t (by simp;omega)) (r.o.below.trans (g.mono l.o)) (fun h=>s h.2.1)
  |6,_=>
   have d:=hM.old i 1 (by kernel_rfl) _ R
   obtain rfl:=yi D
   go_simp
   exact ⟨_,rfl,r.o.quiet (by decide) (by decide) l.o (yg _ _),JI.refl _ _,rfl⟩
  |7,_=>
   have d:a.tmps[49]?.getD undef=pV B 21:=hM.dep i 6 49 (by kernel_rfl) (by kernel_rfl)
   obtain ⟨x0,x1,x2,x3⟩:=hc _ r.o.below
   obtain rfl:=yi D
   go_simp
   exact ⟨_,rfl,r.o.quiet (by decide) (by decide) l.o (yg _ _),JI.refl _ _,rfl⟩
  |8,_=>
   have d:a.tmps[50]?.getD undef=.slice h2.a h2.n h2.c:=hM.dep i 7 50 (by kernel_rfl) (by kernel_rfl)
   have L:=yb (NU (a2 _ r.o.below) ae)
   unfold Au.v at L
   obtain rfl:=yi D
   go_simp
   refine L.o.mono ?_
   rintro e w2 ⟨g,⟨s,m,rfl,F,H⟩|⟨s,rfl⟩⟩
   ·exact ⟨_,rfl,r.o.quiet (by decide) (by decide) l.o g,JI.below g,m,rfl,yu l.o F,H,s⟩
   ·exact N _ _ S.o (fun t Z=>HF.o t (by simp;omega)) (r.o.below.trans (g.mono l.o)) (fun h=>s h.2.2.1)
  |9,_=>
   have d:=hM.old i 1 (by kernel_rfl) _ R
   obtain rfl:=yi D
   go_simp
   exact ⟨_,rfl,r.o.quiet (by decide) (by decide) l.o (yg _ _),JI.refl _ _,rfl⟩
  |10,_=>
   have d:a.tmps[52]?.getD undef=pV B 22:=hM.dep i 9 52 (by kernel_rfl) (by kernel_rfl)
   obtain ⟨x0,x1,x2,x3⟩:=hc _ r.o.below
   obtain rfl:=yi D
   go_simp
   exact ⟨_,rfl,r.o.quiet (by decide) (by decide) l.o (yg _ _),JI.refl _ _,rfl⟩
  |11,_=>
   have d:a.tmps[53]?.getD undef=.slice h3.a h3.n h3.c:=hM.dep i 10 53 (by kernel_rfl) (by kernel_rfl)
   have L:=yb (Pz (a7 _ r.o.below) a8)
   unfold Au.v at L
   obtain rfl:=yi D
   go_simp
   refine L.o.mono ?_
   rintro e w2 ⟨g,⟨s,m,rfl,F,H⟩|⟨s,rfl⟩⟩
   ·exact ⟨_,rfl,r.o.quiet (by decide) (by decide) l.o g,JI.below g,m,rfl,yu l.o F,H,s⟩
   ·exact N _ _ S.o (fun t Z=>HF.o t (by simp;omega)) (r.o.below.trans (g.mono l.o)) (fun h=>s h.2.2.2)
  |12,_=>
   have x:f.getD (16+0) false=false:=by
    rw[yn];intro Y
    have:=A1 hM.down 8 16 12 (by kernel_rfl) Y
    rw[hM.not_yet i] at this;cases this
   have I:=yb x
   clear x
   obtain rfl:=yi D
   go_simp
   exact ⟨_,rfl,r.o.alloc (q:=0) (by decide) l.o O.o K.o I.o _,JI.below ((yg _ _).alloc (yf _) _),_,_,rfl,l.o,World.alloc_heap_new _ _⟩
  |13,_=>
   have x:f.getD (16+1) false=false:=by
    rw[yn];intro Y
    have:=A1 hM.down 8 17 13 (by kernel_rfl) Y
    rw[hM.not_yet i] at this;cases this
   have I:=yb x
   clear x
   obtain rfl:=yi D
   go_simp
   exact ⟨_,rfl,r.o.alloc (q:=1) (by decide) l.o O.o K.o I.o _,JI.below ((yg _ _).alloc (yf _) _),_,_,rfl,l.o,World.alloc_heap_new _ _⟩
  |14,_=>
   have x:f.getD (16+2) false=false:=by
    rw[yn];intro Y
    have:=A1 hM.down 8 18 14 (by kernel_rfl) Y
    rw[hM.not_yet i] at this;cases this
   have I:=yb x
   clear x
   obtain rfl:=yi D
   go_simp
   exact ⟨_,rfl,r.o.alloc (q:=2) (by decide) l.o O.o K.o I.o _,JI.below ((yg _ _).alloc (yf _) _),_,_,rfl,l.o,World.alloc_heap_new _ _⟩
  |15,_=>
   have x:f.getD (16+3) false=false:=by
    rw[yn];intro Y
    have:=A1 hM.down 8 19 15 (by kernel_rfl) Y
    rw[hM.not_yet i] at this;cases this
   have I:=yb x
   clear x
   obtain rfl:=yi D
   go_simp
   exact ⟨_,rfl,r.o.alloc (q:=3) (by decide) l.o O.o K.o I.o _,JI.below ((yg _ _).alloc (yf _) _),_,_,rfl,l.o,World.alloc_heap_new _ _⟩
  |16,_=>
   have hb:Ib V.heap.size (a.tmps[4]?.getD undef) w':=hM.dep i 12 4 (by kernel_rfl) (by kernel_rfl)
   have F:Fk V.heap.size (a.tmps[45]?.getD undef) n0s w':=hM.dep i 2 45 (by kernel_rfl) (by kernel_rfl)
   obtain ⟨b,z,X,A,g⟩:=hb
   obtain ⟨m,d2,G,C,J⟩:=F
   have y:∀p,p < 4->f.getD (16+p) false=true->f.getD (12+p) false=true:=fun p M k=>by
    match p,M with
    |0,_=>exact A1 hM.down 8 16 12 (by kernel_rfl) k
    |1,_=>exact A1 hM.down 8 17 13 (by kernel_rfl) k
    |2,_=>exact A1 hM.down 8 18 14 (by kernel_rfl) k
    |3,_=>exact A1 hM.down 8 19 15 (by kernel_rfl) k
   have E:=yb (r.o.store (q:=0) (m:=m) (by decide) A g (by rw[yE];exact X) C (hM.came i 12 (by kernel_rfl)) y)
   have c1:w'.cell? (aV b 0)=some z:=by simp[World.cell?,g]
   have c2:w'.frozen? (aV b 0)=false:=by simp[World.frozen?,g]
   clear A g G C J y
   obtain rfl:=yi D
   go_simp
   exact ⟨undef,rfl,E.o.1,E.o.2,trivial⟩
  |17,_=>
   have hb:Ib V.heap.size (a.tmps[5]?.getD undef) w':=hM.dep i 13 5 (by kernel_rfl) (by kernel_rfl)
   have F:Fk V.heap.size (a.tmps[48]?.getD undef) n1s w':=hM.dep i 5 48 (by kernel_rfl) (by kernel_rfl)
   obtain ⟨b,z,X,A,g⟩:=hb
   obtain ⟨m,d2,G,C,J⟩:=F
   have y:∀p,p < 4->f.getD (16+p) false=true->f.getD (12+p) false=true:=fun p M k=>by
    match p,M with
    |0,_=>exact A1 hM.down 8 16 12 (by kernel_rfl) k
    |1,_=>exact A1 hM.down 8 17 13 (by kernel_rfl) k
    |2,_=>exact A1 hM.down 8 18 14 (by kernel_rfl) k
    |3,_=>exact A1 hM.down 8 19 15 (by kernel_rfl) k
   have E:=yb (r.o.store (q:=1) (m:=m) (by decide) A g (by rw[yE];exact X) C (hM.came i 13 (by kernel_rfl)) y)
   have c1:w'.cell? (aV b 0)=some z:=by simp[World.cell?,g]
   have c2:w'.frozen? (aV b 0)=false:=by simp[World.frozen?,g]
   clear A g G C J y
   obtain rfl:=yi D
   go_simp
   exact ⟨undef,rfl,E.o.1,E.o.2,trivial⟩
  |18,_=>
   have hb:Ib V.heap.size (a.tmps[6]?.getD undef) w':=hM.dep i 14 6 (by kernel_rfl) (by kernel_rfl)
   have F:Fk V.heap.size (a.tmps[51]?.getD undef) n2s w':=hM.dep i 8 51 (by kernel_rfl) (by kernel_rfl)
   obtain ⟨b,z,X,A,g⟩:=hb
   obtain ⟨m,d2,G,C,J⟩:=F
   have y:∀p,p < 4->f.getD (16+p) false=true->f.getD (12+p) false=true:=fun p M k=>by
    match p,M with
    |0,_=>exact A1 hM.down 8 16 12 (by kernel_rfl) k
    |1,_=>exact A1 hM.down 8 17 13 (by kernel_rfl) k
    |2,_=>exact A1 hM.down 8 18 14 (by kernel_rfl) k
    |3,_=>exact A1 hM.down 8 19 15 (by kernel_rfl) k
   have E:=yb (r.o.store (q:=2) (m:=m) (by decide) A g (by rw[yE];exact X) C (hM.came i 14 (by kernel_rfl)) y)
   have c1:w'.cell? (aV b 0)=some z:=by simp[World.cell?,g]
   have c2:w'.frozen? (aV b 0)=false:=by simp[World.frozen?,g]
   clear A g G C J y
   obtain rfl:=yi D
   go_simp
   exact ⟨undef,rfl,E.o.1,E.o.2,trivial⟩
  |19,_=>
   have hb:Ib V.heap.size (a.tmps[7]?.getD undef) w':=hM.dep i 15 7 (by kernel_rfl) (by kernel_rfl)
   have F:Fk V.heap.size (a.tmps[54]?.getD undef) n3s w':=hM.dep i 11 54 (by kernel_rfl) (by kernel_rfl)
   obtain ⟨b,z,X,A,g⟩:=hb
   obtain ⟨m,d2,G,C,J⟩:=F
   have y:∀p,p < 4->f.getD (16+p) false=true->f.getD (12+p) false=true:=fun p M k=>by
    match p,M with
    |0,_=>exact A1 hM.down 8 16 12 (by kernel_rfl) k
    |1,_=>exact A1 hM.down 8 17 13 (by kernel_rfl) k
    |2,_=>exact A1 hM.down 8 18 14 (by kernel_rfl) k
    |3,_=>exact A1 hM.down 8 19 15 (by kernel_rfl) k
   have E:=yb (r.o.store (q:=3) (m:=m) (by decide) A g (by rw[yE];exact X) C (hM.came i 15 (by kernel_rfl)) y)
   have c1:w'.cell? (aV b 0)=some z:=by simp[World.cell?,g]
   have c2:w'.frozen? (aV b 0)=false:=by simp[World.frozen?,g]
   clear A g G C J y
   obtain rfl:=yi D
   go_simp
   exact ⟨undef,rfl,E.o.1,E.o.2,trivial⟩
 ·intro f a w' u hM
  obtain ⟨bl,l1,l2,l3,l4⟩:=hM.ext.full 0 (by decide) (u 16 (show 16 < 20 by omega))
  obtain ⟨bc,c1,c2,c3,c4⟩:=hM.ext.full 1 (by decide) (u 17 (show 17 < 20 by omega))
  obtain ⟨br,r1,r2,r3,r4⟩:=hM.ext.full 2 (by decide) (u 18 (show 18 < 20 by omega))
  obtain ⟨bf,f1,f2,f3,f4⟩:=hM.ext.full 3 (by decide) (u 19 (show 19 < 20 by omega))
  obtain ⟨_,_,_,_,g0⟩:Fk V.heap.size _ n0s w':=hM.done 2 (u 2 (show 2 < 20 by omega)) _ 45 rfl rfl
  obtain ⟨_,_,_,_,g1⟩:Fk V.heap.size _ n1s w':=hM.done 5 (u 5 (show 5 < 20 by omega)) _ 48 rfl rfl
  obtain ⟨_,_,_,_,g2⟩:Fk V.heap.size _ n2s w':=hM.done 8 (u 8 (show 8 < 20 by omega)) _ 51 rfl rfl
  obtain ⟨_,_,_,_,g3⟩:Fk V.heap.size _ n3s w':=hM.done 11 (u 11 (show 11 < 20 by omega)) _ 54 rfl rfl
  exact aa a w' bl bc br bf (hM.tmps.trans hz) hM.defers (U hM) l1 c1 r1 f1 l4 c4 r4 f4 ⟨l2,l3⟩ ⟨c2,c3⟩ ⟨r2,r3⟩ ⟨f2,f3⟩ hM.ext.below ⟨g0,g1,g2,g3⟩
theorem V9{Q:QT}{w V W5:World}{x:Av}{L:Bt}{N M:NP}{bl bc br bf Bf:Nat}(hQ:KM Q w x)(f:I2 w x W5 L N M bl bc br bf Bf V.heap.size)
 (T:RL w.heap.size W5 (Tb.of x) (Cx W5 L x) V.heap.size (.cells #[.pointer (some ⟨w.heap.size+1,0,none⟩)] 85) 0 V)(aa:Bf < V.heap.size)(ac:br < V.heap.size)(ah:W5.heap.size=V.heap.size+1)
 (u0 u1 u8 u9 u10 u11 u12 u14 u15 u16 u17 u18 u19 u20 u21 u22 u23 u24 u25 u26 u27 u28 u29 u30 u31 u32 u33 u34 u35 u36 u37 u38 u39 u40 u41 u42 u43 u44 u45 u46 u47 u48 u49 u50 u51 u52 u53 u54 u55 u56 u57 u58 u59 u60 u61 u62 u63 u64 u65 u66 u67 u68 u69 u70 u71 u72 u73 u74 u75 u76 u77 u78 u79 u80 u81 u82 u83 u84 u85 u86 u87 u88 u89 u90 u91 u92 u93 u94 u95 u96 u97 u98 u99 u100 u101 u102 u103 u104 u105 u106 u107 u108 u109 u110 u111 u112 u113 u114 u115 u116 u117 u118 u119 u120 u121 u122 u123 u124 u125 u126 u127 u128 u129 u130 u131 u132 u133 u134 u135 u136 u137 u138 u139 u140 u141 u142 u143 u144 u145 u146 u147 u148 u149 u150 u151 u152 u153 u154 u155 u156 u157 u158 u159 u160 u161 u162 u163 u164 u165 u166 u167 u168 u169 u170 u171 u172 u173:Value):
  FE 32 Tryz.prog (H4 19 (Tryz.f32.body.getD .skip)) Q {tmps:=#[u0,u1,.pointer (some ⟨w.heap.size+1,0,none⟩),.pointer (some ⟨w.heap.size+2,0,none⟩),.pointer (some ⟨bl,0,none⟩),.pointer (some ⟨bc,0,none⟩),.pointer (some ⟨br,0,none⟩),.pointer (some ⟨bf,0,none⟩),u8,u9,u10,u11,u12,.pointer (some ⟨Bf,0,none⟩),u14,u15,u16,u17,u18,u19,u20,u21,u22,u23,u24,u25,u26,u27,u28,u29,u30,u31,u32,u33,u34,u35,u36,u37,u38,u39,u40,u41,u42,u43,u44,u45,u46,u47,u48,u49,u50,u51,u52,u53,u54,u55,u56,u57,u58,u59,u60,u61,u62,u63,u64,u65,u66,u67,u68,u69,u70,u71,u72,u73,u74,u75,u76,u77,u78,u79,u80,u81,u82,u83,u84,u85,u86,u87,u88,u89,u90,u91,u92,u93,u94,u95,u96,u97,u98,u99,u100,u101,u102,u103,u104,u105,u106,u107,u108,u109,u110,u111,u112,u113,u114,u115,u116,u117,u118,u119,u120,u121,u122,u123,u124,u125,u126,u127,u128,u129,u130,u131,u132,u133,u134,u135,u136,u137,u138,u139,u140,u141,u142,u143,u144,u145,u146,u147,u148,u149,u150,u151,u152,u153,u154,u155,u156,u157,u158,u159,u160,u161,u162,u163,u164,u165,u166,u167,u168,u169,u170,u171,u172,u173],defers:=[Jc w.heap.size]} V:=by
 have Z:=f.ls
 have R:w.heap.size+3<=V.heap.size:=by
  obtain ⟨v,he⟩:=f.amid.e
  have h1:=(yd.1 he).1
  rcases zU (w.heap.size+2) V.heap.size with h|h
  ·omega
  ·have h2:w.heap.size+2=V.heap.size:=by omega
   rw[h2,f.box] at he
   cases he
 have l:L.reaches.ok:=f.ps.reaches.ok
 have U:∀k wr,RL w.heap.size W5 (Tb.of x) (Cx W5 L x) V.heap.size (.cells #[.pointer (some ⟨w.heap.size+1,0,none⟩)] 85) k wr->wr.cell? ⟨w.heap.size+1,21,none⟩=some L.reaches.v:=fun k wr h=>by
  rw[<-h.cell (by omega),h.2.cells _ _ (by omega) (G3 ⟨_,Z▸f.ps.ty,rfl⟩),<-Z]
  exact f.ps.hreaches
 have I:L.reaches.n<=140737488355328:=l.1
 have a6:L.reaches.n=x.reaches.length:=f.ps.reaches.1
 have r:∀k wr,RL w.heap.size W5 (Tb.of x) (Cx W5 L x) V.heap.size (.cells #[.pointer (some ⟨w.heap.size+1,0,none⟩)] 85) k wr->wr.cell? ⟨Bf,0,none⟩=some (.func (.func 68) #[] #[]):=fun k wr h=>by
  rw[<-h.cell aa];exact KQ f.find (by simp) (Hr (by decide)) h.2
 obtain ⟨mr,a8⟩:∃mr,∀k wr,RL w.heap.size W5 (Tb.of x) (Cx W5 L x) V.heap.size (.cells #[.pointer (some ⟨w.heap.size+1,0,none⟩)] 85) k wr->wr.cell? ⟨br,0,none⟩=some (.map (some mr))∧BR wr mr (x.reaches.map (·.name)):=by
  obtain ⟨m,h1,h2⟩:=f.reaches
  obtain ⟨es,ar,h3,_⟩:=h2.size
  have ay:m < V.heap.size:=by
   rcases zU m V.heap.size with h|h
   ·exact h
   ·have h4:m=V.heap.size:=by have:=h2.lt;omega
    rw[h4,f.box] at h3;cases h3
  refine ⟨m,fun k wr h=>⟨?_,?_⟩⟩
  ·rw[<-h.cell ac];exact KQ h1 (by simp) (Hr (by decide)) h.2
  ·refine h2.block ?_
   rw[<-h.heap ay]
   exact h.2.same m h2.lt (KP fun t ⟨c,hc⟩=>by rw[h3] at hc;cases hc)
 have ao:=yb U;have X:=yb r;have S:=yb a8
 have HQ:=yb hQ;have D:=yb f;have ba:=yb R;have b4:=yb ah;have HN:=yb a6
 have ax:=yb T
 have y:Hid (∀k tm wr,RL w.heap.size W5 (Tb.of x) (Cx W5 L x) V.heap.size (.cells #[.pointer (some ⟨w.heap.size+1,0,none⟩)] 85) k wr->LM w.heap.size tm->AE x=170->Q (.panic (EE 170)) {tmps:=tm,defers:=[Jc w.heap.size]} wr):=yb (fun k tm wr h hv J=>by
  have:=hQ.fail tm wr hv (RL.amid f.amid h R) (by rw[J];decide)
  rw[J] at this;exact this)
 have p:=U 0 V T
 have am:=f.ps.reaches.2.2
 have aw:=yb am
 generalize an:L.reaches=rr at p I a6
 obtain ⟨ra,rn,rc⟩:=rr
 have q:=yb an
 unfold Au.v at p
 simp only at p I
 clear Z R l U a6 r a8 hQ f T aa ac ah am an
 unfold Jc
 refine A9 (A4 ?_)
 go_wp2
 clear p
 go_loopw [91] (fun iv wr=>∃i:Nat,iv=.int .i64 i∧i<=rn∧Hid (RL w.heap.size W5 (Tb.of x) (Cx W5 L x) V.heap.size (.cells #[.pointer (some ⟨w.heap.size+1,0,none⟩)] 85) i wr)) (fun iv _=>rn - (intOf iv).toNat)
 case atStart=>exact ⟨0,rfl,yK _,ax⟩
 case round=>
  obtain ⟨i,rfl,hi,O⟩:=hrel
  by_cases ai:i < rn
  ·have hl:i < x.reaches.length:=by rw[<-HN.o,q.o];exact ai
   obtain ⟨g,ha,hg,ty,a0⟩:=aw.o i hl
   rw[q.o] at ha
   simp only at ha
   subst ha
   have hX:=PS D.o.ps hl (by rw[q.o])
   have b:=zX hX
   have C:=D.o.uok _ b
   have ab:g < V.heap.size:=by
    have h1:=(D.o.hN g hg).2
    rcases zU g V.heap.size with h|h
    ·exact h
    ·have h4:g=V.heap.size:=by have:=b4.o;omega
     obtain ⟨c,hc⟩:=ty
     rw[h4,D.o.box] at hc;cases hc
   have a7:(x.reaches[i].frm.name).size<=maxLen:=C.len
   generalize x.reaches[i].frm.name=P at hX b C a7
   generalize x.reaches[i].frm.n=un at hX b C
   have HX:=yb hX;have K:=yb b;have Y:=yb C;have E:=yb ab;have H:=yb a7
   have au:(i:Int) < (rn:Int):=by omega
   have bb:Hid (i < (x.reaches.map (·.name)).length):=yb (by rw[yX];exact hl)
   clear hX b C ab a7 hg ty a0 hl
   by_cases h0:i=0
   ·subst h0
    obtain ⟨c0,⟨z,c1,s⟩,cf⟩:=O.o.read Y.o E.o
    simp only[Nat.zero_mul,yy] at c0 c1 s
    obtain rfl:=s (by simp)
    have b9:wr.cell? ⟨w.heap.size+1,21,none⟩=some (.slice (some ⟨g,0,none⟩) rn rc):=by
     have h:=ao.o _ _ O.o
     rw[q.o] at h;exact h
    clear cf s
    cases hb:Jb (Tb.of x) ⟨g,0*51+1,if (0:Nat)=0 then 0 else 6,(0:Nat),P,z⟩ with
    |true=>
     have HB:=yb hb
     obtain ⟨aj,b7⟩:P.size=0∧z=0:=by
      have h:=hb
      unfold Jb JF at h
      simpa using h
     have b0:P=⟨#[]⟩:=Oi ((Dw P).1 aj)
     clear hb aj
     subst b7
     subst b0
     go_wp2_with (first|(go_at_call 69;refine (Cp _ _).mono ?_;rintro e w5 ⟨rfl,a2⟩;obtain rfl:=a2.symm))
     exact ⟨⟨1,rfl,by omega,yb (O.o.skip HX.o (by simp) HB.o)⟩,by simp[intOf];omega⟩
    |false=>
     have u:=yb (D.o.bad K.o hb)
     have af:¬ (P.size=0∧z=0):=by
      have h:=hb
      unfold Jb JF at h
      simpa using h
     have az:=yb af
     clear hb af
     go_wp2_with (first|(exact absurd ⟨(Dw _).2 (by assumption),(by assumption)⟩ az.o)|(go_at_call 69;refine (Ck _ _).mono ?_;rintro e w5 ⟨rfl,a2⟩;obtain rfl:=a2.symm))
     all_goals first
      |exact y.o _ _ _ O.o ⟨rfl,rfl⟩ u.o
      |fail
   ·have ag:=yb O.o.drew
    have h6:(if i=0 then (0:Int) else 6)=6:=by rw[yt h0]
    have hS:∀W,RL w.heap.size W5 (Tb.of x) (Cx W5 L x) V.heap.size (.cells #[.pointer (some ⟨w.heap.size+1,0,none⟩)] 85) i W->W.cell? ⟨Bf,0,none⟩=some (.func (.func 68) #[] #[])∧W.cell? ⟨w.heap.size+1,21,none⟩=some (.slice (some ⟨g,0,none⟩) rn rc)∧W.cell? ⟨br,0,none⟩=some (.map (some mr)):=fun W h=>⟨X.o _ _ h,by have h:=ao.o _ _ h;rw[q.o] at h;exact h,(S.o _ _ h).1⟩
    have HS:=yb hS
    have b8:((i:Int)==0)=false:=by simp;omega
    have bd:=yb h6
    have G:=yb ai
    cases hb:Jb (Tb.of x) ⟨g,i*51+1,if i=0 then 0 else 6,(i:Int),P,un⟩ with
    |true=>
     have HB:=yb hb
     rw[h6] at hb
     obtain ⟨j,hp,hv,ae,aq⟩:=G4 (to:=6) (by decide) hb
     have d:Hid (∀W,RL w.heap.size W5 (Tb.of x) (Cx W5 L x) V.heap.size (.cells #[.pointer (some ⟨w.heap.size+1,0,none⟩)] 85) i W->Calls Tryz.prog 68 #[.pointer (some ⟨g,i*51+1,none⟩),.map (some mr),.int .i64 i] W fun e w'=>(e=.returned (.tuple #[])∧RL w.heap.size W5 (Tb.of x) (Cx W5 L x) V.heap.size (.cells #[.pointer (some ⟨w.heap.size+1,0,none⟩)] 85) (i+1) w')∨(e=.panicked (EE 170)∧False)):=yb (fun W h=>by
      obtain ⟨c0,⟨z,c1,s⟩,cf⟩:=h.read Y.o E.o
      refine (FW (most:=(i:Int)) c0 c1 cf (S.o _ _ h).2 H.o hp (ae rfl)).mono ?_
      rintro e w2 ⟨rfl,rfl⟩
      refine .inl ⟨rfl,?_⟩
      have h:=h.next D.o.uok HX.o E.o (by simp only;rw[h6];decide) HB.o
      simp only[h6] at h
      rw[show Gs (Tb.of x) (Et 6) P=_ from hv] at h
      exact h)
     clear hb hp hv ae aq h6 hS h0
     go_wp2_with fail
     refine UY (B:=w.heap.size) (Bf:=Bf) (g:=g) (rn:=rn) (rc:=rc) (br:=br) (mr:=mr) (i:=i) (R1:=fun W=>RL w.heap.size W5 (Tb.of x) (Cx W5 L x) V.heap.size (.cells #[.pointer (some ⟨w.heap.size+1,0,none⟩)] 85) i W) (R2:=fun W=>RL w.heap.size W5 (Tb.of x) (Cx W5 L x) V.heap.size (.cells #[.pointer (some ⟨w.heap.size+1,0,none⟩)] 85) (i+1) W) (R3:=fun _=>False) _ ?_ ?_ ?_ ?_ ?_ ?_ ?_ ?_ ?_ ?_ ?_ ?_
     ·rfl
     ·rfl
     ·rfl
     ·rfl
     ·rfl
     ·rfl
     ·exact G.o
     ·exact ag.o
     ·exact HS.o
     ·exact d.o
     ·exact fun _ _ _ _ h=>h.elim
     ·intro a W ak F A ad
      have av:=yb ad
      obtain ⟨v105,v106,v107,v108,v109,v110,v111,v112,v113,rfl⟩:∃v105 v106 v107 v108 v109 v110 v111 v112 v113:Value,a={tmps:=#[u0,u1,.pointer (some ⟨w.heap.size+1,0,none⟩),.pointer (some ⟨w.heap.size+2,0,none⟩),.pointer (some ⟨bl,0,none⟩),.pointer (some ⟨bc,0,none⟩),.pointer (some ⟨br,0,none⟩),.pointer (some ⟨bf,0,none⟩),u8,u9,u10,u11,u12,.pointer (some ⟨Bf,0,none⟩),.int .i64 i,u15,u16,u17,u18,u19,u20,u21,u22,u23,u24,u25,u26,u27,u28,u29,u30,u31,u32,u33,u34,u35,u36,u37,u38,u39,u40,u41,u42,u43,u44,u45,u46,u47,u48,u49,u50,u51,u52,u53,u54,u55,u56,u57,u58,u59,u60,u61,u62,u63,u64,u65,u66,u67,u68,u69,u70,u71,u72,u73,u74,u75,u76,u77,u78,u79,u80,u81,u82,u83,u84,u85,u86,u87,.pointer (some ⟨w.heap.size+1,21,none⟩),.slice (some ⟨g,0,none⟩) rn rc,.int .i64 rn,.int .i64 i,.bool true,.int .i64 i,.int .i64 i,.bool false,u96,u97,u98,u99,u100,u101,u102,u103,u104,v105,v106,v107,v108,v109,v110,v111,v112,v113,u114,u115,u116,u117,u118,u119,u120,u121,u122,u123,u124,u125,u126,u127,u128,u129,u130,u131,u132,u133,u134,u135,u136,u137,u138,u139,u140,u141,u142,u143,u144,u145,u146,u147,u148,u149,u150,u151,u152,u153,u154,u155,u156,u157,u158,u159,u160,u161,u162,u163,u164,u165,u166,u167,u168,u169,u170,u171,u172,u173],defers:=[Jc w.heap.size]}:=by
       refine ⟨a.tmps.getD 105 undef,a.tmps.getD 106 undef,a.tmps.getD 107 undef,a.tmps.getD 108 undef,a.tmps.getD 109 undef,a.tmps.getD 110 undef,a.tmps.getD 111 undef,a.tmps.getD 112 undef,a.tmps.getD 113 undef,(Gt [105,106,107,108,109,110,111,112,113] (ak.trans rfl) F (fun t ht=>A t ?_)).trans (by kernel_rfl)⟩
       simp at ht;omega
      clear ak F A ad
      unfold Jc
      go_wp2
      exact ⟨⟨i+1,by push_cast;rfl,by omega,av⟩,by simp[intOf];omega⟩
    |false=>
     have u:=yb (D.o.bad K.o hb)
     rw[h6] at hb
     have hn:=G5 (to:=6) (by decide) hb
     have d:Hid (∀W,RL w.heap.size W5 (Tb.of x) (Cx W5 L x) V.heap.size (.cells #[.pointer (some ⟨w.heap.size+1,0,none⟩)] 85) i W->Calls Tryz.prog 68 #[.pointer (some ⟨g,i*51+1,none⟩),.map (some mr),.int .i64 i] W fun e w'=>(e=.returned (.tuple #[])∧False)∨(e=.panicked (EE 170)∧RL w.heap.size W5 (Tb.of x) (Cx W5 L x) V.heap.size (.cells #[.pointer (some ⟨w.heap.size+1,0,none⟩)] 85) i w')):=yb (fun W h=>by
      obtain ⟨c0,⟨z,c1,s⟩,cf⟩:=h.read Y.o E.o
      refine (Ho (most:=(i:Int)) c0 (S.o _ _ h).2 H.o (fun j hp=>(hn j hp).2)).mono ?_
      rintro e w2 ⟨rfl,rfl⟩
      exact .inr ⟨rfl,h⟩)
     clear hb hn h6 hS h0
     go_wp2_with fail
     refine UY (B:=w.heap.size) (Bf:=Bf) (g:=g) (rn:=rn) (rc:=rc) (br:=br) (mr:=mr) (i:=i) (R1:=fun W=>RL w.heap.size W5 (Tb.of x) (Cx W5 L x) V.heap.size (.cells #[.pointer (some ⟨w.heap.size+1,0,none⟩)] 85) i W) (R2:=fun _=>False) (R3:=fun W=>RL w.heap.size W5 (Tb.of x) (Cx W5 L x) V.heap.size (.cells #[.pointer (some ⟨w.heap.size+1,0,none⟩)] 85) i W) _ ?_ ?_ ?_ ?_ ?_ ?_ ?_ ?_ ?_ ?_ ?_ ?_
     ·rfl
     ·rfl
     ·rfl
     ·rfl
     ·rfl
     ·rfl
     ·exact G.o
     ·exact ag.o
     ·exact HS.o
     ·exact d.o
     ·intro a W F A hr
      obtain ⟨tm,df⟩:=a
      obtain rfl:df=[Jc w.heap.size]:=F
      exact y.o i tm W hr ⟨(A 2 (by omega)).trans rfl,(A 3 (by omega)).trans rfl⟩ u.o
     ·exact fun _ _ _ _ _ h=>h.elim
  ·obtain rfl:i=rn:=by omega
   have au:decide ((i:Int) < (i:Int))=false:=by simp
   have b5:Hid (I2 w x W5 L N M bl bc br bf Bf wr.heap.size):=yb (by rw[O.o.1];exact D.o)
   have ap:Hid (RJ w.heap.size W5 (Tb.of x) (Cx W5 L x) (EW L x).length (fun _=>False) (wr.alloc (.cells #[.pointer (some ⟨w.heap.size+1,0,none⟩)] 85))):=yb (by
    rw[KS D.o.ps,<-HN.o,q.o]
    exact O.o.2)
   go_wp2
   exact VG HQ.o b5.o ap.o _ _ _ _ _ _ _ _ _ _ _ _ _ _ _ _ _ _ _ _ _ _ _ _ _ _ _ _ _ _ _ _ _ _ _ _ _ _ _ _ _ _ _ _ _ _ _ _ _ _ _ _ _ _ _ _ _ _ _ _ _ _ _ _ _ _ _ _ _ _ _ _ _ _ _ _ _ _ _ _ _ _ _ _ _ _ _ _ _ _ _ _ _ _ _ _ _ _ _ _ _ _ _ _ _ _ _ _ _ _ _ _ _ _ _ _ _ _ _ _ _ _ _ _ _ _ _ _ _ _ _ _ _ _ _ _ _ _ _ _ _ _ _ _ _ _ _ _ _ _ _ _ _ _ _ _ _ _ _ _ _ _ _ _ _ _ _
structure Gu (w:World) (x:Av) (L:Bt) (cs:List Value) (N:Nat->Prop) (V:World):Prop where
 amid:JV w V
 par:V.heap[w.heap.size]?=some (.cells cs.toArray 35 (0,0))
 src:BH N w L cs x
 hN:∀b,N b->b < w.heap.size
 slim:MS x
section
variable{w V V' w':World}{x:Av}{L L0:Bt}{cs cs0:LV}{N:NP}
theorem Gu.up(h:Gu w x L cs N V)(hb:Below (w.heap.size+3) V V'):Gu w x L cs N V':=
 ⟨h.amid.up hb,(hb.block _ (by omega)).trans h.par,h.src,h.hN,h.slim⟩
theorem Gu.size(h:Gu w x L cs N V):w.heap.size+3<=V.heap.size:=by
 obtain ⟨v,a⟩:=h.amid.e
 have:=(yd.1 a).1
 omega
theorem Gu.at(h:Gu w x L cs N V):BH (fun b=>b < V.heap.size) V L cs x:=by
 have a:=h.size
 exact h.src.same (fun b hb=>by have:=h.hN b hb;omega) (fun b hb=>h.amid.below.block b (h.hN b hb))
theorem Gu.len(h:Gu w x L cs N V):cs.length=26:=by
 obtain ⟨c0,c1,c2,rfl,a,g1,b⟩:=h.src.cells
 obtain ⟨c,i,rfl,j⟩:=a.cells
 obtain ⟨a1,e,rfl,f⟩:=g1.cells
 obtain ⟨g,k,rfl,d⟩:=b.cells
 rfl
theorem Gu.range(h:Gu w x L cs N V):V.rangeAt w.heap.size 0 cs:=by
 have:=zo h.par 0 cs.length
 simpa using this
theorem Cr(W:World){b c:Nat}(row:Array Value)(h:c≠b):(W.setRow b row).heap[c]?=W.heap[c]?:=by
 simp only[World.setRow,yN,yt (xi h)]
theorem JJ(W:World)(b:Nat)(row:Array Value):(W.setRow b row).heap.size=W.heap.size:=by simp[World.setRow]
def JK:Obj:=.cells #[.func (.func 68) #[] #[]] 147
def QM(b:Nat):Obj:=.cells #[.pointer (some ⟨b,0,none⟩)] 85
theorem Va(h:Gu w x L0 cs0 N V){bl bc br bf:Nat}(h1:B6 V bl (x.lets.map (·.name)))(h2:B6 V bc (x.crops.map (·.name)))(h3:B6 V br (x.reaches.map (·.name)))(T:B6 V bf (x.farms.map (·.name)))
 (S:BD x=true)(R:AE x=if Dh (Tb.of x) x&&Cw (Tb.of x) x then 0 else 170)
 (v:cs.length=26)(hb:Below V.heap.size V w')(hs:L.s=V.heap.size)(hr:w'.rangeAt L.s 0 cs)(E:C8 (fun g=>V.heap.size<=g∧g≠V.heap.size+1) (ET (fun g=>V.heap.size+2<=g) w') (RV w') w' L x):
  I2 w x (((w'.setRow (w.heap.size+1) cs.toArray).alloc JK).alloc (QM (w.heap.size+1))) {L with s:=w.heap.size+1} (fun g=>(V.heap.size<=g∧g≠V.heap.size+1∧g < w'.heap.size)∨g=w.heap.size+1) (fun g=>V.heap.size+2<=g∧g < w'.heap.size) bl bc br bf w'.heap.size (w'.heap.size+1):=by
 have hz:=h.size
 have X:=hb.size
 obtain ⟨row,K,u⟩:=h.amid.x
 obtain ⟨M,A⟩:=h.amid.e
 have Z:w'.heap[w.heap.size+1]?=some (.cells row 35 (0,0)):=(hb.block _ (by omega)).trans u
 generalize n:((w'.setRow (w.heap.size+1) cs.toArray).alloc JK).alloc (QM (w.heap.size+1))=W5
 have a:(w'.setRow (w.heap.size+1) cs.toArray).heap.size=w'.heap.size:=JJ _ _ _
 have P:W5.heap.size=w'.heap.size+2:=by rw[<-n];simp[a]
 have l:∀b,b < w'.heap.size->b≠w.heap.size+1->W5.heap[b]?=w'.heap[b]?:=fun b f m=>by
  rw[<-n,yD _ _ _ (by simp[a];omega),yD _ _ _ (by rw[a];omega),Cr _ _ m]
 have C:W5.heap[w.heap.size+1]?=some (.cells cs.toArray 35 (0,0)):=by
  rw[<-n,yD _ _ _ (by simp[a];omega),yD _ _ _ (by rw[a];omega)]
  exact qz _ _ _ _ _ _ Z
 have W:W5.heap[w'.heap.size]?=some JK:=by
  rw[<-n,yD _ _ _ (by simp[a])]
  have:=World.alloc_heap_new (w'.setRow (w.heap.size+1) cs.toArray) JK
  rwa [a] at this
 have k4:W5.heap[w'.heap.size+1]?=some (QM (w.heap.size+1)):=by
  rw[<-n]
  have:=World.alloc_heap_new ((w'.setRow (w.heap.size+1) cs.toArray).alloc JK) (QM (w.heap.size+1))
  have H:((w'.setRow (w.heap.size+1) cs.toArray).alloc JK).heap.size=w'.heap.size+1:=by simp[a]
  rwa [H] at this
 have B:W5.os=w'.os∧W5.tape=w'.tape∧W5.output=w'.output:=by rw[<-n];exact ⟨rfl,rfl,rfl⟩
 clear n a
 have y:Below w.heap.size w W5:=by
  have h0:=h.amid.below.trans (hb.mono (by omega))
  exact ⟨B.1.trans h0.os,B.2.1.trans h0.tape,B.2.2.trans h0.output,by omega,fun b f=>(l b (by omega) (by omega)).trans (h0.block b f)⟩
 have i:∀(c:Nat) (o:Obj),V.heap[c]?=some o->(∀row:Array Value,o≠Obj.cells row 35 (0,0))->W5.heap[c]?=V.heap[c]?:=fun c o I D=>by
  have f:=(yd.1 I).1
  have m:c≠w.heap.size+1:=fun e=>by
   rw[e,u] at I
   exact D row (yi I).symm
  rw[l c (by omega) m,hb.block c f]
 have j:∀q,q < 26->W5.cell? (aV (w.heap.size+1) q)=W5.cell? (aV L.s q):=fun q O=>by
  have U:W5.cell? (aV L.s q)=w'.cell? (aV L.s q):=Ab (l _ E.ty.lt (by omega))
  have J:=hr q cs[q] (yk (by omega))
  rw[yy] at J
  rw[U,J]
  simp[World.cell?,C,v,O]
 refine ⟨⟨y,⟨_,by simp[v],C⟩,⟨M,(l _ (by omega) (by omega)).trans ((hb.block _ (by omega)).trans A)⟩⟩,h1.same i,h2.same i,h3.same i,T.same i,W,k4,?_,fun g k=>?_,fun g k=>?_,.inr rfl,rfl,S,R⟩
 ·have Q:C8 (fun g=>V.heap.size<=g∧g≠V.heap.size+1∧g < w'.heap.size) (ET (fun g=>V.heap.size+2<=g) w') (RV w') w' L x:=E.ren fun g t k G _ _=>⟨k.1,k.2,G.lt⟩
  have p:∀b,(V.heap.size<=b∧b≠V.heap.size+1∧b < w'.heap.size)∨b=L.s->W5.heap[b]?=w'.heap[b]?:=fun b d=>by
   rcases d with d|rfl
   ·exact l b d.2.2 (by omega)
   ·exact l _ E.ty.lt (by omega)
  have Y:C8 (fun g=>V.heap.size<=g∧g≠V.heap.size+1∧g < w'.heap.size) (ET (fun g=>V.heap.size+2<=g∧g < w'.heap.size) W5) (RV W5) W5 L x:=by
   refine Q.imp (fun b t d G=>G.same (p b d)) (fun b o d _=>Ab (p b d)) (fun lt e b o d _ z=>?_) (fun to r b o d _ F=>⟨F.1,(Ab (p b d)).trans F.2.1,(Ab (p b d)).trans F.2.2⟩)
   obtain ⟨c,c1,c2⟩:=z
   exact ⟨c,A0 c1 (p b d),c2.same (fun g k f=>⟨k,f⟩) (fun g k f=>l g f (by omega))⟩
  exact (Y.moved ⟨_,C⟩ j (fun lt e o D z=>Td j lt e o D z)).ren fun g t k _ _ _=>.inl k
 ·rcases k with k|rfl
  ·exact ⟨by omega,by omega⟩
  ·exact ⟨by omega,by omega⟩
 ·exact ⟨by omega,by omega⟩
end
theorem B6.lt{W:World}{b:Nat}{a:LB}(h:B6 W b a):b < W.heap.size:=by
 obtain ⟨m,h1,_⟩:=h
 exact (yd.1 h1).1
theorem Vb{Q:QT}{w V:World}{x:Av}{L:Bt}{cs:LV}{N:NP}{bl bc br bf:Nat}(hQ:KM Q w x)(g:Gu w x L cs N V)
 (h1:B6 V bl (x.lets.map (·.name)))(h2:B6 V bc (x.crops.map (·.name)))(h3:B6 V br (x.reaches.map (·.name)))(h4:B6 V bf (x.farms.map (·.name)))
 (hf:BD x=true)(hw:AE x=if Dh (Tb.of x) x&&Cw (Tb.of x) x then 0 else 170)
 (u0 u8 u9 bz cn d6 cu ee ep bw d7 eh dt dg ez bu dv cz ek d5 dr dx es ey ch bv e5 dd e7 f0 cc em d2 dj cr cj d3 df cl dc c9 e6 co bt e1 ea eq ci cx el cp c8 et d1 di e0 e2 cm dl cw eu eo cd dn cv e8 db de ce e4 eb ct d9 da eg e9 dy cg ew dm d4 dq ck dw dz ej ei dh dk ex d0 cf dp bg A X av k a8 ai ap ah a2 ad J p ar F z af az ac v bo E bm b9 O bb S s an ag H Z t ax j bq a6 bp Y b0 ao b8 aq bi ae ak bn bd aj W bh bk R T I G q a0 M m au b7 aw b5 b4 ay D n bj y l aa u a7:Value):
  FE 32 Tryz.prog (H4 17 (Tryz.f32.body.getD .skip)) Q {tmps:=#[u0,.pointer (some ⟨w.heap.size,0,none⟩),.pointer (some ⟨w.heap.size+1,0,none⟩),.pointer (some ⟨w.heap.size+2,0,none⟩),.pointer (some ⟨bl,0,none⟩),.pointer (some ⟨bc,0,none⟩),.pointer (some ⟨br,0,none⟩),.pointer (some ⟨bf,0,none⟩),u8,u9,bz,cn,d6,cu,ee,ep,bw,d7,eh,dt,dg,ez,bu,dv,cz,ek,d5,dr,dx,es,ey,ch,bv,e5,dd,e7,f0,cc,em,d2,dj,cr,cj,d3,df,cl,dc,c9,e6,co,bt,e1,ea,eq,ci,cx,el,cp,c8,et,d1,di,e0,e2,cm,dl,cw,eu,eo,cd,dn,cv,e8,db,de,ce,e4,eb,ct,d9,da,eg,e9,dy,cg,ew,dm,d4,dq,ck,dw,dz,ej,ei,dh,dk,ex,d0,cf,dp,bg,A,X,av,k,a8,ai,ap,ah,a2,ad,J,p,ar,F,z,af,az,ac,v,bo,E,bm,b9,O,bb,S,s,an,ag,H,Z,t,ax,j,bq,a6,bp,Y,b0,ao,b8,aq,bi,ae,ak,bn,bd,aj,W,bh,bk,R,T,I,G,q,a0,M,m,au,b7,aw,b5,b4,ay,D,n,bj,y,l,aa,u,a7],defers:=[Jc w.heap.size]} V:=by
 have d8:Hid ((Tryz.prog.info? 35).map (·.size)=some cs.length):=yb (by rw[g.len];kernel_rfl)
 have ba:=yb g.range
 have en:=yb g.at
 have HQ:=yb hQ;have HP:=yb g
 have bx:=yb h1;have cq:=yb h2;have ab:=yb h3;have ec:=yb h4;have HF:=yb hf;have HW:=yb hw
 obtain ⟨row,c,hx⟩:=g.amid.x
 have HX:=yb hx;have C:=yb c;have HZ:=yb g.size
 clear hQ g h1 h2 h3 h4 hf hw c hx
 unfold Jc
 refine A9 (A4 ?_)
 go_upto_region 25 with fail
 refine wp_region_lit ?_
 refine yj rfl 35 _ rfl w.heap.size 0 rfl cs _ ba.o qV rfl d8.o ?_
 refine zx rfl fun K hK=>?_
 go_simp
 refine (PN en.o (fun _ h=>h) HP.o.slim).mono ?_
 rintro e w2 ⟨L2,a,rfl,am,b,d,U,i,r⟩
 have cy:=yb ((d.block _ (by have:=HZ.o;omega)).trans HX.o)
 have f:=yb am;have P:=yb (yB b);have be:=yb d;have du:=yb U;have e3:=yb i;have ef:=yb r
 clear am b d U i r
 refine hK _ _ ?_
 clear hK K
 refine zb rfl 35 _ _ rfl (w.heap.size+1) a.toArray rfl rfl 35 row cy.o (by rw[yq,f.o];kernel_rfl) (by simp[f.o,C.o]) P.o ?_
 refine wpList_nil ?_
 simp only[]
 refine A9 (A4 ?_)
 go_wp2
 have HC:=Va HP.o bx.o cq.o ab.o ec.o HF.o HW.o f.o be.o du.o e3.o ef.o
 have ed:(w2.setRow (w.heap.size+1) a.toArray).heap.size=w2.heap.size:=JJ _ _ _
 have B:((w2.setRow (w.heap.size+1) a.toArray).alloc JK).heap.size=w2.heap.size+1:=by simp[ed]
 have f1:=be.o.size
 have f2:=ab.o.lt
 rw[<-B] at HC
 exact V9 (V:=(w2.setRow (w.heap.size+1) a.toArray).alloc JK) (Bf:=w2.heap.size) HQ.o HC ⟨rfl,RJ.start _ _ _ _⟩ (by omega) (by omega) (by simp) _ _ _ _ _ _ _ _ _ _ _ _ _ _ _ _ _ _ _ _ _ _ _ _ _ _ _ _ _ _ _ _ _ _ _ _ _ _ _ _ _ _ _ _ _ _ _ _ _ _ _ _ _ _ _ _ _ _ _ _ _ _ _ _ _ _ _ _ _ _ _ _ _ _ _ _ _ _ _ _ _ _ _ _ _ _ _ _ _ _ _ _ _ _ _ _ _ _ _ _ _ _ _ _ _ _ _ _ _ _ _ _ _ _ _ _ _ _ _ _ _ _ _ _ _ _ _ _ _ _ _ _ _ _ _ _ _ _ _ _ _ _ _ _ _ _ _ _ _ _ _ _ _ _ _ _ _ _ _ _ _ _ _ _ _ _ _
theorem Tf{α:Type}{w:World}{sz j:Nat}{f:α->ByteArray}{h:Au}{l:List α}(h1:h.n=l.length)(h2:l.length<=140737488355328)
 (h3:∀i (hi:i < l.length),∃b o cs,h.a=some ⟨b,o,none⟩∧b < w.heap.size∧cs.length=sz∧w.rangeAt b (o+i*sz) cs∧(∀v∈cs,v.oneCell'=true)∧cs[j]?=some (.string (f l[i]))∧(f l[i]).size<=maxLen):B8 w h sz j (l.map f):=by
 refine ⟨by rw[yX];exact h1,by rw[yX];exact h2,fun i hi=>?_⟩
 have c:i < l.length:=by simpa using hi
 obtain ⟨b,o,cs,k,g,p,q,e,m,d⟩:=h3 i c
 rw[zG]
 exact ⟨b,o,cs,k,g,p,q,e,m,d⟩
theorem Mq{α:Type}{N:NP}{w:World}{sz j:Nat}{P:LV->α->Prop}{f:α->ByteArray}{h:Au}{l:List α}(hr:BE N w sz P h l)(hN:∀b,N b->b < w.heap.size)
 (e:∀cs d,P cs d->(∀v∈cs,v.oneCell'=true)∧cs[j]?=some (.string (f d))∧(f d).size<=maxLen):B8 w h sz j (l.map f):=by
 obtain ⟨h1,h2,h3⟩:=hr
 refine Tf h1 h2 fun i hi=>?_
 obtain ⟨b,o,cs,m,c,n,q,a⟩:=h3 i hi
 obtain ⟨p,g,k⟩:=e _ _ a
 exact ⟨b,o,cs,m,hN b c,n,q,p,g,k⟩
structure VJ (w:World) (L:Bt) (x:Av):Prop where
 lets:B8 w L.lets 7 0 (x.lets.map (·.name))
 crops:B8 w L.crops 7 0 (x.crops.map (·.name))
 reaches:B8 w L.reaches 51 0 (x.reaches.map (·.name))
 farms:B8 w L.farms 12 0 (x.farms.map (·.name))
 rots:B8 w L.rots 23 0 (x.rots.map (·.name))
 rights:B8 w L.rights 37 1 (x.rights.map (·.name))
 duties:B8 w L.duties 11 0 (x.duties.map (·.name))
theorem BH.nms{N:NP}{w:World}{L:Bt}{cs:LV}{x:Av}(h:BH N w L cs x)(hN:∀b,N b->b < w.heap.size):VJ w L x:=by
 refine ⟨Mq h.lets hN fun cs d hd=>⟨QB cs d hd,?_⟩,Mq h.crops hN fun cs d hd=>⟨NW cs d hd,?_⟩,Mq h.reaches hN fun cs d hd=>⟨J9 cs d hd,?_⟩,Mq h.farms hN fun cs d hd=>⟨NX cs d hd,?_⟩,?_,Mq h.rights hN fun cs d hd=>⟨Ja cs d hd,?_⟩,Mq h.duties hN fun cs d hd=>⟨NY cs d hd,?_⟩⟩
 ·obtain ⟨h1,c,rfl,_⟩:=hd;exact ⟨rfl,h1⟩
 ·obtain ⟨h1,c,rfl,_⟩:=hd;exact ⟨rfl,h1⟩
 ·obtain ⟨h1,_,c0,c1,c2,c3,c4,c5,c6,c7,rfl,_⟩:=hd;exact ⟨rfl,h1⟩
 ·obtain ⟨h1,_,_,c,rfl,_⟩:=hd;exact ⟨rfl,h1⟩
 ·obtain ⟨h1,h2,h3⟩:=h.rots
  refine Tf h1 h2 fun i hi=>?_
  obtain ⟨b,o,cs,f,e,g,k,a⟩:=h3 i hi
  have l:=IC a
  obtain ⟨j,_,c0,c1,c2,rfl,_⟩:=a
  exact ⟨b,o,_,f,hN b e,g,k,l,rfl,j⟩
 ·obtain ⟨h1,_,_,c0,c1,c2,c3,c4,rfl,_⟩:=hd;exact ⟨rfl,h1⟩
 ·obtain ⟨h1,_,_,c,rfl,_⟩:=hd;exact ⟨rfl,h1⟩
theorem B8.up{w w':World}{h:Au}{sz j:Nat}{a:LB}(hr:B8 w h sz j a)(hb:Below w.heap.size w w'):B8 w' h sz j a:=by
 obtain ⟨h1,h2,h3⟩:=hr
 refine ⟨h1,h2,fun i hi=>?_⟩
 obtain ⟨b,o,cs,e,c,f,g,d⟩:=h3 i hi
 exact ⟨b,o,cs,e,yv c hb.size,f,A0 g (hb.block b c),d⟩
structure QN (L:Bt) (x:Av) (c:Nat->Option Value):Prop where
 name:c 0=some (.string x.name)
 lets:c 19=some L.lets.v
 crops:c 20=some L.crops.v
 reaches:c 21=some L.reaches.v
 farms:c 22=some L.farms.v
 rots:c 23=some L.rots.v
 rights:c 24=some L.rights.v
 duties:c 25=some L.duties.v
theorem BH.at{N:NP}{w:World}{L:Bt}{cs:LV}{x:Av}(h:BH N w L cs x):QN L x (cs[·]?):=by
 obtain ⟨c0,c1,c2,rfl,b,g1,a⟩:=h.cells
 obtain ⟨d,e,rfl,f⟩:=b.cells
 obtain ⟨a1,c,rfl,j⟩:=g1.cells
 obtain ⟨i,k,rfl,g⟩:=a.cells
 exact ⟨rfl,rfl,rfl,rfl,rfl,rfl,rfl,rfl⟩
theorem Gu.cells{w V:World}{x:Av}{L:Bt}{cs:LV}{N:NP}(h:Gu w x L cs N V):QN L x (fun q=>V.cell? ⟨w.heap.size,q,none⟩):=by
 have e:∀q,V.cell? (aV w.heap.size q)=cs[q]?:=fun q=>by simp[World.cell?,h.par]
 have:=h.src.at
 simp only[e]
 exact this
def Fz(B:Nat)(w:World)(v:Value)(l:LB):Prop:=w.ownsRow B 9 1 v l.length (l.map .string)∧∀s∈l,s.size<=maxLen
theorem RO(B:Nat)(w:World):Fz B w (.slice none 0 0) []:=⟨⟨rfl,.inl ⟨rfl,rfl⟩⟩,by simp⟩
theorem Fz.up{B:Nat}{w w':World}{v:Value}{l:LB}(h:Fz B w v l)(hb:Below w.heap.size w w'):Fz B w' v l:=by
 obtain ⟨⟨h1,h2⟩,h0⟩:=h
 refine ⟨⟨h1,h2.imp id ?_⟩,h0⟩
 rintro ⟨g,cap,a,h3,b,h5,h6⟩
 exact ⟨g,cap,a,h3,b,(hb.block g (yd.1 h5).1).trans h5,h6⟩
theorem Ol{B:Nat}{c w w':World}{v:Value}{l:LB}(f:Below B c w)(j:B<=w.heap.size)(h:Fz B w v l)(a:w.grownBy w' v.ownBlock):Below B c w':=by
 refine f.trans ⟨a.os,a.tape,a.output,a.size,fun b hb=>a.block b (by omega) (fun e=>?_)⟩
 rcases h.1.2 with ⟨rfl,_⟩|⟨g,cap,d,rfl,i,_⟩
 ·cases e
 ·simp only[Value.ownBlock,za] at e
  omega
theorem Fz.nm{B:Nat}{w:World}{v:Value}{l:LB}(h:Fz B w v l)(b:l.length<=140737488355328):∃h:Au,v=h.v∧B8 w h 1 0 l:=by
 obtain ⟨⟨h1,⟨rfl,h2⟩|⟨g,cap,c,rfl,f,h5,h6,j,e,d⟩⟩,h0⟩:=h
 ·obtain rfl:=zl.1 h2
  exact ⟨⟨none,0,0⟩,rfl,rfl,by simp,fun i hi=>absurd hi (by simp)⟩
 ·refine ⟨⟨some (aV g 0),l.length,cap⟩,rfl,rfl,b,fun i hi=>⟨g,0,[.string l[i]],rfl,(yd.1 h5).1,rfl,?_,by simp[Value.oneCell'],rfl,h0 _ (yM hi)⟩⟩
  refine BU ?_
  have a:(l.map Value.string)[i]?=some (.string l[i]):=by simp[hi]
  rw[<-d,zN,yw (by omega)] at a
  simp only[World.cell?,h5]
  simpa using a
theorem G6{ops:Array Oper}{rest:List Oper}{o:Oper}{a:Act}{Q:QT}{W:World}(B:Nat)(e:o.guard=none)(s x:Operand)(H:o.op=.call {callee:=.builtin .append,args:=#[s,x],argTypes:=#[117,117]})
 (v:Value)(l:LB)(hs:a.eval s=v)(d:Fz B W v l)(b c:Nat)(k:ByteArray)(F:a.eval x=.slice (some ⟨b,0,none⟩) 1 c)(hb:W.heap[b]?=some (.cells #[.string k] 9 (0,0)))(D:k.size<=maxLen)(n:l.length+1<=1000000)(f:B<=W.heap.size)
 (h:∀(p:Option Addr) (c:Nat) w',Fz B w' (.slice p (l.length+1) c) (l++[k])->W.grownBy w' v.ownBlock->wpList Tryz.prog ops Q rest (a.put o.dst (.slice p (l.length+1) c)) w'):wpList Tryz.prog ops Q (o::rest) a W:=by
 refine zx e fun K z=>?_
 have g:(Tryz.prog.info? 9).map (fun i=>(i.zero,i.size,i.bytes))=some (some (.string ⟨#[]⟩),1,16):=by kernel_rfl
 obtain ⟨I,hi,r,q,t⟩:=info_parts g
 have A:BK W (.slice (some (aV b 0)) 1 c) 1 1 [.string k]:=by
  refine ⟨rfl,by simp[Value.oneCell'],_,_,rfl,.inr ⟨b,0,rfl,(yd.1 hb).1,fun j u w=>?_⟩⟩
  cases j with
  |zero=>cases w;simp[World.cell?,hb]
  |succ j=>simp at w
 have C:=Gy (ops:=#[]) (E:=True) (Q:=Q) (K:=K) (o:=o) Tryz.underlying117 hi r q t rfl (by decide) (by decide) B e s x H v l.length _ hs d.1 _ 1 [.string k] F A n f (fun p c w' y G=>z _ _ (h p c w' ⟨by
  rw[ym,zF]
  exact y,fun u m=>by
  rcases yz.1 m with m|m
  ·exact d.2 u m
  ·rw[ze.1 m];exact D⟩ G))
 rwa [yw (by simp[Region.wanted,e])] at C
theorem Ic{α:Type}{l:List α}{i:Nat}(h:i < l.length):l.take i++[l[i]]=l.take (i+1):=(yJ h).symm
theorem Tg{f:FuncId}{args:Array Value}{w:World}{a:LB}(h:Calls Tryz.prog f args w (Ep w a))(b:a.Nodup):Calls Tryz.prog f args w fun e w'=>(∃m,e=.returned (.map (some m)))∧Below w.heap.size w w':=
 h.mono fun e w' c=>by
  obtain ⟨h1,⟨_,m,h2,_⟩|⟨h2,_⟩⟩:=c
  ·exact ⟨⟨m,h2⟩,h1⟩
  ·exact absurd b h2
theorem UZ{f:FuncId}{args:Array Value}{w:World}{a:LB}(h:Calls Tryz.prog f args w (Ep w a))(b:¬ a.Nodup):Calls Tryz.prog f args w fun e w'=>e=.panicked (EE 171)∧Below w.heap.size w w':=
 h.mono fun e w' c=>by
  obtain ⟨h1,⟨h2,_⟩|⟨_,h2⟩⟩:=c
  ·exact absurd h2 b
  ·exact ⟨h2,h1⟩
end Go.Proofs.YtjofgpfocadomaaGreatDoor
namespace Go.Proofs.YtjofgpfocadomaaGreatDoor
open Go.RowKit
theorem B6.up{V W:World}{b:Nat}{a:LB}(h:B6 V b a)(hb:Below V.heap.size V W):B6 W b a:=
 h.same fun c _ d _=>hb.block c (yd.1 d).1
theorem VK{Q:QT}{w V:World}{x:Av}{L:Bt}{cs:LV}{N:NP}{bl bc br bf:Nat}(hQ:KM Q w x)(hP:Gu w x L cs N V)
 (h1:B6 V bl (x.lets.map (·.name)))(h2:B6 V bc (x.crops.map (·.name)))(h3:B6 V br (x.reaches.map (·.name)))(h4:B6 V bf (x.farms.map (·.name)))
 (hf:BD x=true)(hw:AE x=if (Db x).Nodup∧(x.duties.map (·.name)).Nodup then (if Dh (Tb.of x) x&&Cw (Tb.of x) x then 0 else 170) else 171)
 (u0 u8 u9 dk e0 eh e6 fp fz di ei fs f5 eq g8 dg f6 ea fv eg f4 f8 g2 g7 dv dh fe en fh g9 dn fx ed eu e3 dw ee ep dy em dm fg e1 df fb fk g0 du e9 fw e4 dl g3 ec et fc fd dz ey e8 g4 fy dp f0 e7 fi el eo dq ff fm e5 ej ek fq fj f9 dr g5 ez ef f2 dx f7 fa fu ft es ew g6 eb dt f1 d4 b4 bn cn ak bw cf ck ce bt c8 be ar cl b9 b0 cc ct bz ay db b7 d8 cz bh d0 bj aw ci cd bb bp ax cp aj de bu dc bo cu cj cy d2 d6 c9 ch da d3 cg bm d5 d9 bi bk bd ba au bq bg ao cm cw co cx cv cq b5 aq d7 az an bx av bv:Value):
  FE 32 Tryz.prog (H4 12 (Tryz.f32.body.getD .skip)) Q {tmps:=#[u0,.pointer (some ⟨w.heap.size,0,none⟩),.pointer (some ⟨w.heap.size+1,0,none⟩),.pointer (some ⟨w.heap.size+2,0,none⟩),.pointer (some ⟨bl,0,none⟩),.pointer (some ⟨bc,0,none⟩),.pointer (some ⟨br,0,none⟩),.pointer (some ⟨bf,0,none⟩),u8,u9,dk,e0,eh,e6,fp,fz,di,ei,fs,f5,eq,g8,dg,f6,ea,fv,eg,f4,f8,g2,g7,dv,dh,fe,en,fh,g9,dn,fx,ed,eu,e3,dw,ee,ep,dy,em,dm,fg,e1,df,fb,fk,g0,du,e9,fw,e4,dl,g3,ec,et,fc,fd,dz,ey,e8,g4,fy,dp,f0,e7,fi,el,eo,dq,ff,fm,e5,ej,ek,fq,fj,f9,dr,g5,ez,ef,f2,dx,f7,fa,fu,ft,es,ew,g6,eb,dt,f1,d4,b4,bn,cn,ak,bw,cf,ck,ce,bt,c8,be,ar,cl,b9,b0,cc,ct,bz,ay,db,b7,d8,cz,bh,d0,bj,aw,ci,cd,bb,bp,ax,cp,aj,de,bu,dc,bo,cu,cj,cy,d2,d6,c9,ch,da,d3,cg,bm,d5,d9,bi,bk,bd,ba,au,bq,bg,ao,cm,cw,co,cx,cv,cq,b5,aq,d7,az,an,bx,av,bv],defers:=[Jc w.heap.size]} V:=by
 have ac:=yb (hP.at.nms fun _ h=>h)
 have a0:=yb hP.cells
 have HZ:Hid (w.heap.size < V.heap.size):=yb (by have:=hP.size;omega)
 have HQ:=yb hQ;have HP:=yb hP;have r:=yb hP.slim
 have dj:=yb h1;have e2:=yb h2;have f3:=yb h3;have fo:=yb h4;have HF:=yb hf;have HW:=yb hw
 have a2:Hid (∀tm wr,LM w.heap.size tm->Below V.heap.size V wr->¬ ((Db x).Nodup∧(x.duties.map (·.name)).Nodup)->Q (.panic (EE 171)) {tmps:=tm,defers:=[Jc w.heap.size]} wr):=yb (fun tm wr hv hb hn=>by
  rw[yt hn] at hw
  have:=hQ.fail tm wr hv (hP.up (hb.mono hP.size)).amid (by rw[hw];decide)
  rw[hw] at this;exact this)
 have W:Hid (Fz V.heap.size V (.slice none 0 0) ([]++(x.rots.map (fun d:Br=>d.name)).take 0)):=yb (RO _ _)
 have O:=yb (yg V.heap.size V)
 have hc:V.cell? (aV w.heap.size 23)=some (.slice L.rots.a L.rots.n L.rots.c):=hP.cells.rots
 have j:=ac.o.rots
 generalize L.rots=rr at hc j
 obtain ⟨ra,rn,rc⟩:=rr
 have g:=yb j.2.2
 have k:=yb j.1
 have ga:rn<=140737488355328:=by have:=j.1;have:=j.2.1;simp only at*;omega
 simp only at hc g k
 clear hQ hP h1 h2 h3 h4 hf hw j
 unfold Jc
 iterate 2
  refine A9 (A4 ?_)
  go_wp2
 clear hc
 go_loopw [8,58] (fun v8 iv wr=>∃i:Nat,i<=rn∧iv=iV i∧Hid (Fz V.heap.size wr v8 ([]++(x.rots.map (fun d:Br=>d.name)).take i))∧Hid (Below V.heap.size V wr)) (fun _ iv _=>rn - (intOf iv).toNat)
 case atStart=>exact ⟨0,yK _,rfl,W,O⟩
 case round=>
  clear W O
  obtain ⟨i,hi,rfl,HO,C⟩:=hrel
  by_cases Z:i < rn
  ·obtain ⟨b,o,f,ha,hb,l,R,u,F,D⟩:=g.o i (by rw[<-k.o];exact Z)
   subst ha
   have HL:=yb l
   have af:=yb (A0 R (C.o.block b hb))
   have P:=yb (yB u)
   have S:Hid ((Tryz.prog.info? 109).map (·.size)=some f.length):=yb (by rw[l];kernel_rfl)
   have X:Hid ((Tryz.prog.info? 109).map (·.size)=some f.toArray.size):=yb (by rw[yq];exact S.o)
   have E:i < (x.rots.map (fun d:Br=>d.name)).length:=by rw[<-k.o];exact Z
   generalize M:(x.rots.map (fun d:Br=>d.name))[i]=y at F D
   have ex:(wr.alloc (.cells f.toArray 109)).cell? (aV wr.heap.size 0)=some (.string y):=by
    have h:=World.alloc_heap_new wr (.cells f.toArray 109)
    simp only[World.cell?,h]
    simpa using F
   have H:Hid (Below wr.heap.size wr ((wr.alloc (.cells f.toArray 109)).alloc (.cells #[.string y] 9))):=yb (((yg _ _).alloc (yf _) _).alloc (by simp) _)
   have G:=yb (HO.o.up H.o)
   have aa:=yb (C.o.trans (H.o.mono C.o.size))
   have J:Hid (((wr.alloc (.cells f.toArray 109)).alloc (.cells #[.string y] 9)).heap[wr.heap.size+1]?=some (.cells #[.string y] 9 (0,0))):=yb (by
    have h:=World.alloc_heap_new (wr.alloc (.cells f.toArray 109)) (.cells #[.string y] 9)
    simpa using h)
   have ae:=yb D
   have A:Hid (([]++(x.rots.map (fun d:Br=>d.name)).take i).length+1<=1000000):=yb (by
    have h1:=r.o.rots;have h2:=r.o.rights
    simp only[ym,zc,yX,yH] at E ⊢
    omega)
   have q:Hid (V.heap.size<=((wr.alloc (.cells f.toArray 109)).alloc (.cells #[.string y] 9)).heap.size):=yb (yu C.o.size H.o.size)
   have s:Hid (([]++(x.rots.map (fun d:Br=>d.name)).take i)++[y]=[]++(x.rots.map (fun d:Br=>d.name)).take (i+1)):=yb (by
    rw[yL,<-M,Ic E])
   have T:(i:Int) < (rn:Int):=by omega
   generalize ah:[]++(x.rots.map (fun d:Br=>d.name)).take i=ls at HO G A s
   clear l R u F D E M ah hb
   go_wp2_with (first|(refine yj rfl 109 _ rfl b (o+i*23) rfl f _ af.o qE rfl S.o ?_)|(refine zb rfl 109 _ _ rfl wr.heap.size f.toArray rfl rfl 109 _ (World.alloc_heap_new _ _) X.o (by simp[HL.o]) P.o ?_;rw[World.setRow_alloc_new])|(at_builtin;refine G6 V.heap.size rfl _ _ rfl u8 ls rfl G.o (wr.heap.size+1) 1 y rfl J.o ae.o A.o q.o ?_;intro ad c w5 t a6;have ab:=yb t;have ag:=yb (Ol aa.o q.o G.o a6);clear t a6))
   exact ⟨⟨i+1,by omega,by push_cast;rfl,yb (by rw[<-s.o];exact ab.o),ag⟩,by simp[intOf];omega⟩
  ·obtain rfl:i=rn:=by omega
   have T:decide ((i:Int) < (i:Int))=false:=by simp
   have Y:Hid (Fz V.heap.size wr u8 (x.rots.map (fun d:Br=>d.name)++(x.rights.map (fun d:AW=>d.name)).take 0)):=yb (by
    have h:=HO.o
    rw[k.o,yT] at h
    simpa using h)
   clear HO g k
   go_wp2
   have hc:wr.cell? (aV w.heap.size 24)=some (.slice L.rights.a L.rights.n L.rights.c):=(C.o.cell (p:=(aV w.heap.size 24)) HZ.o).trans a0.o.rights
   have j:=ac.o.rights
   generalize L.rights=rr at hc j
   obtain ⟨ra,rn,rc⟩:=rr
   have g:=yb j.2.2
   have k:=yb j.1
   have fl:rn<=140737488355328:=by have:=j.1;have:=j.2.1;simp only at*;omega
   simp only at hc g k
   clear j T
   refine A9 (A4 ?_)
   go_wp2
   clear hc
   obtain ⟨wo,rfl⟩:∃z:World,z=wr:=⟨_,rfl⟩
   obtain ⟨vo,rfl⟩:∃z:Value,z=u8:=⟨_,rfl⟩
   have W:=Y
   have O:=C
   clear Y C
   go_loopw [8,71] (fun v8 iv wr=>∃i:Nat,i<=rn∧iv=iV i∧Hid (Fz V.heap.size wr v8 ((x.rots.map (fun d:Br=>d.name))++(x.rights.map (fun d:AW=>d.name)).take i))∧Hid (Below V.heap.size V wr)) (fun _ iv _=>rn - (intOf iv).toNat)
   case atStart=>exact ⟨0,yK _,rfl,W,O⟩
   case round=>
    clear W O
    obtain ⟨i,hi,rfl,HO,C⟩:=hrel
    by_cases Z:i < rn
    ·obtain ⟨b,o,f,ha,hb,l,R,u,F,D⟩:=g.o i (by rw[<-k.o];exact Z)
     subst ha
     have HL:=yb l
     have af:=yb (A0 R (C.o.block b hb))
     have P:=yb (yB u)
     have S:Hid ((Tryz.prog.info? 131).map (·.size)=some f.length):=yb (by rw[l];kernel_rfl)
     have X:Hid ((Tryz.prog.info? 131).map (·.size)=some f.toArray.size):=yb (by rw[yq];exact S.o)
     have E:i < (x.rights.map (fun d:AW=>d.name)).length:=by rw[<-k.o];exact Z
     generalize M:(x.rights.map (fun d:AW=>d.name))[i]=y at F D
     have ex:(wr.alloc (.cells f.toArray 131)).cell? (aV wr.heap.size 1)=some (.string y):=by
      have h:=World.alloc_heap_new wr (.cells f.toArray 131)
      simp only[World.cell?,h]
      simpa using F
     have H:Hid (Below wr.heap.size wr ((wr.alloc (.cells f.toArray 131)).alloc (.cells #[.string y] 9))):=yb (((yg _ _).alloc (yf _) _).alloc (by simp) _)
     have G:=yb (HO.o.up H.o)
     have aa:=yb (C.o.trans (H.o.mono C.o.size))
     have J:Hid (((wr.alloc (.cells f.toArray 131)).alloc (.cells #[.string y] 9)).heap[wr.heap.size+1]?=some (.cells #[.string y] 9 (0,0))):=yb (by
      have h:=World.alloc_heap_new (wr.alloc (.cells f.toArray 131)) (.cells #[.string y] 9)
      simpa using h)
     have ae:=yb D
     have A:Hid (((x.rots.map (fun d:Br=>d.name))++(x.rights.map (fun d:AW=>d.name)).take i).length+1<=1000000):=yb (by
      have h1:=r.o.rots;have h2:=r.o.rights
      simp only[ym,zc,yX] at E ⊢
      omega)
     have q:Hid (V.heap.size<=((wr.alloc (.cells f.toArray 131)).alloc (.cells #[.string y] 9)).heap.size):=yb (yu C.o.size H.o.size)
     have s:Hid (((x.rots.map (fun d:Br=>d.name))++(x.rights.map (fun d:AW=>d.name)).take i)++[y]=(x.rots.map (fun d:Br=>d.name))++(x.rights.map (fun d:AW=>d.name)).take (i+1)):=yb (by
      rw[yL,<-M,Ic E])
     have T:(i:Int) < (rn:Int):=by omega
     generalize ah:(x.rots.map (fun d:Br=>d.name))++(x.rights.map (fun d:AW=>d.name)).take i=ls at HO G A s
     clear l R u F D E M ah hb
     go_wp2_with (first|(refine yj rfl 131 _ rfl b (o+i*37) rfl f _ af.o qF rfl S.o ?_)|(refine zb rfl 131 _ _ rfl wr.heap.size f.toArray rfl rfl 131 _ (World.alloc_heap_new _ _) X.o (by simp[HL.o]) P.o ?_;rw[World.setRow_alloc_new])|(at_builtin;refine G6 V.heap.size rfl _ _ rfl u8 ls rfl G.o (wr.heap.size+1) 1 y rfl J.o ae.o A.o q.o ?_;intro ad c w5 t a6;have ab:=yb t;have ag:=yb (Ol aa.o q.o G.o a6);clear t a6))
     exact ⟨⟨i+1,by omega,by push_cast;rfl,yb (by rw[<-s.o];exact ab.o),ag⟩,by simp[intOf];omega⟩
    ·obtain rfl:i=rn:=by omega
     have T:decide ((i:Int) < (i:Int))=false:=by simp
     have Y:Hid (Fz V.heap.size wr u8 (Db x)):=yb (by
      have h:=HO.o
      rw[k.o,yT] at h
      exact h)
     clear HO g k
     go_wp2
     have ap:(Db x).length<=100000:=by
      obtain ⟨_,_,_,_,h1,h2,_⟩:=Fj HF.o
      unfold Db
      simp only[ym,yX]
      omega
     obtain ⟨⟨sa,sn,sc⟩,ai,b8⟩:=Y.o.nm (by omega)
     unfold Au.v at ai
     simp only at ai
     subst ai
     have am:=yb b8
     have d1:=yb ap
     have cr:Hid ((x.duties.map (·.name)).length<=100000):=yb (by rw[yX];exact r.o.duties)
     clear Y b8 ap T
     by_cases a7:(Db x).Nodup
     ·have HR:=yb a7
      clear a7
      refine A9 (A4 ?_)
      go_wp2_with (first|(go_at_call 65;refine (Tg (Me (h:=⟨sa,sn,sc⟩) am.o d1.o) HR.o).mono ?_;rintro e w2 ⟨⟨m,rfl⟩,K⟩;have B:=yb (C.o.trans (K.mono C.o.size));clear K))
      have hc:w2.cell? (aV w.heap.size 25)=some (.slice L.duties.a L.duties.n L.duties.c):=(B.o.cell (p:=(aV w.heap.size 25)) HZ.o).trans a0.o.duties
      have dd:=yb (ac.o.duties.up B.o)
      by_cases a8:(x.duties.map (·.name)).Nodup
      ·have HD:=yb a8
       clear a8
       refine A9 (A4 ?_)
       go_wp2_with (first|(go_at_call 66;refine (Tg (KD dd.o cr.o) HD.o).mono ?_;rintro e w3 ⟨⟨m3,rfl⟩,U⟩;have I:=yb (B.o.trans (U.mono B.o.size));clear U))
       exact Vb HQ.o (HP.o.up (I.o.mono HP.o.size)) (dj.o.up I.o) (e2.o.up I.o) (f3.o.up I.o) (fo.o.up I.o) HF.o (by rw[HW.o,yw ⟨HR.o,HD.o⟩]) _ _ _ _ _ _ _ _ _ _ _ _ _ _ _ _ _ _ _ _ _ _ _ _ _ _ _ _ _ _ _ _ _ _ _ _ _ _ _ _ _ _ _ _ _ _ _ _ _ _ _ _ _ _ _ _ _ _ _ _ _ _ _ _ _ _ _ _ _ _ _ _ _ _ _ _ _ _ _ _ _ _ _ _ _ _ _ _ _ _ _ _ _ _ _ _ _ _ _ _ _ _ _ _ _ _ _ _ _ _ _ _ _ _ _ _ _ _ _ _ _ _ _ _ _ _ _ _ _ _ _ _ _ _ _ _ _ _ _ _ _ _ _ _ _ _ _ _ _ _ _ _ _ _ _ _ _ _ _ _ _ _ _ _ _ _ _
      ·have HD:=yb a8
       clear a8
       refine A9 (A4 ?_)
       go_wp2_with (first|(go_at_call 66;refine (UZ (KD dd.o cr.o) HD.o).mono ?_;rintro e w3 ⟨rfl,U⟩;have I:=yb (B.o.trans (U.mono B.o.size));clear U))
       exact a2.o _ _ ⟨rfl,rfl⟩ I.o (fun h=>HD.o h.2)
     ·have HR:=yb a7
      clear a7
      refine A9 (A4 ?_)
      go_wp2_with (first|(go_at_call 65;refine (UZ (Me (h:=⟨sa,sn,sc⟩) am.o d1.o) HR.o).mono ?_;rintro e w2 ⟨rfl,K⟩;have B:=yb (C.o.trans (K.mono C.o.size));clear K))
      exact a2.o _ _ ⟨rfl,rfl⟩ B.o (fun h=>HR.o h.1)
 end Go.Proofs.YtjofgpfocadomaaGreatDoor
namespace Go.Proofs.YtjofgpfocadomaaGreatDoor
open Go.RowKit
theorem VL{Q:QT}{w V:World}{x:Av}{L:Bt}{cs:LV}{N:NP}(hQ:KM Q w x)(hP:Gu w x L cs N V)
 (hf:BD x=true)(hw:AE x=if H3 x then (if Dh (Tb.of x) x&&Cw (Tb.of x) x then 0 else 170) else 171)
 (u0 u4 u5 u6 u7 u8 u9 bq ce cr ci dt e3 bp cu dv db d0 ea bn dd cm dy ct da dg e4 e9 c8 bo dm cy dn eb bu e1 cp d3 cg c9 es ew ep eu en ez eq em ey f0 f1 eo cl dz cf bt e5 co d2 dj dk cd d5 ck e6 e2 bv d7 cj dp cx cz bw dl dr ch cv cw du dq dh bz e7 d6 cq d9 cc de di dx dw d1 d4 e8 cn bx d8 b9 y P an f Z ac ah ab U a6 G l ak C v a8 aq a2 s bh A be ay I az K n af aa E S q ap d bj X bi R ar ag ax ai ba a7 ae bg b0 ad O b8 bd J M F D m T H i am aw ao av au aj z j bb u g a0 r Y:Value):
  FE 32 Tryz.prog (H4 11 (Tryz.f32.body.getD .skip)) Q {tmps:=#[u0,.pointer (some ⟨w.heap.size,0,none⟩),.pointer (some ⟨w.heap.size+1,0,none⟩),.pointer (some ⟨w.heap.size+2,0,none⟩),u4,u5,u6,u7,u8,u9,bq,ce,cr,ci,dt,e3,bp,cu,dv,db,d0,ea,bn,dd,cm,dy,ct,da,dg,e4,e9,c8,bo,dm,cy,dn,eb,bu,e1,cp,d3,cg,c9,es,ew,ep,eu,en,ez,eq,em,ey,f0,f1,eo,cl,dz,cf,bt,e5,co,d2,dj,dk,cd,d5,ck,e6,e2,bv,d7,cj,dp,cx,cz,bw,dl,dr,ch,cv,cw,du,dq,dh,bz,e7,d6,cq,d9,cc,de,di,dx,dw,d1,d4,e8,cn,bx,d8,b9,y,P,an,f,Z,ac,ah,ab,U,a6,G,l,ak,C,v,a8,aq,a2,s,bh,A,be,ay,I,az,K,n,af,aa,E,S,q,ap,d,bj,X,bi,R,ar,ag,ax,ai,ba,a7,ae,bg,b0,ad,O,b8,bd,J,M,F,D,m,T,H,i,am,aw,ao,av,au,aj,z,j,bb,u,g,a0,r,Y],defers:=[Jc w.heap.size]} V:=by
 have bk:=yb (hP.at.nms fun _ h=>h)
 have c:=yb hP.cells
 have HZ:Hid (w.heap.size < V.heap.size):=yb (by have:=hP.size;omega)
 have HQ:=yb hQ;have HP:=yb hP;have b:=yb hP.slim
 have HF:=yb hf;have HW:=yb hw
 have e0:Hid (∀tm wr,LM w.heap.size tm->Below V.heap.size V wr->¬ H3 x->Q (.panic (EE 171)) {tmps:=tm,defers:=[Jc w.heap.size]} wr):=yb (fun tm wr hv hb hn=>by
  rw[yt hn] at hw
  have:=hQ.fail tm wr hv (hP.up (hb.mono hP.size)).amid (by rw[hw];decide)
  rw[hw] at this;exact this)
 clear hQ hP hf hw
 unfold Jc
 refine A9 (A4 ?_)
 go_wp2_with fail
 refine VI (B:=w.heap.size) (h0:=L.lets) (h1:=L.crops) (h2:=L.reaches) (h3:=L.farms) (n0s:=x.lets.map (·.name)) (n1s:=x.crops.map (·.name)) (n2s:=x.reaches.map (·.name)) (n3s:=x.farms.map (·.name)) _ ?_ ?_ ?_ ?_ ?_ ?_ ?_ ?_ ?_ ?_ ?_ ?_ ?_ ?_
 ·rfl
 ·rfl
 ·rfl
 ·exact fun W hb=>⟨(hb.cell (p:=(aV w.heap.size 19)) HZ.o).trans c.o.lets,(hb.cell (p:=(aV w.heap.size 20)) HZ.o).trans c.o.crops,(hb.cell (p:=(aV w.heap.size 21)) HZ.o).trans c.o.reaches,(hb.cell (p:=(aV w.heap.size 22)) HZ.o).trans c.o.farms⟩
 ·exact fun W hb=>bk.o.lets.up hb
 ·exact fun W hb=>bk.o.crops.up hb
 ·exact fun W hb=>bk.o.reaches.up hb
 ·exact fun W hb=>bk.o.farms.up hb
 ·rw[yX];exact b.o.lets
 ·rw[yX];exact b.o.crops
 ·rw[yX];exact b.o.reaches
 ·rw[yX];exact b.o.farms
 ·intro a W dc bm hb hn
  obtain ⟨tm,df⟩:=a
  obtain rfl:df=[Jc w.heap.size]:=dc
  exact e0.o tm W ⟨(bm 2 (by omega)).trans rfl,(bm 3 (by omega)).trans rfl⟩ hb (fun h=>hn ⟨h.1,h.2.1,h.2.2.1,h.2.2.2.1⟩)
 ·intro a W bl bc br bf et dc bm g4 g5 g6 g7 m4 m5 m6 m7 b4 b5 b6 b7 hb hn
  have e:a={tmps:=#[u0,pV w.heap.size 0,pV (w.heap.size+1) 0,pV (w.heap.size+2) 0,(a.tmps.getD 4 undef),(a.tmps.getD 5 undef),(a.tmps.getD 6 undef),(a.tmps.getD 7 undef),u8,u9,bq,ce,cr,ci,dt,e3,bp,cu,dv,db,d0,ea,bn,dd,cm,dy,ct,da,dg,e4,e9,c8,bo,dm,cy,dn,eb,bu,e1,cp,d3,cg,c9,(a.tmps.getD 43 undef),(a.tmps.getD 44 undef),(a.tmps.getD 45 undef),(a.tmps.getD 46 undef),(a.tmps.getD 47 undef),(a.tmps.getD 48 undef),(a.tmps.getD 49 undef),(a.tmps.getD 50 undef),(a.tmps.getD 51 undef),(a.tmps.getD 52 undef),(a.tmps.getD 53 undef),(a.tmps.getD 54 undef),cl,dz,cf,bt,e5,co,d2,dj,dk,cd,d5,ck,e6,e2,bv,d7,cj,dp,cx,cz,bw,dl,dr,ch,cv,cw,du,dq,dh,bz,e7,d6,cq,d9,cc,de,di,dx,dw,d1,d4,e8,cn,bx,d8,b9,y,P,an,f,Z,ac,ah,ab,U,a6,G,l,ak,C,v,a8,aq,a2,s,bh,A,be,ay,I,az,K,n,af,aa,E,S,q,ap,d,bj,X,bi,R,ar,ag,ax,ai,ba,a7,ae,bg,b0,ad,O,b8,bd,J,M,F,D,m,T,H,i,am,aw,ao,av,au,aj,z,j,bb,u,g,a0,r,Y],defers:=[Jc w.heap.size]}:=(Gt [4,5,6,7,43,44,45,46,47,48,49,50,51,52,53,54] (et.trans rfl) dc (fun t ht=>bm t ht)).trans (by kernel_rfl)
  rw[g4,g5,g6,g7] at e
  obtain ⟨eg,ed,ek,v46,ej,ei,ec,eh,v51,el,ef,ee,rfl⟩:∃eg ed ek v46 ej ei ec eh v51 el ef ee:Value,a={tmps:=#[u0,pV w.heap.size 0,pV (w.heap.size+1) 0,pV (w.heap.size+2) 0,pV bl 0,pV bc 0,pV br 0,pV bf 0,u8,u9,bq,ce,cr,ci,dt,e3,bp,cu,dv,db,d0,ea,bn,dd,cm,dy,ct,da,dg,e4,e9,c8,bo,dm,cy,dn,eb,bu,e1,cp,d3,cg,c9,eg,ed,ek,v46,ej,ei,ec,eh,v51,el,ef,ee,cl,dz,cf,bt,e5,co,d2,dj,dk,cd,d5,ck,e6,e2,bv,d7,cj,dp,cx,cz,bw,dl,dr,ch,cv,cw,du,dq,dh,bz,e7,d6,cq,d9,cc,de,di,dx,dw,d1,d4,e8,cn,bx,d8,b9,y,P,an,f,Z,ac,ah,ab,U,a6,G,l,ak,C,v,a8,aq,a2,s,bh,A,be,ay,I,az,K,n,af,aa,E,S,q,ap,d,bj,X,bi,R,ar,ag,ax,ai,ba,a7,ae,bg,b0,ad,O,b8,bd,J,M,F,D,m,T,H,i,am,aw,ao,av,au,aj,z,j,bb,u,g,a0,r,Y],defers:=[Jc w.heap.size]}:=⟨_,_,_,_,_,_,_,_,_,_,_,_,e⟩
  have ex:AE x=if (Db x).Nodup∧(x.duties.map (·.name)).Nodup then (if Dh (Tb.of x) x&&Cw (Tb.of x) x then 0 else 170) else 171:=by
   rw[HW.o]
   by_cases h:H3 x
   ·rw[yw h];exact (yw ⟨h.2.2.2.2.1,h.2.2.2.2.2⟩).symm
   ·rw[yt h];exact (yt (fun k=>h ⟨hn.1,hn.2.1,hn.2.2.1,hn.2.2.2,k.1,k.2⟩)).symm
  exact VK HQ.o (HP.o.up (hb.mono HP.o.size)) m4 m5 m6 m7 HF.o ex _ _ _ _ _ _ _ _ _ _ _ _ _ _ _ _ _ _ _ _ _ _ _ _ _ _ _ _ _ _ _ _ _ _ _ _ _ _ _ _ _ _ _ _ _ _ _ _ _ _ _ _ _ _ _ _ _ _ _ _ _ _ _ _ _ _ _ _ _ _ _ _ _ _ _ _ _ _ _ _ _ _ _ _ _ _ _ _ _ _ _ _ _ _ _ _ _ _ _ _ _ _ _ _ _ _ _ _ _ _ _ _ _ _ _ _ _ _ _ _ _ _ _ _ _ _ _ _ _ _ _ _ _ _ _ _ _ _ _ _ _ _ _ _ _ _ _ _ _ _ _ _ _ _ _ _ _ _ _ _ _ _ _ _ _ _ _
end Go.Proofs.YtjofgpfocadomaaGreatDoor
