/- Parts of the proof, in short words: Ra Rb Rc Rd Re Rf Rg Rh Ri Rs Rj Rk Rl Rm Rn Ro -/
import Derived.Test.YtjofgpfocadomaaGreatDoorUc0
import Derived.Test.YtjofgpfocadomaaGreatDoorUc5
import Derived.Test.YtjofgpfocadomaaGreatDoorUc6
import Derived.Test.YtjofgpfocadomaaGreatDoorUc4
import Derived.BigFrameIn
set_option maxRecDepth 100000
set_option maxHeartbeats 16000000
set_option linter.unusedSimpArgs false
namespace Go.Proofs.YtjofgpfocadomaaGreatDoor
open Go.RowKit
structure Tb where
 lets:List ByteArray
 crops:List ByteArray
 reaches:List ByteArray
 farms:List ByteArray
def Tb.of(x:Ar):Tb:=⟨x.lets.map (·.name),x.crops.map (·.name),x.reaches.map (·.name),x.farms.map (·.name)⟩
def Tb.tab(t:Tb)(c:Int):LB:=if c=3 then t.crops else if c=4 then t.reaches else if c=6 then t.reaches else if c=5 then t.farms else t.lets
def EL(to:Int):Int:=if to=2 then 1 else to
def early(to:Int):Bool:=decide (to=2)||decide (to=6)
def Kg(t:Tb)(to at_:Int)(r:Rf):Bool:=
 if to=0 then decide (r.name.size=0∧r.n=0) else match D0 (t.tab (EL to)) r.name with
  |some i=>!early to||decide ((i:Int) < at_)
  |none=>false
def GN(t:Tb)(c:Int)(s:ByteArray):Int:=match D0 (t.tab c) s with
 |some i=>(i:Int)
 |none=>0
def gT(t:Tb)(to:Int)(r:Rf):Rf:=if to=0 then r else {r with n:=GN t (EL to) r.name}
mutual
def IB(t:Tb):Ex->Ex
 |.mk op n u rn ri args=>.mk op n u rn (if op=2 then GN t 1 rn else ri) (GO t args)
def GO(t:Tb):List Ex->List Ex
 |[]=> []
 |e::r=>IB t e::GO t r
end
theorem Nt(t:Tb):∀l:List Ex,GO t l=l.map (IB t)
 |[]=>rfl
 |e::r=>by rw[GO,Nt t r];rfl
def fT(t:Tb)(_:Int)(e:Ex):Ex:=if Bv e then e else IB t e
mutual
def Rs(t:Tb)(lt:Int):Ex->Bool
 |.mk op _ _ rn ri args=>O0 op args.length&&(Kg t (M6 op lt) (PS op lt) ⟨rn,ri⟩&&Qp t lt args)
def Qp(t:Tb)(lt:Int):List Ex->Bool
 |[]=>true
 |e::r=>Rs t lt e&&Qp t lt r
end
def JV(t:Tb)(e:Kc):Bool:=Bv e.1||Rs t e.2 e.1
def Nu(t:Tb)(d:CY):Bool:=Kg t 4 0 d.on&&Kg t (if d.river then 0 else 3) 0 d.crop
def Ru(t:Tb)(d:BG):Bool:=Kg t 4 0 d.on&&d.turns.all fun k=>Kg t 5 0 k.farm
def Kz(t:Tb)(d:AZ):Bool:=Kg t 5 0 d.farm&&Kg t (if d.kind=1 then 0 else 4) 0 d.reach
def Nv(t:Tb)(d:D9):Bool:=Kg t 5 0 d.farm&&Kg t 4 0 d.reach
def Ci(t:Tb)(x:Ar):Bool:=(As x).all (JV t)&&(Ca x&&(x.farms.all (Nu t)&&(x.rots.all (Ru t)&&(x.rights.all (Kz t)&&x.duties.all (Nv t)))))
def Nw(t:Tb)(p:AE × Nat):Bool:=Kg t (if p.2=0 then 0 else 6) p.2 p.1.frm
def CU(t:Tb)(x:Ar):Bool:=x.reaches.zipIdx.all (Nw t)
def Bn(x:Ar):Bool:=JT x&&(G4 x.rots&&Em x)
def Dk(x:Ar):LB:=x.rots.map (·.name)++x.rights.map (·.name)
def Cx(x:Ar):Bool:=Au x.name&&((x.lets.map (·.name)).all Au&&((x.crops.map (·.name)).all Au&&((x.reaches.map (·.name)).all Au&&((x.farms.map (·.name)).all Au&&((x.rots.map (·.name)).all Au&&((x.rights.map (·.name)).all Au&&(x.duties.map (·.name)).all Au))))))
def EY(x:Ar):Prop:=(x.lets.map (·.name)).Nodup∧(x.crops.map (·.name)).Nodup∧(x.reaches.map (·.name)).Nodup∧(x.farms.map (·.name)).Nodup∧(Dk x).Nodup∧(x.duties.map (·.name)).Nodup
instance (x:Ar):Decidable (EY x):=by unfold EY;infer_instance
def Ah(x:Ar):Ar:=x.mp (fT (Tb.of x)) (gT (Tb.of x))
def AF(x:Ar):Int:=
 if Bn x then (if Cx x then (if EY x then (if CU (Tb.of x) x&&Ci (Tb.of x) x then 0 else 170) else 171) else 170) else 2
def Ju(t:Tb)(u:Us):Bool:=Kg t u.to u.at_ ⟨u.name,u.n⟩
def IZ(t:Tb)(p:List Us × Bool):Prop:=p.2=true∧∀u∈p.1,Ju t u=true
theorem OB(t:Tb):∀l:List (List Us × Bool),IZ t (BE l)↔∀p∈l,IZ t p
 |[]=>by simp[IZ,BE]
 |x::r=>by
  have ih:=OB t r
  simp only[xr,<-ih]
  have e:BE (x::r)=if x.2 then (x.1++(BE r).1,(BE r).2) else (x.1,false):=rfl
  rw[e]
  unfold IZ
  by_cases h:x.2=true
  ·simp only[h,zU,yv,qv]
   constructor
   ·rintro ⟨h1,h2⟩;exact ⟨fun u a=>h2 u (.inl a),h1,fun u a=>h2 u (.inr a)⟩
   ·rintro ⟨h1,h2,h3⟩;exact ⟨h2,fun u a=>a.elim (h1 u) (h3 u)⟩
  ·simp[h]
mutual
theorem MO(t:Tb){w:World}{C:Addr->Prop}(lt:Int):∀(e:Ex) (b o:Nat),Sg w C e b o->(IZ t (C9 w lt e b o)↔Rs t lt e=true)
 |.mk op n u rn ri args,b,o,h=>by
  rw[Sg] at h
  obtain ⟨a,cap,h1,h2,h3,g⟩:=h
  rw[C9,Rs]
  by_cases hs:O0 op args.length=true
  ·rw[yw hs,hs,h2.1]
   have ih:=MP t lt args a args.length cap 0 g
   unfold IZ at ih ⊢
   simp only[xr,Bool.true_and,yE,<-ih,Ju]
   constructor
   ·rintro ⟨d,c,f⟩;exact ⟨c,d,f⟩
   ·rintro ⟨c,d,f⟩;exact ⟨d,c,f⟩
  ·rw[yq hs]
   simp[IZ,hs]
theorem MP(t:Tb){w:World}{C:Addr->Prop}(lt:Int):∀(l:List Ex) (a:Option Addr) (n cap i:Nat),Kd w C a i l->(IZ t (BB w lt l (some (.slice a n cap)) i)↔Qp t lt l=true)
 |[],a,n,cap,i,h=>by simp[BB,Qp,IZ]
 |e::r,a,n,cap,i,h=>by
  rw[Kd] at h
  obtain ⟨⟨b,o,rfl,h1⟩,h2⟩:=h
  have m:=MO t lt e b (o+i*6) h1
  have k:=MP t lt r (some ⟨b,o,none⟩) n cap (i+1) h2
  rw[BB,Qp,yE,<-m,<-k]
  unfold IZ
  by_cases g:(C9 w lt e b (o+i*6)).2=true
  ·simp only[g,zU,qv,yv]
   constructor
   ·rintro ⟨f,d⟩;exact ⟨fun u c=>d u (.inl c),f,fun u c=>d u (.inr c)⟩
   ·rintro ⟨f,d,j⟩;exact ⟨d,fun u c=>c.elim (f u) (j u)⟩
  ·simp[g]
end
theorem OC{α β γ:Type}{R:α->β->Prop}{f:α->β->γ}{p:γ->Prop}{q:β->Prop}(h:∀a b,R a b->(p (f a b)↔q b)):∀ {l:List α} {m:List β},AD R l m->((∀c∈List.zipWith f l m,p c)↔∀b∈m,q b)
 |[],[],_=>by simp
 |a::l,b::m,hA=>by
  rw[AD] at hA
  simp only[qd,xr,h a b hA.1,OC h hA.2]
 |[],b::m,hA=>by simp[AD] at hA
 |a::l,[],hA=>by simp[AD] at hA
theorem TR{N:NP}{w:World}{C D:Addr->Prop}(t:Tb)(a:Array Value)(e:Kc)(h:WV N w C D a e):IZ t (Cp w a e)↔JV t e=true:=by
 obtain ⟨b,o,cs,rfl,_,_,hr,_⟩:=h
 unfold Cp JV
 by_cases c:Bv e.1=true
 ·simp[c,IZ]
 ·rw[yq c,Bool.or_eq_true,or_iff_right c]
  exact MO t e.2 e.1 b o hr
theorem Su{f:Nat->List Us}{n:Nat}{p:Us->Prop}:(∀u∈(List.range n).flatMap f,p u)↔∀i,i < n->∀u∈f i,p u:=by
 constructor
 ·intro h i hi u a;exact h u (yX.2 ⟨i,zj.2 hi,a⟩)
 ·intro h u a
  obtain ⟨i,hi,a⟩:=yX.1 a
  exact h i (zj.1 hi) u a
theorem Gc{α:Type}{l:List α}{n:Nat}(a:n=l.length){f:Nat->List Us}{p:Us->Prop}{q:α->Bool}(h:∀i (hi:i < l.length),(∀u∈f i,p u)↔q l[i]=true):(∀u∈(List.range n).flatMap f,p u)↔l.all q=true:=by
 rw[Su,yW]
 constructor
 ·intro k d hd
  obtain ⟨i,hi,rfl⟩:=zc.1 hd
  exact (h i hi).1 (k i (by omega))
 ·intro k i hi
  exact (h i (by omega)).2 (k _ (yJ (by omega)))
theorem Gd{N:NP}{w:World}{C D:Addr->Prop}{Bu:Nat}{L:Bt}{x:Ar}(t:Tb)(h:KP N w C D Bu L x):IZ t (BS w L x)↔Ci t x=true:=by
 unfold BS El Ci
 rw[OB]
 simp only[yv,zn,or_imp,forall_and,forall_eq,yE]
 refine and_congr ?_ ?_
 ·rw[yW]
  exact OC (TR t) h.top
 ·unfold IZ
  simp only
  refine and_congr_right fun a=>?_
  rw[yw a]
  unfold Ce
  simp only[yv,or_imp,forall_and]
  rw[Gc h.nfarms (q:=Nu t) fun i hi=>?_,Gc h.nrots (q:=Ru t) fun i hi=>?_,Gc h.nrights (q:=Kz t) fun i hi=>?_,Gc h.nduties (q:=Nv t) fun i hi=>?_]
  ·simp only[and_assoc]
  ·unfold DZ;rw[yk hi];simp[Nv,Ju,CZ]
  ·unfold CP;rw[yk hi];simp[Kz,Ju,CZ]
  ·unfold Gu;rw[yk hi]
   simp only[xr,Ru,yE,Ju,CZ]
   refine and_congr Iff.rfl ?_
   refine Gc (h.nturns i hi) fun k a=>?_
   unfold F2;rw[yk a];simp[CZ]
  ·unfold Ef;rw[yk hi];simp[Nu,Ju,CZ]
def OD(W:World)(b:Nat):Nat:=match W.heap[b]? with
 |some (.cells _ t _)=>t
 |_=>0
theorem E2{W:World}{b t:Nat}(h:Ty W b t):OD W b=t:=by
 obtain ⟨c,e⟩:=h
 unfold OD;rw[e]
def F4(W:World)(b o:Nat):Int:=
 if FD (OD W b) (o+1)=1 then (match W.cell? ⟨b,o - 3,none⟩ with
  |some (.int _ z)=>if z=2 then 1 else 0
  |_=>0)
 else if OD W b=66 then (if o < 51 then 0 else 6)
 else if OD W b=94 then (if o % 12=1 then 4 else match W.cell? ⟨b,o - 7,none⟩ with
  |some (.bool r)=>if r then 0 else 3
  |_=>3)
 else if OD W b=109 then 4
 else if OD W b=158 then 5
 else if OD W b=131 then (if o % 37=2 then 5 else match W.cell? ⟨b,o - 4,none⟩ with
  |some (.int _ z)=>if z=1 then 0 else 4
  |_=>4)
 else (if o % 11=1 then 5 else 4)
def WZ(t q:Nat):Prop:=FD t q=2∨(FD t q=1∧G9 t q=4)
def IC(B:Nat)(W:World)(b q:Nat):Prop:=B<=b∧∃o t,q=o+1∧Ty W b t∧WZ t (o+1)∧F4 W b o≠0
structure O4 (B:Nat) (W:World) (u:Us):Prop where
 base:B<=u.b
 t:∃t,Ty W u.b t∧WZ t (u.o+1)∧¬ WZ t u.o
 name:W.cell? ⟨u.b,u.o,none⟩=some (.string u.name)
 len:u.name.size<=maxLen
 n:W.cell? ⟨u.b,u.o+1,none⟩=some (.int .i64 u.n)
 cat:F4 W u.b u.o=EL u.to
 to:u.to=0∨u.to=1∨u.to=2∨u.to=3∨u.to=4∨u.to=5∨u.to=6
theorem MQ{u:Us}:EL u.to=0↔u.to=0:=by
 unfold EL;split<;>omega
structure RJ (B:Nat) (W4:World) (t:Tb) (X:List Us) (k:Nat) (O:Nat->Prop) (W:World):Prop where
 os:W.os=W4.os
 tape:W.tape=W4.tape
 output:W.output=W4.output
 size:W4.heap.size<=W.heap.size
 own:∀b,O b->W4.heap.size<=b
 ty:∀(b:Nat) (c:Array Value) (t:TypeId),W4.heap[b]?=some (.cells c t (0,0))->∃c':Array Value,c'.size=c.size∧W.heap[b]?=some (.cells c' t (0,0))
 same:∀b:Nat,b < W4.heap.size->(∀q,¬ IC B W4 b q)->W.heap[b]?=W4.heap[b]?
 cells:∀b q,b < W4.heap.size->¬ IC B W4 b q->W.cell? ⟨b,q,none⟩=W4.cell? ⟨b,q,none⟩
 nums:∀b q,IC B W4 b q->(∃z,W4.cell? ⟨b,q,none⟩=some (.int .i64 z))->∃z,W.cell? ⟨b,q,none⟩=some (.int .i64 z)
 done:∀j (h:j < X.length),j < k->Ju t X[j]=true∧(X[j].to≠0->X[j].b < W4.heap.size∧W.cell? ⟨X[j].b,X[j].o+1,none⟩=some (.int .i64 (GN t (EL X[j].to) X[j].name)))
section
variable{B:Nat}{W4 W w':World}{t:Tb}{X:List Us}{k:Nat}{O:NP}
theorem RJ.start(B:Nat)(W4:World)(t:Tb)(X:List Us):RJ B W4 t X 0 (fun _=>False) W4:=
 ⟨rfl,rfl,rfl,yf _,fun _ h=>h.elim,fun _ c _ h=>⟨c,rfl,h⟩,fun _ _ _=>rfl,fun _ _ _ _=>rfl,fun _ _ _ h=>h,fun _ _ h=>by omega⟩
theorem RJ.tyT(h:RJ B W4 t X k O W){b ty:Nat}(hb:Ty W4 b ty):Ty W b ty:=by
 obtain ⟨c,e⟩:=hb
 obtain ⟨d,_,a⟩:=h.ty b c ty e
 exact ⟨d,a⟩
theorem RJ.move{i:NP}(h:RJ B W4 t X k O W)(m:W.heap.size<=w'.heap.size)(l:w'.os=W.os)(p:w'.tape=W.tape)(o:w'.output=W.output)(d:∀b,b < W4.heap.size->w'.heap[b]?=W.heap[b]?)(r:∀b,i b->W4.heap.size<=b):RJ B W4 t X k i w':=by
 refine ⟨l.trans h.os,p.trans h.tape,o.trans h.output,yu h.size m,r,fun b c ty hb=>?_,fun b hb a=>(d b hb).trans (h.same b hb a),fun b q hb a=>(Ac (d b hb)).trans (h.cells b q hb a),fun b q a hi=>?_,fun j v f=>?_⟩
 ·obtain ⟨n,u,s⟩:=h.ty b c ty hb
  exact ⟨n,u,(d b (yd.1 hb).1).trans s⟩
 ·obtain ⟨z,e⟩:=h.nums b q a hi
  obtain ⟨_,_,ty,_,h1,_⟩:=a
  exact ⟨z,(Ac (d b h1.lt)).trans e⟩
 ·obtain ⟨h1,h2⟩:=h.done j v f
  refine ⟨h1,fun h3=>?_⟩
  have g:=h2 h3
  exact ⟨g.1,(Ac (d _ g.1)).trans g.2⟩
theorem RJ.stays:Cd (RJ B W4 t X):=by
 intro k O W j W' h e c i g f d
 refine h.move e c i g (fun b hb=>f b (fun a=>by have:=h.own b a;omega) (yt hb h.size)) (fun b hb=>?_)
 rcases d b hb with h1|h1
 ·exact h.own b h1
 ·have:=h.size;omega
theorem RJ.below{a:Nat}(h:RJ B W4 t X k O W)(hb:Below a W w')(d:W4.heap.size<=a):RJ B W4 t X k O w':=
 h.move hb.size hb.os hb.tape hb.output (fun b c=>hb.block b (by omega)) h.own
theorem O4.notName{u:Us}(h:O4 B W4 u):¬ IC B W4 u.b u.o:=by
 rintro ⟨_,o,ty,e,h1,h2,_⟩
 obtain ⟨a,c,f,d⟩:=h.t
 obtain rfl:=h1.inj c
 rw[<-e] at h2
 exact d h2
theorem O4.lt{u:Us}(h:O4 B W4 u):u.b < W4.heap.size:=by
 obtain ⟨a,c,d,e⟩:=h.t
 exact c.lt
theorem O4.num{u:Us}(h:O4 B W4 u)(h0:u.to≠0):IC B W4 u.b (u.o+1):=by
 obtain ⟨a,d,c,f⟩:=h.t
 exact ⟨h.base,u.o,a,rfl,d,c,by rw[h.cat];exact fun e=>h0 (MQ.1 e)⟩
theorem O4.notNum{u:Us}(h:O4 B W4 u)(h0:u.to=0):¬ IC B W4 u.b (u.o+1):=by
 rintro ⟨_,o,ty,e,h1,h2,h3⟩
 obtain rfl:o=u.o:=by omega
 rw[h.cat] at h3
 exact h3 (MQ.2 h0)
theorem RJ.read{u:Us}(h:RJ B W4 t X k O W)(a:O4 B W4 u):W.cell? ⟨u.b,u.o,none⟩=some (.string u.name)∧(∃z,W.cell? ⟨u.b,u.o+1,none⟩=some (.int .i64 z)∧(u.to=0->z=u.n))∧W.frozen? ⟨u.b,u.o+1,none⟩=false:=by
 refine ⟨(h.cells _ _ a.lt a.notName).trans a.name,?_,?_⟩
 ·by_cases h0:u.to=0
  ·exact ⟨u.n,(h.cells _ _ a.lt (a.notNum h0)).trans a.n,fun _=>rfl⟩
  ·obtain ⟨z,d⟩:=h.nums _ _ (a.num h0) ⟨_,a.n⟩
   exact ⟨z,d,fun e=>absurd e h0⟩
 ·obtain ⟨c,f,g,i⟩:=a.t
  exact (h.tyT f).frozen
theorem RJ.skip{u:Us}(h:RJ B W4 t X k O W)(b:X[k]?=some u)(h0:u.to=0)(a:Ju t u=true):RJ B W4 t X (k+1) O W:=by
 obtain ⟨f,rfl⟩:=yx.1 b
 refine ⟨h.os,h.tape,h.output,h.size,h.own,h.ty,h.same,h.cells,h.nums,fun j d c=>?_⟩
 by_cases e:j=k
 ·subst e;exact ⟨a,fun h=>absurd h0 h⟩
 ·exact h.done j d (by omega)
theorem RJ.next{u:Us}(h:RJ B W4 t X k O W)(x:∀u∈X,O4 B W4 u)(E:X[k]?=some u)(h0:u.to≠0)(p:Ju t u=true):RJ B W4 t X (k+1) O (W.setCell ⟨u.b,u.o+1,none⟩ (.int .i64 (GN t (EL u.to) u.name))):=by
 obtain ⟨D,rfl⟩:=yx.1 E
 have l:=x _ (yJ D)
 obtain ⟨_,⟨z,C,_⟩,_⟩:=h.read l
 obtain ⟨m,J,K,v⟩:=Ad (iV (GN t (EL X[k].to) X[k].name)) C
 have y:=l.num h0
 have a:∀b q,(b≠X[k].b∨q≠X[k].o+1)->(W.setCell ⟨X[k].b,X[k].o+1,none⟩ (iV (GN t (EL X[k].to) X[k].name))).cell? (aV b q)=W.cell? (aV b q):=fun b q f=>
  World.cell?_setCell_other _ _ _ _ (fun e=>by cases e;simp at f)
 refine ⟨m.os.trans h.os,m.tape.trans h.tape,m.output.trans h.output,yu h.size m.size,h.own,fun b c ty hb=>?_,fun b hb f=>?_,fun b q hb f=>?_,fun b q f hi=>?_,fun j A F=>?_⟩
 ·obtain ⟨w,i,d⟩:=h.ty b c ty hb
  by_cases n:b=X[k].b
  ·subst n
   exact ⟨_,by rw[Array.size_setIfInBounds];exact i,zr W _ _ w ty _ d⟩
  ·exact ⟨w,i,(zl W _ b _ n).trans d⟩
 ·have n:b≠X[k].b:=fun e=>f _ (e▸y)
  exact (zl W _ b _ n).trans (h.same b hb f)
 ·rw[a b q (by by_cases e:b=X[k].b;exact .inr (fun d=>f (by rw[e,d];exact y));exact .inl e)]
  exact h.cells b q hb f
 ·by_cases e:b=X[k].b∧q=X[k].o+1
  ·obtain ⟨rfl,rfl⟩:=e
   exact ⟨_,v⟩
  ·rw[a b q (by by_cases d:b=X[k].b;exact .inr (fun s=>e ⟨d,s⟩);exact .inl d)]
   exact h.nums b q f hi
 ·by_cases e:j=k
  ·subst e;exact ⟨p,fun _=>⟨l.lt,v⟩⟩
  ·obtain ⟨G,I⟩:=h.done j A (by omega)
   refine ⟨G,fun h3=>?_⟩
   have g:=x _ (yJ A)
   by_cases e:X[j].b=X[k].b∧X[j].o+1=X[k].o+1
   ·obtain ⟨i,d⟩:=e
    have d:X[j].o=X[k].o:=by omega
    have H:EL X[j].to=EL X[k].to:=by rw[<-g.cat,<-l.cat,i,d]
    have r:X[j].name=X[k].name:=by
     have h1:=g.name
     rw[i,d,l.name] at h1
     exact (Value.string.inj (yi h1)).symm
    refine ⟨g.lt,?_⟩
    rw[i,d,H,r];exact v
   ·rw[a _ _ (by by_cases d:X[j].b=X[k].b;exact .inr (fun s=>e ⟨d,s⟩);exact .inl d)]
    exact I h3
end
section
variable{W:World}{g:Nat}
theorem Qq(h:Ty W g 66)(i:Nat):F4 W g (i*51+1)=if i=0 then 0 else 6:=by
 have e:FD 66 (i*51+1+1)=2:=by rw[zS,(Da BU i (1+1)).1];rfl
 unfold F4
 rw[E2 h,e,yq (by decide),yw rfl]
 by_cases hi:i=0
 ·subst hi;rfl
 ·rw[yq hi,yq (by omega)]
theorem Vg(h:Ty W g 94)(i:Nat):F4 W g (i*12+1)=4:=by
 have e:FD 94 (i*12+1+1)=2:=by rw[zS,(Da Fg i (1+1)).1];rfl
 unfold F4
 rw[E2 h,e,yq (by decide),yq (by decide),yw rfl,yw (by omega)]
theorem Sv(h:Ty W g 94)(i:Nat){r:Bool}(hr:W.cell? ⟨g,i*12+3,none⟩=some (.bool r)):F4 W g (i*12+10)=if r then 0 else 3:=by
 have e:FD 94 (i*12+10+1)=2:=by rw[zS,(Da Fg i (10+1)).1];rfl
 unfold F4
 rw[E2 h,e,yq (by decide),yq (by decide),yw rfl,yq (by omega),show i*12+10 - 7=i*12+3 by omega,hr]
theorem TS(h:Ty W g 109)(i:Nat):F4 W g (i*23+1)=4:=by
 have e:FD 109 (i*23+1+1)=2:=by rw[zS,(Da FE i (1+1)).1];rfl
 unfold F4
 rw[E2 h,e,yq (by decide),yq (by decide),yq (by decide),yw rfl]
theorem Sw(h:Ty W g 158)(i:Nat):F4 W g (i*8)=5:=by
 have e:FD 158 (i*8+1)=2:=by rw[(Da KZ i 1).1];rfl
 unfold F4
 rw[E2 h,e,yq (by decide),yq (by decide),yq (by decide),yq (by decide),yw rfl]
theorem Vh(h:Ty W g 131)(i:Nat):F4 W g (i*37+2)=5:=by
 have e:FD 131 (i*37+2+1)=2:=by rw[zS,(Da BV i (2+1)).1];rfl
 unfold F4
 rw[E2 h,e,yq (by decide),yq (by decide),yq (by decide),yq (by decide),yq (by decide),yw rfl,yw (by omega)]
theorem Vi(h:Ty W g 131)(i:Nat){k:IntKind}{z:Int}(hr:W.cell? ⟨g,i*37,none⟩=some (.int k z)):F4 W g (i*37+4)=if z=1 then 0 else 4:=by
 have e:FD 131 (i*37+4+1)=2:=by rw[zS,(Da BV i (4+1)).1];rfl
 unfold F4
 rw[E2 h,e,yq (by decide),yq (by decide),yq (by decide),yq (by decide),yq (by decide),yw rfl,yq (by omega),show i*37+4 - 4=i*37 by omega,hr]
theorem Vj(h:Ty W g 135)(i:Nat):F4 W g (i*11+1)=5:=by
 have e:FD 135 (i*11+1+1)=2:=by rw[zS,(Da Gx i (1+1)).1];rfl
 unfold F4
 rw[E2 h,e,yq (by decide),yq (by decide),yq (by decide),yq (by decide),yq (by decide),yq (by decide),yw (by omega)]
theorem Vk(h:Ty W g 135)(i:Nat):F4 W g (i*11+3)=4:=by
 have e:FD 135 (i*11+3+1)=2:=by rw[zS,(Da Gx i (3+1)).1];rfl
 unfold F4
 rw[E2 h,e,yq (by decide),yq (by decide),yq (by decide),yq (by decide),yq (by decide),yq (by decide),yq (by omega)]
theorem Rv{o:Nat}(h:Gw W g o){k:IntKind}{op:Int}(hr:W.cell? ⟨g,o,none⟩=some (.int k op)):F4 W g (o+3)=if op=2 then 1 else 0:=by
 obtain ⟨t,ty,a⟩:=h
 have e:FD t (o+3+1)=1:=(a 4 (by omega)).1
 unfold F4
 rw[E2 ty,e,yw rfl,show o+3 - 3=o by omega,hr]
theorem L7(h:Ty W g 26)(i:Nat):Gw W g (i*6):=
 ⟨_,h,fun j a=>⟨by simp[FD],by simp only[G9];simp;omega⟩⟩
end
section
variable{B:Nat}{W:World}{M:NP}
theorem F5{to at_:Int}{r:Rf}{b o:Nat}(c:B<=b)(hr:RV W to r b o)(a:Qa W b o)(d:F4 W b o=EL to)(e:to=0∨to=1∨to=2∨to=3∨to=4∨to=5∨to=6):O4 B W ⟨b,o,to,at_,r.name,r.n⟩:=by
 obtain ⟨t,ty,h1,h2⟩:=a
 refine ⟨c,⟨t,ty,.inl h2,?_⟩,hr.2.1,hr.1,hr.2.2,d,e⟩
 rintro (h|h)
 ·rw[h1] at h;cases h
 ·rw[h1] at h;cases h.1
mutual
theorem OE(hM:∀g,M g->B<=g)(lt:Int):∀(e:Ex) (b o:Nat) (cs:LV),B<=b->Ih W M e cs->W.rangeAt b o cs->Gw W b o->∀u∈(C9 W lt e b o).1,O4 B W u
 |.mk op n u rn ri args,b,o,cs,hb,hv,hr,hp=>by
  rw[Ih] at hv
  obtain ⟨a,cap,rfl,h2,h3,p⟩:=hv
  obtain ⟨l,r1,r2,q,j,m⟩:=Br hr
  intro v c
  rw[C9] at c
  by_cases hs:O0 op args.length=true
  ·rw[yw hs,m] at c
   simp only[yO] at c
   rcases c with rfl|c
   ·have k:=Rv hp l
    obtain ⟨t,ty,i⟩:=hp
    have f:=i 3 (by omega);have r:=i 4 (by omega)
    refine ⟨hb,⟨t,ty,.inr r,?_⟩,q,h3,j,?_,?_⟩
    ·rintro (h|h)
     ·simp only at h;rw[f.1] at h;cases h
     ·simp only at h;rw[f.2] at h;exact absurd h.2 (by decide)
    ·simp only;rw[k];unfold M6 EL
     by_cases d:op=2
     ·simp only[d,zU];split<;>simp
     ·simp[d]
    ·simp only;unfold M6
     by_cases d:op=2
     ·simp only[d,zU];split<;>simp
     ·simp[d]
   ·exact OF hM lt args a args.length cap 0 p v c
  ·rw[yq hs] at c;cases c
theorem OF(hM:∀g,M g->B<=g)(lt:Int):∀(l:List Ex) (a:Option Addr) (n cap i:Nat),DM W M a i l->∀u∈(BB W lt l (some (.slice a n cap)) i).1,O4 B W u
 |[],a,n,cap,i,h=>by intro v b;rw[BB] at b;cases b
 |e::r,a,n,cap,i,h=>by
  rw[DM] at h
  obtain ⟨⟨g,cs,rfl,h1,h2,h3,j⟩,f⟩:=h
  have c:=OE hM lt e g (0+i*6) cs (hM g h1) j (by rw[yy];exact h3) (by rw[yy];exact L7 h2 i)
  have d:=OF hM lt r (some ⟨g,0,none⟩) n cap (i+1) f
  intro v b
  rw[BB] at b
  split at b
  ·rcases yv.1 b with b|b
   ·exact c v b
   ·exact d v b
  ·exact c v b
end
theorem J0{u:Us}:∀ {l:List (List Us × Bool)},u∈(BE l).1->∃p∈l,u∈p.1
 |[],h=>by simp[BE] at h
 |x::r,h=>by
  have e:BE (x::r)=if x.2 then (x.1++(BE r).1,(BE r).2) else (x.1,false):=rfl
  rw[e] at h
  split at h
  ·rcases yv.1 h with h|h
   ·exact ⟨x,by simp,h⟩
   ·obtain ⟨p,h1,h2⟩:=J0 h
    exact ⟨p,by simp[h1],h2⟩
  ·exact ⟨x,by simp,h⟩
theorem Rw{α β:Type}{R:α->β->Prop}{f:α->β->List Us × Bool}{P:Us->Prop}(h:∀a b,R a b->∀u∈(f a b).1,P u):∀ {l:List α} {m:List β},AD R l m->∀p∈List.zipWith f l m,∀u∈p.1,P u
 |[],_,_=>by simp
 |_::_,[],_=>by simp
 |a::l,b::m,hA=>by
  rw[AD] at hA
  simp only[qd,xr]
  exact ⟨h a b hA.1,Rw h hA.2⟩
def ID(h:Aw)(l:List AE)(i:Nat):List Us:=match l[i]? with
 |some d=> [⟨(h.at 51 i 1).block,(h.at 51 i 1).off,if i=0 then 0 else 6,i,d.frm.name,d.frm.n⟩]
 |none=> []
def EZ(L:Bt)(x:Ar):List Us:=(List.range L.reaches.n).flatMap (ID L.reaches x.reaches)
def CF(W:World)(L:Bt)(x:Ar):List Us:=EZ L x++(BS W L x).1
theorem Rx{N:NP}{L:Bt}{x:Ar}(hN:∀g,N g->B<=g)(hM:∀g,M g->B<=g)(hs:N L.s)(h:Cb N (ET M W) (RV W) W L x):∀u∈CF W L x,O4 B W u:=by
 intro u d
 rcases yv.1 d with d|d
 ·obtain ⟨i,hi,d⟩:=yX.1 d
  have j:i < x.reaches.length:=by rw[<-h.reaches.1];exact zj.1 hi
  unfold ID at d
  rw[yk j] at d
  simp only[zn] at d
  obtain ⟨g,n,l,ty,_,hr,_⟩:=h.reaches.2.2 i j
  rw[AQ n,yy] at d
  rw[d]
  exact F5 (hN g l) hr (BM ty BU i 1 rfl rfl) (by rw[Qq ty];split<;>rfl) (by split<;>simp)
 ·obtain ⟨p,q,d⟩:=J0 d
  unfold El at q
  rcases yv.1 q with q|q
  ·refine Rw (R:=WM N (ET M W) W) (f:=Cp W) (P:=O4 B W) (fun a e A u d=>?_) (h.all2 hs) p q u d
   obtain ⟨b,o,rfl,hb,t,c,w,y⟩:=A
   unfold Cp at d
   split at d
   ·cases d
   ·exact OE hM e.2 e.1 b o c (hN b hb) y w t u d
  ·simp only[zn] at q
   rw[q] at d
   simp only at d
   split at d
   ·unfold Ce at d
    simp only[yv] at d
    rcases d with ((d|d)|d)|d
    ·obtain ⟨i,hi,d⟩:=yX.1 d
     have j:i < x.farms.length:=by rw[<-h.farms.1];exact zj.1 hi
     obtain ⟨g,n,l,ty,_,hr,C,_,m⟩:=h.farms.2.2 i j
     unfold Ef at d
     rw[yk j] at d
     simp only[CZ,AQ n,yy,yO,za,zP] at d
     rcases d with rfl|rfl
     ·exact F5 (hN g l) hr (BM ty Fg i 1 rfl rfl) (by rw[Vg ty];rfl) (by simp)
     ·exact F5 (hN g l) m (BM ty Fg i 10 rfl rfl) (by rw[Sv ty i C];split<;>rfl) (by split<;>simp)
    ·obtain ⟨i,hi,d⟩:=yX.1 d
     have j:i < x.rots.length:=by rw[<-h.rots.1];exact zj.1 hi
     obtain ⟨g,n,l,ty,_,hr,_,_,_,_,_,z⟩:=h.rots.2.2 i j
     unfold Gu at d
     rw[yk j] at d
     simp only[CZ,AQ n,yy,yO] at d
     rcases d with rfl|d
     ·exact F5 (hN g l) hr (BM ty FE i 1 rfl rfl) (by rw[TS ty];rfl) (by simp)
     ·obtain ⟨k,v,d⟩:=yX.1 d
      have r:k < (x.rots[i]).turns.length:=by rw[<-z.1];exact zj.1 v
      obtain ⟨g,n,l,ty,hr,_⟩:=z.2.2 k r
      unfold F2 at d
      rw[yk r] at d
      simp only[CZ,AQ n,yy,qu,zn] at d
      rw[d]
      exact F5 (hN g l) hr (MG ty KZ k rfl rfl) (by rw[Sw ty];rfl) (by simp)
    ·obtain ⟨i,hi,d⟩:=yX.1 d
     have j:i < x.rights.length:=by rw[<-h.rights.1];exact zj.1 hi
     obtain ⟨g,n,l,ty,v,_,hr,m,_⟩:=h.rights.2.2 i j
     unfold CP at d
     rw[yk j] at d
     simp only[CZ,AQ n,yy,yO,za,zP] at d
     rcases d with rfl|rfl
     ·exact F5 (hN g l) hr (BM ty BV i 2 rfl rfl) (by rw[Vh ty];rfl) (by simp)
     ·exact F5 (hN g l) m (BM ty BV i 4 rfl rfl) (by rw[Vi ty i v];split<;>rfl) (by split<;>simp)
    ·obtain ⟨i,hi,d⟩:=yX.1 d
     have j:i < x.duties.length:=by rw[<-h.duties.1];exact zj.1 hi
     obtain ⟨g,n,l,ty,_,hr,m,_⟩:=h.duties.2.2 i j
     unfold DZ at d
     rw[yk j] at d
     simp only[CZ,AQ n,yy,yO,za,zP] at d
     rcases d with rfl|rfl
     ·exact F5 (hN g l) hr (BM ty Gx i 1 rfl rfl) (by rw[Vj ty];rfl) (by simp)
     ·exact F5 (hN g l) m (BM ty Gx i 3 rfl rfl) (by rw[Vk ty];rfl) (by simp)
   ·cases d
end
section
variable{B:Nat}{W W':World}{N M:NP}{L:Bt}{x:Ar}{t:Tb}{X:List Us}{k:Nat}{O:NP}
def CR(B:Nat)(W:World)(p:Addr):Prop:=∃b q,p=⟨b,q,none⟩∧b < W.heap.size∧¬ IC B W b q
def DR(W:World)(p:Addr):Prop:=∃b q,p=⟨b,q,none⟩∧b < W.heap.size∧∃z,W.cell? ⟨b,q,none⟩=some (.int .i64 z)
theorem RJ.hd(h:RJ B W t X k O W'):Xp W (CR B W) (DR W) W':=by
 constructor
 ·rintro p ⟨b,q,rfl,h1,h2⟩;exact h.cells b q h1 h2
 ·rintro p ⟨b,q,rfl,h1,h2⟩
  by_cases a:IC B W b q
  ·exact h.nums b q a h2
  ·rw[h.cells b q h1 a];exact h2
theorem Qr{b q ty:Nat}(h:Ty W b ty)(c:¬ WZ ty q):¬ IC B W b q:=by
 rintro ⟨_,o,a,rfl,h1,h2,_⟩
 obtain rfl:=h.inj h1
 exact c h2
theorem Ge{b q:Nat}(h:Oo W b q):¬ IC B W b q:=by
 obtain ⟨ty,h1,h2⟩:=h
 exact Qr h1 (by rintro (h|h);rw[h2] at h;cases h;rw[h2] at h;cases h.1)
theorem Fk{b o:Nat}(h:Gw W b o){j:Nat}(a:j < 6)(c:j≠4):¬ IC B W b (o+j):=by
 obtain ⟨ty,h1,h2⟩:=h
 refine Qr h1 ?_
 rintro (h|h)
 ·rw[(h2 j a).1] at h;cases h
 ·rw[(h2 j a).2] at h;exact c h.2
theorem L8{b o:Nat}(h:Gw W b o){d:IntKind}{op:Int}(hr:W.cell? ⟨b,o,none⟩=some (.int d op))(h2:op≠2):¬ IC B W b (o+4):=by
 rintro ⟨_,c,a,e,h1,_,h3⟩
 obtain rfl:c=o+3:=by omega
 rw[Rv h hr,yq h2] at h3
 exact h3 rfl
mutual
theorem TT:∀(e:Ex) (b o:Nat) (cs:LV),Ih W M e cs->W.rangeAt b o cs->Gw W b o->Sg W (CR B W) e b o
 |.mk op n u rn ri args,b,o,cs,hv,hr,hp=>by
  rw[Ih] at hv
  obtain ⟨a,cap,rfl,h2,h3,c⟩:=hv
  obtain ⟨d,r1,r2,g,h,f⟩:=Br hr
  rw[Sg]
  exact ⟨a,cap,⟨d,_,_,rfl,hp.lt,Fk (j:=0) hp (by omega) (by omega)⟩,⟨f,_,_,rfl,hp.lt,Fk hp (by omega) (by omega)⟩,h2,Ry args a 0 c⟩
theorem Ry:∀(l:List Ex) (a:Option Addr) (i:Nat),DM W M a i l->Kd W (CR B W) a i l
 |[],a,i,h=>by rw[Kd];trivial
 |e::r,a,i,h=>by
  rw[DM] at h
  rw[Kd]
  obtain ⟨⟨g,cs,rfl,h1,h2,h3,c⟩,b⟩:=h
  exact ⟨⟨g,0,rfl,by rw[yy];exact TT e g (i*6) cs c h3 (L7 h2 i)⟩,Ry r _ (i+1) b⟩
end
theorem FF{f:Nat->List Us}{c:Nat}(n:Nat)(h:∀i,(f i).length<=c):((List.range n).flatMap f).length<=n*c:=by
 induction n with
 |zero=>simp
 |succ n ih=>rw[Ak,yn,Nat.succ_mul];have:=h n;omega
theorem OG{f:Nat->List Us}{c:Nat}(n:Nat)(h:∀i,i < n->(f i).length<=c):((List.range n).flatMap f).length<=n*c:=by
 induction n with
 |zero=>simp
 |succ n ih=>rw[Ak,yn,Nat.succ_mul];have:=h n (by omega);have:=ih (fun i hi=>h i (by omega));omega
theorem Fl(h:Bn x=true):x.lets.length<=64∧x.crops.length<=32∧x.reaches.length<=64∧x.farms.length<=600∧x.rots.length<=64∧x.rights.length<=256∧x.duties.length<=256∧(∀d∈x.rots,d.turns.length<=64)∧∀e∈As x,At e.1<=8:=by
 unfold Bn JT G4 Em at h
 simp only[yE,yT,yW] at h
 obtain ⟨⟨h1,h2,h3,i,g,f,b⟩,c,a⟩:=h
 exact ⟨h1,h2,h3,i,g,f,b,c,a⟩
theorem OH(h:x.lets.length<=64):∀e∈As x,0<=e.2∧e.2<=1000000:=by
 intro e b
 unfold As Ff H9 EH Ha IT Ek FB FC at b
 simp only[yv,yO,za,zP,yX,Prod.exists] at b
 rcases b with (rfl|rfl|rfl)|⟨d,i,a,rfl⟩|⟨d,i,a,rfl⟩|⟨d,i,a,rfl|rfl|rfl|rfl|rfl|rfl|rfl|rfl⟩|⟨d,i,a,rfl⟩|⟨d,i,a,(rfl|rfl|rfl)|⟨g,f,c,rfl⟩⟩|⟨d,i,a,rfl|rfl|rfl|rfl|rfl⟩|⟨d,i,a,rfl⟩
 all_goals first|exact ⟨by omega,by omega⟩|skip
 have:=List.mem_zipIdx a
 simp only
 omega
theorem OI(h:Cb N (ET M W) (RV W) W L x)(b:Bn x=true):(Ce L x).length<=1000000:=by
 obtain ⟨f,o,j,g,m,q,r,c,_⟩:=Fl b
 unfold Ce
 simp only[yn]
 have l:((List.range L.farms.n).flatMap (Ef L.farms x.farms)).length<=L.farms.n*2:=FF _ fun i=>by unfold Ef;split<;>simp
 have s:((List.range L.rots.n).flatMap (Gu L x.rots)).length<=L.rots.n*66:=OG _ fun i hi=>by
  have a:i < x.rots.length:=by rw[<-h.rots.1];exact hi
  obtain ⟨_,_,_,_,_,_,_,_,_,_,_,e⟩:=h.rots.2.2 i a
  have d:((List.range (A2 L i).n).flatMap (F2 (A2 L i) (x.rots[i]).turns)).length<=(A2 L i).n*1:=FF _ fun k=>by unfold F2;split<;>simp
  have:=c _ (yJ a)
  have:=e.1
  unfold Gu
  rw[yk a]
  simp only[yz]
  omega
 have d:((List.range L.rights.n).flatMap (CP L.rights x.rights)).length<=L.rights.n*2:=FF _ fun i=>by unfold CP;split<;>simp
 have p:((List.range L.duties.n).flatMap (DZ L.duties x.duties)).length<=L.duties.n*2:=FF _ fun i=>by unfold DZ;split<;>simp
 have:=h.farms.1;have:=h.rots.1;have:=h.rights.1;have:=h.duties.1
 omega
theorem TU(hs:N L.s)(h:Cb N (ET M W) (RV W) W L x){Bu:Nat}(r:Bu < W.heap.size)(p:W.cell? ⟨Bu,0,none⟩=some (.pointer (some ⟨L.s,0,none⟩)))(t:Bn x=true):KP M W (CR B W) (DR W) Bu L x:=by
 have k:∀ {hd:Aw} {g sz i n:Nat},hd.a=some (aV g 0)->hd.at sz i n=(aV g (i*sz+n)):=fun l=>by rw[AQ l,yy]
 refine ⟨h.ok,h.heads (fun _ _ _=>rfl) p,⟨Bu,0,rfl,r,?_⟩,fun j h1 h2=>⟨L.s,j,rfl,h.ty.lt,Qr h.ty ?_⟩,fun i hi=>?_,fun i hi=>?_,fun i hi=>?_,?_,h.farms.1,h.rots.1,fun i hi=>?_,h.rights.1,h.duties.1,OH (Fl t).1,OI h t⟩
 ·rintro ⟨_,o,ty,e,_⟩;omega
 ·have:j=19∨j=20∨j=21∨j=22∨j=23∨j=24∨j=25:=by omega
  rcases this with rfl|rfl|rfl|rfl|rfl|rfl|rfl<;>(intro z;revert z;unfold WZ;decide)
 ·obtain ⟨g,l,u,ty,_⟩:=h.rots.2.2 i (by rw[<-h.rots.1];exact hi)
  rw[k l]
  exact ⟨_,_,rfl,ty.lt,Ge (DF ty FE i 22 rfl)⟩
 ·obtain ⟨g,l,u,ty,_,_,m,_⟩:=h.farms.2.2 i hi
  rw[k l]
  exact ⟨⟨_,_,rfl,ty.lt,Ge (DF ty Fg i 3 rfl)⟩,m⟩
 ·obtain ⟨g,l,u,ty,m,_⟩:=h.rights.2.2 i hi
  rw[k l]
  exact ⟨⟨_,_,rfl,ty.lt,Ge (DF ty BV i 0 rfl)⟩,m⟩
 ·refine AD.mono (fun a e w=>?_) (h.all2 hs)
  obtain ⟨b,o,rfl,hb,d,c,f,q⟩:=w
  have hr:=TT (B:=B) e.1 b o c q f d
  have m:=q.exV (N:=M) (fun _ h _=>h)
  obtain ⟨a,cap,rfl,D,G,C⟩:=m.cells
  obtain ⟨y,r1,r2,F,v,E⟩:=Br f
  exact ⟨b,o,_,rfl,f,m,hr,⟨_,_,rfl,d.lt,Fk d (by omega) (by omega)⟩,⟨_,_,rfl,d.lt,Fk d (by omega) (by omega)⟩,⟨_,_,rfl,d.lt,Fk d (by omega) (by omega)⟩,⟨_,_,rfl,d.lt,_,v⟩,
   fun h0=>⟨_,_,rfl,d.lt,L8 d y (by rw[h0];decide)⟩⟩
 ·obtain ⟨_,_,_,_,_,_,_,_,_,_,_,A⟩:=h.rots.2.2 i hi
  exact A.1
end
section
variable{B:Nat}{W W':World}{N M:NP}{E:Int->Ex->Nat->Nat->Prop}{R:Int->Rf->Nat->Nat->Prop}{L:Bt}{x:Ar}{t:Tb}{X:List Us}{O:NP}
theorem J1:∀ {l:List (List Us × Bool)},(BE l).2=true->∀p∈l,p.2=true∧∀u∈p.1,u∈(BE l).1
 |[],_=>by simp
 |y::r,h=>by
  have e:BE (y::r)=if y.2 then (y.1++(BE r).1,(BE r).2) else (y.1,false):=rfl
  rw[e] at h ⊢
  by_cases h1:y.2=true
  ·rw[yw h1] at h ⊢
   have ih:=J1 h
   intro p a
   rcases yO.1 a with rfl|a
   ·exact ⟨h1,fun u b=>yv.2 (.inl b)⟩
   ·exact ⟨(ih p a).1,fun u b=>yv.2 (.inr ((ih p a).2 u b))⟩
  ·rw[yq h1] at h;cases h
theorem MS{α β γ:Type}{R R':α->β->Prop}{f:α->β->γ}{Q:γ->Prop}(h:∀a b,R a b->Q (f a b)->R' a b):∀ {l:List α} {m:List β},AD R l m->(∀p∈List.zipWith f l m,Q p)->AD R' l m
 |[],[],_,_=>trivial
 |a::l,b::m,hA,hq=>by
  rw[AD] at hA
  simp only[qd,xr] at hq
  exact ⟨h a b hA.1 hq.1,MS h hA.2 hq.2⟩
 |[],_::_,hA,_=>by simp[AD] at hA
 |_::_,[],hA,_=>by simp[AD] at hA
def X0(W:World)(X:List Us)(M:NP)(lt:Int)(e:Ex)(b o:Nat):Prop:=ET M W lt e b o∧(Bv e=false->(C9 W lt e b o).2=true∧∀u∈(C9 W lt e b o).1,u∈X)
def X1(X:List Us)(R:Int->Rf->Nat->Nat->Prop)(to:Int)(r:Rf)(b o:Nat):Prop:=R to r b o∧∃at_,(⟨b,o,to,at_,r.name,r.n⟩:Us)∈X
theorem Cb.linkE(h:Cb N (ET M W) R W L x)(hs:N L.s)(g:(BS W L x).2=true)(m:∀u∈(BS W L x).1,u∈X):Cb N (X0 W X M) R W L x:=by
 have n:=J1 g
 refine h.told (MS (f:=Cp W) (Q:=fun p=>p.2=true∧∀u∈p.1,u∈X) (fun a e k c=>?_) (h.all2 hs) (fun p d=>?_))
 ·obtain ⟨b,o,rfl,hb,d,j⟩:=k
  refine ⟨b,o,rfl,j,fun l=>?_⟩
  unfold Cp at c
  rw[l] at c
  exact c
 ·obtain ⟨h1,h2⟩:=n p (yv.2 (.inl d))
  exact ⟨h1,fun u i=>m u (h2 u i)⟩
theorem Cj{f:Nat->List Us}{n i:Nat}{u:Us}(hi:i < n)(a:u∈f i):u∈(List.range n).flatMap f:=yX.2 ⟨i,zj.2 hi,a⟩
theorem Cb.linkR(h:Cb N E R W L x)(t:∀u∈EZ L x,u∈X)(l:∀u∈Ce L x,u∈X):Cb N E (X1 X R) W L x:=by
 have c:∀ {hd:Aw} {g sz i j:Nat},hd.a=some (aV g 0)->hd.at sz i j=(aV g (i*sz+j)):=fun b=>by rw[AQ b,yy]
 have p:∀u∈(List.range L.farms.n).flatMap (Ef L.farms x.farms),u∈X:=fun u f=>l u (by unfold Ce;simp only[yv];exact .inl (.inl (.inl f)))
 have r:∀u∈(List.range L.rots.n).flatMap (Gu L x.rots),u∈X:=fun u f=>l u (by unfold Ce;simp only[yv];exact .inl (.inl (.inr f)))
 have q:∀u∈(List.range L.rights.n).flatMap (CP L.rights x.rights),u∈X:=fun u f=>l u (by unfold Ce;simp only[yv];exact .inl (.inr f))
 have s:∀u∈(List.range L.duties.n).flatMap (DZ L.duties x.duties),u∈X:=fun u f=>l u (by unfold Ce;simp only[yv];exact .inr f)
 refine ⟨h.ty,h.name,h.season,h.cap,h.start,h.hlets,h.hcrops,h.hreaches,h.hfarms,h.hrots,h.hrights,h.hduties,h.lets,h.crops,⟨h.reaches.1,h.reaches.2.1,fun i hi=>?_⟩,⟨h.farms.1,h.farms.2.1,fun i hi=>?_⟩,⟨h.rots.1,h.rots.2.1,fun i hi=>?_⟩,⟨h.rights.1,h.rights.2.1,fun i hi=>?_⟩,⟨h.duties.1,h.duties.2.1,fun i hi=>?_⟩⟩
 ·obtain ⟨g,b,d,ty,h1,hr,h2⟩:=h.reaches.2.2 i hi
  refine ⟨g,b,d,ty,h1,⟨hr,⟨i,t _ (Cj (by rw[h.reaches.1];exact hi) ?_)⟩⟩,h2⟩
  unfold ID;rw[yk hi];simp[c b]
 ·obtain ⟨g,b,d,ty,h1,hr,h2,h3,e⟩:=h.farms.2.2 i hi
  refine ⟨g,b,d,ty,h1,⟨hr,⟨0,p _ (Cj (by rw[h.farms.1];exact hi) ?_)⟩⟩,h2,h3,⟨e,⟨0,p _ (Cj (by rw[h.farms.1];exact hi) ?_)⟩⟩⟩
  ·unfold Ef;rw[yk hi];simp[c b,CZ]
  ·unfold Ef;rw[yk hi];simp[c b,CZ]
 ·obtain ⟨g,b,d,ty,h1,hr,h2,h3,w,v,y,m⟩:=h.rots.2.2 i hi
  refine ⟨g,b,d,ty,h1,⟨hr,⟨0,r _ (Cj (by rw[h.rots.1];exact hi) ?_)⟩⟩,h2,h3,w,v,y,m.1,m.2.1,fun k o=>?_⟩
  ·unfold Gu;rw[yk hi];simp[c b,CZ]
  ·obtain ⟨g,b,d,ty,hr,h1⟩:=m.2.2 k o
   refine ⟨g,b,d,ty,⟨hr,⟨0,r _ (Cj (i:=i) (by rw[h.rots.1];exact hi) ?_)⟩⟩,h1⟩
   unfold Gu;rw[yk hi]
   refine yO.2 (.inr (Cj (i:=k) (by rw[m.1];exact o) ?_))
   unfold F2;rw[yk o];simp[c b,CZ]
 ·obtain ⟨g,b,d,ty,h0,h1,hr,e,h2⟩:=h.rights.2.2 i hi
  refine ⟨g,b,d,ty,h0,h1,⟨hr,⟨0,q _ (Cj (by rw[h.rights.1];exact hi) ?_)⟩⟩,⟨e,⟨0,q _ (Cj (by rw[h.rights.1];exact hi) ?_)⟩⟩,h2⟩
  ·unfold CP;rw[yk hi];simp[c b,CZ]
  ·unfold CP;rw[yk hi];simp[c b,CZ]
 ·obtain ⟨g,b,d,ty,h1,hr,e,h2⟩:=h.duties.2.2 i hi
  refine ⟨g,b,d,ty,h1,⟨hr,⟨0,s _ (Cj (by rw[h.duties.1];exact hi) ?_)⟩⟩,⟨e,⟨0,s _ (Cj (by rw[h.duties.1];exact hi) ?_)⟩⟩,h2⟩
  ·unfold DZ;rw[yk hi];simp[c b,CZ]
  ·unfold DZ;rw[yk hi];simp[c b,CZ]
theorem RJ.at(h:RJ B W t X X.length O W'){u:Us}(c:u∈X)(h0:u.to≠0):W'.cell? ⟨u.b,u.o+1,none⟩=some (.int .i64 (GN t (EL u.to) u.name)):=by
 obtain ⟨j,a,rfl⟩:=zc.1 c
 exact ((h.done j a a).2 h0).2
theorem OJ(t:Tb)(l:List Ex):(GO t l).length=l.length:=by rw[Nt];simp
mutual
theorem Rz(h:RJ B W t X X.length O W')(lt:Int):∀(e:Ex) (b o:Nat) (cs:LV),Ih W M e cs->W.rangeAt b o cs->Gw W b o->(C9 W lt e b o).2=true->(∀u∈(C9 W lt e b o).1,u∈X)->∃c,W'.rangeAt b o c∧Ih W' M (IB t e) c
 |.mk op n u rn ri args,b,o,cs,hv,hr,hp,ho,hX=>by
  rw[Ih] at hv
  obtain ⟨a,cap,rfl,h2,h3,k⟩:=hv
  obtain ⟨l,r1,r2,r,q,m⟩:=Br hr
  have i:∀j,j < 6->j≠4->W'.cell? ⟨b,o+j,none⟩=W.cell? ⟨b,o+j,none⟩:=fun j s k=>h.cells b _ hp.lt (Fk hp s k)
  rw[C9] at ho hX
  by_cases hs:O0 op args.length=true
  ·rw[yw hs] at ho hX
   rw[m] at ho hX
   simp only[xr] at hX
   have f:=OK h lt args a args.length cap 0 k ho hX.2
   have d:W'.cell? ⟨b,o+4,none⟩=some (.int .i64 (if op=2 then GN t 1 rn else ri)):=by
    by_cases g:op=2
    ·have p:=h.at hX.1 (by simp only[M6,g,zU];split<;>simp)
     rw[yw g]
     simp only[M6,g,zU,zS] at p
     rw[p]
     split<;>rfl
    ·rw[yq g]
     exact (h.cells b _ hp.lt (L8 hp l g)).trans q
   refine ⟨[iV op,iV n,iV u,.string rn,iV (if op=2 then GN t 1 rn else ri),.slice a args.length cap],?_,?_⟩
   ·exact A6 ((i 0 (by omega) (by omega)).trans l) (A6 ((i 1 (by omega) (by omega)).trans r1) (A6 ((i 2 (by omega) (by omega)).trans r2) (A6 ((i 3 (by omega) (by omega)).trans r) (A6 d (BW ((i 5 (by omega) (by omega)).trans m))))))
   ·rw[IB,Ih]
    exact ⟨a,cap,by rw[OJ],by rw[OJ];exact h2,h3,f⟩
  ·rw[yq hs] at ho;cases ho
theorem OK(h:RJ B W t X X.length O W')(lt:Int):∀(l:List Ex) (a:Option Addr) (n cap i:Nat),DM W M a i l->(BB W lt l (some (.slice a n cap)) i).2=true->(∀u∈(BB W lt l (some (.slice a n cap)) i).1,u∈X)->DM W' M a i (GO t l)
 |[],a,n,cap,i,_,_,_=>by rw[GO,DM];trivial
 |e::r,a,n,cap,i,hr,ho,hX=>by
  rw[DM] at hr
  obtain ⟨⟨g,cs,rfl,h1,h2,h3,f⟩,d⟩:=hr
  rw[BB] at ho hX
  by_cases b:(C9 W lt e g (0+i*6)).2=true
  ·rw[yw b] at ho hX
   simp only[yv,or_imp,forall_and] at hX
   obtain ⟨c,c1,c2⟩:=Rz h lt e g (0+i*6) cs f (by rw[yy];exact h3) (by rw[yy];exact L7 h2 i) b hX.1
   rw[yy] at c1
   rw[GO,DM]
   exact ⟨⟨g,c,rfl,h1,h.tyT h2,c1,c2⟩,OK h lt r (some ⟨g,0,none⟩) n cap (i+1) d ho hX.2⟩
  ·rw[yq b] at ho;cases ho
end
theorem Sx{e:Ex}(h:Bv e=true):e.op=0∧e.args=[]:=by
 unfold Bv DC at h
 simp only[yE,yT] at h
 exact ⟨h.1,List.eq_nil_of_length_eq_zero h.2.2.2.2⟩
theorem TV(h:RJ B W t X X.length O W'){lt:Int}{e:Ex}{b o:Nat}(r:Bv e=true)(q:ET M W lt e b o)(f:Gw W b o):ET M W' lt e b o:=by
 obtain ⟨c,hr,g⟩:=q
 obtain ⟨m,i⟩:=Sx r
 cases e with
 |mk op n u rn ri args=>
 simp only[Ex.op,Ex.args] at m i
 subst i
 rw[Ih] at g
 obtain ⟨a,cap,rfl,h2,h3,l⟩:=g
 obtain ⟨k,r1,r2,v,p,s⟩:=Br hr
 have d:∀j,j < 6->j≠4->W'.cell? (aV b (o+j))=W.cell? (aV b (o+j)):=fun j w l=>h.cells b _ f.lt (Fk f w l)
 refine ⟨_,A6 ((d 0 (by omega) (by omega)).trans k) (A6 ((d 1 (by omega) (by omega)).trans r1) (A6 ((d 2 (by omega) (by omega)).trans r2) (A6 ((d 3 (by omega) (by omega)).trans v) (A6 ((h.cells b _ f.lt (L8 f k (by rw[m];decide))).trans p) (BW ((d 5 (by omega) (by omega)).trans s)))))),?_⟩
 rw[Ih]
 exact ⟨a,cap,rfl,h2,h3,by rw[DM];trivial⟩
theorem Sy(hN:∀g,N g->B<=g)(hM:∀g,M g->B<=g)(hs:N L.s)(h:Cb N (ET M W) (RV W) W L x)(d:RJ B W t (CF W L x) (CF W L x).length O W')(n:(BS W L x).2=true):Cb N (ET M W') (RV W') W' L (x.mp (fT t) (gT t)):=by
 have q:Ca x=true:=by
  have:=J1 n (if Ca x then Ce L x else [],Ca x) (yv.2 (.inr (by simp)))
  exact this.1
 have f:∀u∈Ce L x,u∈CF W L x:=fun u j=>yv.2 (.inr ((J1 n (if Ca x then Ce L x else [],Ca x) (yv.2 (.inr (by simp)))).2 u (by rw[yw q];exact j)))
 refine ((h.linkE (X:=CF W L x) hs n (fun u j=>yv.2 (.inr j))).linkR (X:=CF W L x) (fun u j=>yv.2 (.inl j)) f).map (fun b ty _ h=>d.tyT h) (fun b o _ h=>d.cells b o h.lt (Ge h)) (fun lt e b o _ i l=>?_) (fun to r b o _ i hr=>?_)
 ·obtain ⟨l,a⟩:=l
  unfold fT
  by_cases m:Bv e=true
  ·rw[yw m];exact TV d m l i
  ·rw[yq m]
   obtain ⟨y,v⟩:=a (by simpa using m)
   obtain ⟨c,c1,c2⟩:=l
   exact Rz d lt e b o c c2 c1 i y v
 ·obtain ⟨hr,a⟩:=hr
  have k:¬ IC B W b o:=by
   obtain ⟨ty,w,z,_⟩:=i
   exact Ge ⟨ty,w,z⟩
  unfold gT
  by_cases h0:to=0
  ·rw[yw h0]
   refine ⟨hr.1,(d.cells b o i.lt k).trans hr.2.1,(d.cells b _ i.lt ?_).trans hr.2.2⟩
   obtain ⟨at_,p⟩:=a
   exact (Rx hN hM hs h _ p).notNum h0
  ·rw[yq h0]
   obtain ⟨at_,p⟩:=a
   exact ⟨hr.1,(d.cells b o i.lt k).trans hr.2.1,d.at p h0⟩
end
end Go.Proofs.YtjofgpfocadomaaGreatDoor
namespace Go.Proofs.YtjofgpfocadomaaGreatDoor
open Go.RowKit
attribute [local go_sem] Oper.semAt_some
def Jv(B:Nat):Deferred:={target:=.fn (.func 43) #[.pointer (some ⟨B+1,0,none⟩),.pointer (some ⟨B+2,0,none⟩)],args:=#[]}
def Jw(D:Nat):Deferred:={target:=.collected D,args:=#[]}
def Qs(B:Nat)(w':World)(cs:LV)(x:Ar):Prop:=∃(L:Bt) (N:NP),cs.length=26∧BH N w' L cs x∧∀b,N b->B<=b∧b < w'.heap.size
def J2(w:World)(x:Ar)(e:Ending)(w':World):Prop:=
 Below w.heap.size w w'∧((AF x≠0∧e=.returned (.tuple #[.agg Dj.toArray,.int .i64 (AF x)]))∨(AF x=0∧∃cs,e=.returned (.tuple #[.agg cs.toArray,.int .i64 0])∧Qs w.heap.size w' cs (Ah x)))
structure Kh (w W:World):Prop where
 below:Below w.heap.size w W
 x:∃row:Array Value,row.size=26∧W.heap[w.heap.size+1]?=some (.cells row 35 (0,0))
 e:∃v:Value,W.heap[w.heap.size+2]?=some (.cells #[v] 40 (0,0))
theorem Kh.up{w W W':World}(h:Kh w W)(hb:Below (w.heap.size+3) W W'):Kh w W':=by
 obtain ⟨row,h1,h2⟩:=h.x
 obtain ⟨v,h3⟩:=h.e
 exact ⟨h.below.trans (hb.mono (by omega)),⟨row,h1,(hb.block _ (by omega)).trans h2⟩,⟨v,(hb.block _ (by omega)).trans h3⟩⟩
def Me(B:Nat)(tm:Array Value):Prop:=tm.getD 2 undef=.pointer (some ⟨B+1,0,none⟩)∧tm.getD 3 undef=.pointer (some ⟨B+2,0,none⟩)
structure L9 (Q:Exit->Act->World->Prop) (w:World) (x:Ar):Prop where
 fail:∀tm W,Me w.heap.size tm->Kh w W->AF x≠0->Q (.panic (ED (AF x))) {tmps:=tm,defers:=[Jv w.heap.size]} W
 failD:∀D tm W,Me w.heap.size tm->Kh w W->AF x≠0->w.heap.size+3<=D->W.heap[D]?=some (.deferred (some []))->Q (.panic (ED (AF x))) {tmps:=tm,defers:=[Jw D,Jv w.heap.size]} W
 done:∀D tm W cs,Me w.heap.size tm->Below w.heap.size w W->W.heap[w.heap.size+1]?=some (.cells cs.toArray 35 (0,0))->W.heap[w.heap.size+2]?=some (.cells #[.int .i64 0] 40 (0,0))->AF x=0->w.heap.size+3<=D->W.heap[D]?=some (.deferred (some []))->
  Qs w.heap.size (W.putObj D (.deferred none)) cs (Ah x)->Q .ret {tmps:=tm,defers:=[Jw D,Jv w.heap.size]} W
theorem OL{W:World}{tm:Array Value}{B:Nat}{cs:LV}{z:Int}(c:Me B tm)(h1:W.heap[B+1]?=some (.cells cs.toArray 35 (0,0)))(a:cs.length=26)(h2:W.heap[B+2]?=some (.cells #[.int .i64 z] 40 (0,0))):
  (results Tryz.f32 tm).run Tryz.prog W=.ok (.tuple #[.agg cs.toArray,.int .i64 z]) W:=by
 obtain ⟨v1,v2⟩:=c
 rw[yB] at v1 v2
 have hr:W.rangeAt (B+1) 0 cs:=by
  have:=zp h1 0 cs.length
  simpa using this
 have b:=run_loadVar_mid (P:=Tryz.prog) W (B+1) 0 35 cs _ hr qY rfl (by rw[a];kernel_rfl)
 have c2:W.cell? (aV (B+2) 0)=some (iV z):=by simp[World.cell?,h2]
 have d:(loadVar 40 (aV (B+2) 0)).run Tryz.prog W=.ok (iV z) W:=by
  have e:(isAgg 40).run Tryz.prog W=.ok false W:=by kernel_rfl
  simp[loadVar,e,go_sem,c2]
 simp[results,Tryz.results32,v1,v2,asAddr,b,d]
theorem JW{w W:World}{x:Ar}{tm:Array Value}(g:Me w.heap.size tm)(d:Kh w W)(h0:AF x≠0):LeavesInM Fence.wide 10 Tryz.prog Tryz.f32 tm (J2 w x) [Jv w.heap.size] (.panicking (ED (AF x))) W:=by
 obtain ⟨row,c,a⟩:=d.x
 obtain ⟨v,f⟩:=d.e
 refine ⟨by simp,.inr ⟨by simp[Fence.wide],_,_,_,_,rfl,by rfl,fun _ _=>trivial,?_⟩⟩
 refine (Md 9 (w.heap.size+1) (w.heap.size+2) (by omega) (AF x) row v W a c f).mono ?_
 rintro e j w' ⟨rfl,rfl,rfl⟩
 have h:((W.setRow (w.heap.size+1) Dj.toArray).setCell (aV (w.heap.size+2) 0) (iV (AF x))).heap[w.heap.size+1]?=some (.cells Dj.toArray 35 (0,0)):=by
  rw[zl _ _ _ _ (by simp)]
  simp[World.setRow,yL,a]
 have i:((W.setRow (w.heap.size+1) Dj.toArray).setCell (aV (w.heap.size+2) 0) (iV (AF x))).heap[w.heap.size+2]?=some (.cells #[iV (AF x)] 40 (0,0)):=by
  have:=zr (W.setRow (w.heap.size+1) Dj.toArray) (w.heap.size+2) 0 #[v] 40 (iV (AF x)) (by simp[World.setRow,yL,f])
  rw[this];rfl
 refine ⟨_,OL g h rfl i,?_,.inl ⟨h0,rfl⟩⟩
 refine d.below.trans ⟨rfl,rfl,rfl,by simp[World.setRow],fun b hb=>?_⟩
 rw[zl _ _ _ _ (by simp;omega)]
 simp only[World.setRow,yL,yq (show ¬ w.heap.size+1=b by omega)]
theorem TW(w:World)(x:Ar):L9 (bodyPostM Fence.wide 10 Tryz.prog Tryz.f32 (J2 w x)) w x:=by
 refine ⟨fun tm W a d h0=>JW a d h0,fun D tm W a d h0 g hd=>?_,fun D tm W cs a hb h1 h2 h0 g hd hs=>?_⟩
 ·refine ⟨by simp,.inl ⟨D,_,rfl,run_takeDeferred hd,JW a (d.up ⟨rfl,rfl,rfl,by simp,fun b hb=>World.putObj_heap_other (by omega)⟩) h0⟩⟩
 ·refine ⟨by simp,.inl ⟨D,_,rfl,run_takeDeferred hd,?_⟩⟩
  refine ⟨by simp,.inr ⟨by simp[Fence.wide],_,_,_,_,rfl,by rfl,fun _ _=>trivial,?_⟩⟩
  refine (TQ 9 _ _ _).mono ?_
  rintro e h w' ⟨rfl,rfl,rfl⟩
  have f:=hs
  obtain ⟨L,N,c,_⟩:=f
  exact ⟨_,OL a ((World.putObj_heap_other (by omega)).trans h1) c ((World.putObj_heap_other (by omega)).trans h2),hb.trans ⟨rfl,rfl,rfl,by simp,fun b hb=>World.putObj_heap_other (by omega)⟩,.inr ⟨h0,cs,rfl,hs⟩⟩
def Xv:Code->Code
 |.seq _ y=>y
 |c=>c
def Gf:Nat->Code->Code
 |0,c=>c
 |k+1,c=>Gf k (Xv c)
end Go.Proofs.YtjofgpfocadomaaGreatDoor
namespace Go.Proofs.YtjofgpfocadomaaGreatDoor
open Go.RowKit
theorem La(s:Nat)(w:World):Calls Tryz.prog 33 #[.pointer (some ⟨s,0,none⟩)] w fun x w'=>x=.returned (.func (.func 70) #[] #[.pointer (some ⟨w.heap.size,0,none⟩)])∧w'=w.alloc (.cells #[.pointer (some ⟨s,0,none⟩)] 85):=by
 have a:∀(fn:Fn) (first cap:Array Value) (w:World),(Instr.makeFunc fn first cap).run Tryz.prog w=.ok (.func fn first cap) w:=fun _ _ _ _=>rfl
 go_enter Tryz.func33,Tryz.ntmps33
 go_wp2
 go_ret
 exact ⟨rfl,rfl⟩
section
variable{B:Nat}{W W':World}{N N' M:NP}{E:Int->Ex->Nat->Nat->Prop}{R:Int->Rf->Nat->Nat->Prop}{L:Bt}{x:Ar}
theorem Cb.ren(h:Cb N E R W L x)(hN:∀g t,N g->Ty W g t->t≠35->t≠40->N' g):Cb N' E R W L x:=by
 refine ⟨h.ty,h.name,h.season,h.cap,h.start,h.hlets,h.hcrops,h.hreaches,h.hfarms,h.hrots,h.hrights,h.hduties,⟨h.lets.1,h.lets.2.1,fun i hi=>?_⟩,⟨h.crops.1,h.crops.2.1,fun i hi=>?_⟩,⟨h.reaches.1,h.reaches.2.1,fun i hi=>?_⟩,⟨h.farms.1,h.farms.2.1,fun i hi=>?_⟩,⟨h.rots.1,h.rots.2.1,fun i hi=>?_⟩,⟨h.rights.1,h.rights.2.1,fun i hi=>?_⟩,⟨h.duties.1,h.duties.2.1,fun i hi=>?_⟩⟩
 ·obtain ⟨g,b,a,ty,h1⟩:=h.lets.2.2 i hi
  exact ⟨g,b,hN g _ a ty (by decide) (by decide),ty,h1⟩
 ·obtain ⟨g,b,a,ty,h1⟩:=h.crops.2.2 i hi
  exact ⟨g,b,hN g _ a ty (by decide) (by decide),ty,h1⟩
 ·obtain ⟨g,b,a,ty,h1⟩:=h.reaches.2.2 i hi
  exact ⟨g,b,hN g _ a ty (by decide) (by decide),ty,h1⟩
 ·obtain ⟨g,b,a,ty,h1⟩:=h.farms.2.2 i hi
  exact ⟨g,b,hN g _ a ty (by decide) (by decide),ty,h1⟩
 ·obtain ⟨g,b,a,ty,h1,h2,h3,f,e,l,j,c⟩:=h.rots.2.2 i hi
  refine ⟨g,b,hN g _ a ty (by decide) (by decide),ty,h1,h2,h3,f,e,l,j,c.1,c.2.1,fun k d=>?_⟩
  obtain ⟨g,b,a,ty,h1⟩:=c.2.2 k d
  exact ⟨g,b,hN g _ a ty (by decide) (by decide),ty,h1⟩
 ·obtain ⟨g,b,a,ty,h1⟩:=h.rights.2.2 i hi
  exact ⟨g,b,hN g _ a ty (by decide) (by decide),ty,h1⟩
 ·obtain ⟨g,b,a,ty,h1⟩:=h.duties.2.2 i hi
  exact ⟨g,b,hN g _ a ty (by decide) (by decide),ty,h1⟩
theorem Lb{b ty:Nat}{v:Value}(h:W.heap[b]?=some (.cells #[v] ty (0,0)))(f:∀k z,v≠.int k z)(a:∀q,FD ty q=1∧G9 ty q=q % 6)(q:Nat):¬ IC B W b q:=by
 rintro ⟨_,o,d,rfl,h1,h2,h3⟩
 have c:Ty W b ty:=⟨_,h⟩
 obtain rfl:=c.inj h1
 apply h3
 unfold F4
 rw[E2 c,(a _).1,yw rfl]
 rcases h2 with h2|h2
 ·rw[(a _).1] at h2;cases h2
 ·rw[(a _).2] at h2
  by_cases e:o - 3=0
  ·rw[e]
   simp only[World.cell?,h]
   simp
   cases v<;>simp_all
  ·have:W.cell? ⟨b,o - 3,none⟩=none:=by
    simp only[World.cell?,h]
    simp;omega
   rw[this]
theorem Ld{b:Nat}(h:∀t,¬ Ty W b t)(q:Nat):¬ IC B W b q:=by
 rintro ⟨_,o,a,rfl,h1,h2,h3⟩
 exact h _ h1
def B9(W:World)(b:Nat)(a:LB):Prop:=∃m,W.heap[b]?=some (.cells #[.map (some m)] 137 (0,0))∧BT W m a
theorem I3{t:Nat}(h:t≠35∧t≠50∧t≠92∧t≠66∧t≠94∧t≠109∧t≠158∧t≠131∧t≠135)(q:Nat):FD t q=1∧G9 t q=q % 6:=by
 obtain ⟨h1,h2,h3,f,e,d,b,c,a⟩:=h
 unfold FD G9
 rw[yq h1,yq h1,yq h2,yq h2,yq h3,yq h3,yq f,yq f,yq e,yq e,yq d,yq d,yq b,yq b,yq c,yq c,yq a,yq a]
 exact ⟨rfl,rfl⟩
theorem B9.read{t:Tb}{X:List Us}{k b:Nat}{O:NP}{d:LB}(h:B9 W b d)(g:RJ B W t X k O W'):∃m e a,W'.cell? ⟨b,0,none⟩=some (.map (some m))∧BT W' m d∧W'.heap[m]?=some (.map e a)∧e.size=d.length:=by
 obtain ⟨m,h1,h2⟩:=h
 have j:W'.heap[b]?=W.heap[b]?:=g.same b (yd.1 h1).1 (Lb h1 (by simp) (I3 (by decide)))
 obtain ⟨e,a,h3,l⟩:=h2.size
 have i:W'.heap[m]?=W.heap[m]?:=g.same m h2.lt (Ld fun t ⟨c,f⟩=>by rw[h3] at f;cases f)
 exact ⟨m,e,a,by simp[World.cell?,j,h1],h2.block i,i.trans h3,l⟩
theorem Le{t:Tb}{X:List Us}{k b ty:Nat}{v:Value}{O:NP}(h:W.heap[b]?=some (.cells #[v] ty (0,0)))(c:∀k z,v≠.int k z)(e:∀q,FD ty q=1∧G9 ty q=q % 6)(d:RJ B W t X k O W'):W'.cell? ⟨b,0,none⟩=some v:=by
 have a:W'.heap[b]?=W.heap[b]?:=d.same b (yd.1 h).1 (Lb h c e)
 simp[World.cell?,a,h]
mutual
theorem Nx(lt:Int):∀(e:Ex) (b o:Nat),∀u∈(C9 W lt e b o).1,u.to≠6
 |.mk op n u rn ri args,b,o=>by
  intro v a
  rw[C9] at a
  by_cases hs:O0 op args.length=true
  ·rw[yw hs] at a
   rcases yO.1 a with rfl|a
   ·simp only;unfold M6;split
    ·split<;>decide
    ·decide
   ·exact RC lt args _ 0 v a
  ·rw[yq hs] at a;cases a
theorem RC(lt:Int):∀(l:List Ex) (a:Option Value) (i:Nat),∀u∈(BB W lt l a i).1,u.to≠6
 |[],a,i=>by intro v d;rw[BB] at d;cases d
 |e::r,a,i=>by
  intro v d
  by_cases f:∃b o n c,a=some (.slice (some ⟨b,o,none⟩) n c)
  ·obtain ⟨b,o,n,c,rfl⟩:=f
   rw[BB] at d
   split at d
   ·rcases yv.1 d with d|d
    ·exact Nx lt e _ _ v d
    ·exact RC lt r _ _ v d
   ·exact Nx lt e _ _ v d
  ·have g:BB W lt (e::r) a i=([],false):=by
    rw[BB]
    intro b o n c h
    exact f ⟨b,o,n,c,h⟩
   rw[g] at d;cases d
end
theorem Vl:∀u∈(BS W L x).1,u.to≠6:=by
 intro u a
 obtain ⟨p,b,a⟩:=J0 a
 unfold El at b
 rcases yv.1 b with b|b
 ·obtain ⟨i,hi,rfl⟩:=zc.1 b
  simp only[DE,List.getElem_zipWith] at a
  unfold Cp at a
  split at a
  ·cases a
  ·exact Nx _ _ _ _ u a
 ·simp only[zn] at b
  rw[b] at a
  simp only at a
  split at a
  ·unfold Ce at a
   simp only[yv] at a
   rcases a with ((a|a)|a)|a
   ·obtain ⟨i,hi,a⟩:=yX.1 a
    unfold Ef at a
    split at a
    ·simp only[CZ,yO,za,zP] at a
     rcases a with rfl|rfl
     ·simp
     ·simp only;split<;>simp
    ·cases a
   ·obtain ⟨i,hi,a⟩:=yX.1 a
    unfold Gu at a
    split at a
    ·simp only[CZ,yO] at a
     rcases a with rfl|a
     ·simp
     ·obtain ⟨k,c,a⟩:=yX.1 a
      unfold F2 at a
      split at a
      ·simp only[CZ,zn] at a
       rw[a];simp
      ·cases a
    ·cases a
   ·obtain ⟨i,hi,a⟩:=yX.1 a
    unfold CP at a
    split at a
    ·simp only[CZ,yO,za,zP] at a
     rcases a with rfl|rfl
     ·simp
     ·simp only;split<;>simp
    ·cases a
   ·obtain ⟨i,hi,a⟩:=yX.1 a
    unfold DZ at a
    split at a
    ·simp only[CZ,yO,za,zP] at a
     rcases a with rfl|rfl<;>simp
    ·cases a
  ·cases a
end
structure Ii (w:World) (x:Ar) (W5:World) (L:Bt) (N M:Nat->Prop) (bl bc br bf Bf Bu:Nat):Prop where
 amid:Kh w W5
 lets:B9 W5 bl (x.lets.map (·.name))
 crops:B9 W5 bc (x.crops.map (·.name))
 reaches:B9 W5 br (x.reaches.map (·.name))
 farms:B9 W5 bf (x.farms.map (·.name))
 find:W5.heap[Bf]?=some (.cells #[.func (.func 68) #[] #[]] 147 (0,0))
 box:W5.heap[Bu]?=some (.cells #[.pointer (some ⟨L.s,0,none⟩)] 85 (0,0))
 ps:Cb N (ET M W5) (RV W5) W5 L x
 hN:∀g,N g->w.heap.size<=g∧g < W5.heap.size
 hM:∀g,M g->w.heap.size+3<=g∧g < W5.heap.size
 hs:N L.s
 ls:L.s=w.heap.size+1
 fits:Bn x=true
 wr:AF x=if CU (Tb.of x) x&&Ci (Tb.of x) x then 0 else 170
section
variable{w W5 W:World}{x:Ar}{L:Bt}{N M:NP}{bl bc br bf Bf Bu k:Nat}{t:Tb}{X:List Us}{O:NP}
theorem RJ.amid(c:Kh w W5)(h:RJ w.heap.size W5 t X k O W):Kh w W:=by
 refine ⟨c.below.trans ⟨h.os,h.tape,h.output,h.size,fun b hb=>h.same b (by have:=c.below.size;omega) (fun q g=>by have:=g.1;omega)⟩,?_,?_⟩
 ·obtain ⟨row,h1,h2⟩:=c.x
  obtain ⟨a,f,d⟩:=h.ty _ _ _ h2
  exact ⟨a,by omega,d⟩
 ·obtain ⟨v,h2⟩:=c.e
  obtain ⟨a,f,d⟩:=h.ty _ _ _ h2
  obtain ⟨v',rfl⟩:∃v',a=#[v']:=by
   have:a.size=1:=f
   exact ⟨a[0],by ext i h1 h2;omega;simp at h2;subst h2;rfl⟩
  exact ⟨v',d⟩
theorem Ii.uok(h:Ii w x W5 L N M bl bc br bf Bf Bu):∀u∈CF W5 L x,O4 w.heap.size W5 u:=Rx (fun g a=>(h.hN g a).1) (fun g a=>by have:=(h.hM g a).1;omega) h.hs h.ps
theorem Ii.uses(h:Ii w x W5 L N M bl bc br bf Bf Bu):KP M W5 (CR w.heap.size W5) (DR W5) Bu L x:=
 TU h.hs h.ps (yd.1 h.box).1 (by simp[World.cell?,h.box]) h.fits
theorem Ii.bad(h:Ii w x W5 L N M bl bc br bf Bf Bu){u:Us}(a:u∈CF W5 L x)(hb:Ju (Tb.of x) u=false):AF x=170:=by
 rw[h.wr]
 rcases yv.1 a with a|a
 ·have:CU (Tb.of x) x=false:=by
   obtain ⟨i,hi,a⟩:=yX.1 a
   have b:i < x.reaches.length:=by rw[<-h.ps.reaches.1];exact zj.1 hi
   unfold ID at a
   rw[yk b] at a
   simp only[zn] at a
   unfold CU
   rw[xu]
   refine ⟨(x.reaches[i],i),zc.2 ⟨i,by simpa using b,by simp⟩,?_⟩
   rw[a] at hb
   unfold Ju at hb
   unfold Nw
   rw[hb];simp
  rw[this];rfl
 ·have:Ci (Tb.of x) x=false:=by
   rw[ym]
   intro c
   have:=((Gd (Tb.of x) h.uses).2 c).2 u a
   rw[hb] at this;cases this
  rw[this];simp
theorem Ii.bad2(h:Ii w x W5 L N M bl bc br bf Bf Bu)(hb:(BS W5 L x).2=false):AF x=170:=by
 rw[h.wr]
 have:Ci (Tb.of x) x=false:=by
  rw[ym]
  intro a
  have:=((Gd (Tb.of x) h.uses).2 a).1
  rw[hb] at this;cases this
 rw[this];simp
theorem Ii.good(h:Ii w x W5 L N M bl bc br bf Bf Bu)(g:RJ w.heap.size W5 (Tb.of x) (CF W5 L x) (CF W5 L x).length O W)(e:(BS W5 L x).2=true):AF x=0:=by
 have a:∀u∈CF W5 L x,Ju (Tb.of x) u=true:=fun u b=>by
  obtain ⟨j,d,rfl⟩:=zc.1 b
  exact (g.done j d d).1
 rw[h.wr,(Gd (Tb.of x) h.uses).1 ⟨e,fun u b=>a u (yv.2 (.inr b))⟩]
 have:CU (Tb.of x) x=true:=by
  unfold CU
  rw[yW]
  intro p f
  obtain ⟨i,hi,rfl⟩:=zc.1 f
  have c:i < x.reaches.length:=by simpa using hi
  have:=a ⟨(L.reaches.at 51 i 1).block,(L.reaches.at 51 i 1).off,if i=0 then 0 else 6,i,x.reaches[i].frm.name,x.reaches[i].frm.n⟩ (yv.2 (.inl (Cj (i:=i) (by rw[h.ps.reaches.1];exact c) (by unfold ID;rw[yk c];simp))))
  rw[qr]
  unfold Ju at this
  simpa[Nw] using this
 rw[this];rfl
theorem Ii.src(h:Ii w x W5 L N M bl bc br bf Bf Bu)(i:RJ w.heap.size W5 (Tb.of x) (CF W5 L x) (CF W5 L x).length O W)(j:(BS W5 L x).2=true):
  ∃cs,cs.length=26∧W.rangeAt L.s 0 cs∧BH (fun g=>w.heap.size<=g∧g < W5.heap.size∧g≠w.heap.size+1∧g≠w.heap.size+2) W L cs (Ah x):=by
 have h1:=Sy (fun g a=>(h.hN g a).1) (fun g a=>by have:=(h.hM g a).1;omega) h.hs h.ps i j
 have f:=i.amid h.amid
 obtain ⟨row,_,n⟩:=f.x
 obtain ⟨v,m⟩:=f.e
 refine Cb.srcV ((h1.imp (E':=EV (fun g=>w.heap.size<=g∧g < W5.heap.size∧g≠w.heap.size+1∧g≠w.heap.size+2) W) (fun _ _ _ h=>h) (fun _ _ _ _=>rfl) (fun lt e b o _ _ l=>?_) (fun _ _ _ _ _ _ h=>h)).ren fun g ty a d n1 n2=>?_)
 ·obtain ⟨c,c1,c2⟩:=l
  exact ⟨c,c1,c2.exV (fun b hb _=>by have:=h.hM b hb;refine ⟨?_,?_,?_,?_⟩<;>omega)⟩
 ·obtain ⟨k,p⟩:=h.hN g a
  refine ⟨k,p,fun e=>?_,fun e=>?_⟩
  ·subst e;exact n1 (d.inj ⟨_,n⟩)
  ·subst e;exact n2 (d.inj ⟨_,m⟩)
end
end Go.Proofs.YtjofgpfocadomaaGreatDoor
namespace Go.Proofs.YtjofgpfocadomaaGreatDoor
open Go.RowKit
attribute [local go_sem] Oper.semAt_some
theorem OM{s:ByteArray}(h:s.toList=[]):s=⟨#[]⟩:=by
 have h1:=(DD s).2 h
 have:s.data.size=0:=h1
 cases s with
 |mk d=>simp only at this;rw[Array.size_eq_zero_iff] at this;rw[this]
theorem TX{l:LB}{s:ByteArray}{i:Nat}(h:D0 l s=some i):i < l.length:=by
 by_cases a:s∈l
 ·obtain ⟨j,h1,h2,_⟩:=Jr a
  rw[h] at h1
  cases h1;exact h2
 ·rw[Gv a] at h;cases h
theorem Gg{t:Tb}{to at_:Int}{r:Rf}(h0:to≠0)(h:Kg t to at_ r=true):∃i:Nat,D0 (t.tab (EL to)) r.name=some i∧GN t (EL to) r.name=i∧(early to=true->(i:Int) < at_)∧i < (t.tab (EL to)).length:=by
 unfold Kg at h
 rw[yq h0] at h
 unfold GN
 cases a:D0 (t.tab (EL to)) r.name with
 |none=>rw[a] at h;cases h
 |some i=>
  rw[a] at h
  refine ⟨i,rfl,rfl,fun b=>?_,TX a⟩
  simpa[b] using h
theorem Gh{t:Tb}{to at_:Int}{r:Rf}(h0:to≠0)(h:Kg t to at_ r=false):∀i:Nat,D0 (t.tab (EL to)) r.name=some i->early to=true∧¬ (i:Int) < at_:=by
 intro i a
 unfold Kg at h
 rw[yq h0,a] at h
 simp only[Bool.or_eq_false_iff,Bool.not_eq_false',decide_eq_false_iff_not] at h
 exact h
theorem FG{m:Nat}{W:World}{b:Array MapEntry}{a:Nat}(h:W.heap[m]?=some (.map b a))(ty:TypeId):(Builtin.len_ #[137] ty #[.map (some m)]).run Tryz.prog W=.ok (.int .i64 (b.size:Int)) W:=by
 simp[Builtin.len_,qj qK,MapKept.run_getObj_map h,goInt,Result.andThen]
theorem X2{Q:QT}{w W W5:World}{x:Ar}{L:Bt}{N M:NP}{bl bc br bf Bf:Nat}(hQ:L9 Q w x)(hC:Ii w x W5 L N M bl bc br bf Bf W.heap.size)
 (e3:RJ w.heap.size W5 (Tb.of x) (CF W5 L x) (EZ L x).length (fun _=>False) (W.alloc (.cells #[.pointer (some ⟨w.heap.size+1,0,none⟩)] 85)))
 (u0 u1 u8 u9 g5 g2 ec ep i7 eg fx el hj hg e1 dy fm f6 e9 gr g3 gj fz dz fy e6 g7 e8 go gw fw e4 hm ff fl hh fi fe ei fv fj gm eu dv gg f9 f8 gn gx g0 f1 ge gk ga dq fh f7 h9 g4 fs gz g6 gq ex dr gl fd fq eb ez em e2 en eo dw f0 gs h8 ew ed f4 ek ft e0 hf dx fp fk ey eh gh e5 g9 b0 bp cz d9 bo ci d5 ap dg dd cm ay cy bn d4 et e7 b4 bv bt ck cn bq ar d8 b7 bu cc bj cj b5 bz be bg bm bb bi di cw az d7 dc c8 d3 cv bw df c9 bh cu db ax de cq aw cg bk ao aq au b8 ba cr bd cp ce d6 av co ct da dh b9 cd:Value):
  FQ 32 Tryz.prog (Gf 20 (Tryz.f32.body.getD .skip)) Q {tmps:=#[u0,u1,.pointer (some ⟨w.heap.size+1,0,none⟩),.pointer (some ⟨w.heap.size+2,0,none⟩),.pointer (some ⟨bl,0,none⟩),.pointer (some ⟨bc,0,none⟩),.pointer (some ⟨br,0,none⟩),.pointer (some ⟨bf,0,none⟩),u8,u9,g5,g2,ec,.pointer (some ⟨Bf,0,none⟩),ep,i7,eg,fx,el,hj,hg,e1,dy,fm,f6,e9,gr,g3,gj,fz,dz,fy,e6,g7,e8,go,gw,fw,e4,hm,ff,fl,hh,fi,fe,ei,fv,fj,gm,eu,dv,gg,f9,f8,gn,gx,g0,f1,ge,gk,ga,dq,fh,f7,h9,g4,fs,gz,g6,gq,ex,dr,gl,fd,fq,eb,ez,em,e2,en,eo,dw,f0,gs,h8,ew,ed,f4,ek,ft,e0,hf,dx,fp,fk,ey,eh,gh,e5,g9,b0,bp,cz,d9,bo,ci,d5,ap,dg,dd,cm,ay,cy,bn,d4,et,e7,b4,bv,bt,ck,cn,bq,ar,d8,b7,bu,cc,bj,cj,b5,bz,be,bg,bm,bb,bi,di,cw,az,d7,dc,c8,d3,cv,bw,df,c9,bh,cu,db,ax,de,cq,aw,cg,bk,ao,aq,au,b8,ba,cr,bd,cp,ce,d6,av,co,ct,da,dh,b9,cd],defers:=[Jv w.heap.size]} W:=by
 have HQ:=yb hQ;have r:=yb hC;have ae:=yb e3
 clear hQ hC e3
 unfold Jv
 refine A9 (A9 (A4 ?_))
 go_wp2_with (first|(go_at_call 33;refine (La _ _).mono ?_;rintro e w2 ⟨rfl,rfl⟩))
 refine De ?_
 refine CK (n:=10) Tryz.func32 rfl (fun _ _=>rfl) (KS 9 (by omega) r.o.uses) (fun a ha=>by
   obtain ⟨u,_,rfl⟩:=xJ.1 ha
   rfl)
  (fun k O V=>RJ w.heap.size W5 (Tb.of x) (CF W5 L x) ((EZ L x).length+k) O V) (fun _ _ _=>False) (fun ch O V=>ch=ED 170∧AF x=170∧∃k,RJ w.heap.size W5 (Tb.of x) (CF W5 L x) k O V)
  (fun k a O V=>RJ w.heap.size W5 (Tb.of x) (CF W5 L x) ((EZ L x).length+k) O V∧∃(ub uo:Nat) (f c:Int) (d:ByteArray) (s:Int) (g:Nat),(BS W5 L x).1[k]?=some ⟨ub,uo,f,c,d,s⟩∧¬ O g∧g < V.heap.size∧V.heap[g]?=some (.cells #[pV ub uo,iV f,iV c] 89 (0,0))∧a={tmps:=#[u0,u1,pV (w.heap.size+1) 0,pV (w.heap.size+2) 0,pV bl 0,pV bc 0,pV br 0,pV bf 0,u8,u9,g5,g2,ec,pV Bf 0,ep,pV g 0,eg,fx,el,hj,hg,e1,dy,fm,f6,e9,gr,g3,gj,fz,dz,fy,e6,g7,e8,go,gw,fw,e4,hm,ff,fl,hh,fi,fe,ei,fv,fj,gm,eu,dv,gg,f9,f8,gn,gx,g0,f1,ge,gk,ga,dq,fh,f7,h9,g4,fs,gz,g6,gq,ex,dr,gl,fd,fq,eb,ez,em,e2,en,eo,dw,f0,gs,h8,ew,ed,f4,ek,ft,e0,hf,dx,fp,fk,ey,eh,gh,e5,g9,b0,bp,cz,d9,bo,ci,d5,ap,dg,dd,cm,ay,cy,bn,d4,.func (.func 70) #[] #[pV W.heap.size 0],.agg #[pV ub uo,iV f,iV c],b4,bv,bt,ck,cn,bq,ar,d8,b7,bu,cc,bj,cj,b5,bz,be,bg,bm,bb,bi,di,cw,az,d7,dc,c8,d3,cv,bw,df,c9,bh,cu,db,ax,de,cq,aw,cg,bk,ao,aq,au,b8,ba,cr,bd,cp,ce,d6,av,co,ct,da,dh,b9,cd],defers:=[]})
  (fun k=>RJ.stays _) (fun _ _ _ _ _ _ h=>h.elim) ?_ ?_ (fun k O V h=>h.hd) (fun _ _ _ h=>h.elim) ?_ ae.o ?_ ?_ ?_ (fun _ _ _ _ _ _ h=>h.elim) ?_
 ·exact fun ch _ O V O' V' h hz ho ht hu hk hO=>⟨h.1,h.2.1,h.2.2.imp fun k h=>RJ.stays k O V O' V' h hz ho ht hu hk hO⟩
 ·rintro a k O V O' V' ⟨h1,ub,uo,f,c,d,s,g,h2,h3,h4,h5,h6⟩ hz ho ht hu hk hO
  exact ⟨RJ.stays _ O V O' V' h1 hz ho ht hu hk hO,ub,uo,f,c,d,s,g,h2,fun h=>(hO g h).elim h3 (fun h=>by omega),by omega,(hk g h3 h4).trans h5,h6⟩
 ·intro ch X O V H
  cases hx:(BS W5 L x).2 with
  |true=>rw[hx] at X;cases X
  |false=>
   rw[hx] at X
   cases X
   exact ⟨rfl,r.o.bad2 hx,_,H⟩
 ·intro k hk O V lo H hO hl ad
  have f5:k < (BS W5 L x).1.length:=by rw[yV] at hk;exact hk
  rw[zH]
  have HU:=yb (yk f5)
  generalize (BS W5 L x).1[k]=u at HU ⊢
  obtain ⟨ub,uo,f,c,d,s⟩:=u
  have P:=yb H;have dj:=yb ad
  clear H hO hl ad hk f5
  unfold Us.v
  simp only
  gi_wp2
  have dm:AN O V (V.alloc (.cells #[pV ub uo,iV f,iV c] 89)):=⟨by simp,fun b hb=>yA _ _ _ (dj.o b hb)⟩
  have a0:RJ w.heap.size W5 (Tb.of x) (CF W5 L x) ((EZ L x).length+k) O (V.alloc (.cells #[pV ub uo,iV f,iV c] 89)):=P.o.below ((yg V.heap.size V).alloc (yf _) _) P.o.size
  have ab:¬ O V.heap.size:=fun h=>qF _ (dj.o _ h)
  first
  |exact ⟨dm,a0,ub,uo,f,c,d,s,V.heap.size,HU.o,ab,by simp,World.alloc_heap_new _ _,rfl⟩
  |(rename_i hK;exact hK _ _ ⟨dm,a0,ub,uo,f,c,d,s,V.heap.size,HU.o,ab,by simp,World.alloc_heap_new _ _,rfl⟩)
  |(rename_i hK _;exact hK _ _ ⟨dm,a0,ub,uo,f,c,d,s,V.heap.size,HU.o,ab,by simp,World.alloc_heap_new _ _,rfl⟩)
  |fail
 ·rintro k hk O V lo a1 hl ej ad ⟨H,ub,uo,f,c,d,s,g,hu,i8,hw,am,rfl⟩
  have hX:(CF W5 L x)[(EZ L x).length+k]?=some ⟨ub,uo,f,c,d,s⟩:=by
   unfold CF
   rw[yN (by omega),xt];exact hu
  have a7:(⟨ub,uo,f,c,d,s⟩:Us)∈CF W5 L x:=zW hX
  have Z:=r.o.uok _ a7
  obtain ⟨c0,⟨z,c1,gi⟩,cf⟩:=H.read Z
  have hy:f=0∨f=1∨f=2∨f=3∨f=4∨f=5:=by
   have h6:=Vl _ (zW hu)
   have h7:=Z.to
   simp only at h6 h7
   omega
  have d0:V.cell? (aV g 0)=some (pV ub uo):=by simp[World.cell?,am]
  have d1:V.cell? (aV g 1)=some (iV f):=by simp[World.cell?,am]
  have d2:V.cell? (aV g 2)=some (iV c):=by simp[World.cell?,am]
  have b13:V.cell? (aV Bf 0)=some (.func (.func 68) #[] #[]):=Le r.o.find (by simp) (I3 (by decide)) H
  obtain ⟨ml,ak,ig,af,dt,U,ee⟩:=r.o.lets.read H
  obtain ⟨mc,an,ik,a8,fo,R,f2⟩:=r.o.crops.read H
  obtain ⟨mr,al,ii,a2,fg,J,eq⟩:=r.o.reaches.read H
  obtain ⟨mf,ag,ij,a6,fu,K,gc⟩:=r.o.farms.read H
  have HX:=yb hX;have F:=yb a7;have ih:=yb Z;have P:=yb H;have B:=yb c1;have E:=yb cf;have l:=yb c0;have i2:=yb gi;have dj:=yb ad
  have ML:=yb dt;have MC:=yb fo;have MR:=yb fg;have MF:=yb fu
  have SL:=yb ee;have SC:=yb f2;have SR:=yb eq;have SF:=yb gc
  have m:Hid (d.size<=maxLen):=yb Z.len
  have y:Hid (∀v,AN O V (V.setCell (aV ub (uo+1)) v)):=yb (fun v=>⟨by simp,fun b hb=>zl V (aV ub (uo+1)) b v (fun e=>by
   have h1:=H.own b hb
   have h2:=Z.lt
   simp only at e h2
   omega)⟩)
  clear hX a7 Z H c1 cf c0 gi ad dt fo fg fu ee f2 eq gc hu i8 hw am hl ej hk
  rcases hy with rfl|rfl|rfl|rfl|rfl|rfl
  ·have c0:=l.o;have c1:=B.o
   obtain rfl:=i2.o rfl
   clear af U a8 R a2 J a6 K d2 b13
   cases hb:Ju (Tb.of x) ⟨ub,uo,0,c,d,z⟩ with
   |true=>
    have Y:=yb hb
    obtain ⟨ef,ie⟩:d.size=0∧z=0:=by
     have h:=hb
     unfold Ju Kg at h
     simpa using h
    have ia:d=⟨#[]⟩:=by
     have h:=(DD d).1 ef
     exact OM h
    clear hb ef
    subst ie
    subst ia
    gi_wp2_with fail
    refine ⟨trivial,zm (CallsIn.inRound lo (yY.2 (Cw _ _))) ?_⟩
    rintro e w4 ⟨rfl,q⟩
    obtain rfl:=q.symm
    gi_wp2_with fail
    exact ⟨AN.refl _ _,P.o.skip HX.o rfl Y.o⟩
   |false=>
    have Y:=yb hb
    have gy:¬ (d.size=0∧z=0):=by
     have h:=hb
     unfold Ju Kg at h
     simpa using h
    clear hb
    have j:=yb (r.o.bad F.o Y.o)
    have ib:=yb gy
    clear gy
    gi_wp2_with fail
    all_goals first
     |exact absurd ⟨(DD _).2 (by assumption),(by assumption)⟩ ib.o
     |(refine ⟨trivial,zm (CallsIn.inRound lo (yY.2 (Co _ _))) ?_⟩
       rintro e w4 ⟨rfl,q⟩
       obtain rfl:=q.symm
       try gi_wp2_with fail
       exact ⟨rfl,AN.refl _ _,rfl,j.o,_,P.o⟩)
  ·have c0:=l.o;have c1:=B.o;have cf:=E.o
   clear a8 R a2 J a6 K d2 c0 c1 cf
   cases hb:Ju (Tb.of x) ⟨ub,uo,1,c,d,s⟩ with
   |true=>
    obtain ⟨i,t,I,C,p⟩:=Gg (to:=1) (by decide) hb
    have Y:=yb hb;have HV:=yb I
    have G:=yb (G8 (most:=(ak.size:Int)) l.o B.o E.o ML.o m.o t (by rw[SL.o];exact Int.ofNat_lt.2 p))
    clear hb t I C p
    have A:∀ty,(Builtin.len_ #[137] ty #[.map (some ml)]).run Tryz.prog V=.ok (iV (ak.size:Int)) V:=fun ty=>FG U ty
    gi_wp2_with fail
    refine ⟨trivial,zm (CallsIn.inRound lo (yY.2 G.o)) ?_⟩
    rintro e w4 ⟨rfl,rfl⟩
    gi_wp2_with fail
    exact ⟨y.o _,by have h:=P.o.next r.o.uok HX.o (show (1:Int)≠0 by decide) Y.o;rw[show GN (Tb.of x) (EL (⟨ub,uo,1,c,d,s⟩:Us).to) (⟨ub,uo,1,c,d,s⟩:Us).name=_ from HV.o] at h;exact h⟩
   |false=>
    have T:=Gh (to:=1) (by decide) hb
    have j:=yb (r.o.bad F.o hb)
    have G:=yb (I0 (most:=(ak.size:Int)) l.o ML.o m.o (fun i t=>absurd (T i t).1 (show ¬ early 1=true by decide)))
    clear hb T
    have A:∀ty,(Builtin.len_ #[137] ty #[.map (some ml)]).run Tryz.prog V=.ok (iV (ak.size:Int)) V:=fun ty=>FG U ty
    gi_wp2_with fail
    refine ⟨trivial,zm (CallsIn.inRound lo (yY.2 G.o)) ?_⟩
    rintro e w4 ⟨rfl,q⟩
    obtain rfl:=q.symm
    try gi_wp2_with fail
    exact ⟨rfl,AN.refl _ _,rfl,j.o,_,P.o⟩
  ·have c0:=l.o;have c1:=B.o;have cf:=E.o
   clear a8 R a2 J a6 K c0 c1 cf
   cases hb:Ju (Tb.of x) ⟨ub,uo,2,c,d,s⟩ with
   |true=>
    obtain ⟨i,t,I,C,p⟩:=Gg (to:=2) (by decide) hb
    have Y:=yb hb;have HV:=yb I
    have G:=yb (G8 (most:=c) l.o B.o E.o ML.o m.o t (by simpa using C rfl))
    clear hb t I C p
    gi_wp2_with fail
    refine ⟨trivial,zm (CallsIn.inRound lo (yY.2 G.o)) ?_⟩
    rintro e w4 ⟨rfl,rfl⟩
    gi_wp2_with fail
    exact ⟨y.o _,by have h:=P.o.next r.o.uok HX.o (show (2:Int)≠0 by decide) Y.o;rw[show GN (Tb.of x) (EL (⟨ub,uo,2,c,d,s⟩:Us).to) (⟨ub,uo,2,c,d,s⟩:Us).name=_ from HV.o] at h;exact h⟩
   |false=>
    have T:=Gh (to:=2) (by decide) hb
    have j:=yb (r.o.bad F.o hb)
    have G:=yb (I0 (most:=c) l.o ML.o m.o (fun i t=>(T i t).2))
    clear hb T
    gi_wp2_with fail
    refine ⟨trivial,zm (CallsIn.inRound lo (yY.2 G.o)) ?_⟩
    rintro e w4 ⟨rfl,q⟩
    obtain rfl:=q.symm
    try gi_wp2_with fail
    exact ⟨rfl,AN.refl _ _,rfl,j.o,_,P.o⟩
  ·have c0:=l.o;have c1:=B.o;have cf:=E.o
   clear af U a2 J a6 K d2 c0 c1 cf
   cases hb:Ju (Tb.of x) ⟨ub,uo,3,c,d,s⟩ with
   |true=>
    obtain ⟨i,t,I,C,p⟩:=Gg (to:=3) (by decide) hb
    have Y:=yb hb;have HV:=yb I
    have G:=yb (G8 (most:=(an.size:Int)) l.o B.o E.o MC.o m.o t (by rw[SC.o];exact Int.ofNat_lt.2 p))
    clear hb t I C p
    have A:∀ty,(Builtin.len_ #[137] ty #[.map (some mc)]).run Tryz.prog V=.ok (iV (an.size:Int)) V:=fun ty=>FG R ty
    gi_wp2_with fail
    refine ⟨trivial,zm (CallsIn.inRound lo (yY.2 G.o)) ?_⟩
    rintro e w4 ⟨rfl,rfl⟩
    gi_wp2_with fail
    exact ⟨y.o _,by have h:=P.o.next r.o.uok HX.o (show (3:Int)≠0 by decide) Y.o;rw[show GN (Tb.of x) (EL (⟨ub,uo,3,c,d,s⟩:Us).to) (⟨ub,uo,3,c,d,s⟩:Us).name=_ from HV.o] at h;exact h⟩
   |false=>
    have T:=Gh (to:=3) (by decide) hb
    have j:=yb (r.o.bad F.o hb)
    have G:=yb (I0 (most:=(an.size:Int)) l.o MC.o m.o (fun i t=>absurd (T i t).1 (show ¬ early 3=true by decide)))
    clear hb T
    have A:∀ty,(Builtin.len_ #[137] ty #[.map (some mc)]).run Tryz.prog V=.ok (iV (an.size:Int)) V:=fun ty=>FG R ty
    gi_wp2_with fail
    refine ⟨trivial,zm (CallsIn.inRound lo (yY.2 G.o)) ?_⟩
    rintro e w4 ⟨rfl,q⟩
    obtain rfl:=q.symm
    try gi_wp2_with fail
    exact ⟨rfl,AN.refl _ _,rfl,j.o,_,P.o⟩
  ·have c0:=l.o;have c1:=B.o;have cf:=E.o
   clear af U a8 R a6 K d2 c0 c1 cf
   cases hb:Ju (Tb.of x) ⟨ub,uo,4,c,d,s⟩ with
   |true=>
    obtain ⟨i,t,I,C,p⟩:=Gg (to:=4) (by decide) hb
    have Y:=yb hb;have HV:=yb I
    have G:=yb (G8 (most:=(al.size:Int)) l.o B.o E.o MR.o m.o t (by rw[SR.o];exact Int.ofNat_lt.2 p))
    clear hb t I C p
    have A:∀ty,(Builtin.len_ #[137] ty #[.map (some mr)]).run Tryz.prog V=.ok (iV (al.size:Int)) V:=fun ty=>FG J ty
    gi_wp2_with fail
    refine ⟨trivial,zm (CallsIn.inRound lo (yY.2 G.o)) ?_⟩
    rintro e w4 ⟨rfl,rfl⟩
    gi_wp2_with fail
    exact ⟨y.o _,by have h:=P.o.next r.o.uok HX.o (show (4:Int)≠0 by decide) Y.o;rw[show GN (Tb.of x) (EL (⟨ub,uo,4,c,d,s⟩:Us).to) (⟨ub,uo,4,c,d,s⟩:Us).name=_ from HV.o] at h;exact h⟩
   |false=>
    have T:=Gh (to:=4) (by decide) hb
    have j:=yb (r.o.bad F.o hb)
    have G:=yb (I0 (most:=(al.size:Int)) l.o MR.o m.o (fun i t=>absurd (T i t).1 (show ¬ early 4=true by decide)))
    clear hb T
    have A:∀ty,(Builtin.len_ #[137] ty #[.map (some mr)]).run Tryz.prog V=.ok (iV (al.size:Int)) V:=fun ty=>FG J ty
    gi_wp2_with fail
    refine ⟨trivial,zm (CallsIn.inRound lo (yY.2 G.o)) ?_⟩
    rintro e w4 ⟨rfl,q⟩
    obtain rfl:=q.symm
    try gi_wp2_with fail
    exact ⟨rfl,AN.refl _ _,rfl,j.o,_,P.o⟩
  ·have c0:=l.o;have c1:=B.o;have cf:=E.o
   clear af U a8 R a2 J d2 c0 c1 cf
   cases hb:Ju (Tb.of x) ⟨ub,uo,5,c,d,s⟩ with
   |true=>
    obtain ⟨i,t,I,C,p⟩:=Gg (to:=5) (by decide) hb
    have Y:=yb hb;have HV:=yb I
    have G:=yb (G8 (most:=(ag.size:Int)) l.o B.o E.o MF.o m.o t (by rw[SF.o];exact Int.ofNat_lt.2 p))
    clear hb t I C p
    have A:∀ty,(Builtin.len_ #[137] ty #[.map (some mf)]).run Tryz.prog V=.ok (iV (ag.size:Int)) V:=fun ty=>FG K ty
    gi_wp2_with fail
    refine ⟨trivial,zm (CallsIn.inRound lo (yY.2 G.o)) ?_⟩
    rintro e w4 ⟨rfl,rfl⟩
    gi_wp2_with fail
    exact ⟨y.o _,by have h:=P.o.next r.o.uok HX.o (show (5:Int)≠0 by decide) Y.o;rw[show GN (Tb.of x) (EL (⟨ub,uo,5,c,d,s⟩:Us).to) (⟨ub,uo,5,c,d,s⟩:Us).name=_ from HV.o] at h;exact h⟩
   |false=>
    have T:=Gh (to:=5) (by decide) hb
    have j:=yb (r.o.bad F.o hb)
    have G:=yb (I0 (most:=(ag.size:Int)) l.o MF.o m.o (fun i t=>absurd (T i t).1 (show ¬ early 5=true by decide)))
    clear hb T
    have A:∀ty,(Builtin.len_ #[137] ty #[.map (some mf)]).run Tryz.prog V=.ok (iV (ag.size:Int)) V:=fun ty=>FG K ty
    gi_wp2_with fail
    refine ⟨trivial,zm (CallsIn.inRound lo (yY.2 G.o)) ?_⟩
    rintro e w4 ⟨rfl,q⟩
    obtain rfl:=q.symm
    try gi_wp2_with fail
    exact ⟨rfl,AN.refl _ _,rfl,j.o,_,P.o⟩
 ·intro ho D O V hD du H ai
  have hx:(BS W5 L x).2=true:=by
   cases hx:(BS W5 L x).2 with
   |true=>rfl
   |false=>rw[hx] at ho;cases ho
  have ac:RJ w.heap.size W5 (Tb.of x) (CF W5 L x) (CF W5 L x).length O V:=by
   have h:(EZ L x).length+((BS W5 L x).1.map Us.v).length=(CF W5 L x).length:=by unfold CF;simp
   rw[<-h];exact H
  have hA:=ac.amid r.o.amid
  have aj:w.heap.size+3<=D:=by
   obtain ⟨v,X⟩:=r.o.amid.e
   have h1:=(yd.1 X).1
   have h2:=ae.o.size
   omega
  obtain ⟨cs,ah,dp,dk⟩:=r.o.src ac hx
  rw[r.o.ls] at dp
  obtain ⟨row,gt,dn⟩:=hA.x
  obtain ⟨ve,X⟩:=hA.e
  have cl:=Nq dk
  have c3:(V.setRow (w.heap.size+1) cs.toArray).cell? (aV (w.heap.size+2) 0)=some ve:=by
   simp only[World.cell?,World.setRow,yL,yq (show ¬ w.heap.size+1=w.heap.size+2 by omega)]
   simp[X]
  have f3:(V.setRow (w.heap.size+1) cs.toArray).frozen? (aV (w.heap.size+2) 0)=false:=by
   simp only[World.frozen?,World.setRow,yL,yq (show ¬ w.heap.size+1=w.heap.size+2 by omega)]
   simp[X]
  have hc:Hid ((Tryz.prog.info? 35).map (·.size)=some cs.length):=yb (by rw[ah];kernel_rfl)
  have g8:Hid ((Tryz.prog.info? 35).map (·.size)=some cs.toArray.size):=yb (by rw[yM];exact hc.o)
  have h0:=r.o.good ac hx
  have S:Below w.heap.size w ((V.setRow (w.heap.size+1) cs.toArray).setCell (aV (w.heap.size+2) 0) (iV 0)):=hA.below.trans ⟨rfl,rfl,rfl,by simp[World.setRow],fun b hb=>by
   rw[zl _ _ _ _ (by simp;omega)]
   simp only[World.setRow,yL,yq (show ¬ w.heap.size+1=b by omega)]⟩
  have gd:((V.setRow (w.heap.size+1) cs.toArray).setCell (aV (w.heap.size+2) 0) (iV 0)).heap[w.heap.size+1]?=some (.cells cs.toArray 35 (0,0)):=by
   rw[zl _ _ _ _ (by simp)]
   simp[World.setRow,yL,dn]
  have es:((V.setRow (w.heap.size+1) cs.toArray).setCell (aV (w.heap.size+2) 0) (iV 0)).heap[w.heap.size+2]?=some (.cells jk 40 (0,0)):=by
   have:=zr (V.setRow (w.heap.size+1) cs.toArray) (w.heap.size+2) 0 #[ve] 40 (iV 0) (by simp[World.setRow,yL,X])
   rw[this];rfl
  have aa:∀b,b≠w.heap.size+1->b≠w.heap.size+2->((V.setRow (w.heap.size+1) cs.toArray).setCell (aV (w.heap.size+2) 0) (iV 0)).heap[b]?=V.heap[b]?:=fun b h1 h2=>by
   rw[zl _ _ _ _ (by simpa using h2)]
   simp only[World.setRow,yL,yq (xd h1)]
  have gp:=(aa D (by omega) (by omega)).trans ai
  have i6:W5.heap.size<=D:=by have:=ae.o.size;omega
  have i0:=ac.size
  have bx:Qs w.heap.size (((V.setRow (w.heap.size+1) cs.toArray).setCell (aV (w.heap.size+2) 0) (iV 0)).putObj D (.deferred none)) cs (Ah x):=by
   refine ⟨L,_,ah,dk.same (fun _ h=>h) (fun b hb=>?_),fun b hb=>⟨hb.1,?_⟩⟩
   ·obtain ⟨k1,k2,k3,k4⟩:=hb
    rw[World.putObj_heap_other (by omega),aa b k3 k4]
   ·obtain ⟨k1,k2,k3,k4⟩:=hb
    simp[World.setRow];omega
  have dl:=yb (fun tm I=>HQ.o.done D tm _ cs I S gd es h0 aj gp bx)
  have ic:=yb dp;have ea:=yb cl;have i1:=yb dn;have hq:Hid (row.size=cs.toArray.size):=yb (by rw[gt,yM,ah])
  clear hx ac hA aj dp dk gt dn X cl h0 S gd es aa gp i6 i0 bx hD du H ai ho ah
  simp only[Exit.inBlock,Exit.then]
  refine A9 (A4 ?_)
  go_wp2_with (first|(refine yj rfl 35 _ rfl (w.heap.size+1) 0 rfl cs _ ic.o qY rfl hc.o ?_)|(refine ze rfl 35 _ _ rfl (w.heap.size+1) cs.toArray rfl rfl 35 row i1.o g8.o hq.o (zb ea.o) ?_))
  refine A4 ?_
  go_wp2
  exact dl.o _ ⟨rfl,rfl⟩
 ·rintro D ch O V hD du ⟨rfl,cx,k,H⟩ ai
  have aj:w.heap.size+3<=D:=by
   obtain ⟨v,X⟩:=r.o.amid.e
   have h1:=(yd.1 X).1
   have h2:=ae.o.size
   omega
  simp only[Exit.inBlock,Exit.then]
  have h:=fun tm I=>HQ.o.failD D tm V I (H.amid r.o.amid) (by rw[cx];decide) aj ai
  rw[cx] at h
  exact h _ ⟨rfl,rfl⟩
end Go.Proofs.YtjofgpfocadomaaGreatDoor
namespace Go.Proofs.YtjofgpfocadomaaGreatDoor
open Go.RowKit
section
variable{N:NP}{E E':Int->Ex->Nat->Nat->Prop}{R R':Int->Rf->Nat->Nat->Prop}{w W:World}{L:Bt}{x:Ar}
theorem Cb.moved(h:Cb N E R W L x){Bx:Nat}(c:Ty W Bx 35)(a:∀q,q < 26->W.cell? ⟨Bx,q,none⟩=W.cell? ⟨L.s,q,none⟩)(b:∀lt e o,o+6<=26->E lt e L.s o->E lt e Bx o):Cb N E R W {L with s:=Bx} x:=
 ⟨c,⟨h.name.1,(a 0 (by omega)).trans h.name.2⟩,b _ _ _ (by omega) h.season,b _ _ _ (by omega) h.cap,b _ _ _ (by omega) h.start,(a _ (by omega)).trans h.hlets,(a _ (by omega)).trans h.hcrops,(a _ (by omega)).trans h.hreaches,(a _ (by omega)).trans h.hfarms,(a _ (by omega)).trans h.hrots,(a _ (by omega)).trans h.hrights,(a _ (by omega)).trans h.hduties,h.lets,h.crops,h.reaches,h.farms,h.rots,h.rights,h.duties⟩
theorem TY{M:NP}{Bx s:Nat}(b:∀q,q < 26->W.cell? ⟨Bx,q,none⟩=W.cell? ⟨s,q,none⟩)(lt:Int)(e:Ex)(o:Nat)(g:o+6<=26)(h:ET M W lt e s o):ET M W lt e Bx o:=by
 obtain ⟨c,h1,h2⟩:=h
 obtain ⟨a,cap,rfl,_⟩:=(h2.exV (N:=M) (fun _ h _=>h)).cells
 refine ⟨_,fun j v d=>?_,h2⟩
 have f:=(yx.1 d).1
 simp only[yz,yH] at f
 rw[b _ (by omega)]
 exact h1 j v d
theorem B9.same{b:Nat}{a:LB}{w':World}(h:B9 w b a)(hb:∀(c:Nat) (o:Obj),w.heap[c]?=some o->(∀row:Array Value,o≠Obj.cells row 35 (0,0))->w'.heap[c]?=w.heap[c]?):B9 w' b a:=by
 obtain ⟨m,h1,h2⟩:=h
 obtain ⟨f,d,h3,_⟩:=h2.size
 exact ⟨m,(hb b _ h1 (by rintro row e;cases e)).trans h1,h2.block (hb m _ h3 (by rintro row e;cases e))⟩
end
def RL(B:Nat)(W5:World)(t:Tb)(X:List Us)(n:Nat)(o:Obj)(k:Nat)(wr:World):Prop:=wr.heap.size=n∧RJ B W5 t X k (fun _=>False) (wr.alloc o)
section
variable{B:Nat}{W5 wr w':World}{t:Tb}{X:List Us}{n k:Nat}{o:Obj}
theorem RL.heap(h:RL B W5 t X n o k wr){b:Nat}(hb:b < n):(wr.alloc o).heap[b]?=wr.heap[b]?:=yA _ _ _ (by rw[h.1];exact hb)
theorem RL.cell(h:RL B W5 t X n o k wr){b q:Nat}(hb:b < n):(wr.alloc o).cell? ⟨b,q,none⟩=wr.cell? ⟨b,q,none⟩:=Ac (h.heap hb)
theorem RL.drew(h:RL B W5 t X n o k wr):RL B W5 t X n o k wr.drew:=⟨h.1,h.2.move (yf _) rfl rfl rfl (fun _ _=>rfl) (fun _ h=>h.elim)⟩
theorem Mf{b q:Nat}{v:Value}(hb:b < wr.heap.size):(wr.setCell ⟨b,q,none⟩ v).alloc o=(wr.alloc o).setCell ⟨b,q,none⟩ v:=by
 unfold World.setCell World.alloc
 simp only[World.mk.injEq,and_true]
 apply Array.ext_getElem?
 intro i
 simp only[Array.getElem?_push,yL,Array.size_modify]
 by_cases h1:i=wr.heap.size
 ·subst h1;simp[show ¬ b=wr.heap.size by omega]
 ·simp[h1]
theorem RL.next{u:Us}(h:RL B W5 t X n o k wr)(c:∀u∈X,O4 B W5 u)(d:X[k]?=some u)(hb:u.b < n)(h0:u.to≠0)(a:Ju t u=true):RL B W5 t X n o (k+1) (wr.setCell ⟨u.b,u.o+1,none⟩ (.int .i64 (GN t (EL u.to) u.name))):=by
 refine ⟨by simpa using h.1,?_⟩
 rw[Mf (by rw[h.1];exact hb)]
 exact h.2.next c d h0 a
theorem RL.skip{u:Us}(h:RL B W5 t X n o k wr)(b:X[k]?=some u)(h0:u.to=0)(a:Ju t u=true):RL B W5 t X n o (k+1) wr:=⟨h.1,h.2.skip b h0 a⟩
theorem RL.read{u:Us}(h:RL B W5 t X n o k wr)(a:O4 B W5 u)(hb:u.b < n):wr.cell? ⟨u.b,u.o,none⟩=some (.string u.name)∧(∃z,wr.cell? ⟨u.b,u.o+1,none⟩=some (.int .i64 z)∧(u.to=0->z=u.n))∧wr.frozen? ⟨u.b,u.o+1,none⟩=false:=by
 obtain ⟨h1,h2,h3⟩:=h.2.read a
 rw[h.cell hb] at h1 h2
 refine ⟨h1,h2,?_⟩
 unfold World.frozen? at h3 ⊢
 rw[h.heap hb] at h3
 exact h3
end
section
variable{w W5 wr:World}{x:Ar}{L:Bt}{N M:NP}{bl bc br bf Bf Bu k n:Nat}{t:Tb}{X:List Us}{o:Obj}
theorem RL.amid(c:Kh w W5)(h:RL w.heap.size W5 t X n o k wr)(d:w.heap.size+3<=n):Kh w wr:=by
 have a:=RJ.amid c h.2
 obtain ⟨row,h1,h2⟩:=a.x
 obtain ⟨v,h3⟩:=a.e
 rw[h.heap (by omega)] at h2 h3
 refine ⟨⟨a.below.os,a.below.tape,a.below.output,by rw[h.1];omega,fun b hb=>?_⟩,⟨row,h1,h2⟩,⟨v,h3⟩⟩
 rw[<-h.heap (by omega)]
 exact a.below.block b hb
theorem Lf{f:Nat->List Us}{g:Nat->Us}:∀n,(∀i,i < n->f i=[g i])->(List.range n).flatMap f=(List.range n).map g
 |0,_=>rfl
 |n+1,h=>by rw[Ak,Lf n (fun i hi=>h i (by omega)),h n (by omega),List.range_succ];simp
theorem Lg{E:Int->Ex->Nat->Nat->Prop}{R:Int->Rf->Nat->Nat->Prop}(h:Cb N E R W5 L x):(EZ L x).length=x.reaches.length:=by
 unfold EZ
 rw[Lf (g:=fun i=>⟨(L.reaches.at 51 i 1).block,(L.reaches.at 51 i 1).off,if i=0 then 0 else 6,i,(x.reaches.map (·.frm.name)).getD i ⟨#[]⟩,(x.reaches.map (·.frm.n)).getD i 0⟩) _ (fun i hi=>by
  have a:i < x.reaches.length:=by rw[<-h.reaches.1];exact hi
  unfold ID;rw[yk a];simp[xP,a])]
 simp[h.reaches.1]
theorem Qt{E:Int->Ex->Nat->Nat->Prop}{R:Int->Rf->Nat->Nat->Prop}(h:Cb N E R W5 L x){i g:Nat}(hi:i < x.reaches.length)(c:L.reaches.a=some ⟨g,0,none⟩):(CF W5 L x)[i]?=some ⟨g,i*51+1,if i=0 then 0 else 6,i,x.reaches[i].frm.name,x.reaches[i].frm.n⟩:=by
 unfold CF
 rw[zk (by rw[Lg h];exact hi)]
 unfold EZ
 rw[Lf (g:=fun i=>⟨(L.reaches.at 51 i 1).block,(L.reaches.at 51 i 1).off,if i=0 then 0 else 6,i,(x.reaches.map (·.frm.name)).getD i ⟨#[]⟩,(x.reaches.map (·.frm.n)).getD i 0⟩) _ (fun i hi=>by
  have b:i < x.reaches.length:=by rw[<-h.reaches.1];exact hi
  unfold ID;rw[yk b];simp[xP,b])]
 rw[List.getElem?_map,List.getElem?_range (by rw[h.reaches.1];exact hi)]
 simp[xP,hi,AQ c]
end
theorem I4{ops:Array Oper}{p:Oper->Bool}{i:Nat}{o:Oper}(h:ops.all p=true)(a:ops[i]?=some o):p o=true:=by
 rw[zy] at h
 exact h o (xf a)
theorem A8{l:Array Bool}{i j:Nat}(h:i≠j):(l.setIfInBounds i true).getD j false=l.getD j false:=xp false h
theorem Bp{l:Array Value}{i j:Nat}{v:Value}(h:i≠j):(l.setIfInBounds i v).getD j undef=l.getD j undef:=by simp[h]
def NA(lo hi:Nat)(d:Option Tmp):Bool:=match d with
 |some k=>decide (lo<=k)&&decide (k<=hi)
 |none=>true
theorem F8{lo hi:Nat}{ops:Array Oper}{e:Act}{d:Array Bool->Array Value->World->Prop}{g:Nat->Value->World->Prop}{b:Array Bool}{a:Act}{w':World}(c:ops.all (fun o=>NA lo hi o.dst)=true)(hM:Jy ops e d g b a w'):
  ∀t,(t < lo∨hi < t)->a.tmps.getD t undef=e.tmps.getD t undef:=by
 intro t j
 refine hM.free t fun i h o f hd=>?_
 have hs:NA lo hi o.dst=true:=I4 (p:=fun o=>NA lo hi o.dst) c f
 rw[hd] at hs
 simp only[NA,yE,yT] at hs
 exact (show ¬ (lo<=t∧t<=hi) from by omega) hs
def Wg(B g rn rc mr i:Nat)(j:Nat)(v:Value)(_:World):Prop:=match j with
 |0=>v=.func (.func 68) #[] #[]
 |1=>v=.pointer (some ⟨B+1,21,none⟩)
 |2=>v=.slice (some ⟨g,0,none⟩) rn rc
 |3=>v=.int .i64 i
 |4=>v=.pointer (some ⟨g,i*51,none⟩)
 |5=>v=.pointer (some ⟨g,i*51+1,none⟩)
 |6=>v=.map (some mr)
 |7=>v=.int .i64 i
 |_=>True
structure KA (R1 R2:World->Prop) (l:Array Bool) (_:Array Value) (w:World):Prop where
 one:l.getD 8 false=false->R1 w
 two:l.getD 8 false=true->R2 w
theorem KA.quiet{R1 R2:World->Prop}{l:Array Bool}{tm a:Array Value}{w:World}{i:Nat}(h:KA R1 R2 l tm w)(hi:i≠8):KA R1 R2 (l.setIfInBounds i true) a w:=
 ⟨fun k=>h.one (by rw[A8 hi] at k;exact k),fun k=>h.two (by rw[A8 hi] at k;exact k)⟩
theorem Wh{l:Act}{wr:World}{Q:QT}{B Bf g rn rc br mr i:Nat}{R1 R2 R3:World->Prop}(ops:Array Oper)(m:DP Tryz.f32 32=some ops)
 (h2:l.tmps.getD 2 undef=.pointer (some ⟨B+1,0,none⟩))(S:l.tmps.getD 6 undef=.pointer (some ⟨br,0,none⟩))(F:l.tmps.getD 13 undef=.pointer (some ⟨Bf,0,none⟩))(s:l.tmps.getD 14 undef=.int .i64 i)(H:l.tmps.size=174)
 (hi:i < rn)(h0:R1 wr.drew)
 (C:∀W,R1 W->W.cell? ⟨Bf,0,none⟩=some (.func (.func 68) #[] #[])∧W.cell? ⟨B+1,21,none⟩=some (.slice (some ⟨g,0,none⟩) rn rc)∧W.cell? ⟨br,0,none⟩=some (.map (some mr)))
 (n:∀W,R1 W->Calls Tryz.prog 68 #[.pointer (some ⟨g,i*51+1,none⟩),.map (some mr),.int .i64 i] W fun e w'=>(e=.returned (.tuple #[])∧R2 w')∨(e=.panicked (ED 170)∧R3 w'))
 (A:∀(a:Act) W,a.defers=l.defers->(∀t,(t < 105∨113 < t)->a.tmps.getD t undef=l.tmps.getD t undef)->R3 W->Q (.panic (ED 170)) a W)
 (z:∀(a:Act) W,a.tmps.size=174->a.defers=l.defers->(∀t,(t < 105∨113 < t)->a.tmps.getD t undef=l.tmps.getD t undef)->R2 W->Q .normal a W):
  (Code.region 32 ops true).wp Tryz.prog Q l wr:=by
 obtain rfl:=yi ((rfl:DP Tryz.f32 32=some _).symm.trans m)
 clear m
 refine BP (by kernel_rfl) (KA R1 R2) (Wg B g rn rc mr i) (fun _ _ _=>True) (by kernel_rfl) (by rw[H];kernel_rfl) (by kernel_rfl) (fun _ j v w w' _ _ _ h=>by unfold Wg at h ⊢;exact h) ⟨fun _=>h0,fun h=>(by cases h)⟩ ?_ ?_
 ·intro N c a w' hM b o k
  have f:=yb hM.ext
  have y:=(yd.1 k).1
  have D:=hM.size
  have U:=yb hi
  have L:(i:Int) < (rn:Int):=by omega
  match N,y with
  |0,_=>
   have d:=hM.old b 13 (by kernel_rfl) _ F
   have q:c.getD 8 false=false:=by
    rw[ym];intro u
    have:=A1 hM.down 8 8 0 (by kernel_rfl) u
    rw[hM.not_yet b] at this;cases this
   obtain ⟨J,I,G⟩:=C _ (f.o.one q)
   clear hi
   obtain rfl:=yi k
   go_simp
   exact ⟨_,rfl,f.o.quiet (by decide),trivial,rfl⟩
  |1,_=>
   have d:=hM.old b 2 (by kernel_rfl) _ h2
   clear hi
   obtain rfl:=yi k
   go_simp
   exact ⟨_,rfl,f.o.quiet (by decide),trivial,rfl⟩
  |2,_=>
   have d:a.tmps[106]?.getD undef=pV (B+1) 21:=hM.dep b 1 106 (by kernel_rfl) (by kernel_rfl)
   have q:c.getD 8 false=false:=by
    rw[ym];intro u
    have:=A1 hM.down 8 8 2 (by kernel_rfl) u
    rw[hM.not_yet b] at this;cases this
   obtain ⟨J,I,G⟩:=C _ (f.o.one q)
   clear hi
   obtain rfl:=yi k
   go_simp
   exact ⟨_,rfl,f.o.quiet (by decide),trivial,rfl⟩
  |3,_=>
   have d:=hM.old b 14 (by kernel_rfl) _ s
   clear hi
   obtain rfl:=yi k
   go_simp
   exact ⟨_,rfl,f.o.quiet (by decide),trivial,rfl⟩
  |4,_=>
   have P:a.tmps[107]?.getD undef=.slice (some (aV g 0)) rn rc:=hM.dep b 2 107 (by kernel_rfl) (by kernel_rfl)
   have R:a.tmps[108]?.getD undef=iV i:=hM.dep b 3 108 (by kernel_rfl) (by kernel_rfl)
   clear hi
   obtain rfl:=yi k
   go_simp
   exact ⟨_,rfl,f.o.quiet (by decide),trivial,rfl⟩
  |5,_=>
   have d:a.tmps[109]?.getD undef=pV g (i*51):=hM.dep b 4 109 (by kernel_rfl) (by kernel_rfl)
   clear hi
   obtain rfl:=yi k
   go_simp
   exact ⟨_,rfl,f.o.quiet (by decide),trivial,rfl⟩
  |6,_=>
   have d:=hM.old b 6 (by kernel_rfl) _ S
   have q:c.getD 8 false=false:=by
    rw[ym];intro u
    have:=A1 hM.down 8 8 6 (by kernel_rfl) u
    rw[hM.not_yet b] at this;cases this
   obtain ⟨J,I,G⟩:=C _ (f.o.one q)
   clear hi
   obtain rfl:=yi k
   go_simp
   exact ⟨_,rfl,f.o.quiet (by decide),trivial,rfl⟩
  |7,_=>
   have d:=hM.old b 14 (by kernel_rfl) _ s
   clear hi
   obtain rfl:=yi k
   go_simp
   exact ⟨_,rfl,f.o.quiet (by decide),trivial,rfl⟩
  |8,_=>
   have P:a.tmps[105]?.getD undef=.func (.func 68) #[] #[]:=hM.dep b 0 105 (by kernel_rfl) (by kernel_rfl)
   have R:a.tmps[110]?.getD undef=pV g (i*51+1):=hM.dep b 5 110 (by kernel_rfl) (by kernel_rfl)
   have T:a.tmps[111]?.getD undef=.map (some mr):=hM.dep b 6 111 (by kernel_rfl) (by kernel_rfl)
   have V:a.tmps[112]?.getD undef=iV i:=hM.dep b 7 112 (by kernel_rfl) (by kernel_rfl)
   have x:=f.o.one (hM.not_yet b)
   have M:=yb (n _ x)
   have O:=yb (F8 (lo:=105) (hi:=113) (by kernel_rfl) hM)
   have E:=yb hM.defers
   have K:Hid (8 < c.size):=yb (by rw[D];show 8 < 9;omega)
   clear hi
   obtain rfl:=yi k
   go_simp
   refine M.o.mono ?_
   rintro e w2 (⟨rfl,p⟩|⟨rfl,p⟩)
   ·exact ⟨_,rfl,⟨fun h=>(by simp[K.o] at h),fun _=>p⟩,trivial,trivial⟩
   ·exact A _ _ E.o O.o p
 ·intro c a w' r hM
  exact z a w' (hM.tmps.trans H) hM.defers (F8 (lo:=105) (hi:=113) (by kernel_rfl) hM) (hM.ext.two (r 8 (show 8 < 9 by omega)))
def JX(n0:Nat)(w w':World):Prop:=w.heap.size<=w'.heap.size∧∀(b:Nat) (o:Obj),n0<=b->w.heap[b]?=some o->w'.heap[b]?=some o∨∃z a:Value,o=.cells #[z] 137 (0,0)∧w'.heap[b]?=some (.cells #[a] 137 (0,0))
theorem JX.refl(n0:Nat)(w:World):JX n0 w w:=⟨yf _,fun _ _ _ h=>.inl h⟩
theorem JX.below{n0:Nat}{w w':World}(h:Below w.heap.size w w'):JX n0 w w':=⟨h.size,fun b _ _ hb=>.inl ((h.block b (yd.1 hb).1).trans hb)⟩
theorem BT.leB{n0:Nat}{w w':World}{m:Nat}{b:LB}(h:BT w m b)(c:JX n0 w w')(d:n0<=m):BT w' m b:=by
 obtain ⟨e,a,h1,h2⟩:=h
 rcases c.2 m _ d h1 with h3|⟨z,f,h3,_⟩
 ·exact ⟨e,a,h3,h2⟩
 ·cases h3
def Ir(n0:Nat)(v:Value)(w:World):Prop:=∃b z,v=.pointer (some ⟨b,0,none⟩)∧n0<=b∧w.heap[b]?=some (.cells #[z] 137 (0,0))
theorem Ir.leB{n0:Nat}{v:Value}{w w':World}(h:Ir n0 v w)(d:JX n0 w w'):Ir n0 v w':=by
 obtain ⟨b,z,h1,h2,h3⟩:=h
 rcases d.2 b _ h2 h3 with a|⟨_,c,_,a⟩
 ·exact ⟨b,z,h1,h2,a⟩
 ·exact ⟨b,c,h1,h2,a⟩
def Fm(n0:Nat)(v:Value)(a:LB)(w:World):Prop:=∃m,v=.map (some m)∧n0<=m∧BT w m a∧a.Nodup
theorem Fm.leB{n0:Nat}{v:Value}{a:LB}{w w':World}(h:Fm n0 v a w)(b:JX n0 w w'):Fm n0 v a w':=by
 obtain ⟨m,h1,h2,h3,c⟩:=h
 exact ⟨m,h1,h2,h3.leB b h2,c⟩
def Vm(n0 B:Nat)(h0 h1 h2 h3:Aw)(n0s n1s n2s n3s:LB)(j:Nat)(v:Value)(w:World):Prop:=match j with
 |0=>v=.pointer (some ⟨B,19,none⟩)
 |1=>v=.slice h0.a h0.n h0.c
 |2=>Fm n0 v n0s w
 |3=>v=.pointer (some ⟨B,20,none⟩)
 |4=>v=.slice h1.a h1.n h1.c
 |5=>Fm n0 v n1s w
 |6=>v=.pointer (some ⟨B,21,none⟩)
 |7=>v=.slice h2.a h2.n h2.c
 |8=>Fm n0 v n2s w
 |9=>v=.pointer (some ⟨B,22,none⟩)
 |10=>v=.slice h3.a h3.n h3.c
 |11=>Fm n0 v n3s w
 |12|13|14|15=>Ir n0 v w
 |_=>True
theorem ON{n0 B:Nat}{h0 h1 h2 h3:Aw}{n0s n1s n2s n3s:LB}(j:Nat)(v:Value)(w w':World)(a:JX n0 w w')(h:Vm n0 B h0 h1 h2 h3 n0s n1s n2s n3s j v w):Vm n0 B h0 h1 h2 h3 n0s n1s n2s n3s j v w':=by
 unfold Vm at h ⊢
 split at h
 all_goals first|exact h|exact h.leB a
def Ws(n0:Nat)(v:Value)(a:LB)(w:World):Prop:=∃b,v=.pointer (some ⟨b,0,none⟩)∧n0<=b∧b < w.heap.size∧B9 w b a
def X3(n0:Nat)(n0s n1s n2s n3s:LB)(l:Array Bool)(tm:Array Value)(w:World)(q:Nat):Prop:=l.getD (16+q) false=true->Ws n0 (tm.getD (4+q) undef) ((([n0s,n1s,n2s,n3s]:List LB))[q]?.getD []) w
structure FY (n0:Nat) (V:World) (n0s n1s n2s n3s:List ByteArray) (l:Array Bool) (tm:Array Value) (w:World):Prop where
 below:Below n0 V w
 apart:∀p q,p < 4->q < 4->p≠q->l.getD (12+p) false=true->l.getD (12+q) false=true->tm.getD (4+p) undef≠tm.getD (4+q) undef
 full:∀q,q < 4->X3 n0 n0s n1s n2s n3s l tm w q
section
variable{n0:Nat}{V w w':World}{n0s n1s n2s n3s:LB}{l:Array Bool}{tm:Array Value}
theorem B9.below{b:Nat}{a:LB}(h:B9 w b a)(hb:Below w.heap.size w w'):B9 w' b a:=by
 obtain ⟨m,h1,h2⟩:=h
 exact ⟨m,(hb.block b (yd.1 h1).1).trans h1,h2.block (hb.block m h2.lt)⟩
theorem FY.quiet(h:FY n0 V n0s n1s n2s n3s l tm w){i t:Nat}{v:Value}(hi:i < 12)(m:7 < t)(f:n0<=w.heap.size)(hb:Below w.heap.size w w'):FY n0 V n0s n1s n2s n3s (l.setIfInBounds i true) (tm.setIfInBounds t v) w':=by
 refine ⟨h.below.trans (hb.mono f),fun p q g c a d e=>?_,fun q c k=>?_⟩
 ·rw[A8 (by omega)] at d e
  rw[Bp (by omega),Bp (by omega)]
  exact h.apart p q g c a d e
 ·rw[A8 (by omega)] at k
  rw[Bp (by omega)]
  obtain ⟨b,h1,h2,h3,j⟩:=h.full q c k
  exact ⟨b,h1,h2,yt h3 hb.size,j.below hb⟩
theorem FY.alloc(h:FY n0 V n0s n1s n2s n3s l tm w){q:Nat}(v:q < 4)(s:n0<=w.heap.size)(n:tm.size=174)(g:∀p,p < 4->l.getD (12+p) false=true->Ir n0 (tm.getD (4+p) undef) w)(o:l.getD (16+q) false=false)(z:Value):
  FY n0 V n0s n1s n2s n3s (l.setIfInBounds (12+q) true) (tm.setIfInBounds (4+q) (.pointer (some ⟨w.heap.size,0,none⟩))) (w.alloc (.cells #[z] 137)):=by
 have hb:Below w.heap.size w (w.alloc (.cells #[z] 137)):=(yg _ _).alloc (yf _) _
 have a:(tm.setIfInBounds (4+q) (pV w.heap.size 0)).getD (4+q) undef=pV w.heap.size 0:=by simp[n,show 4+q < 174 by omega]
 have c:∀p,p < 4->p≠q->(l.setIfInBounds (12+q) true).getD (12+p) false=true->∃b,tm.getD (4+p) undef=pV b 0∧b < w.heap.size:=fun p f d k=>by
  rw[A8 (by omega)] at k
  obtain ⟨b,z,h1,_,h3⟩:=g p f k
  exact ⟨b,h1,(yd.1 h3).1⟩
 refine ⟨h.below.trans (hb.mono s),fun p r f hr d j m=>?_,fun p f k=>?_⟩
 ·by_cases i:p=q
  ·subst i
   obtain ⟨b,h1,h2⟩:=c r hr (xd d) m
   rw[a,Bp (by omega),h1]
   intro e;simp at e<;>omega
  ·obtain ⟨b,h1,h2⟩:=c p f i j
   by_cases u:r=q
   ·subst u
    rw[a,Bp (by omega),h1]
    intro e;simp at e<;>omega
   ·rw[Bp (by omega),Bp (by omega)]
    rw[A8 (by omega)] at j m
    exact h.apart p r f hr d j m
 ·rw[A8 (by omega)] at k
  by_cases i:p=q
  ·subst i;rw[o] at k;cases k
  ·rw[Bp (by omega)]
   obtain ⟨b,h1,h2,h3,t⟩:=h.full p f k
   exact ⟨b,h1,h2,yt h3 hb.size,t.below hb⟩
theorem FY.store(h:FY n0 V n0s n1s n2s n3s l tm w){q b m:Nat}{z:Value}(I:q < 4)(E:n0<=b)(hb:w.heap[b]?=some (.cells #[z] 137 (0,0)))(t:tm.getD (4+q) undef=.pointer (some ⟨b,0,none⟩))
 (H:BT w m ((([n0s,n1s,n2s,n3s]:List LB))[q]?.getD []))(y:l.getD (12+q) false=true)(g:∀p,p < 4->l.getD (16+p) false=true->l.getD (12+p) false=true):
  FY n0 V n0s n1s n2s n3s (l.setIfInBounds (16+q) true) tm (w.setCell ⟨b,0,none⟩ (.map (some m)))∧JX n0 w (w.setCell ⟨b,0,none⟩ (.map (some m))):=by
 have d:(w.setCell (aV b 0) (.map (some m))).heap[b]?=some (.cells #[.map (some m)] 137 (0,0)):=by
  have:=zr w b 0 #[z] 137 (.map (some m)) hb
  rw[this];rfl
 have a:∀c,c≠b->(w.setCell (aV b 0) (.map (some m))).heap[c]?=w.heap[c]?:=fun c x=>zl w (aV b 0) c _ x
 have f:∀n j,BT w n j->BT (w.setCell (aV b 0) (.map (some m))) n j:=fun n j h=>by
  obtain ⟨J,A,h1,_⟩:=h.size
  exact h.block (a n (fun e=>by rw[e,hb] at h1;cases h1))
 refine ⟨⟨?_,fun p r s hr i B C=>?_,fun p s k=>?_⟩,by simp,fun c o x u=>?_⟩
 ·exact h.below.trans ⟨rfl,rfl,rfl,by simp,fun c x=>a c (by omega)⟩
 ·rw[A8 (by omega)] at B C
  exact h.apart p r s hr i B C
 ·by_cases D:p=q
  ·subst D
   exact ⟨b,t,E,by simpa using (yd.1 hb).1,m,d,f _ _ H⟩
  ·rw[A8 (by omega)] at k
   obtain ⟨v,h1,h2,h3,n,G,F⟩:=h.full p s k
   have i:v≠b:=fun e=>h.apart p q s I D (g p s k) y (by rw[h1,t,e])
   exact ⟨v,h1,h2,by simpa using h3,n,(a v i).trans G,f _ _ F⟩
 ·by_cases e:c=b
  ·subst e
   rw[hb] at u
   exact .inr ⟨z,.map (some m),(yi u).symm,d⟩
  ·exact .inl ((a c e).trans u)
end
theorem X4{S:Act}{V:World}{Q:QT}{B:Nat}{h0 h1 h2 h3:Aw}{n0s n1s n2s n3s:LB}(ops:Array Oper)(T:DP Tryz.f32 11=some ops)
 (O:S.tmps.getD 1 undef=.pointer (some ⟨B,0,none⟩))(hz:S.tmps.size=174)
 (hc:∀W,Below V.heap.size V W->W.cell? ⟨B,19,none⟩=some (.slice h0.a h0.n h0.c)∧W.cell? ⟨B,20,none⟩=some (.slice h1.a h1.n h1.c)∧W.cell? ⟨B,21,none⟩=some (.slice h2.a h2.n h2.c)∧W.cell? ⟨B,22,none⟩=some (.slice h3.a h3.n h3.c))
 (a6:∀W,Below V.heap.size V W->Bd W h0 7 0 n0s)(af:∀W,Below V.heap.size V W->Bd W h1 7 0 n1s)(aa:∀W,Below V.heap.size V W->Bd W h2 51 0 n2s)(ac:∀W,Below V.heap.size V W->Bd W h3 12 0 n3s)
 (a8:n0s.length<=100000)(ad:n1s.length<=100000)(ae:n2s.length<=100000)(a7:n3s.length<=100000)
 (R:∀(a:Act) W,a.defers=S.defers->(∀t,(t < 4∨54 < t)->a.tmps.getD t undef=S.tmps.getD t undef)->Below V.heap.size V W->¬ (n0s.Nodup∧n1s.Nodup∧n2s.Nodup∧n3s.Nodup)->Q (.panic (ED 171)) a W)
 (a2:∀(a:Act) W (bl bc br bf:Nat),a.tmps.size=174->a.defers=S.defers->(∀t,t∉[4,5,6,7,43,44,45,46,47,48,49,50,51,52,53,54]->a.tmps.getD t undef=S.tmps.getD t undef)->
   a.tmps.getD 4 undef=.pointer (some ⟨bl,0,none⟩)->a.tmps.getD 5 undef=.pointer (some ⟨bc,0,none⟩)->a.tmps.getD 6 undef=.pointer (some ⟨br,0,none⟩)->a.tmps.getD 7 undef=.pointer (some ⟨bf,0,none⟩)->
   B9 W bl n0s->B9 W bc n1s->B9 W br n2s->B9 W bf n3s->(V.heap.size<=bl∧bl < W.heap.size)->(V.heap.size<=bc∧bc < W.heap.size)->(V.heap.size<=br∧br < W.heap.size)->(V.heap.size<=bf∧bf < W.heap.size)->Below V.heap.size V W->(n0s.Nodup∧n1s.Nodup∧n2s.Nodup∧n3s.Nodup)->Q .normal a W):
  (Code.region 11 ops true).wp Tryz.prog Q S V:=by
 obtain rfl:=yi ((rfl:DP Tryz.f32 11=some _).symm.trans T)
 clear T
 have U:∀ {ab:Array Bool->Array Value->World->Prop} {Pp:Nat->Value->World->Prop} {f:Array Bool} {a:Act} {w':World},Jy _ S ab Pp f a w'->∀t,t∉[4,5,6,7,43,44,45,46,47,48,49,50,51,52,53,54]->a.tmps.getD t undef=S.tmps.getD t undef:=fun hM t ht=>by
  refine hM.free t fun mm ag o x hd=>ht ?_
  have hs:=I4 (ops:=(Tryz.f32.body.bind (CV 11)).getD #[]) (p:=fun o=>match o.dst with|some k=>decide (k∈[4,5,6,7,43,44,45,46,47,48,49,50,51,52,53,54])|none=>true) (by kernel_rfl) x
  rw[hd] at hs
  exact yR hs
 refine BP (by kernel_rfl) (FY V.heap.size V n0s n1s n2s n3s) (Vm V.heap.size B h0 h1 h2 h3 n0s n1s n2s n3s) (fun _=>JX V.heap.size) (by kernel_rfl) (by rw[hz];kernel_rfl) (by kernel_rfl) (fun _ j v w w' _ _ hl h=>ON j v w w' hl h) ?_ ?_ ?_
 ·refine ⟨(yg _ _).drew,fun p q M hq ah k1 k2=>?_,fun q hq k=>?_⟩
  ·exfalso
   match p,M with
   |0,_=>cases k1
   |1,_=>cases k1
   |2,_=>cases k1
   |3,_=>cases k1
  ·exfalso
   match q,hq with
   |0,_=>cases k
   |1,_=>cases k
   |2,_=>cases k
   |3,_=>cases k
 ·intro ix f a w' hM l o x
  have r:=yb hM.ext
  have a0:=(yd.1 x).1
  have Z:V.heap.size<=w'.heap.size:=hM.ext.below.size
  have i:=yb Z
  have N:Hid (a.tmps.size=174):=yb (hM.tmps.trans hz)
  have HF:=yb (U hM)
  have P:=yb hM.defers
  have K:Hid (∀p,p < 4->f.getD (12+p) false=true->Ir V.heap.size (a.tmps.getD (4+p) undef) w'):=yb (fun p M k=>by
   match p,M with
   |0,_=>exact hM.done 12 k _ 4 rfl rfl
   |1,_=>exact hM.done 13 k _ 5 rfl rfl
   |2,_=>exact hM.done 14 k _ 6 rfl rfl
   |3,_=>exact hM.done 15 k _ 7 rfl rfl)
  clear Z
  match ix,a0 with
  |0,_=>
   have d:=hM.old l 1 (by kernel_rfl) _ O
   obtain rfl:=yi x
   go_simp
   exact ⟨_,rfl,r.o.quiet (by decide) (by decide) i.o (yg _ _),JX.refl _ _,rfl⟩
  |1,_=>
   have d:a.tmps[43]?.getD undef=pV B 19:=hM.dep l 0 43 (by kernel_rfl) (by kernel_rfl)
   obtain ⟨x0,x1,x2,x3⟩:=hc _ r.o.below
   obtain rfl:=yi x
   go_simp
   exact ⟨_,rfl,r.o.quiet (by decide) (by decide) i.o (yg _ _),JX.refl _ _,rfl⟩
  |2,_=>
   have d:a.tmps[44]?.getD undef=.slice h0.a h0.n h0.c:=hM.dep l 1 44 (by kernel_rfl) (by kernel_rfl)
   have L:=yb (Sn (a6 _ r.o.below) a8)
   unfold Aw.v at L
   obtain rfl:=yi x
   go_simp
   refine L.o.mono ?_
   rintro e w2 ⟨g,⟨s,m,rfl,H,G⟩|⟨s,rfl⟩⟩
   ·exact ⟨_,rfl,r.o.quiet (by decide) (by decide) i.o g,JX.below g,m,rfl,yu i.o H,G,s⟩
   ·exact R _ _ P.o (fun t ht=>HF.o t (by simp;omega)) (r.o.below.trans (g.mono i.o)) (fun h=>s h.1)
  |3,_=>
   have d:=hM.old l 1 (by kernel_rfl) _ O
   obtain rfl:=yi x
   go_simp
   exact ⟨_,rfl,r.o.quiet (by decide) (by decide) i.o (yg _ _),JX.refl _ _,rfl⟩
  |4,_=>
   have d:a.tmps[46]?.getD undef=pV B 20:=hM.dep l 3 46 (by kernel_rfl) (by kernel_rfl)
   obtain ⟨x0,x1,x2,x3⟩:=hc _ r.o.below
   obtain rfl:=yi x
   go_simp
   exact ⟨_,rfl,r.o.quiet (by decide) (by decide) i.o (yg _ _),JX.refl _ _,rfl⟩
  |5,_=>
   have d:a.tmps[47]?.getD undef=.slice h1.a h1.n h1.c:=hM.dep l 4 47 (by kernel_rfl) (by kernel_rfl)
   have L:=yb (Q8 (af _ r.o.below) ad)
   unfold Aw.v at L
   obtain rfl:=yi x
   go_simp
   refine L.o.mono ?_
   rintro e w2 ⟨g,⟨s,m,rfl,H,G⟩|⟨s,rfl⟩⟩
   ·exact ⟨_,rfl,r.o.quiet (by decide) (by decide) i.o g,JX.below g,m,rfl,yu i.o H,G,s⟩
   ·exact R _ _ P.o (fun t ht=>HF.o t (by simp;omega)) (r.o.below.trans (g.mono i.o)) (fun h=>s h.2.1)
  |6,_=>
   have d:=hM.old l 1 (by kernel_rfl) _ O
   obtain rfl:=yi x
   go_simp
   exact ⟨_,rfl,r.o.quiet (by decide) (by decide) i.o (yg _ _),JX.refl _ _,rfl⟩
  |7,_=>
   have d:a.tmps[49]?.getD undef=pV B 21:=hM.dep l 6 49 (by kernel_rfl) (by kernel_rfl)
   obtain ⟨x0,x1,x2,x3⟩:=hc _ r.o.below
   obtain rfl:=yi x
   go_simp
   exact ⟨_,rfl,r.o.quiet (by decide) (by decide) i.o (yg _ _),JX.refl _ _,rfl⟩
  |8,_=>
   have d:a.tmps[50]?.getD undef=.slice h2.a h2.n h2.c:=hM.dep l 7 50 (by kernel_rfl) (by kernel_rfl)
   have L:=yb (On (aa _ r.o.below) ae)
   unfold Aw.v at L
   obtain rfl:=yi x
   go_simp
   refine L.o.mono ?_
   rintro e w2 ⟨g,⟨s,m,rfl,H,G⟩|⟨s,rfl⟩⟩
   ·exact ⟨_,rfl,r.o.quiet (by decide) (by decide) i.o g,JX.below g,m,rfl,yu i.o H,G,s⟩
   ·exact R _ _ P.o (fun t ht=>HF.o t (by simp;omega)) (r.o.below.trans (g.mono i.o)) (fun h=>s h.2.2.1)
  |9,_=>
   have d:=hM.old l 1 (by kernel_rfl) _ O
   obtain rfl:=yi x
   go_simp
   exact ⟨_,rfl,r.o.quiet (by decide) (by decide) i.o (yg _ _),JX.refl _ _,rfl⟩
  |10,_=>
   have d:a.tmps[52]?.getD undef=pV B 22:=hM.dep l 9 52 (by kernel_rfl) (by kernel_rfl)
   obtain ⟨x0,x1,x2,x3⟩:=hc _ r.o.below
   obtain rfl:=yi x
   go_simp
   exact ⟨_,rfl,r.o.quiet (by decide) (by decide) i.o (yg _ _),JX.refl _ _,rfl⟩
  |11,_=>
   have d:a.tmps[53]?.getD undef=.slice h3.a h3.n h3.c:=hM.dep l 10 53 (by kernel_rfl) (by kernel_rfl)
   have L:=yb (Q9 (ac _ r.o.below) a7)
   unfold Aw.v at L
   obtain rfl:=yi x
   go_simp
   refine L.o.mono ?_
   rintro e w2 ⟨g,⟨s,m,rfl,H,G⟩|⟨s,rfl⟩⟩
   ·exact ⟨_,rfl,r.o.quiet (by decide) (by decide) i.o g,JX.below g,m,rfl,yu i.o H,G,s⟩
   ·exact R _ _ P.o (fun t ht=>HF.o t (by simp;omega)) (r.o.below.trans (g.mono i.o)) (fun h=>s h.2.2.2)
  |12,_=>
   have C:f.getD (16+0) false=false:=by
    rw[ym];intro Y
    have:=A1 hM.down 8 16 12 (by kernel_rfl) Y
    rw[hM.not_yet l] at this;cases this
   have J:=yb C
   clear C
   obtain rfl:=yi x
   go_simp
   exact ⟨_,rfl,r.o.alloc (q:=0) (by decide) i.o N.o K.o J.o _,JX.below ((yg _ _).alloc (yf _) _),_,_,rfl,i.o,World.alloc_heap_new _ _⟩
  |13,_=>
   have C:f.getD (16+1) false=false:=by
    rw[ym];intro Y
    have:=A1 hM.down 8 17 13 (by kernel_rfl) Y
    rw[hM.not_yet l] at this;cases this
   have J:=yb C
   clear C
   obtain rfl:=yi x
   go_simp
   exact ⟨_,rfl,r.o.alloc (q:=1) (by decide) i.o N.o K.o J.o _,JX.below ((yg _ _).alloc (yf _) _),_,_,rfl,i.o,World.alloc_heap_new _ _⟩
  |14,_=>
   have C:f.getD (16+2) false=false:=by
    rw[ym];intro Y
    have:=A1 hM.down 8 18 14 (by kernel_rfl) Y
    rw[hM.not_yet l] at this;cases this
   have J:=yb C
   clear C
   obtain rfl:=yi x
   go_simp
   exact ⟨_,rfl,r.o.alloc (q:=2) (by decide) i.o N.o K.o J.o _,JX.below ((yg _ _).alloc (yf _) _),_,_,rfl,i.o,World.alloc_heap_new _ _⟩
  |15,_=>
   have C:f.getD (16+3) false=false:=by
    rw[ym];intro Y
    have:=A1 hM.down 8 19 15 (by kernel_rfl) Y
    rw[hM.not_yet l] at this;cases this
   have J:=yb C
   clear C
   obtain rfl:=yi x
   go_simp
   exact ⟨_,rfl,r.o.alloc (q:=3) (by decide) i.o N.o K.o J.o _,JX.below ((yg _ _).alloc (yf _) _),_,_,rfl,i.o,World.alloc_heap_new _ _⟩
  |16,_=>
   have hb:Ir V.heap.size (a.tmps[4]?.getD undef) w':=hM.dep l 12 4 (by kernel_rfl) (by kernel_rfl)
   have H:Fm V.heap.size (a.tmps[45]?.getD undef) n0s w':=hM.dep l 2 45 (by kernel_rfl) (by kernel_rfl)
   obtain ⟨b,z,X,A,g⟩:=hb
   obtain ⟨m,d2,F,y,I⟩:=H
   have D:∀p,p < 4->f.getD (16+p) false=true->f.getD (12+p) false=true:=fun p M k=>by
    match p,M with
    |0,_=>exact A1 hM.down 8 16 12 (by kernel_rfl) k
    |1,_=>exact A1 hM.down 8 17 13 (by kernel_rfl) k
    |2,_=>exact A1 hM.down 8 18 14 (by kernel_rfl) k
    |3,_=>exact A1 hM.down 8 19 15 (by kernel_rfl) k
   have E:=yb (r.o.store (q:=0) (m:=m) (by decide) A g (by rw[yB];exact X) y (hM.came l 12 (by kernel_rfl)) D)
   have c1:w'.cell? (aV b 0)=some z:=by simp[World.cell?,g]
   have c2:w'.frozen? (aV b 0)=false:=by simp[World.frozen?,g]
   clear A g F y I D
   obtain rfl:=yi x
   go_simp
   exact ⟨undef,rfl,E.o.1,E.o.2,trivial⟩
  |17,_=>
   have hb:Ir V.heap.size (a.tmps[5]?.getD undef) w':=hM.dep l 13 5 (by kernel_rfl) (by kernel_rfl)
   have H:Fm V.heap.size (a.tmps[48]?.getD undef) n1s w':=hM.dep l 5 48 (by kernel_rfl) (by kernel_rfl)
   obtain ⟨b,z,X,A,g⟩:=hb
   obtain ⟨m,d2,F,y,I⟩:=H
   have D:∀p,p < 4->f.getD (16+p) false=true->f.getD (12+p) false=true:=fun p M k=>by
    match p,M with
    |0,_=>exact A1 hM.down 8 16 12 (by kernel_rfl) k
    |1,_=>exact A1 hM.down 8 17 13 (by kernel_rfl) k
    |2,_=>exact A1 hM.down 8 18 14 (by kernel_rfl) k
    |3,_=>exact A1 hM.down 8 19 15 (by kernel_rfl) k
   have E:=yb (r.o.store (q:=1) (m:=m) (by decide) A g (by rw[yB];exact X) y (hM.came l 13 (by kernel_rfl)) D)
   have c1:w'.cell? (aV b 0)=some z:=by simp[World.cell?,g]
   have c2:w'.frozen? (aV b 0)=false:=by simp[World.frozen?,g]
   clear A g F y I D
   obtain rfl:=yi x
   go_simp
   exact ⟨undef,rfl,E.o.1,E.o.2,trivial⟩
  |18,_=>
   have hb:Ir V.heap.size (a.tmps[6]?.getD undef) w':=hM.dep l 14 6 (by kernel_rfl) (by kernel_rfl)
   have H:Fm V.heap.size (a.tmps[51]?.getD undef) n2s w':=hM.dep l 8 51 (by kernel_rfl) (by kernel_rfl)
   obtain ⟨b,z,X,A,g⟩:=hb
   obtain ⟨m,d2,F,y,I⟩:=H
   have D:∀p,p < 4->f.getD (16+p) false=true->f.getD (12+p) false=true:=fun p M k=>by
    match p,M with
    |0,_=>exact A1 hM.down 8 16 12 (by kernel_rfl) k
    |1,_=>exact A1 hM.down 8 17 13 (by kernel_rfl) k
    |2,_=>exact A1 hM.down 8 18 14 (by kernel_rfl) k
    |3,_=>exact A1 hM.down 8 19 15 (by kernel_rfl) k
   have E:=yb (r.o.store (q:=2) (m:=m) (by decide) A g (by rw[yB];exact X) y (hM.came l 14 (by kernel_rfl)) D)
   have c1:w'.cell? (aV b 0)=some z:=by simp[World.cell?,g]
   have c2:w'.frozen? (aV b 0)=false:=by simp[World.frozen?,g]
   clear A g F y I D
   obtain rfl:=yi x
   go_simp
   exact ⟨undef,rfl,E.o.1,E.o.2,trivial⟩
  |19,_=>
   have hb:Ir V.heap.size (a.tmps[7]?.getD undef) w':=hM.dep l 15 7 (by kernel_rfl) (by kernel_rfl)
   have H:Fm V.heap.size (a.tmps[54]?.getD undef) n3s w':=hM.dep l 11 54 (by kernel_rfl) (by kernel_rfl)
   obtain ⟨b,z,X,A,g⟩:=hb
   obtain ⟨m,d2,F,y,I⟩:=H
   have D:∀p,p < 4->f.getD (16+p) false=true->f.getD (12+p) false=true:=fun p M k=>by
    match p,M with
    |0,_=>exact A1 hM.down 8 16 12 (by kernel_rfl) k
    |1,_=>exact A1 hM.down 8 17 13 (by kernel_rfl) k
    |2,_=>exact A1 hM.down 8 18 14 (by kernel_rfl) k
    |3,_=>exact A1 hM.down 8 19 15 (by kernel_rfl) k
   have E:=yb (r.o.store (q:=3) (m:=m) (by decide) A g (by rw[yB];exact X) y (hM.came l 15 (by kernel_rfl)) D)
   have c1:w'.cell? (aV b 0)=some z:=by simp[World.cell?,g]
   have c2:w'.frozen? (aV b 0)=false:=by simp[World.frozen?,g]
   clear A g F y I D
   obtain rfl:=yi x
   go_simp
   exact ⟨undef,rfl,E.o.1,E.o.2,trivial⟩
 ·intro f a w' u hM
  obtain ⟨bl,l1,l2,l3,l4⟩:=hM.ext.full 0 (by decide) (u 16 (show 16 < 20 by omega))
  obtain ⟨bc,c1,c2,c3,c4⟩:=hM.ext.full 1 (by decide) (u 17 (show 17 < 20 by omega))
  obtain ⟨br,r1,r2,r3,r4⟩:=hM.ext.full 2 (by decide) (u 18 (show 18 < 20 by omega))
  obtain ⟨bf,f1,f2,f3,f4⟩:=hM.ext.full 3 (by decide) (u 19 (show 19 < 20 by omega))
  obtain ⟨_,_,_,_,g0⟩:Fm V.heap.size _ n0s w':=hM.done 2 (u 2 (show 2 < 20 by omega)) _ 45 rfl rfl
  obtain ⟨_,_,_,_,g1⟩:Fm V.heap.size _ n1s w':=hM.done 5 (u 5 (show 5 < 20 by omega)) _ 48 rfl rfl
  obtain ⟨_,_,_,_,g2⟩:Fm V.heap.size _ n2s w':=hM.done 8 (u 8 (show 8 < 20 by omega)) _ 51 rfl rfl
  obtain ⟨_,_,_,_,g3⟩:Fm V.heap.size _ n3s w':=hM.done 11 (u 11 (show 11 < 20 by omega)) _ 54 rfl rfl
  exact a2 a w' bl bc br bf (hM.tmps.trans hz) hM.defers (U hM) l1 c1 r1 f1 l4 c4 r4 f4 ⟨l2,l3⟩ ⟨c2,c3⟩ ⟨r2,r3⟩ ⟨f2,f3⟩ hM.ext.below ⟨g0,g1,g2,g3⟩
theorem Wu{Q:QT}{w V W5:World}{x:Ar}{L:Bt}{N M:NP}{bl bc br bf Bf:Nat}(hQ:L9 Q w x)(l:Ii w x W5 L N M bl bc br bf Bf V.heap.size)
 (S:RL w.heap.size W5 (Tb.of x) (CF W5 L x) V.heap.size (.cells #[.pointer (some ⟨w.heap.size+1,0,none⟩)] 85) 0 V)(ah:Bf < V.heap.size)(a7:br < V.heap.size)(a8:W5.heap.size=V.heap.size+1)
 (u0 u1 u8 u9 u10 u11 u12 u14 u15 u16 u17 u18 u19 u20 u21 u22 u23 u24 u25 u26 u27 u28 u29 u30 u31 u32 u33 u34 u35 u36 u37 u38 u39 u40 u41 u42 u43 u44 u45 u46 u47 u48 u49 u50 u51 u52 u53 u54 u55 u56 u57 u58 u59 u60 u61 u62 u63 u64 u65 u66 u67 u68 u69 u70 u71 u72 u73 u74 u75 u76 u77 u78 u79 u80 u81 u82 u83 u84 u85 u86 u87 u88 u89 u90 u91 u92 u93 u94 u95 u96 u97 u98 u99 u100 u101 u102 u103 u104 u105 u106 u107 u108 u109 u110 u111 u112 u113 u114 u115 u116 u117 u118 u119 u120 u121 u122 u123 u124 u125 u126 u127 u128 u129 u130 u131 u132 u133 u134 u135 u136 u137 u138 u139 u140 u141 u142 u143 u144 u145 u146 u147 u148 u149 u150 u151 u152 u153 u154 u155 u156 u157 u158 u159 u160 u161 u162 u163 u164 u165 u166 u167 u168 u169 u170 u171 u172 u173:Value):
  FQ 32 Tryz.prog (Gf 19 (Tryz.f32.body.getD .skip)) Q {tmps:=#[u0,u1,.pointer (some ⟨w.heap.size+1,0,none⟩),.pointer (some ⟨w.heap.size+2,0,none⟩),.pointer (some ⟨bl,0,none⟩),.pointer (some ⟨bc,0,none⟩),.pointer (some ⟨br,0,none⟩),.pointer (some ⟨bf,0,none⟩),u8,u9,u10,u11,u12,.pointer (some ⟨Bf,0,none⟩),u14,u15,u16,u17,u18,u19,u20,u21,u22,u23,u24,u25,u26,u27,u28,u29,u30,u31,u32,u33,u34,u35,u36,u37,u38,u39,u40,u41,u42,u43,u44,u45,u46,u47,u48,u49,u50,u51,u52,u53,u54,u55,u56,u57,u58,u59,u60,u61,u62,u63,u64,u65,u66,u67,u68,u69,u70,u71,u72,u73,u74,u75,u76,u77,u78,u79,u80,u81,u82,u83,u84,u85,u86,u87,u88,u89,u90,u91,u92,u93,u94,u95,u96,u97,u98,u99,u100,u101,u102,u103,u104,u105,u106,u107,u108,u109,u110,u111,u112,u113,u114,u115,u116,u117,u118,u119,u120,u121,u122,u123,u124,u125,u126,u127,u128,u129,u130,u131,u132,u133,u134,u135,u136,u137,u138,u139,u140,u141,u142,u143,u144,u145,u146,u147,u148,u149,u150,u151,u152,u153,u154,u155,u156,u157,u158,u159,u160,u161,u162,u163,u164,u165,u166,u167,u168,u169,u170,u171,u172,u173],defers:=[Jv w.heap.size]} V:=by
 have O:=l.ls
 have R:w.heap.size+3<=V.heap.size:=by
  obtain ⟨v,he⟩:=l.amid.e
  have h1:=(yd.1 he).1
  rcases zO (w.heap.size+2) V.heap.size with h|h
  ·omega
  ·have h2:w.heap.size+2=V.heap.size:=by omega
   rw[h2,l.box] at he
   cases he
 have f:L.reaches.ok:=l.ps.reaches.ok
 have U:∀k wr,RL w.heap.size W5 (Tb.of x) (CF W5 L x) V.heap.size (.cells #[.pointer (some ⟨w.heap.size+1,0,none⟩)] 85) k wr->wr.cell? ⟨w.heap.size+1,21,none⟩=some L.reaches.v:=fun k wr h=>by
  rw[<-h.cell (by omega),h.2.cells _ _ (by omega) (Ge ⟨_,O▸l.ps.ty,rfl⟩),<-O]
  exact l.ps.hreaches
 have G:L.reaches.n<=140737488355328:=f.1
 have P:L.reaches.n=x.reaches.length:=l.ps.reaches.1
 have u:∀k wr,RL w.heap.size W5 (Tb.of x) (CF W5 L x) V.heap.size (.cells #[.pointer (some ⟨w.heap.size+1,0,none⟩)] 85) k wr->wr.cell? ⟨Bf,0,none⟩=some (.func (.func 68) #[] #[]):=fun k wr h=>by
  rw[<-h.cell ah];exact Le l.find (by simp) (I3 (by decide)) h.2
 obtain ⟨mr,ad⟩:∃mr,∀k wr,RL w.heap.size W5 (Tb.of x) (CF W5 L x) V.heap.size (.cells #[.pointer (some ⟨w.heap.size+1,0,none⟩)] 85) k wr->wr.cell? ⟨br,0,none⟩=some (.map (some mr))∧BT wr mr (x.reaches.map (·.name)):=by
  obtain ⟨m,h1,h2⟩:=l.reaches
  obtain ⟨es,ao,h3,_⟩:=h2.size
  have ar:m < V.heap.size:=by
   rcases zO m V.heap.size with h|h
   ·exact h
   ·have h4:m=V.heap.size:=by have:=h2.lt;omega
    rw[h4,l.box] at h3;cases h3
  refine ⟨m,fun k wr h=>⟨?_,?_⟩⟩
  ·rw[<-h.cell a7];exact Le h1 (by simp) (I3 (by decide)) h.2
  ·refine h2.block ?_
   rw[<-h.heap ar]
   exact h.2.same m h2.lt (Ld fun t ⟨c,hc⟩=>by rw[h3] at hc;cases hc)
 have al:=yb U;have T:=yb u;have X:=yb ad
 have HQ:=yb hQ;have F:=yb l;have b8:=yb R;have ax:=yb a8;have HN:=yb P
 have b4:=yb S
 have C:Hid (∀k tm wr,RL w.heap.size W5 (Tb.of x) (CF W5 L x) V.heap.size (.cells #[.pointer (some ⟨w.heap.size+1,0,none⟩)] 85) k wr->Me w.heap.size tm->AF x=170->Q (.panic (ED 170)) {tmps:=tm,defers:=[Jv w.heap.size]} wr):=yb (fun k tm wr h hv J=>by
  have:=hQ.fail tm wr hv (RL.amid l.amid h R) (by rw[J];decide)
  rw[J] at this;exact this)
 have p:=U 0 V S
 have ag:=l.ps.reaches.2.2
 have ay:=yb ag
 generalize aa:L.reaches=rr at p G P
 obtain ⟨ra,rn,rc⟩:=rr
 have q:=yb aa
 unfold Aw.v at p
 simp only at p G
 clear O R f U P u ad hQ l S ah a7 a8 ag aa
 unfold Jv
 refine A9 (A4 ?_)
 go_wp2
 clear p
 go_loopw [91] (fun iv wr=>∃i:Nat,iv=.int .i64 i∧i<=rn∧Hid (RL w.heap.size W5 (Tb.of x) (CF W5 L x) V.heap.size (.cells #[.pointer (some ⟨w.heap.size+1,0,none⟩)] 85) i wr)) (fun iv _=>rn - (intOf iv).toNat)
 case atStart=>exact ⟨0,rfl,yI _,b4⟩
 case round=>
  obtain ⟨i,rfl,hi,HR⟩:=hrel
  by_cases ac:i < rn
  ·have hl:i < x.reaches.length:=by rw[<-HN.o,q.o];exact ac
   obtain ⟨g,ha,hg,ty,Z⟩:=ay.o i hl
   rw[q.o] at ha
   simp only at ha
   subst ha
   have hX:=Qt F.o.ps hl (by rw[q.o])
   have b:=zW hX
   have y:=F.o.uok _ b
   have am:g < V.heap.size:=by
    have h1:=(F.o.hN g hg).2
    rcases zO g V.heap.size with h|h
    ·exact h
    ·have h4:g=V.heap.size:=by have:=ax.o;omega
     obtain ⟨c,hc⟩:=ty
     rw[h4,F.o.box] at hc;cases hc
   have a2:(x.reaches[i].frm.name).size<=maxLen:=y.len
   generalize x.reaches[i].frm.name=Y at hX b y a2
   generalize x.reaches[i].frm.n=un at hX b y
   have HX:=yb hX;have H:=yb b;have a0:=yb y;have E:=yb am;have K:=yb a2
   have au:(i:Int) < (rn:Int):=by omega
   have b9:Hid (i < (x.reaches.map (·.name)).length):=yb (by rw[yV];exact hl)
   clear hX b y am a2 hg ty Z hl
   by_cases h0:i=0
   ·subst h0
    obtain ⟨c0,⟨z,c1,A⟩,cf⟩:=HR.o.read a0.o E.o
    simp only[Nat.zero_mul,yy] at c0 c1 A
    obtain rfl:=A (by simp)
    have b7:wr.cell? ⟨w.heap.size+1,21,none⟩=some (.slice (some ⟨g,0,none⟩) rn rc):=by
     have h:=al.o _ _ HR.o
     rw[q.o] at h;exact h
    clear cf A
    cases hb:Ju (Tb.of x) ⟨g,0*51+1,if (0:Nat)=0 then 0 else 6,(0:Nat),Y,z⟩ with
    |true=>
     have HB:=yb hb
     obtain ⟨ab,b0⟩:Y.size=0∧z=0:=by
      have h:=hb
      unfold Ju Kg at h
      simpa using h
     have av:Y=⟨#[]⟩:=OM ((DD Y).1 ab)
     clear hb ab
     subst b0
     subst av
     go_wp2_with (first|(go_at_call 69;refine (Cw _ _).mono ?_;rintro e w5 ⟨rfl,a6⟩;obtain rfl:=a6.symm))
     exact ⟨⟨1,rfl,by omega,yb (HR.o.skip HX.o (by simp) HB.o)⟩,by simp[intOf];omega⟩
    |false=>
     have r:=yb (F.o.bad H.o hb)
     have ak:¬ (Y.size=0∧z=0):=by
      have h:=hb
      unfold Ju Kg at h
      simpa using h
     have aw:=yb ak
     clear hb ak
     go_wp2_with (first|(exact absurd ⟨(DD _).2 (by assumption),(by assumption)⟩ aw.o)|(go_at_call 69;refine (Co _ _).mono ?_;rintro e w5 ⟨rfl,a6⟩;obtain rfl:=a6.symm))
     all_goals first
      |exact C.o _ _ _ HR.o ⟨rfl,rfl⟩ r.o
      |fail
   ·have ai:=yb HR.o.drew
    have h6:(if i=0 then (0:Int) else 6)=6:=by rw[yq h0]
    have hS:∀W,RL w.heap.size W5 (Tb.of x) (CF W5 L x) V.heap.size (.cells #[.pointer (some ⟨w.heap.size+1,0,none⟩)] 85) i W->W.cell? ⟨Bf,0,none⟩=some (.func (.func 68) #[] #[])∧W.cell? ⟨w.heap.size+1,21,none⟩=some (.slice (some ⟨g,0,none⟩) rn rc)∧W.cell? ⟨br,0,none⟩=some (.map (some mr)):=fun W h=>⟨T.o _ _ h,by have h:=al.o _ _ h;rw[q.o] at h;exact h,(X.o _ _ h).1⟩
    have HS:=yb hS
    have ba:((i:Int)==0)=false:=by simp;omega
    have b5:=yb h6
    have I:=yb ac
    cases hb:Ju (Tb.of x) ⟨g,i*51+1,if i=0 then 0 else 6,(i:Int),Y,un⟩ with
    |true=>
     have HB:=yb hb
     rw[h6] at hb
     obtain ⟨j,hp,hv,af,ap⟩:=Gg (to:=6) (by decide) hb
     have d:Hid (∀W,RL w.heap.size W5 (Tb.of x) (CF W5 L x) V.heap.size (.cells #[.pointer (some ⟨w.heap.size+1,0,none⟩)] 85) i W->Calls Tryz.prog 68 #[.pointer (some ⟨g,i*51+1,none⟩),.map (some mr),.int .i64 i] W fun e w'=>(e=.returned (.tuple #[])∧RL w.heap.size W5 (Tb.of x) (CF W5 L x) V.heap.size (.cells #[.pointer (some ⟨w.heap.size+1,0,none⟩)] 85) (i+1) w')∨(e=.panicked (ED 170)∧False)):=yb (fun W h=>by
      obtain ⟨c0,⟨z,c1,A⟩,cf⟩:=h.read a0.o E.o
      refine (G8 (most:=(i:Int)) c0 c1 cf (X.o _ _ h).2 K.o hp (af rfl)).mono ?_
      rintro e w2 ⟨rfl,rfl⟩
      refine .inl ⟨rfl,?_⟩
      have h:=h.next F.o.uok HX.o E.o (by simp only;rw[h6];decide) HB.o
      simp only[h6] at h
      rw[show GN (Tb.of x) (EL 6) Y=_ from hv] at h
      exact h)
     clear hb hp hv af ap h6 hS h0
     go_wp2_with fail
     refine Wh (B:=w.heap.size) (Bf:=Bf) (g:=g) (rn:=rn) (rc:=rc) (br:=br) (mr:=mr) (i:=i) (R1:=fun W=>RL w.heap.size W5 (Tb.of x) (CF W5 L x) V.heap.size (.cells #[.pointer (some ⟨w.heap.size+1,0,none⟩)] 85) i W) (R2:=fun W=>RL w.heap.size W5 (Tb.of x) (CF W5 L x) V.heap.size (.cells #[.pointer (some ⟨w.heap.size+1,0,none⟩)] 85) (i+1) W) (R3:=fun _=>False) _ ?_ ?_ ?_ ?_ ?_ ?_ ?_ ?_ ?_ ?_ ?_ ?_
     ·rfl
     ·rfl
     ·rfl
     ·rfl
     ·rfl
     ·rfl
     ·exact I.o
     ·exact ai.o
     ·exact HS.o
     ·exact d.o
     ·exact fun _ _ _ _ h=>h.elim
     ·intro a W aj D s ae
      have aq:=yb ae
      obtain ⟨v105,v106,v107,v108,v109,v110,v111,v112,v113,rfl⟩:∃v105 v106 v107 v108 v109 v110 v111 v112 v113:Value,a={tmps:=#[u0,u1,.pointer (some ⟨w.heap.size+1,0,none⟩),.pointer (some ⟨w.heap.size+2,0,none⟩),.pointer (some ⟨bl,0,none⟩),.pointer (some ⟨bc,0,none⟩),.pointer (some ⟨br,0,none⟩),.pointer (some ⟨bf,0,none⟩),u8,u9,u10,u11,u12,.pointer (some ⟨Bf,0,none⟩),.int .i64 i,u15,u16,u17,u18,u19,u20,u21,u22,u23,u24,u25,u26,u27,u28,u29,u30,u31,u32,u33,u34,u35,u36,u37,u38,u39,u40,u41,u42,u43,u44,u45,u46,u47,u48,u49,u50,u51,u52,u53,u54,u55,u56,u57,u58,u59,u60,u61,u62,u63,u64,u65,u66,u67,u68,u69,u70,u71,u72,u73,u74,u75,u76,u77,u78,u79,u80,u81,u82,u83,u84,u85,u86,u87,.pointer (some ⟨w.heap.size+1,21,none⟩),.slice (some ⟨g,0,none⟩) rn rc,.int .i64 rn,.int .i64 i,.bool true,.int .i64 i,.int .i64 i,.bool false,u96,u97,u98,u99,u100,u101,u102,u103,u104,v105,v106,v107,v108,v109,v110,v111,v112,v113,u114,u115,u116,u117,u118,u119,u120,u121,u122,u123,u124,u125,u126,u127,u128,u129,u130,u131,u132,u133,u134,u135,u136,u137,u138,u139,u140,u141,u142,u143,u144,u145,u146,u147,u148,u149,u150,u151,u152,u153,u154,u155,u156,u157,u158,u159,u160,u161,u162,u163,u164,u165,u166,u167,u168,u169,u170,u171,u172,u173],defers:=[Jv w.heap.size]}:=by
       refine ⟨a.tmps.getD 105 undef,a.tmps.getD 106 undef,a.tmps.getD 107 undef,a.tmps.getD 108 undef,a.tmps.getD 109 undef,a.tmps.getD 110 undef,a.tmps.getD 111 undef,a.tmps.getD 112 undef,a.tmps.getD 113 undef,(Gz [105,106,107,108,109,110,111,112,113] (aj.trans rfl) D (fun t ht=>s t ?_)).trans (by kernel_rfl)⟩
       simp at ht;omega
      clear aj D s ae
      unfold Jv
      go_wp2
      exact ⟨⟨i+1,by push_cast;rfl,by omega,aq⟩,by simp[intOf];omega⟩
    |false=>
     have r:=yb (F.o.bad H.o hb)
     rw[h6] at hb
     have hn:=Gh (to:=6) (by decide) hb
     have d:Hid (∀W,RL w.heap.size W5 (Tb.of x) (CF W5 L x) V.heap.size (.cells #[.pointer (some ⟨w.heap.size+1,0,none⟩)] 85) i W->Calls Tryz.prog 68 #[.pointer (some ⟨g,i*51+1,none⟩),.map (some mr),.int .i64 i] W fun e w'=>(e=.returned (.tuple #[])∧False)∨(e=.panicked (ED 170)∧RL w.heap.size W5 (Tb.of x) (CF W5 L x) V.heap.size (.cells #[.pointer (some ⟨w.heap.size+1,0,none⟩)] 85) i w')):=yb (fun W h=>by
      obtain ⟨c0,⟨z,c1,A⟩,cf⟩:=h.read a0.o E.o
      refine (I0 (most:=(i:Int)) c0 (X.o _ _ h).2 K.o (fun j hp=>(hn j hp).2)).mono ?_
      rintro e w2 ⟨rfl,rfl⟩
      exact .inr ⟨rfl,h⟩)
     clear hb hn h6 hS h0
     go_wp2_with fail
     refine Wh (B:=w.heap.size) (Bf:=Bf) (g:=g) (rn:=rn) (rc:=rc) (br:=br) (mr:=mr) (i:=i) (R1:=fun W=>RL w.heap.size W5 (Tb.of x) (CF W5 L x) V.heap.size (.cells #[.pointer (some ⟨w.heap.size+1,0,none⟩)] 85) i W) (R2:=fun _=>False) (R3:=fun W=>RL w.heap.size W5 (Tb.of x) (CF W5 L x) V.heap.size (.cells #[.pointer (some ⟨w.heap.size+1,0,none⟩)] 85) i W) _ ?_ ?_ ?_ ?_ ?_ ?_ ?_ ?_ ?_ ?_ ?_ ?_
     ·rfl
     ·rfl
     ·rfl
     ·rfl
     ·rfl
     ·rfl
     ·exact I.o
     ·exact ai.o
     ·exact HS.o
     ·exact d.o
     ·intro a W D s hr
      obtain ⟨tm,df⟩:=a
      obtain rfl:df=[Jv w.heap.size]:=D
      exact C.o i tm W hr ⟨(s 2 (by omega)).trans rfl,(s 3 (by omega)).trans rfl⟩ r.o
     ·exact fun _ _ _ _ _ h=>h.elim
  ·obtain rfl:i=rn:=by omega
   have au:decide ((i:Int) < (i:Int))=false:=by simp
   have az:Hid (Ii w x W5 L N M bl bc br bf Bf wr.heap.size):=yb (by rw[HR.o.1];exact F.o)
   have an:Hid (RJ w.heap.size W5 (Tb.of x) (CF W5 L x) (EZ L x).length (fun _=>False) (wr.alloc (.cells #[.pointer (some ⟨w.heap.size+1,0,none⟩)] 85))):=yb (by
    rw[Lg F.o.ps,<-HN.o,q.o]
    exact HR.o.2)
   go_wp2
   exact X2 HQ.o az.o an.o _ _ _ _ _ _ _ _ _ _ _ _ _ _ _ _ _ _ _ _ _ _ _ _ _ _ _ _ _ _ _ _ _ _ _ _ _ _ _ _ _ _ _ _ _ _ _ _ _ _ _ _ _ _ _ _ _ _ _ _ _ _ _ _ _ _ _ _ _ _ _ _ _ _ _ _ _ _ _ _ _ _ _ _ _ _ _ _ _ _ _ _ _ _ _ _ _ _ _ _ _ _ _ _ _ _ _ _ _ _ _ _ _ _ _ _ _ _ _ _ _ _ _ _ _ _ _ _ _ _ _ _ _ _ _ _ _ _ _ _ _ _ _ _ _ _ _ _ _ _ _ _ _ _ _ _ _ _ _ _ _ _ _ _ _ _ _
structure GA (w:World) (x:Ar) (L:Bt) (cs:List Value) (N:Nat->Prop) (V:World):Prop where
 amid:Kh w V
 par:V.heap[w.heap.size]?=some (.cells cs.toArray 35 (0,0))
 src:BH N w L cs x
 hN:∀b,N b->b < w.heap.size
 slim:Kf x
section
variable{w V V' w':World}{x:Ar}{L L0:Bt}{cs cs0:LV}{N:NP}
theorem GA.up(h:GA w x L cs N V)(hb:Below (w.heap.size+3) V V'):GA w x L cs N V':=
 ⟨h.amid.up hb,(hb.block _ (by omega)).trans h.par,h.src,h.hN,h.slim⟩
theorem GA.size(h:GA w x L cs N V):w.heap.size+3<=V.heap.size:=by
 obtain ⟨v,a⟩:=h.amid.e
 have:=(yd.1 a).1
 omega
theorem GA.at(h:GA w x L cs N V):BH (fun b=>b < V.heap.size) V L cs x:=by
 have a:=h.size
 exact h.src.same (fun b hb=>by have:=h.hN b hb;omega) (fun b hb=>h.amid.below.block b (h.hN b hb))
theorem GA.len(h:GA w x L cs N V):cs.length=26:=by
 obtain ⟨c0,c1,c2,rfl,a,g1,b⟩:=h.src.cells
 obtain ⟨d,e,rfl,i⟩:=a.cells
 obtain ⟨a1,k,rfl,f⟩:=g1.cells
 obtain ⟨c,j,rfl,g⟩:=b.cells
 rfl
theorem GA.range(h:GA w x L cs N V):V.rangeAt w.heap.size 0 cs:=by
 have:=zp h.par 0 cs.length
 simpa using this
theorem Cy(W:World){b c:Nat}(row:Array Value)(h:c≠b):(W.setRow b row).heap[c]?=W.heap[c]?:=by
 simp only[World.setRow,yL,yq (xd h)]
theorem JY(W:World)(b:Nat)(row:Array Value):(W.setRow b row).heap.size=W.heap.size:=by simp[World.setRow]
def JZ:Obj:=.cells #[.func (.func 68) #[] #[]] 147
def RE(b:Nat):Obj:=.cells #[.pointer (some ⟨b,0,none⟩)] 85
theorem Wv(h:GA w x L0 cs0 N V){bl bc br bf:Nat}(h1:B9 V bl (x.lets.map (·.name)))(h2:B9 V bc (x.crops.map (·.name)))(h3:B9 V br (x.reaches.map (·.name)))(X:B9 V bf (x.farms.map (·.name)))
 (M:Bn x=true)(O:AF x=if CU (Tb.of x) x&&Ci (Tb.of x) x then 0 else 170)
 (p:cs.length=26)(hb:Below V.heap.size V w')(hs:L.s=V.heap.size)(hr:w'.rangeAt L.s 0 cs)(D:Cb (fun g=>V.heap.size<=g∧g≠V.heap.size+1) (ET (fun g=>V.heap.size+2<=g) w') (RV w') w' L x):
  Ii w x (((w'.setRow (w.heap.size+1) cs.toArray).alloc JZ).alloc (RE (w.heap.size+1))) {L with s:=w.heap.size+1} (fun g=>(V.heap.size<=g∧g≠V.heap.size+1∧g < w'.heap.size)∨g=w.heap.size+1) (fun g=>V.heap.size+2<=g∧g < w'.heap.size) bl bc br bf w'.heap.size (w'.heap.size+1):=by
 have hz:=h.size
 have Y:=hb.size
 obtain ⟨row,J,y⟩:=h.amid.x
 obtain ⟨R,A⟩:=h.amid.e
 have Q:w'.heap[w.heap.size+1]?=some (.cells row 35 (0,0)):=(hb.block _ (by omega)).trans y
 generalize l:((w'.setRow (w.heap.size+1) cs.toArray).alloc JZ).alloc (RE (w.heap.size+1))=W5
 have a:(w'.setRow (w.heap.size+1) cs.toArray).heap.size=w'.heap.size:=JY _ _ _
 have W:W5.heap.size=w'.heap.size+2:=by rw[<-l];simp[a]
 have m:∀b,b < w'.heap.size->b≠w.heap.size+1->W5.heap[b]?=w'.heap[b]?:=fun b f n=>by
  rw[<-l,yA _ _ _ (by simp[a];omega),yA _ _ _ (by rw[a];omega),Cy _ _ n]
 have H:W5.heap[w.heap.size+1]?=some (.cells cs.toArray 35 (0,0)):=by
  rw[<-l,yA _ _ _ (by simp[a];omega),yA _ _ _ (by rw[a];omega)]
  exact qD _ _ _ _ _ _ Q
 have P:W5.heap[w'.heap.size]?=some JZ:=by
  rw[<-l,yA _ _ _ (by simp[a])]
  have:=World.alloc_heap_new (w'.setRow (w.heap.size+1) cs.toArray) JZ
  rwa [a] at this
 have Z:W5.heap[w'.heap.size+1]?=some (RE (w.heap.size+1)):=by
  rw[<-l]
  have:=World.alloc_heap_new ((w'.setRow (w.heap.size+1) cs.toArray).alloc JZ) (RE (w.heap.size+1))
  have E:((w'.setRow (w.heap.size+1) cs.toArray).alloc JZ).heap.size=w'.heap.size+1:=by simp[a]
  rwa [E] at this
 have F:W5.os=w'.os∧W5.tape=w'.tape∧W5.output=w'.output:=by rw[<-l];exact ⟨rfl,rfl,rfl⟩
 clear l a
 have v:Below w.heap.size w W5:=by
  have h0:=h.amid.below.trans (hb.mono (by omega))
  exact ⟨F.1.trans h0.os,F.2.1.trans h0.tape,F.2.2.trans h0.output,by omega,fun b f=>(m b (by omega) (by omega)).trans (h0.block b f)⟩
 have i:∀(c:Nat) (o:Obj),V.heap[c]?=some o->(∀row:Array Value,o≠Obj.cells row 35 (0,0))->W5.heap[c]?=V.heap[c]?:=fun c o G z=>by
  have f:=(yd.1 G).1
  have n:c≠w.heap.size+1:=fun e=>by
   rw[e,y] at G
   exact z row (yi G).symm
  rw[m c (by omega) n,hb.block c f]
 have j:∀q,q < 26->W5.cell? (aV (w.heap.size+1) q)=W5.cell? (aV L.s q):=fun q T=>by
  have S:W5.cell? (aV L.s q)=w'.cell? (aV L.s q):=Ac (m _ D.ty.lt (by omega))
  have K:=hr q cs[q] (yk (by omega))
  rw[yy] at K
  rw[S,K]
  simp[World.cell?,H,p,T]
 refine ⟨⟨v,⟨_,by simp[p],H⟩,⟨R,(m _ (by omega) (by omega)).trans ((hb.block _ (by omega)).trans A)⟩⟩,h1.same i,h2.same i,h3.same i,X.same i,P,Z,?_,fun g k=>?_,fun g k=>?_,.inr rfl,rfl,M,O⟩
 ·have U:Cb (fun g=>V.heap.size<=g∧g≠V.heap.size+1∧g < w'.heap.size) (ET (fun g=>V.heap.size+2<=g) w') (RV w') w' L x:=D.ren fun g t k I _ _=>⟨k.1,k.2,I.lt⟩
  have u:∀b,(V.heap.size<=b∧b≠V.heap.size+1∧b < w'.heap.size)∨b=L.s->W5.heap[b]?=w'.heap[b]?:=fun b d=>by
   rcases d with d|rfl
   ·exact m b d.2.2 (by omega)
   ·exact m _ D.ty.lt (by omega)
  have p2:Cb (fun g=>V.heap.size<=g∧g≠V.heap.size+1∧g < w'.heap.size) (ET (fun g=>V.heap.size+2<=g∧g < w'.heap.size) W5) (RV W5) W5 L x:=by
   refine U.imp (fun b t d I=>I.same (u b d)) (fun b o d _=>Ac (u b d)) (fun lt e b o d _ B=>?_) (fun to r b o d _ C=>⟨C.1,(Ac (u b d)).trans C.2.1,(Ac (u b d)).trans C.2.2⟩)
   obtain ⟨c,c1,c2⟩:=B
   exact ⟨c,A0 c1 (u b d),c2.same (fun g k f=>⟨k,f⟩) (fun g k f=>m g f (by omega))⟩
  exact (p2.moved ⟨_,H⟩ j (fun lt e o z B=>TY j lt e o z B)).ren fun g t k _ _ _=>.inl k
 ·rcases k with k|rfl
  ·exact ⟨by omega,by omega⟩
  ·exact ⟨by omega,by omega⟩
 ·exact ⟨by omega,by omega⟩
end
theorem B9.lt{W:World}{b:Nat}{a:LB}(h:B9 W b a):b < W.heap.size:=by
 obtain ⟨m,h1,_⟩:=h
 exact (yd.1 h1).1
theorem Ww{Q:QT}{w V:World}{x:Ar}{L:Bt}{cs:LV}{N:NP}{bl bc br bf:Nat}(hQ:L9 Q w x)(hP:GA w x L cs N V)
 (h1:B9 V bl (x.lets.map (·.name)))(h2:B9 V bc (x.crops.map (·.name)))(h3:B9 V br (x.reaches.map (·.name)))(h4:B9 V bf (x.farms.map (·.name)))
 (hf:Bn x=true)(hw:AF x=if CU (Tb.of x) x&&Ci (Tb.of x) x then 0 else 170)
 (u0 u8 u9 bu es eu dt d4 ci cf de cq ew em d9 d1 cg ed ei e1 et d6 dv d3 dk e3 c9 e7 di e5 dd du ex ep cc eo bv en ck db bx dc dl co cp ej eh dg e8 ec e4 cl d7 ce bq bt ee ef ey cw ea bz dz dq bw da ek cu eq dy cr dj d0 d2 cv e0 e2 eb dm bp e9 cn cz d5 el cx ct c8 dr ch cy dw cd b7 a8 j Z a0 D I E b5 ar a2 au bm W y ah b8 bd b9 am X a6 aa O R n ay l J H bk bn A B U u F bh bi b0 S aq bo m ba bb az g C b4 ap al aw aj ag v M k G ae p t an z ab s P af a7 ao ad bg q r:Value):
  FQ 32 Tryz.prog (Gf 17 (Tryz.f32.body.getD .skip)) Q {tmps:=#[u0,.pointer (some ⟨w.heap.size,0,none⟩),.pointer (some ⟨w.heap.size+1,0,none⟩),.pointer (some ⟨w.heap.size+2,0,none⟩),.pointer (some ⟨bl,0,none⟩),.pointer (some ⟨bc,0,none⟩),.pointer (some ⟨br,0,none⟩),.pointer (some ⟨bf,0,none⟩),u8,u9,bu,es,eu,dt,d4,ci,cf,de,cq,ew,em,d9,d1,cg,ed,ei,e1,et,d6,dv,d3,dk,e3,c9,e7,di,e5,dd,du,ex,ep,cc,eo,bv,en,ck,db,bx,dc,dl,co,cp,ej,eh,dg,e8,ec,e4,cl,d7,ce,bq,bt,ee,ef,ey,cw,ea,bz,dz,dq,bw,da,ek,cu,eq,dy,cr,dj,d0,d2,cv,e0,e2,eb,dm,bp,e9,cn,cz,d5,el,cx,ct,c8,dr,ch,cy,dw,cd,b7,a8,j,Z,a0,D,I,E,b5,ar,a2,au,bm,W,y,ah,b8,bd,b9,am,X,a6,aa,O,R,n,ay,l,J,H,bk,bn,A,B,U,u,F,bh,bi,b0,S,aq,bo,m,ba,bb,az,g,C,b4,ap,al,aw,aj,ag,v,M,k,G,ae,p,t,an,z,ab,s,P,af,a7,ao,ad,bg,q,r],defers:=[Jv w.heap.size]} V:=by
 have eg:Hid ((Tryz.prog.info? 35).map (·.size)=some cs.length):=yb (by rw[hP.len];kernel_rfl)
 have av:=yb hP.range
 have cj:=yb hP.at
 have HQ:=yb hQ;have HP:=yb hP
 have e6:=yb h1;have cm:=yb h2;have ax:=yb h3;have dx:=yb h4;have HF:=yb hf;have HW:=yb hw
 obtain ⟨row,c,hx⟩:=hP.amid.x
 have HX:=yb hx;have ai:=yb c;have HZ:=yb hP.size
 clear hQ hP h1 h2 h3 h4 hf hw c hx
 unfold Jv
 refine A9 (A4 ?_)
 go_upto_region 25 with fail
 refine wp_region_lit ?_
 refine yj rfl 35 _ rfl w.heap.size 0 rfl cs _ av.o qY rfl eg.o ?_
 refine zB rfl fun K hK=>?_
 go_simp
 refine (Qo cj.o (fun _ h=>h) HP.o.slim).mono ?_
 rintro e w2 ⟨L2,a,rfl,T,b,d,be,ac,i⟩
 have dh:=yb ((d.block _ (by have:=HZ.o;omega)).trans HX.o)
 have f:=yb T;have bj:=yb (zb b);have Y:=yb d;have df:=yb be;have dp:=yb ac;have dn:=yb i
 clear T b d be ac i
 refine hK _ _ ?_
 clear hK K
 refine ze rfl 35 _ _ rfl (w.heap.size+1) a.toArray rfl rfl 35 row dh.o (by rw[yM,f.o];kernel_rfl) (by simp[f.o,ai.o]) bj.o ?_
 refine wpList_nil ?_
 simp only[]
 refine A9 (A4 ?_)
 go_wp2
 have HC:=Wv HP.o e6.o cm.o ax.o dx.o HF.o HW.o f.o Y.o df.o dp.o dn.o
 have d8:(w2.setRow (w.heap.size+1) a.toArray).heap.size=w2.heap.size:=JY _ _ _
 have ak:((w2.setRow (w.heap.size+1) a.toArray).alloc JZ).heap.size=w2.heap.size+1:=by simp[d8]
 have f0:=Y.o.size
 have ez:=ax.o.lt
 rw[<-ak] at HC
 exact Wu (V:=(w2.setRow (w.heap.size+1) a.toArray).alloc JZ) (Bf:=w2.heap.size) HQ.o HC ⟨rfl,RJ.start _ _ _ _⟩ (by omega) (by omega) (by simp) _ _ _ _ _ _ _ _ _ _ _ _ _ _ _ _ _ _ _ _ _ _ _ _ _ _ _ _ _ _ _ _ _ _ _ _ _ _ _ _ _ _ _ _ _ _ _ _ _ _ _ _ _ _ _ _ _ _ _ _ _ _ _ _ _ _ _ _ _ _ _ _ _ _ _ _ _ _ _ _ _ _ _ _ _ _ _ _ _ _ _ _ _ _ _ _ _ _ _ _ _ _ _ _ _ _ _ _ _ _ _ _ _ _ _ _ _ _ _ _ _ _ _ _ _ _ _ _ _ _ _ _ _ _ _ _ _ _ _ _ _ _ _ _ _ _ _ _ _ _ _ _ _ _ _ _ _ _ _ _ _ _ _ _ _ _ _
theorem U0{α:Type}{w:World}{sz j:Nat}{f:α->ByteArray}{h:Aw}{l:List α}(h1:h.n=l.length)(h2:l.length<=140737488355328)
 (h3:∀i (hi:i < l.length),∃b o cs,h.a=some ⟨b,o,none⟩∧b < w.heap.size∧cs.length=sz∧w.rangeAt b (o+i*sz) cs∧(∀v∈cs,v.oneCell'=true)∧cs[j]?=some (.string (f l[i]))∧(f l[i]).size<=maxLen):Bd w h sz j (l.map f):=by
 refine ⟨by rw[yV];exact h1,by rw[yV];exact h2,fun i hi=>?_⟩
 have c:i < l.length:=by simpa using hi
 obtain ⟨b,o,cs,e,p,g,q,k,d,m⟩:=h3 i c
 rw[zH]
 exact ⟨b,o,cs,e,p,g,q,k,d,m⟩
theorem MT{α:Type}{N:NP}{w:World}{sz j:Nat}{P:LV->α->Prop}{f:α->ByteArray}{h:Aw}{l:List α}(hr:BF N w sz P h l)(hN:∀b,N b->b < w.heap.size)
 (hP:∀cs d,P cs d->(∀v∈cs,v.oneCell'=true)∧cs[j]?=some (.string (f d))∧(f d).size<=maxLen):Bd w h sz j (l.map f):=by
 obtain ⟨h1,h2,h3⟩:=hr
 refine U0 h1 h2 fun i hi=>?_
 obtain ⟨b,o,cs,a,m,c,n,k⟩:=h3 i hi
 obtain ⟨g,p,e⟩:=hP _ _ k
 exact ⟨b,o,cs,a,hN b m,c,n,g,p,e⟩
structure X5 (w:World) (L:Bt) (x:Ar):Prop where
 lets:Bd w L.lets 7 0 (x.lets.map (·.name))
 crops:Bd w L.crops 7 0 (x.crops.map (·.name))
 reaches:Bd w L.reaches 51 0 (x.reaches.map (·.name))
 farms:Bd w L.farms 12 0 (x.farms.map (·.name))
 rots:Bd w L.rots 23 0 (x.rots.map (·.name))
 rights:Bd w L.rights 37 1 (x.rights.map (·.name))
 duties:Bd w L.duties 11 0 (x.duties.map (·.name))
theorem BH.nms{N:NP}{w:World}{L:Bt}{cs:LV}{x:Ar}(h:BH N w L cs x)(hN:∀b,N b->b < w.heap.size):X5 w L x:=by
 refine ⟨MT h.lets hN fun cs d hd=>⟨Rp cs d hd,?_⟩,MT h.crops hN fun cs d hd=>⟨Oq cs d hd,?_⟩,MT h.reaches hN fun cs d hd=>⟨Js cs d hd,?_⟩,MT h.farms hN fun cs d hd=>⟨Ot cs d hd,?_⟩,?_,MT h.rights hN fun cs d hd=>⟨Jt cs d hd,?_⟩,MT h.duties hN fun cs d hd=>⟨Ou cs d hd,?_⟩⟩
 ·obtain ⟨h1,c,rfl,_⟩:=hd;exact ⟨rfl,h1⟩
 ·obtain ⟨h1,c,rfl,_⟩:=hd;exact ⟨rfl,h1⟩
 ·obtain ⟨h1,_,c0,c1,c2,c3,c4,c5,c6,c7,rfl,_⟩:=hd;exact ⟨rfl,h1⟩
 ·obtain ⟨h1,_,_,c,rfl,_⟩:=hd;exact ⟨rfl,h1⟩
 ·obtain ⟨h1,h2,h3⟩:=h.rots
  refine U0 h1 h2 fun i hi=>?_
  obtain ⟨b,o,cs,f,k,g,l,a⟩:=h3 i hi
  have e:=IV a
  obtain ⟨j,_,c0,c1,c2,rfl,_⟩:=a
  exact ⟨b,o,_,f,hN b k,g,l,e,rfl,j⟩
 ·obtain ⟨h1,_,_,c0,c1,c2,c3,c4,rfl,_⟩:=hd;exact ⟨rfl,h1⟩
 ·obtain ⟨h1,_,_,c,rfl,_⟩:=hd;exact ⟨rfl,h1⟩
theorem Bd.up{w w':World}{h:Aw}{sz j:Nat}{a:LB}(hr:Bd w h sz j a)(hb:Below w.heap.size w w'):Bd w' h sz j a:=by
 obtain ⟨h1,h2,h3⟩:=hr
 refine ⟨h1,h2,fun i hi=>?_⟩
 obtain ⟨b,o,cs,d,c,e,g,f⟩:=h3 i hi
 exact ⟨b,o,cs,d,yt c hb.size,e,A0 g (hb.block b c),f⟩
structure RF (L:Bt) (x:Ar) (c:Nat->Option Value):Prop where
 name:c 0=some (.string x.name)
 lets:c 19=some L.lets.v
 crops:c 20=some L.crops.v
 reaches:c 21=some L.reaches.v
 farms:c 22=some L.farms.v
 rots:c 23=some L.rots.v
 rights:c 24=some L.rights.v
 duties:c 25=some L.duties.v
theorem BH.at{N:NP}{w:World}{L:Bt}{cs:LV}{x:Ar}(h:BH N w L cs x):RF L x (cs[·]?):=by
 obtain ⟨c0,c1,c2,rfl,b,g1,a⟩:=h.cells
 obtain ⟨f,d,rfl,c⟩:=b.cells
 obtain ⟨a1,i,rfl,g⟩:=g1.cells
 obtain ⟨e,k,rfl,j⟩:=a.cells
 exact ⟨rfl,rfl,rfl,rfl,rfl,rfl,rfl,rfl⟩
theorem GA.cells{w V:World}{x:Ar}{L:Bt}{cs:LV}{N:NP}(h:GA w x L cs N V):RF L x (fun q=>V.cell? ⟨w.heap.size,q,none⟩):=by
 have e:∀q,V.cell? (aV w.heap.size q)=cs[q]?:=fun q=>by simp[World.cell?,h.par]
 have:=h.src.at
 simp only[e]
 exact this
def FH(B:Nat)(w:World)(v:Value)(l:LB):Prop:=w.ownsRow B 9 1 v l.length (l.map .string)∧∀s∈l,s.size<=maxLen
theorem SA(B:Nat)(w:World):FH B w (.slice none 0 0) []:=⟨⟨rfl,.inl ⟨rfl,rfl⟩⟩,by simp⟩
theorem FH.up{B:Nat}{w w':World}{v:Value}{l:LB}(h:FH B w v l)(hb:Below w.heap.size w w'):FH B w' v l:=by
 obtain ⟨⟨h1,h2⟩,h0⟩:=h
 refine ⟨⟨h1,h2.imp id ?_⟩,h0⟩
 rintro ⟨g,cap,a,h3,d,b,c⟩
 exact ⟨g,cap,a,h3,d,(hb.block g (yd.1 b).1).trans b,c⟩
theorem OO{B:Nat}{c w w':World}{v:Value}{l:LB}(f:Below B c w)(i:B<=w.heap.size)(d:FH B w v l)(a:w.grownBy w' v.ownBlock):Below B c w':=by
 refine f.trans ⟨a.os,a.tape,a.output,a.size,fun b hb=>a.block b (by omega) (fun e=>?_)⟩
 rcases d.1.2 with ⟨rfl,_⟩|⟨g,cap,h,rfl,j,_⟩
 ·cases e
 ·simp only[Value.ownBlock,yZ] at e
  omega
theorem FH.nm{B:Nat}{w:World}{v:Value}{l:LB}(h:FH B w v l)(d:l.length<=140737488355328):∃h:Aw,v=h.v∧Bd w h 1 0 l:=by
 obtain ⟨⟨h1,⟨rfl,h2⟩|⟨g,cap,e,rfl,f,a,m,j,k,c⟩⟩,h0⟩:=h
 ·obtain rfl:=zv.1 h2
  exact ⟨⟨none,0,0⟩,rfl,rfl,by simp,fun i hi=>absurd hi (by simp)⟩
 ·refine ⟨⟨some (aV g 0),l.length,cap⟩,rfl,rfl,d,fun i hi=>⟨g,0,[.string l[i]],rfl,(yd.1 a).1,rfl,?_,by simp[Value.oneCell'],rfl,h0 _ (yJ hi)⟩⟩
  refine BW ?_
  have b:(l.map Value.string)[i]?=some (.string l[i]):=by simp[hi]
  rw[<-c,xg,yw (by omega)] at b
  simp only[World.cell?,a]
  simpa using b
theorem Gi{ops:Array Oper}{rest:List Oper}{o:Oper}{a:Act}{Q:QT}{W:World}(B:Nat)(f:o.guard=none)(s x:Operand)(y:o.op=.call {callee:=.builtin .append,args:=#[s,x],argTypes:=#[117,117]})
 (v:Value)(l:LB)(hs:a.eval s=v)(d:FH B W v l)(b c:Nat)(k:ByteArray)(F:a.eval x=.slice (some ⟨b,0,none⟩) 1 c)(hb:W.heap[b]?=some (.cells #[.string k] 9 (0,0)))(H:k.size<=maxLen)(n:l.length+1<=1000000)(e:B<=W.heap.size)
 (h:∀(p:Option Addr) (c:Nat) w',FH B w' (.slice p (l.length+1) c) (l++[k])->W.grownBy w' v.ownBlock->wpList Tryz.prog ops Q rest (a.put o.dst (.slice p (l.length+1) c)) w'):wpList Tryz.prog ops Q (o::rest) a W:=by
 refine zB f fun K D=>?_
 have g:(Tryz.prog.info? 9).map (fun i=>(i.zero,i.size,i.bytes))=some (some (.string ⟨#[]⟩),1,16):=by kernel_rfl
 obtain ⟨I,hi,r,q,t⟩:=info_parts g
 have C:BL W (.slice (some (aV b 0)) 1 c) 1 1 [.string k]:=by
  refine ⟨rfl,by simp[Value.oneCell'],_,_,rfl,.inr ⟨b,0,rfl,(yd.1 hb).1,fun j u w=>?_⟩⟩
  cases j with
  |zero=>cases w;simp[World.cell?,hb]
  |succ j=>simp at w
 have z:=GH (ops:=#[]) (E:=True) (Q:=Q) (K:=K) (o:=o) Tryz.underlying117 hi r q t rfl (by decide) (by decide) B f s x y v l.length _ hs d.1 _ 1 [.string k] F C n e (fun p c w' A G=>D _ _ (h p c w' ⟨by
  rw[yn,zC]
  exact A,fun u m=>by
  rcases yv.1 m with m|m
  ·exact d.2 u m
  ·rw[zn.1 m];exact H⟩ G))
 rwa [yw (by simp[Region.wanted,f])] at z
theorem Is{α:Type}{l:List α}{i:Nat}(h:i < l.length):l.take i++[l[i]]=l.take (i+1):=(yF h).symm
theorem U1{f:FuncId}{args:Array Value}{w:World}{a:LB}(h:Calls Tryz.prog f args w (Eo w a))(c:a.Nodup):Calls Tryz.prog f args w fun e w'=>(∃m,e=.returned (.map (some m)))∧Below w.heap.size w w':=
 h.mono fun e w' b=>by
  obtain ⟨h1,⟨_,m,h2,_⟩|⟨h2,_⟩⟩:=b
  ·exact ⟨⟨m,h2⟩,h1⟩
  ·exact absurd c h2
theorem Wi{f:FuncId}{args:Array Value}{w:World}{a:LB}(h:Calls Tryz.prog f args w (Eo w a))(c:¬ a.Nodup):Calls Tryz.prog f args w fun e w'=>e=.panicked (ED 171)∧Below w.heap.size w w':=
 h.mono fun e w' b=>by
  obtain ⟨h1,⟨h2,_⟩|⟨_,h2⟩⟩:=b
  ·exact absurd h2 c
  ·exact ⟨h2,h1⟩
end Go.Proofs.YtjofgpfocadomaaGreatDoor
namespace Go.Proofs.YtjofgpfocadomaaGreatDoor
open Go.RowKit
theorem B9.up{V W:World}{b:Nat}{a:LB}(h:B9 V b a)(hb:Below V.heap.size V W):B9 W b a:=
 h.same fun c _ d _=>hb.block c (yd.1 d).1
theorem X6{Q:QT}{w V:World}{x:Ar}{L:Bt}{cs:LV}{N:NP}{bl bc br bf:Nat}(hQ:L9 Q w x)(hP:GA w x L cs N V)
 (h1:B9 V bl (x.lets.map (·.name)))(h2:B9 V bc (x.crops.map (·.name)))(h3:B9 V br (x.reaches.map (·.name)))(h4:B9 V bf (x.farms.map (·.name)))
 (hf:Bn x=true)(hw:AF x=if (Dk x).Nodup∧(x.duties.map (·.name)).Nodup then (if CU (Tb.of x) x&&Ci (Tb.of x) x then 0 else 170) else 171)
 (u0 u8 u9 dh g5 g8 f3 eh dw dt eq e4 g9 g0 el ee du fs fv fe g7 ej f4 eg ew fg dn fk et fi ep f5 ga g4 dp g3 di g2 dx en dk eo ex e2 e3 fw fx es fl fq fh dz ek dr df dg ft fu gc e8 fo dl f9 f0 dj em fy e7 g6 f8 e5 eu ed ef e9 fd ff fp ey de fm e1 ec ei fz ea e6 dm f1 dv eb f6 dq d1 bw ak bp bq b8 be b9 d0 cr bt ct db bn az ch d2 d6 d3 cl bo bu bz bi bk ao cv an bg bd da dc b4 b5 bx ax ba d8 d9 cy bm cq dd ap d4 d5 cw aj b7 cz cp cj cu ci cg ay bh am bb ce aq aw cn b0 c8 au bj cf bv co cc d7 ar av:Value):
  FQ 32 Tryz.prog (Gf 12 (Tryz.f32.body.getD .skip)) Q {tmps:=#[u0,.pointer (some ⟨w.heap.size,0,none⟩),.pointer (some ⟨w.heap.size+1,0,none⟩),.pointer (some ⟨w.heap.size+2,0,none⟩),.pointer (some ⟨bl,0,none⟩),.pointer (some ⟨bc,0,none⟩),.pointer (some ⟨br,0,none⟩),.pointer (some ⟨bf,0,none⟩),u8,u9,dh,g5,g8,f3,eh,dw,dt,eq,e4,g9,g0,el,ee,du,fs,fv,fe,g7,ej,f4,eg,ew,fg,dn,fk,et,fi,ep,f5,ga,g4,dp,g3,di,g2,dx,en,dk,eo,ex,e2,e3,fw,fx,es,fl,fq,fh,dz,ek,dr,df,dg,ft,fu,gc,e8,fo,dl,f9,f0,dj,em,fy,e7,g6,f8,e5,eu,ed,ef,e9,fd,ff,fp,ey,de,fm,e1,ec,ei,fz,ea,e6,dm,f1,dv,eb,f6,dq,d1,bw,ak,bp,bq,b8,be,b9,d0,cr,bt,ct,db,bn,az,ch,d2,d6,d3,cl,bo,bu,bz,bi,bk,ao,cv,an,bg,bd,da,dc,b4,b5,bx,ax,ba,d8,d9,cy,bm,cq,dd,ap,d4,d5,cw,aj,b7,cz,cp,cj,cu,ci,cg,ay,bh,am,bb,ce,aq,aw,cn,b0,c8,au,bj,cf,bv,co,cc,d7,ar,av],defers:=[Jv w.heap.size]} V:=by
 have aa:=yb (hP.at.nms fun _ h=>h)
 have X:=yb hP.cells
 have HZ:Hid (w.heap.size < V.heap.size):=yb (by have:=hP.size;omega)
 have HQ:=yb hQ;have HP:=yb hP;have s:=yb hP.slim
 have fj:=yb h1;have e0:=yb h2;have f2:=yb h3;have f7:=yb h4;have HF:=yb hf;have HW:=yb hw
 have T:Hid (∀tm wr,Me w.heap.size tm->Below V.heap.size V wr->¬ ((Dk x).Nodup∧(x.duties.map (·.name)).Nodup)->Q (.panic (ED 171)) {tmps:=tm,defers:=[Jv w.heap.size]} wr):=yb (fun tm wr hv hb hn=>by
  rw[yq hn] at hw
  have:=hQ.fail tm wr hv (hP.up (hb.mono hP.size)).amid (by rw[hw];decide)
  rw[hw] at this;exact this)
 have W:Hid (FH V.heap.size V (.slice none 0 0) ([]++(x.rots.map (fun d:BG=>d.name)).take 0)):=yb (SA _ _)
 have Y:=yb (yg V.heap.size V)
 have hc:V.cell? (aV w.heap.size 23)=some (.slice L.rots.a L.rots.n L.rots.c):=hP.cells.rots
 have j:=aa.o.rots
 generalize L.rots=rr at hc j
 obtain ⟨ra,rn,rc⟩:=rr
 have g:=yb j.2.2
 have r:=yb j.1
 have gd:rn<=140737488355328:=by have:=j.1;have:=j.2.1;simp only at*;omega
 simp only at hc g r
 clear hQ hP h1 h2 h3 h4 hf hw j
 unfold Jv
 iterate 2
  refine A9 (A4 ?_)
  go_wp2
 clear hc
 go_loopw [8,58] (fun v8 iv wr=>∃i:Nat,i<=rn∧iv=iV i∧Hid (FH V.heap.size wr v8 ([]++(x.rots.map (fun d:BG=>d.name)).take i))∧Hid (Below V.heap.size V wr)) (fun _ iv _=>rn - (intOf iv).toNat)
 case atStart=>exact ⟨0,yI _,rfl,W,Y⟩
 case round=>
  clear W Y
  obtain ⟨i,hi,rfl,HO,C⟩:=hrel
  by_cases J:i < rn
  ·obtain ⟨b,o,f,ha,hb,q,a2,B,H,E⟩:=g.o i (by rw[<-r.o];exact J)
   subst ha
   have HL:=yb q
   have ac:=yb (A0 a2 (C.o.block b hb))
   have a6:=yb (zb B)
   have S:Hid ((Tryz.prog.info? 109).map (·.size)=some f.length):=yb (by rw[q];kernel_rfl)
   have a0:Hid ((Tryz.prog.info? 109).map (·.size)=some f.toArray.size):=yb (by rw[yM];exact S.o)
   have D:i < (x.rots.map (fun d:BG=>d.name)).length:=by rw[<-r.o];exact J
   generalize O:(x.rots.map (fun d:BG=>d.name))[i]=u at H E
   have ez:(wr.alloc (.cells f.toArray 109)).cell? (aV wr.heap.size 0)=some (.string u):=by
    have h:=World.alloc_heap_new wr (.cells f.toArray 109)
    simp only[World.cell?,h]
    simpa using H
   have F:Hid (Below wr.heap.size wr ((wr.alloc (.cells f.toArray 109)).alloc (.cells #[.string u] 9))):=yb (((yg _ _).alloc (yf _) _).alloc (by simp) _)
   have I:=yb (HO.o.up F.o)
   have af:=yb (C.o.trans (F.o.mono C.o.size))
   have M:Hid (((wr.alloc (.cells f.toArray 109)).alloc (.cells #[.string u] 9)).heap[wr.heap.size+1]?=some (.cells #[.string u] 9 (0,0))):=yb (by
    have h:=World.alloc_heap_new (wr.alloc (.cells f.toArray 109)) (.cells #[.string u] 9)
    simpa using h)
   have ae:=yb E
   have y:Hid (([]++(x.rots.map (fun d:BG=>d.name)).take i).length+1<=1000000):=yb (by
    have h1:=s.o.rots;have h2:=s.o.rights
    simp only[yn,zg,yV,yH] at D ⊢
    omega)
   have t:Hid (V.heap.size<=((wr.alloc (.cells f.toArray 109)).alloc (.cells #[.string u] 9)).heap.size):=yb (yu C.o.size F.o.size)
   have l:Hid (([]++(x.rots.map (fun d:BG=>d.name)).take i)++[u]=[]++(x.rots.map (fun d:BG=>d.name)).take (i+1)):=yb (by
    rw[yG,<-O,Is D])
   have P:(i:Int) < (rn:Int):=by omega
   generalize ab:[]++(x.rots.map (fun d:BG=>d.name)).take i=ls at HO I y l
   clear q a2 B H E D O ab hb
   go_wp2_with (first|(refine yj rfl 109 _ rfl b (o+i*23) rfl f _ ac.o qH rfl S.o ?_)|(refine ze rfl 109 _ _ rfl wr.heap.size f.toArray rfl rfl 109 _ (World.alloc_heap_new _ _) a0.o (by simp[HL.o]) a6.o ?_;rw[World.setRow_alloc_new])|(at_builtin;refine Gi V.heap.size rfl _ _ rfl u8 ls rfl I.o (wr.heap.size+1) 1 u rfl M.o ae.o y.o t.o ?_;intro ad c w5 k R;have ah:=yb k;have ag:=yb (OO af.o t.o I.o R);clear k R))
   exact ⟨⟨i+1,by omega,by push_cast;rfl,yb (by rw[<-l.o];exact ah.o),ag⟩,by simp[intOf];omega⟩
  ·obtain rfl:i=rn:=by omega
   have P:decide ((i:Int) < (i:Int))=false:=by simp
   have Z:Hid (FH V.heap.size wr u8 (x.rots.map (fun d:BG=>d.name)++(x.rights.map (fun d:AZ=>d.name)).take 0)):=yb (by
    have h:=HO.o
    rw[r.o,yS] at h
    simpa using h)
   clear HO g r
   go_wp2
   have hc:wr.cell? (aV w.heap.size 24)=some (.slice L.rights.a L.rights.n L.rights.c):=(C.o.cell (p:=(aV w.heap.size 24)) HZ.o).trans X.o.rights
   have j:=aa.o.rights
   generalize L.rights=rr at hc j
   obtain ⟨ra,rn,rc⟩:=rr
   have g:=yb j.2.2
   have r:=yb j.1
   have dy:rn<=140737488355328:=by have:=j.1;have:=j.2.1;simp only at*;omega
   simp only at hc g r
   clear j P
   refine A9 (A4 ?_)
   go_wp2
   clear hc
   obtain ⟨wo,rfl⟩:∃z:World,z=wr:=⟨_,rfl⟩
   obtain ⟨vo,rfl⟩:∃z:Value,z=u8:=⟨_,rfl⟩
   have W:=Z
   have Y:=C
   clear Z C
   go_loopw [8,71] (fun v8 iv wr=>∃i:Nat,i<=rn∧iv=iV i∧Hid (FH V.heap.size wr v8 ((x.rots.map (fun d:BG=>d.name))++(x.rights.map (fun d:AZ=>d.name)).take i))∧Hid (Below V.heap.size V wr)) (fun _ iv _=>rn - (intOf iv).toNat)
   case atStart=>exact ⟨0,yI _,rfl,W,Y⟩
   case round=>
    clear W Y
    obtain ⟨i,hi,rfl,HO,C⟩:=hrel
    by_cases J:i < rn
    ·obtain ⟨b,o,f,ha,hb,q,a2,B,H,E⟩:=g.o i (by rw[<-r.o];exact J)
     subst ha
     have HL:=yb q
     have ac:=yb (A0 a2 (C.o.block b hb))
     have a6:=yb (zb B)
     have S:Hid ((Tryz.prog.info? 131).map (·.size)=some f.length):=yb (by rw[q];kernel_rfl)
     have a0:Hid ((Tryz.prog.info? 131).map (·.size)=some f.toArray.size):=yb (by rw[yM];exact S.o)
     have D:i < (x.rights.map (fun d:AZ=>d.name)).length:=by rw[<-r.o];exact J
     generalize O:(x.rights.map (fun d:AZ=>d.name))[i]=u at H E
     have ez:(wr.alloc (.cells f.toArray 131)).cell? (aV wr.heap.size 1)=some (.string u):=by
      have h:=World.alloc_heap_new wr (.cells f.toArray 131)
      simp only[World.cell?,h]
      simpa using H
     have F:Hid (Below wr.heap.size wr ((wr.alloc (.cells f.toArray 131)).alloc (.cells #[.string u] 9))):=yb (((yg _ _).alloc (yf _) _).alloc (by simp) _)
     have I:=yb (HO.o.up F.o)
     have af:=yb (C.o.trans (F.o.mono C.o.size))
     have M:Hid (((wr.alloc (.cells f.toArray 131)).alloc (.cells #[.string u] 9)).heap[wr.heap.size+1]?=some (.cells #[.string u] 9 (0,0))):=yb (by
      have h:=World.alloc_heap_new (wr.alloc (.cells f.toArray 131)) (.cells #[.string u] 9)
      simpa using h)
     have ae:=yb E
     have y:Hid (((x.rots.map (fun d:BG=>d.name))++(x.rights.map (fun d:AZ=>d.name)).take i).length+1<=1000000):=yb (by
      have h1:=s.o.rots;have h2:=s.o.rights
      simp only[yn,zg,yV] at D ⊢
      omega)
     have t:Hid (V.heap.size<=((wr.alloc (.cells f.toArray 131)).alloc (.cells #[.string u] 9)).heap.size):=yb (yu C.o.size F.o.size)
     have l:Hid (((x.rots.map (fun d:BG=>d.name))++(x.rights.map (fun d:AZ=>d.name)).take i)++[u]=(x.rots.map (fun d:BG=>d.name))++(x.rights.map (fun d:AZ=>d.name)).take (i+1)):=yb (by
      rw[yG,<-O,Is D])
     have P:(i:Int) < (rn:Int):=by omega
     generalize ab:(x.rots.map (fun d:BG=>d.name))++(x.rights.map (fun d:AZ=>d.name)).take i=ls at HO I y l
     clear q a2 B H E D O ab hb
     go_wp2_with (first|(refine yj rfl 131 _ rfl b (o+i*37) rfl f _ ac.o qI rfl S.o ?_)|(refine ze rfl 131 _ _ rfl wr.heap.size f.toArray rfl rfl 131 _ (World.alloc_heap_new _ _) a0.o (by simp[HL.o]) a6.o ?_;rw[World.setRow_alloc_new])|(at_builtin;refine Gi V.heap.size rfl _ _ rfl u8 ls rfl I.o (wr.heap.size+1) 1 u rfl M.o ae.o y.o t.o ?_;intro ad c w5 k R;have ah:=yb k;have ag:=yb (OO af.o t.o I.o R);clear k R))
     exact ⟨⟨i+1,by omega,by push_cast;rfl,yb (by rw[<-l.o];exact ah.o),ag⟩,by simp[intOf];omega⟩
    ·obtain rfl:i=rn:=by omega
     have P:decide ((i:Int) < (i:Int))=false:=by simp
     have Z:Hid (FH V.heap.size wr u8 (Dk x)):=yb (by
      have h:=HO.o
      rw[r.o,yS] at h
      exact h)
     clear HO g r
     go_wp2
     have cm:(Dk x).length<=100000:=by
      obtain ⟨_,_,_,_,h1,h2,_⟩:=Fl HF.o
      unfold Dk
      simp only[yn,yV]
      omega
     obtain ⟨⟨sa,sn,sc⟩,ai,cd⟩:=Z.o.nm (by omega)
     unfold Aw.v at ai
     simp only at ai
     subst ai
     have al:=yb cd
     have cx:=yb cm
     have c9:Hid ((x.duties.map (·.name)).length<=100000):=yb (by rw[yV];exact s.o.duties)
     clear Z cd cm P
     by_cases a7:(Dk x).Nodup
     ·have HR:=yb a7
      clear a7
      refine A9 (A4 ?_)
      go_wp2_with (first|(go_at_call 65;refine (U1 (ME (h:=⟨sa,sn,sc⟩) al.o cx.o) HR.o).mono ?_;rintro e w2 ⟨⟨m,rfl⟩,K⟩;have A:=yb (C.o.trans (K.mono C.o.size));clear K))
      have hc:w2.cell? (aV w.heap.size 25)=some (.slice L.duties.a L.duties.n L.duties.c):=(A.o.cell (p:=(aV w.heap.size 25)) HZ.o).trans X.o.duties
      have ck:=yb (aa.o.duties.up A.o)
      by_cases a8:(x.duties.map (·.name)).Nodup
      ·have HD:=yb a8
       clear a8
       refine A9 (A4 ?_)
       go_wp2_with (first|(go_at_call 66;refine (U1 (KX ck.o c9.o) HD.o).mono ?_;rintro e w3 ⟨⟨m3,rfl⟩,U⟩;have G:=yb (A.o.trans (U.mono A.o.size));clear U))
       exact Ww HQ.o (HP.o.up (G.o.mono HP.o.size)) (fj.o.up G.o) (e0.o.up G.o) (f2.o.up G.o) (f7.o.up G.o) HF.o (by rw[HW.o,yw ⟨HR.o,HD.o⟩]) _ _ _ _ _ _ _ _ _ _ _ _ _ _ _ _ _ _ _ _ _ _ _ _ _ _ _ _ _ _ _ _ _ _ _ _ _ _ _ _ _ _ _ _ _ _ _ _ _ _ _ _ _ _ _ _ _ _ _ _ _ _ _ _ _ _ _ _ _ _ _ _ _ _ _ _ _ _ _ _ _ _ _ _ _ _ _ _ _ _ _ _ _ _ _ _ _ _ _ _ _ _ _ _ _ _ _ _ _ _ _ _ _ _ _ _ _ _ _ _ _ _ _ _ _ _ _ _ _ _ _ _ _ _ _ _ _ _ _ _ _ _ _ _ _ _ _ _ _ _ _ _ _ _ _ _ _ _ _ _ _ _ _ _ _ _ _
      ·have HD:=yb a8
       clear a8
       refine A9 (A4 ?_)
       go_wp2_with (first|(go_at_call 66;refine (Wi (KX ck.o c9.o) HD.o).mono ?_;rintro e w3 ⟨rfl,U⟩;have G:=yb (A.o.trans (U.mono A.o.size));clear U))
       exact T.o _ _ ⟨rfl,rfl⟩ G.o (fun h=>HD.o h.2)
     ·have HR:=yb a7
      clear a7
      refine A9 (A4 ?_)
      go_wp2_with (first|(go_at_call 65;refine (Wi (ME (h:=⟨sa,sn,sc⟩) al.o cx.o) HR.o).mono ?_;rintro e w2 ⟨rfl,K⟩;have A:=yb (C.o.trans (K.mono C.o.size));clear K))
      exact T.o _ _ ⟨rfl,rfl⟩ A.o (fun h=>HR.o h.1)
 end Go.Proofs.YtjofgpfocadomaaGreatDoor
namespace Go.Proofs.YtjofgpfocadomaaGreatDoor
open Go.RowKit
theorem X7{Q:QT}{w V:World}{x:Ar}{L:Bt}{cs:LV}{N:NP}(hQ:L9 Q w x)(hP:GA w x L cs N V)
 (hf:Bn x=true)(hw:AF x=if EY x then (if CU (Tb.of x) x&&Ci (Tb.of x) x then 0 else 170) else 171)
 (u0 u4 u5 u6 u7 u8 u9 bp e6 e8 d9 cu cd c8 d2 cg e9 e2 cz cq c9 dw dz dj e7 cw db ct d5 dl bv dp d3 dn d1 da ea e4 bw e3 el f0 eo es em et ew ep eq ez ey eu dq dv dm ce cx bz bn bo dx dy dd cl dt bt dh d7 bq d0 e0 cj e5 de ch d4 cp cr ck di dk du d6 bm dr cf co cv e1 cm ci bu d8 cc cn dc bx ax a7 f Y Z E J F aw an a0 ao bg U y af ay b9 az ai X a2 a8 O R j aq i K I be bh A C T u G ba bd au S am bi l b0 b8 ar d D av al ah ap ag ae v M g H ac m s aj z aa r P ad a6 ak ab bb n q:Value):
  FQ 32 Tryz.prog (Gf 11 (Tryz.f32.body.getD .skip)) Q {tmps:=#[u0,.pointer (some ⟨w.heap.size,0,none⟩),.pointer (some ⟨w.heap.size+1,0,none⟩),.pointer (some ⟨w.heap.size+2,0,none⟩),u4,u5,u6,u7,u8,u9,bp,e6,e8,d9,cu,cd,c8,d2,cg,e9,e2,cz,cq,c9,dw,dz,dj,e7,cw,db,ct,d5,dl,bv,dp,d3,dn,d1,da,ea,e4,bw,e3,el,f0,eo,es,em,et,ew,ep,eq,ez,ey,eu,dq,dv,dm,ce,cx,bz,bn,bo,dx,dy,dd,cl,dt,bt,dh,d7,bq,d0,e0,cj,e5,de,ch,d4,cp,cr,ck,di,dk,du,d6,bm,dr,cf,co,cv,e1,cm,ci,bu,d8,cc,cn,dc,bx,ax,a7,f,Y,Z,E,J,F,aw,an,a0,ao,bg,U,y,af,ay,b9,az,ai,X,a2,a8,O,R,j,aq,i,K,I,be,bh,A,C,T,u,G,ba,bd,au,S,am,bi,l,b0,b8,ar,d,D,av,al,ah,ap,ag,ae,v,M,g,H,ac,m,s,aj,z,aa,r,P,ad,a6,ak,ab,bb,n,q],defers:=[Jv w.heap.size]} V:=by
 have bj:=yb (hP.at.nms fun _ h=>h)
 have c:=yb hP.cells
 have HZ:Hid (w.heap.size < V.heap.size):=yb (by have:=hP.size;omega)
 have HQ:=yb hQ;have HP:=yb hP;have b:=yb hP.slim
 have HF:=yb hf;have HW:=yb hw
 have cy:Hid (∀tm wr,Me w.heap.size tm->Below V.heap.size V wr->¬ EY x->Q (.panic (ED 171)) {tmps:=tm,defers:=[Jv w.heap.size]} wr):=yb (fun tm wr hv hb hn=>by
  rw[yq hn] at hw
  have:=hQ.fail tm wr hv (hP.up (hb.mono hP.size)).amid (by rw[hw];decide)
  rw[hw] at this;exact this)
 clear hQ hP hf hw
 unfold Jv
 refine A9 (A4 ?_)
 go_wp2_with fail
 refine X4 (B:=w.heap.size) (h0:=L.lets) (h1:=L.crops) (h2:=L.reaches) (h3:=L.farms) (n0s:=x.lets.map (·.name)) (n1s:=x.crops.map (·.name)) (n2s:=x.reaches.map (·.name)) (n3s:=x.farms.map (·.name)) _ ?_ ?_ ?_ ?_ ?_ ?_ ?_ ?_ ?_ ?_ ?_ ?_ ?_ ?_
 ·rfl
 ·rfl
 ·rfl
 ·exact fun W hb=>⟨(hb.cell (p:=(aV w.heap.size 19)) HZ.o).trans c.o.lets,(hb.cell (p:=(aV w.heap.size 20)) HZ.o).trans c.o.crops,(hb.cell (p:=(aV w.heap.size 21)) HZ.o).trans c.o.reaches,(hb.cell (p:=(aV w.heap.size 22)) HZ.o).trans c.o.farms⟩
 ·exact fun W hb=>bj.o.lets.up hb
 ·exact fun W hb=>bj.o.crops.up hb
 ·exact fun W hb=>bj.o.reaches.up hb
 ·exact fun W hb=>bj.o.farms.up hb
 ·rw[yV];exact b.o.lets
 ·rw[yV];exact b.o.crops
 ·rw[yV];exact b.o.reaches
 ·rw[yV];exact b.o.farms
 ·intro a W dg bk hb hn
  obtain ⟨tm,df⟩:=a
  obtain rfl:df=[Jv w.heap.size]:=dg
  exact cy.o tm W ⟨(bk 2 (by omega)).trans rfl,(bk 3 (by omega)).trans rfl⟩ hb (fun h=>hn ⟨h.1,h.2.1,h.2.2.1,h.2.2.2.1⟩)
 ·intro a W bl bc br bf ex dg bk g4 g5 g6 g7 m4 m5 m6 m7 b4 b5 b6 b7 hb hn
  have e:a={tmps:=#[u0,pV w.heap.size 0,pV (w.heap.size+1) 0,pV (w.heap.size+2) 0,(a.tmps.getD 4 undef),(a.tmps.getD 5 undef),(a.tmps.getD 6 undef),(a.tmps.getD 7 undef),u8,u9,bp,e6,e8,d9,cu,cd,c8,d2,cg,e9,e2,cz,cq,c9,dw,dz,dj,e7,cw,db,ct,d5,dl,bv,dp,d3,dn,d1,da,ea,e4,bw,e3,(a.tmps.getD 43 undef),(a.tmps.getD 44 undef),(a.tmps.getD 45 undef),(a.tmps.getD 46 undef),(a.tmps.getD 47 undef),(a.tmps.getD 48 undef),(a.tmps.getD 49 undef),(a.tmps.getD 50 undef),(a.tmps.getD 51 undef),(a.tmps.getD 52 undef),(a.tmps.getD 53 undef),(a.tmps.getD 54 undef),dq,dv,dm,ce,cx,bz,bn,bo,dx,dy,dd,cl,dt,bt,dh,d7,bq,d0,e0,cj,e5,de,ch,d4,cp,cr,ck,di,dk,du,d6,bm,dr,cf,co,cv,e1,cm,ci,bu,d8,cc,cn,dc,bx,ax,a7,f,Y,Z,E,J,F,aw,an,a0,ao,bg,U,y,af,ay,b9,az,ai,X,a2,a8,O,R,j,aq,i,K,I,be,bh,A,C,T,u,G,ba,bd,au,S,am,bi,l,b0,b8,ar,d,D,av,al,ah,ap,ag,ae,v,M,g,H,ac,m,s,aj,z,aa,r,P,ad,a6,ak,ab,bb,n,q],defers:=[Jv w.heap.size]}:=(Gz [4,5,6,7,43,44,45,46,47,48,49,50,51,52,53,54] (ex.trans rfl) dg (fun t ht=>bk t ht)).trans (by kernel_rfl)
  rw[g4,g5,g6,g7] at e
  obtain ⟨ej,ed,ei,v46,ec,eh,eg,ef,v51,eb,ek,ee,rfl⟩:∃ej ed ei v46 ec eh eg ef v51 eb ek ee:Value,a={tmps:=#[u0,pV w.heap.size 0,pV (w.heap.size+1) 0,pV (w.heap.size+2) 0,pV bl 0,pV bc 0,pV br 0,pV bf 0,u8,u9,bp,e6,e8,d9,cu,cd,c8,d2,cg,e9,e2,cz,cq,c9,dw,dz,dj,e7,cw,db,ct,d5,dl,bv,dp,d3,dn,d1,da,ea,e4,bw,e3,ej,ed,ei,v46,ec,eh,eg,ef,v51,eb,ek,ee,dq,dv,dm,ce,cx,bz,bn,bo,dx,dy,dd,cl,dt,bt,dh,d7,bq,d0,e0,cj,e5,de,ch,d4,cp,cr,ck,di,dk,du,d6,bm,dr,cf,co,cv,e1,cm,ci,bu,d8,cc,cn,dc,bx,ax,a7,f,Y,Z,E,J,F,aw,an,a0,ao,bg,U,y,af,ay,b9,az,ai,X,a2,a8,O,R,j,aq,i,K,I,be,bh,A,C,T,u,G,ba,bd,au,S,am,bi,l,b0,b8,ar,d,D,av,al,ah,ap,ag,ae,v,M,g,H,ac,m,s,aj,z,aa,r,P,ad,a6,ak,ab,bb,n,q],defers:=[Jv w.heap.size]}:=⟨_,_,_,_,_,_,_,_,_,_,_,_,e⟩
  have en:AF x=if (Dk x).Nodup∧(x.duties.map (·.name)).Nodup then (if CU (Tb.of x) x&&Ci (Tb.of x) x then 0 else 170) else 171:=by
   rw[HW.o]
   by_cases h:EY x
   ·rw[yw h];exact (yw ⟨h.2.2.2.2.1,h.2.2.2.2.2⟩).symm
   ·rw[yq h];exact (yq (fun k=>h ⟨hn.1,hn.2.1,hn.2.2.1,hn.2.2.2,k.1,k.2⟩)).symm
  exact X6 HQ.o (HP.o.up (hb.mono HP.o.size)) m4 m5 m6 m7 HF.o en _ _ _ _ _ _ _ _ _ _ _ _ _ _ _ _ _ _ _ _ _ _ _ _ _ _ _ _ _ _ _ _ _ _ _ _ _ _ _ _ _ _ _ _ _ _ _ _ _ _ _ _ _ _ _ _ _ _ _ _ _ _ _ _ _ _ _ _ _ _ _ _ _ _ _ _ _ _ _ _ _ _ _ _ _ _ _ _ _ _ _ _ _ _ _ _ _ _ _ _ _ _ _ _ _ _ _ _ _ _ _ _ _ _ _ _ _ _ _ _ _ _ _ _ _ _ _ _ _ _ _ _ _ _ _ _ _ _ _ _ _ _ _ _ _ _ _ _ _ _ _ _ _ _ _ _ _ _ _ _ _ _ _ _ _ _ _
end Go.Proofs.YtjofgpfocadomaaGreatDoor
