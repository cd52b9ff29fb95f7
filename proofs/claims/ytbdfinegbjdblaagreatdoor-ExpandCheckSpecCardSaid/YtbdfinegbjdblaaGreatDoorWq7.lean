/- Parts of the proof, in short words: Ra Rb Rc Rd Re Rf Rg Rh Ri Rs Rj Rk Rl Rm Rn Ro -/
import Derived.Test.YtbdfinegbjdblaaGreatDoorWq0
import Derived.Test.YtbdfinegbjdblaaGreatDoorWq5
import Derived.Test.YtbdfinegbjdblaaGreatDoorWq6
import Derived.Test.YtbdfinegbjdblaaGreatDoorWq4
import Derived.BigFrameIn
set_option maxRecDepth 100000
set_option maxHeartbeats 16000000
set_option linter.unusedSimpArgs false
namespace Go.Proofs.YtbdfinegbjdblaaGreatDoor
open Go.RowKit Tryz
structure Tb where
 lets:List ByteArray
 crops:List ByteArray
 reaches:List ByteArray
 farms:List ByteArray
def Tb.of(x:AM):Tb:=⟨x.lets.map (·.name),x.crops.map (·.name),x.reaches.map (·.name),x.farms.map (·.name)⟩
def Tb.tab(t:Tb)(c:Int):LB:=if c=3 then t.crops else if c=4 then t.reaches else if c=6 then t.reaches else if c=5 then t.farms else t.lets
def Ew(to:Int):Int:=if to=2 then 1 else to
def early(to:Int):Bool:=decide (to=2)||decide (to=6)
def KG(t:Tb)(to at_:Int)(r:Rf):Bool:=
 if to=0 then decide (r.name.size=0/\r.n=0) else match Dj (t.tab (Ew to)) r.name with
  |some i=>!early to||decide ((i:Int) < at_)
  |none=>false
def Hu(t:Tb)(c:Int)(s:ByteArray):Int:=match Dj (t.tab c) s with
 |some i=>(i:Int)
 |none=>0
def gT(t:Tb)(to:Int)(r:Rf):Rf:=if to=0 then r else {r with n:=Hu t (Ew to) r.name}
mutual
def KH(t:Tb):Ex->Ex
 |.mk op n u rn ri args=>.mk op n u rn (if op=2 then Hu t 1 rn else ri) (JI t args)
def JI(t:Tb):List Ex->List Ex
 |[]=> []
 |e::r=>KH t e::JI t r
end
theorem OY(t:Tb):∀l:List Ex,JI t l=l.map (KH t)
 |[]=>rfl
 |e::r=>by rw[JI,OY t r];rfl
def fT(t:Tb)(_:Int)(e:Ex):Ex:=if BS e then e else KH t e
mutual
def Xi(t:Tb)(lt:Int):Ex->Bool
 |.mk op _ _ rn ri args=>PE op args.length&&(KG t (Nj op lt) (RE op lt) ⟨rn,ri⟩&&VN t lt args)
def VN(t:Tb)(lt:Int):List Ex->Bool
 |[]=>true
 |e::r=>Xi t lt e&&VN t lt r
end
def Mn(t:Tb)(e:M3):Bool:=BS e.1||Xi t e.2 e.1
def OZ(t:Tb)(d:BG):Bool:=KG t 4 0 d.on&&KG t (if d.river then 0 else 3) 0 d.crop
def Q9(t:Tb)(d:Bq):Bool:=KG t 4 0 d.on&&d.turns.all λk=>KG t 5 0 k.farm
def LP(t:Tb)(d:Bj):Bool:=KG t 5 0 d.farm&&KG t (if d.kind=1 then 0 else 4) 0 d.reach
def P0(t:Tb)(d:CZ):Bool:=KG t 5 0 d.farm&&KG t 4 0 d.reach
def D6(t:Tb)(x:AM):Bool:=(Ba x).all (Mn t)&&(Cy x&&(x.farms.all (OZ t)&&(x.rots.all (Q9 t)&&(x.rights.all (LP t)&&x.duties.all (P0 t)))))
def P1(t:Tb)(p:AS × Nat):Bool:=KG t (if p.2=0 then 0 else 6) p.2 p.1.frm
def E3(t:Tb)(x:AM):Bool:=x.reaches.zipIdx.all (P1 t)
def C4(x:AM):Bool:=M8 x&&(GI x.rots&&Fz x)
def DQ(x:AM):LB:=x.rots.map (·.name)++x.rights.map (·.name)
def DL(x:AM):Bool:=AN x.name&&((x.lets.map (·.name)).all AN&&((x.crops.map (·.name)).all AN&&((x.reaches.map (·.name)).all AN&&((x.farms.map (·.name)).all AN&&((x.rots.map (·.name)).all AN&&((x.rights.map (·.name)).all AN&&(x.duties.map (·.name)).all AN))))))
def ID(x:AM):Prop:=(x.lets.map (·.name)).Nodup/\(x.crops.map (·.name)).Nodup/\(x.reaches.map (·.name)).Nodup/\(x.farms.map (·.name)).Nodup/\(DQ x).Nodup/\(x.duties.map (·.name)).Nodup
instance (x:AM):Decidable (ID x):=by unfold ID;infer_instance
def Ax(x:AM):AM:=x.mp (fT (Tb.of x)) (gT (Tb.of x))
def AU(x:AM):Int:=
 if C4 x then (if DL x then (if ID x then (if E3 (Tb.of x) x&&D6 (Tb.of x) x then 0 else 170) else 171) else 170) else 2
def KI(t:Tb)(u:Us):Bool:=KG t u.to u.at_ ⟨u.name,u.n⟩
def Kc(t:Tb)(p:List Us × Bool):Prop:=p.2=true/\∀u∈p.1,KI t u=true
theorem Qa(t:Tb):∀l:List (List Us × Bool),Kc t (C2 l)↔∀p∈l,Kc t p
 |[]=>by simp[Kc,C2]
 |x::r=>by
  have ih:=Qa t r
  simp only[xG,<-ih]
  have e:C2 (x::r)=if x.2 then (x.1++(C2 r).1,(C2 r).2) else (x.1,false):=rfl
  rw[e]
  unfold Kc
  by_cases h:x.2=true
  ·simp only[h,xi,yO,true_and]
   constructor
   ·rintro ⟨h1,h2⟩;exact ⟨λu a=>h2 u (.inl a),h1,λu a=>h2 u (.inr a)⟩
   rintro ⟨h1,h2,h3⟩;exact ⟨h2,λu a=>a.elim (h1 u) (h3 u)⟩
  simp[h]
mutual
theorem Oj(t:Tb){w:World}{C:Addr->Prop}(lt:Int):∀(e:Ex) (b o:Nat),TW w C e b o->(Kc t (Cx w lt e b o)↔Xi t lt e=true)
 |.mk op n u rn ri args,b,o,h=>by
  rw[TW] at h
  obtain ⟨a,cap,h1,h2,h3,g⟩:=h
  rw[Cx,Xi]
  by_cases hs:PE op args.length=true
  ·rw[yz hs,hs,h2.1]
   have ih:=Ol t lt args a args.length cap 0 g
   unfold Kc at ih |-
   simp only[xG,Bool.true_and,yw,<-ih,KI]
   constructor
   ·rintro ⟨d,f,c⟩;exact ⟨f,d,c⟩
   rintro ⟨f,d,c⟩;exact ⟨d,f,c⟩
  rw[ym hs]
  simp[Kc,hs]
theorem Ol(t:Tb){w:World}{C:Addr->Prop}(lt:Int):∀(l:List Ex) (a:Option Addr) (n cap i:Nat),Lw w C a i l->(Kc t (BU w lt l (some (.slice a n cap)) i)↔VN t lt l=true)
 |[],a,n,cap,i,h=>by simp[BU,VN,Kc]
 |e::r,a,n,cap,i,h=>by
  rw[Lw] at h
  obtain ⟨⟨b,o,rfl,h1⟩,h2⟩:=h
  have m:=Oj t lt e b (o+i*6) h1
  have j:=Ol t lt r (some ⟨b,o,none⟩) n cap (i+1) h2
  rw[BU,VN,yw,<-m,<-j]
  unfold Kc
  by_cases g:(Cx w lt e b (o+i*6)).2=true
  ·simp only[g,xi,true_and,yO]
   constructor
   ·rintro ⟨f,d⟩;exact ⟨λu c=>d u (.inl c),f,λu c=>d u (.inr c)⟩
   rintro ⟨f,d,k⟩;exact ⟨d,λu c=>c.elim (f u) (k u)⟩
  simp[g]
end
theorem Qb{α β γ:Type}{R:α->β->Prop}{f:α->β->γ}{p:γ->Prop}{q:β->Prop}(h:∀a b,R a b->(p (f a b)↔q b)):∀ {l:List α} {m:List β},B9 R l m->((∀c∈List.zipWith f l m,p c)↔∀b∈m,q b)
 |[],[],_=>by simp
 |a::l,b::m,hA=>by
  rw[B9] at hA
  simp only[qB,xG,h a b hA.1,Qb h hA.2]
 |[],b::m,hA=>by simp[B9] at hA
 |a::l,[],hA=>by simp[B9] at hA
theorem VO{N:NP}{w:World}{C D:Addr->Prop}(t:Tb)(a:Array Value)(e:M3)(h:Zp N w C D a e):Kc t (CN w a e)↔Mn t e=true:=by
 obtain ⟨b,o,cs,rfl,_,_,hr,_⟩:=h
 unfold CN Mn
 by_cases c:BS e.1=true
 ·simp[c,Kc]
 rw[ym c,Bool.or_eq_true,or_iff_right c]
 exact Oj t e.2 e.1 b o hr
theorem Uc{f:Nat->List Us}{n:Nat}{p:Us->Prop}:(∀u∈(List.range n).flatMap f,p u)↔∀i,i < n->∀u∈f i,p u:=by
 constructor
 ·intro h i hi u a;exact h u (zl.2 ⟨i,zt.2 hi,a⟩)
 intro h u a
 obtain ⟨i,hi,a⟩:=zl.1 a
 exact h i (zt.1 hi) u a
theorem GQ{α:Type}{l:List α}{n:Nat}(a:n=l.length){f:Nat->List Us}{p:Us->Prop}{q:α->Bool}(h:∀i (hi:i < l.length),(∀u∈f i,p u)↔q l[i]=true):(∀u∈(List.range n).flatMap f,p u)↔l.all q=true:=by
 rw[Uc,zj]
 constructor
 ·intro k d hd
  obtain ⟨i,hi,rfl⟩:=zq.1 hd
  exact (h i hi).1 (k i (by omega))
 intro k i hi
 exact (h i (by omega)).2 (k _ (yR (by omega)))
theorem GR{N:NP}{w:World}{C D:Addr->Prop}{Bu:Nat}{L:BQ}{x:AM}(t:Tb)(h:M6 N w C D Bu L x):Kc t (Ck w L x)↔D6 t x=true:=by
 unfold Ck F0 D6
 rw[Qa]
 simp only[yO,zu,or_imp,forall_and,forall_eq,yw]
 refine and_congr ?_ ?_
 ·rw[zj]
  exact Qb (VO t) h.top
 unfold Kc
 simp only
 refine and_congr_right λa=>?_
 rw[yz a]
 unfold CD
 simp only[yO,or_imp,forall_and]
 rw[GQ h.nfarms (q:=OZ t) λi hi=>?_,GQ h.nrots (q:=Q9 t) λi hi=>?_,GQ h.nrights (q:=LP t) λi hi=>?_,GQ h.nduties (q:=P0 t) λi hi=>?_]
 ·simp only[and_assoc]
 ·unfold EB;rw[yk hi];simp[P0,KI,DA]
 ·unfold Dr;rw[yk hi];simp[LP,KI,DA]
 ·unfold Ho;rw[yk hi]
  simp only[xG,Q9,yw,KI,DA]
  refine and_congr Iff.rfl ?_
  refine GQ (h.nturns i hi) λk a=>?_
  unfold FG;rw[yk a];simp[DA]
 unfold EW;rw[yk hi];simp[OZ,KI,DA]
def Qc(W:World)(b:Nat):Nat:=match W.heap[b]? with
 |some (.cells _ t _)=>t
 |_=>0
theorem ED{W:World}{b t:Nat}(h:Ty W b t):Qc W b=t:=by
 obtain ⟨c,e⟩:=h
 unfold Qc;rw[e]
def FI(W:World)(b o:Nat):Int:=
 if Gg (Qc W b) (o+1)=1 then (match W.cell? ⟨b,o - 3,none⟩ with
  |some (.int _ z)=>if z=2 then 1 else 0
  |_=>0)
 else if Qc W b=123 then (if o < 51 then 0 else 6)
 else if Qc W b=125 then (if o % 12=1 then 4 else match W.cell? ⟨b,o - 7,none⟩ with
  |some (.bool r)=>if r then 0 else 3
  |_=>3)
 else if Qc W b=56 then 4
 else if Qc W b=65 then 5
 else if Qc W b=127 then (if o % 37=2 then 5 else match W.cell? ⟨b,o - 4,none⟩ with
  |some (.int _ z)=>if z=1 then 0 else 4
  |_=>4)
 else (if o % 11=1 then 5 else 4)
def Zt(t q:Nat):Prop:=Gg t q=2\/(Gg t q=1/\GN t q=4)
def JJ(B:Nat)(W:World)(b q:Nat):Prop:=B<=b/\∃o t,q=o+1/\Ty W b t/\Zt t (o+1)/\FI W b o≠0
structure PG (B:Nat) (W:World) (u:Us):Prop where
 base:B<=u.b
 t:∃t,Ty W u.b t/\Zt t (u.o+1)/\¬ Zt t u.o
 name:W.cell? ⟨u.b,u.o,none⟩=some (.string u.name)
 len:u.name.size<=maxLen
 n:W.cell? ⟨u.b,u.o+1,none⟩=some (.int .i64 u.n)
 cat:FI W u.b u.o=Ew u.to
 to:u.to=0\/u.to=1\/u.to=2\/u.to=3\/u.to=4\/u.to=5\/u.to=6
theorem Om{u:Us}:Ew u.to=0↔u.to=0:=by
 unfold Ew;split<;>omega
structure RJ (B:Nat) (W4:World) (t:Tb) (X:List Us) (k:Nat) (O:Nat->Prop) (W:World):Prop where
 os:W.os=W4.os
 tape:W.tape=W4.tape
 output:W.output=W4.output
 size:W4.heap.size<=W.heap.size
 own:∀b,O b->W4.heap.size<=b
 ty:∀(b:Nat) (c:Array Value) (t:TypeId),W4.heap[b]?=some (.cells c t (0,0))->∃c':Array Value,c'.size=c.size/\W.heap[b]?=some (.cells c' t (0,0))
 same:∀b:Nat,b < W4.heap.size->(∀q,¬ JJ B W4 b q)->W.heap[b]?=W4.heap[b]?
 cells:∀b q,b < W4.heap.size->¬ JJ B W4 b q->W.cell? ⟨b,q,none⟩=W4.cell? ⟨b,q,none⟩
 nums:∀b q,JJ B W4 b q->(∃z,W4.cell? ⟨b,q,none⟩=some (.int .i64 z))->∃z,W.cell? ⟨b,q,none⟩=some (.int .i64 z)
 done:∀j (h:j < X.length),j < k->KI t X[j]=true/\(X[j].to≠0->X[j].b < W4.heap.size/\W.cell? ⟨X[j].b,X[j].o+1,none⟩=some (.int .i64 (Hu t (Ew X[j].to) X[j].name)))
section
variable{B:Nat}{W4 W w':World}{t:Tb}{X:List Us}{k:Nat}{O:NP}
theorem RJ.start(B:Nat)(W4:World)(t:Tb)(X:List Us):RJ B W4 t X 0 (λ_=>False) W4:=
 ⟨rfl,rfl,rfl,yi _,λ_ h=>h.elim,λ_ c _ h=>⟨c,rfl,h⟩,λ_ _ _=>rfl,λ_ _ _ _=>rfl,λ_ _ _ h=>h,λ_ _ h=>by omega⟩
theorem RJ.tyT(h:RJ B W4 t X k O W){b ty:Nat}(hb:Ty W4 b ty):Ty W b ty:=by
 obtain ⟨c,e⟩:=hb
 obtain ⟨c',_,a⟩:=h.ty b c ty e
 exact ⟨c',a⟩
theorem RJ.move{i:NP}(h:RJ B W4 t X k O W)(p:W.heap.size<=w'.heap.size)(u:w'.os=W.os)(n:w'.tape=W.tape)(m:w'.output=W.output)(d:∀b,b < W4.heap.size->w'.heap[b]?=W.heap[b]?)(l:∀b,i b->W4.heap.size<=b):RJ B W4 t X k i w':=by
 refine ⟨u.trans h.os,n.trans h.tape,m.trans h.output,yG h.size p,l,λb c ty hb=>?_,λb hb a=>(d b hb).trans (h.same b hb a),λb q hb a=>(Ar (d b hb)).trans (h.cells b q hb a),λb q a hi=>?_,λj s f=>?_⟩
 ·obtain ⟨c',o,r⟩:=h.ty b c ty hb
  exact ⟨c',o,(d b (yd.1 hb).1).trans r⟩
 ·obtain ⟨z,e⟩:=h.nums b q a hi
  obtain ⟨_,_,ty,_,h1,_⟩:=a
  exact ⟨z,(Ar (d b h1.lt)).trans e⟩
 obtain ⟨h1,h2⟩:=h.done j s f
 refine ⟨h1,λh3=>?_⟩
 have g:=h2 h3
 exact ⟨g.1,(Ar (d _ g.1)).trans g.2⟩
theorem RJ.stays:Cv (RJ B W4 t X):=by
 intro k O W j W' h c e g f i d
 refine h.move c e g f (λb hb=>i b (λa=>by have:=h.own b a;omega) (yx hb h.size)) (λb hb=>?_)
 rcases d b hb with h1|h1
 ·exact h.own b h1
 have:=h.size;omega
theorem RJ.below{a:Nat}(h:RJ B W4 t X k O W)(hb:Below a W w')(d:W4.heap.size<=a):RJ B W4 t X k O w':=
 h.move hb.size hb.os hb.tape hb.output (λb c=>hb.block b (by omega)) h.own
theorem PG.notName{u:Us}(h:PG B W4 u):¬ JJ B W4 u.b u.o:=by
 rintro ⟨_,o,ty,e,h1,h2,_⟩
 obtain ⟨a,d,f,c⟩:=h.t
 obtain rfl:=h1.inj d
 rw[<-e] at h2
 exact c h2
theorem PG.lt{u:Us}(h:PG B W4 u):u.b < W4.heap.size:=by
 obtain ⟨a,c,e,d⟩:=h.t
 exact c.lt
theorem PG.num{u:Us}(h:PG B W4 u)(h0:u.to≠0):JJ B W4 u.b (u.o+1):=by
 obtain ⟨a,c,d,f⟩:=h.t
 exact ⟨h.base,u.o,a,rfl,c,d,by rw[h.cat];exact λe=>h0 (Om.1 e)⟩
theorem PG.notNum{u:Us}(h:PG B W4 u)(h0:u.to=0):¬ JJ B W4 u.b (u.o+1):=by
 rintro ⟨_,o,ty,e,h1,h2,h3⟩
 obtain rfl:o=u.o:=by omega
 rw[h.cat] at h3
 exact h3 (Om.2 h0)
theorem RJ.read{u:Us}(h:RJ B W4 t X k O W)(a:PG B W4 u):W.cell? ⟨u.b,u.o,none⟩=some (.string u.name)/\(∃z,W.cell? ⟨u.b,u.o+1,none⟩=some (.int .i64 z)/\(u.to=0->z=u.n))/\W.frozen? ⟨u.b,u.o+1,none⟩=false:=by
 refine ⟨(h.cells _ _ a.lt a.notName).trans a.name,?_,?_⟩
 ·by_cases h0:u.to=0
  ·exact ⟨u.n,(h.cells _ _ a.lt (a.notNum h0)).trans a.n,λ_=>rfl⟩
  obtain ⟨z,d⟩:=h.nums _ _ (a.num h0) ⟨_,a.n⟩
  exact ⟨z,d,λe=>absurd e h0⟩
 obtain ⟨c,f,i,g⟩:=a.t
 exact (h.tyT f).frozen
theorem RJ.skip{u:Us}(h:RJ B W4 t X k O W)(d:X[k]?=some u)(h0:u.to=0)(a:KI t u=true):RJ B W4 t X (k+1) O W:=by
 obtain ⟨f,rfl⟩:=yF.1 d
 refine ⟨h.os,h.tape,h.output,h.size,h.own,h.ty,h.same,h.cells,h.nums,λj c b=>?_⟩
 by_cases e:j=k
 ·subst e;exact ⟨a,λh=>absurd h0 h⟩
 exact h.done j c (by omega)
theorem RJ.next{u:Us}(h:RJ B W4 t X k O W)(x:∀u∈X,PG B W4 u)(F:X[k]?=some u)(h0:u.to≠0)(n:KI t u=true):RJ B W4 t X (k+1) O (W.setCell ⟨u.b,u.o+1,none⟩ (.int .i64 (Hu t (Ew u.to) u.name))):=by
 obtain ⟨D,rfl⟩:=yF.1 F
 have l:=x _ (yR D)
 obtain ⟨_,⟨z,E,_⟩,_⟩:=h.read l
 obtain ⟨s1,H,G,s⟩:=As (iV (Hu t (Ew X[k].to) X[k].name)) E
 have w:=l.num h0
 have a:∀b q,(b≠X[k].b\/q≠X[k].o+1)->(W.setCell ⟨X[k].b,X[k].o+1,none⟩ (iV (Hu t (Ew X[k].to) X[k].name))).cell? (aV b q)=W.cell? (aV b q):=λb q f=>
  World.cell?_setCell_other _ _ _ _ (λe=>by cases e;simp at f)
 refine ⟨s1.os.trans h.os,s1.tape.trans h.tape,s1.output.trans h.output,yG h.size s1.size,h.own,λb c ty hb=>?_,λb hb f=>?_,λb q hb f=>?_,λb q f hi=>?_,λj v C=>?_⟩
 ·obtain ⟨c',i,d⟩:=h.ty b c ty hb
  by_cases m:b=X[k].b
  ·subst m
   exact ⟨_,by rw[Array.size_setIfInBounds];exact i,zp W _ _ c' ty _ d⟩
  exact ⟨c',i,(zg W _ b _ m).trans d⟩
 ·have m:b≠X[k].b:=λe=>f _ (e▸w)
  exact (zg W _ b _ m).trans (h.same b hb f)
 ·rw[a b q (by by_cases e:b=X[k].b;exact .inr (λd=>f (by rw[e,d];exact w));exact .inl e)]
  exact h.cells b q hb f
 ·by_cases e:b=X[k].b/\q=X[k].o+1
  ·obtain ⟨rfl,rfl⟩:=e
   exact ⟨_,s⟩
  rw[a b q (by by_cases d:b=X[k].b;exact .inr (λr=>e ⟨d,r⟩);exact .inl d)]
  exact h.nums b q f hi
 by_cases e:j=k
 ·subst e;exact ⟨n,λ_=>⟨l.lt,s⟩⟩
 obtain ⟨A,y⟩:=h.done j v (by omega)
 refine ⟨A,λh3=>?_⟩
 have g:=x _ (yR v)
 by_cases e:X[j].b=X[k].b/\X[j].o+1=X[k].o+1
 ·obtain ⟨i,d⟩:=e
  have d:X[j].o=X[k].o:=by omega
  have hc:Ew X[j].to=Ew X[k].to:=by rw[<-g.cat,<-l.cat,i,d]
  have p:X[j].name=X[k].name:=by
   have h1:=g.name
   rw[i,d,l.name] at h1
   exact (Value.string.inj (yf h1)).symm
  refine ⟨g.lt,?_⟩
  rw[i,d,hc,p];exact s
 rw[a _ _ (by by_cases d:X[j].b=X[k].b;exact .inr (λr=>e ⟨d,r⟩);exact .inl d)]
 exact y h3
end
section
variable{W:World}{g:Nat}
theorem Sf(h:Ty W g 123)(i:Nat):FI W g (i*51+1)=if i=0 then 0 else 6:=by
 have e:Gg 123 (i*51+1+1)=2:=by rw[xw,(DI Cm i (1+1)).1];rfl
 unfold FI
 rw[ED h,e,ym (by decide),yz rfl]
 by_cases hi:i=0
 ·subst hi;rfl
 rw[ym hi,ym (by omega)]
theorem Xx(h:Ty W g 125)(i:Nat):FI W g (i*12+1)=4:=by
 have e:Gg 125 (i*12+1+1)=2:=by rw[xw,(DI FV i (1+1)).1];rfl
 unfold FI
 rw[ED h,e,ym (by decide),ym (by decide),yz rfl,yz (by omega)]
theorem Ud(h:Ty W g 125)(i:Nat){r:Bool}(hr:W.cell? ⟨g,i*12+3,none⟩=some (.bool r)):FI W g (i*12+10)=if r then 0 else 3:=by
 have e:Gg 125 (i*12+10+1)=2:=by rw[xw,(DI FV i (10+1)).1];rfl
 unfold FI
 rw[ED h,e,ym (by decide),ym (by decide),yz rfl,ym (by omega),show i*12+10 - 7=i*12+3 by omega,hr]
theorem VP(h:Ty W g 56)(i:Nat):FI W g (i*23+1)=4:=by
 have e:Gg 56 (i*23+1+1)=2:=by rw[xw,(DI Gh i (1+1)).1];rfl
 unfold FI
 rw[ED h,e,ym (by decide),ym (by decide),ym (by decide),yz rfl]
theorem Ue(h:Ty W g 65)(i:Nat):FI W g (i*8)=5:=by
 have e:Gg 65 (i*8+1)=2:=by rw[(DI Mi i 1).1];rfl
 unfold FI
 rw[ED h,e,ym (by decide),ym (by decide),ym (by decide),ym (by decide),yz rfl]
theorem Xy(h:Ty W g 127)(i:Nat):FI W g (i*37+2)=5:=by
 have e:Gg 127 (i*37+2+1)=2:=by rw[xw,(DI Cn i (2+1)).1];rfl
 unfold FI
 rw[ED h,e,ym (by decide),ym (by decide),ym (by decide),ym (by decide),ym (by decide),yz rfl,yz (by omega)]
theorem Xz(h:Ty W g 127)(i:Nat){k:IntKind}{z:Int}(hr:W.cell? ⟨g,i*37,none⟩=some (.int k z)):FI W g (i*37+4)=if z=1 then 0 else 4:=by
 have e:Gg 127 (i*37+4+1)=2:=by rw[xw,(DI Cn i (4+1)).1];rfl
 unfold FI
 rw[ED h,e,ym (by decide),ym (by decide),ym (by decide),ym (by decide),ym (by decide),yz rfl,ym (by omega),show i*37+4 - 4=i*37 by omega,hr]
theorem XA(h:Ty W g 129)(i:Nat):FI W g (i*11+1)=5:=by
 have e:Gg 129 (i*11+1+1)=2:=by rw[xw,(DI Hs i (1+1)).1];rfl
 unfold FI
 rw[ED h,e,ym (by decide),ym (by decide),ym (by decide),ym (by decide),ym (by decide),ym (by decide),yz (by omega)]
theorem XB(h:Ty W g 129)(i:Nat):FI W g (i*11+3)=4:=by
 have e:Gg 129 (i*11+3+1)=2:=by rw[xw,(DI Hs i (3+1)).1];rfl
 unfold FI
 rw[ED h,e,ym (by decide),ym (by decide),ym (by decide),ym (by decide),ym (by decide),ym (by decide),ym (by omega)]
theorem Te{o:Nat}(h:Hr W g o){k:IntKind}{op:Int}(hr:W.cell? ⟨g,o,none⟩=some (.int k op)):FI W g (o+3)=if op=2 then 1 else 0:=by
 obtain ⟨t,ty,a⟩:=h
 have e:Gg t (o+3+1)=1:=(a 4 (by omega)).1
 unfold FI
 rw[ED ty,e,yz rfl,show o+3 - 3=o by omega,hr]
theorem Mo(h:Ty W g 40)(i:Nat):Hr W g (i*6):=
 ⟨_,h,λj a=>⟨by simp[Gg],by simp only[GN];simp;omega⟩⟩
end
section
variable{B:Nat}{W:World}{M:NP}
theorem FJ{to at_:Int}{r:Rf}{b o:Nat}(c:B<=b)(hr:RV W to r b o)(a:S0 W b o)(hc:FI W b o=Ew to)(d:to=0\/to=1\/to=2\/to=3\/to=4\/to=5\/to=6):PG B W ⟨b,o,to,at_,r.name,r.n⟩:=by
 obtain ⟨t,ty,h1,h2⟩:=a
 refine ⟨c,⟨t,ty,.inl h2,?_⟩,hr.2.1,hr.1,hr.2.2,hc,d⟩
 rintro (h|h)
 ·rw[h1] at h;cases h
 rw[h1] at h;cases h.1
mutual
theorem Qd(hM:∀g,M g->B<=g)(lt:Int):∀(e:Ex) (b o:Nat) (cs:LV),B<=b->Jl W M e cs->W.rangeAt b o cs->Hr W b o->∀u∈(Cx W lt e b o).1,PG B W u
 |.mk op n u rn ri args,b,o,cs,hb,hv,hr,hp=>by
  rw[Jl] at hv
  obtain ⟨a,cap,rfl,h2,h3,l⟩:=hv
  obtain ⟨k,r1,r2,p,m,r5⟩:=BP hr
  intro v c
  rw[Cx] at c
  by_cases hs:PE op args.length=true
  ·rw[yz hs,r5] at c
   simp only[yq] at c
   rcases c with rfl|c
   ·have hc:=Te hp k
    obtain ⟨t,ty,i⟩:=hp
    have f:=i 3 (by omega);have j:=i 4 (by omega)
    refine ⟨hb,⟨t,ty,.inr j,?_⟩,p,h3,m,?_,?_⟩
    ·rintro (h|h)
     ·simp only at h;rw[f.1] at h;cases h
     simp only at h;rw[f.2] at h;exact absurd h.2 (by decide)
    ·simp only;rw[hc];unfold Nj Ew
     by_cases d:op=2
     ·simp only[d,xi];split<;>simp
     simp[d]
    simp only;unfold Nj
    by_cases d:op=2
    ·simp only[d,xi];split<;>simp
    simp[d]
   exact Qe hM lt args a args.length cap 0 l v c
  rw[ym hs] at c;cases c
theorem Qe(hM:∀g,M g->B<=g)(lt:Int):∀(l:List Ex) (a:Option Addr) (n cap i:Nat),Eg W M a i l->∀u∈(BU W lt l (some (.slice a n cap)) i).1,PG B W u
 |[],a,n,cap,i,h=>by intro v b;rw[BU] at b;cases b
 |e::r,a,n,cap,i,h=>by
  rw[Eg] at h
  obtain ⟨⟨g,cs,rfl,h1,h2,h3,f⟩,j⟩:=h
  have c:=Qd hM lt e g (0+i*6) cs (hM g h1) f (by rw[yy];exact h3) (by rw[yy];exact Mo h2 i)
  have d:=Qe hM lt r (some ⟨g,0,none⟩) n cap (i+1) j
  intro v b
  rw[BU] at b
  split at b
  ·rcases yO.1 b with b|b
   ·exact c v b
   exact d v b
  exact c v b
end
theorem Kd{u:Us}:∀ {l:List (List Us × Bool)},u∈(C2 l).1->∃p∈l,u∈p.1
 |[],h=>by simp[C2] at h
 |x::r,h=>by
  have e:C2 (x::r)=if x.2 then (x.1++(C2 r).1,(C2 r).2) else (x.1,false):=rfl
  rw[e] at h
  split at h
  ·rcases yO.1 h with h|h
   ·exact ⟨x,by simp,h⟩
   obtain ⟨p,h1,h2⟩:=Kd h
   exact ⟨p,by simp[h1],h2⟩
  exact ⟨x,by simp,h⟩
theorem Tf{α β:Type}{R:α->β->Prop}{f:α->β->List Us × Bool}{P:Us->Prop}(h:∀a b,R a b->∀u∈(f a b).1,P u):∀ {l:List α} {m:List β},B9 R l m->∀p∈List.zipWith f l m,∀u∈p.1,P u
 |[],_,_=>by simp
 |_::_,[],_=>by simp
 |a::l,b::m,hA=>by
  rw[B9] at hA
  simp only[qB,xG]
  exact ⟨h a b hA.1,Tf h hA.2⟩
def JK(h:AA)(l:List AS)(i:Nat):List Us:=match l[i]? with
 |some d=> [⟨(h.at 51 i 1).block,(h.at 51 i 1).off,if i=0 then 0 else 6,i,d.frm.name,d.frm.n⟩]
 |none=> []
def FA(L:BQ)(x:AM):List Us:=(List.range L.reaches.n).flatMap (JK L.reaches x.reaches)
def D7(W:World)(L:BQ)(x:AM):List Us:=FA L x++(Ck W L x).1
theorem Tg{N:NP}{L:BQ}{x:AM}(hN:∀g,N g->B<=g)(hM:∀g,M g->B<=g)(hs:N L.s)(h:Cz N (ET M W) (RV W) W L x):∀u∈D7 W L x,PG B W u:=by
 intro u d
 rcases yO.1 d with d|d
 ·obtain ⟨i,hi,d⟩:=zl.1 d
  have j:i < x.reaches.length:=by rw[<-h.reaches.1];exact zt.1 hi
  unfold JK at d
  rw[yk j] at d
  simp only[zu] at d
  obtain ⟨g,l,hg,ty,_,hr,_⟩:=h.reaches.2.2 i j
  rw[Bo l,yy] at d
  rw[d]
  exact FJ (hN g hg) hr (Cf ty Cm i 1 rfl rfl) (by rw[Sf ty];split<;>rfl) (by split<;>simp)
 obtain ⟨p,n,d⟩:=Kd d
 unfold F0 at n
 rcases yO.1 n with n|n
 ·refine Tf (R:=Zj N (ET M W) W) (f:=CN W) (P:=PG B W) (λa e A u d=>?_) (h.all2 hs) p n u d
  obtain ⟨b,o,rfl,hb,q,c,v,t⟩:=A
  unfold CN at d
  split at d
  ·cases d
  exact Qd hM e.2 e.1 b o c (hN b hb) t v q u d
 simp only[zu] at n
 rw[n] at d
 simp only at d
 split at d
 ·unfold CD at d
  simp only[yO] at d
  rcases d with ((d|d)|d)|d
  ·obtain ⟨i,hi,d⟩:=zl.1 d
   have j:i < x.farms.length:=by rw[<-h.farms.1];exact zt.1 hi
   obtain ⟨g,l,hg,ty,_,hr,z,_,m⟩:=h.farms.2.2 i j
   unfold EW at d
   rw[yk j] at d
   simp only[DA,Bo l,yy,yq,yu,yV] at d
   rcases d with rfl|rfl
   ·exact FJ (hN g hg) hr (Cf ty FV i 1 rfl rfl) (by rw[Xx ty];rfl) (by simp)
   exact FJ (hN g hg) m (Cf ty FV i 10 rfl rfl) (by rw[Ud ty i z];split<;>rfl) (by split<;>simp)
  ·obtain ⟨i,hi,d⟩:=zl.1 d
   have j:i < x.rots.length:=by rw[<-h.rots.1];exact zt.1 hi
   obtain ⟨g,l,hg,ty,_,hr,_,_,_,_,_,y⟩:=h.rots.2.2 i j
   unfold Ho at d
   rw[yk j] at d
   simp only[DA,Bo l,yy,yq] at d
   rcases d with rfl|d
   ·exact FJ (hN g hg) hr (Cf ty Gh i 1 rfl rfl) (by rw[VP ty];rfl) (by simp)
   obtain ⟨k,w,d⟩:=zl.1 d
   have r:k < (x.rots[i]).turns.length:=by rw[<-y.1];exact zt.1 w
   obtain ⟨g,l,hg,ty,hr,_⟩:=y.2.2 k r
   unfold FG at d
   rw[yk r] at d
   simp only[DA,Bo l,yy,qC,zu] at d
   rw[d]
   exact FJ (hN g hg) hr (Oa ty Mi k rfl rfl) (by rw[Ue ty];rfl) (by simp)
  ·obtain ⟨i,hi,d⟩:=zl.1 d
   have j:i < x.rights.length:=by rw[<-h.rights.1];exact zt.1 hi
   obtain ⟨g,l,hg,ty,w,_,hr,m,_⟩:=h.rights.2.2 i j
   unfold Dr at d
   rw[yk j] at d
   simp only[DA,Bo l,yy,yq,yu,yV] at d
   rcases d with rfl|rfl
   ·exact FJ (hN g hg) hr (Cf ty Cn i 2 rfl rfl) (by rw[Xy ty];rfl) (by simp)
   exact FJ (hN g hg) m (Cf ty Cn i 4 rfl rfl) (by rw[Xz ty i w];split<;>rfl) (by split<;>simp)
  obtain ⟨i,hi,d⟩:=zl.1 d
  have j:i < x.duties.length:=by rw[<-h.duties.1];exact zt.1 hi
  obtain ⟨g,l,hg,ty,_,hr,m,_⟩:=h.duties.2.2 i j
  unfold EB at d
  rw[yk j] at d
  simp only[DA,Bo l,yy,yq,yu,yV] at d
  rcases d with rfl|rfl
  ·exact FJ (hN g hg) hr (Cf ty Hs i 1 rfl rfl) (by rw[XA ty];rfl) (by simp)
  exact FJ (hN g hg) m (Cf ty Hs i 3 rfl rfl) (by rw[XB ty];rfl) (by simp)
 cases d
end
section
variable{B:Nat}{W W':World}{N M:NP}{L:BQ}{x:AM}{t:Tb}{X:List Us}{k:Nat}{O:NP}
def CR(B:Nat)(W:World)(p:Addr):Prop:=∃b q,p=⟨b,q,none⟩/\b < W.heap.size/\¬ JJ B W b q
def DR(W:World)(p:Addr):Prop:=∃b q,p=⟨b,q,none⟩/\b < W.heap.size/\∃z,W.cell? ⟨b,q,none⟩=some (.int .i64 z)
theorem RJ.hd(h:RJ B W t X k O W'):aG W (CR B W) (DR W) W':=by
 constructor
 ·rintro p ⟨b,q,rfl,h1,h2⟩;exact h.cells b q h1 h2
 rintro p ⟨b,q,rfl,h1,h2⟩
 by_cases a:JJ B W b q
 ·exact h.nums b q a h2
 rw[h.cells b q h1 a];exact h2
theorem Sg{b q ty:Nat}(h:Ty W b ty)(c:¬ Zt ty q):¬ JJ B W b q:=by
 rintro ⟨_,o,a,rfl,h1,h2,_⟩
 obtain rfl:=h.inj h1
 exact c h2
theorem GS{b q:Nat}(h:PZ W b q):¬ JJ B W b q:=by
 obtain ⟨ty,h1,h2⟩:=h
 exact Sg h1 (by rintro (h|h);rw[h2] at h;cases h;rw[h2] at h;cases h.1)
theorem FZ{b o:Nat}(h:Hr W b o){j:Nat}(a:j < 6)(c:j≠4):¬ JJ B W b (o+j):=by
 obtain ⟨ty,h1,h2⟩:=h
 refine Sg h1 ?_
 rintro (h|h)
 ·rw[(h2 j a).1] at h;cases h
 rw[(h2 j a).2] at h;exact c h.2
theorem Mp{b o:Nat}(h:Hr W b o){kk:IntKind}{op:Int}(hr:W.cell? ⟨b,o,none⟩=some (.int kk op))(h2:op≠2):¬ JJ B W b (o+4):=by
 rintro ⟨_,c,a,e,h1,_,h3⟩
 obtain rfl:c=o+3:=by omega
 rw[Te h hr,ym h2] at h3
 exact h3 rfl
mutual
theorem VQ:∀(e:Ex) (b o:Nat) (cs:LV),Jl W M e cs->W.rangeAt b o cs->Hr W b o->TW W (CR B W) e b o
 |.mk op n u rn ri args,b,o,cs,hv,hr,hp=>by
  rw[Jl] at hv
  obtain ⟨a,cap,rfl,h2,h3,d⟩:=hv
  obtain ⟨c,r1,r2,g,f,r5⟩:=BP hr
  rw[TW]
  exact ⟨a,cap,⟨c,_,_,rfl,hp.lt,FZ (j:=0) hp (by omega) (by omega)⟩,⟨r5,_,_,rfl,hp.lt,FZ hp (by omega) (by omega)⟩,h2,Th args a 0 d⟩
theorem Th:∀(l:List Ex) (a:Option Addr) (i:Nat),Eg W M a i l->Lw W (CR B W) a i l
 |[],a,i,h=>by rw[Lw];trivial
 |e::r,a,i,h=>by
  rw[Eg] at h
  rw[Lw]
  obtain ⟨⟨g,cs,rfl,h1,h2,h3,c⟩,b⟩:=h
  exact ⟨⟨g,0,rfl,by rw[yy];exact VQ e g (i*6) cs c h3 (Mo h2 i)⟩,Th r _ (i+1) b⟩
end
theorem Gi{f:Nat->List Us}{c:Nat}(n:Nat)(h:∀i,(f i).length<=c):((List.range n).flatMap f).length<=n*c:=by
 induction n with
 |zero=>simp
 |succ n ih=>rw[Aw,yn,Nat.succ_mul];have:=h n;omega
theorem Qf{f:Nat->List Us}{c:Nat}(n:Nat)(h:∀i,i < n->(f i).length<=c):((List.range n).flatMap f).length<=n*c:=by
 induction n with
 |zero=>simp
 |succ n ih=>rw[Aw,yn,Nat.succ_mul];have:=h n (by omega);have:=ih (λi hi=>h i (by omega));omega
theorem G0(h:C4 x=true):x.lets.length<=64/\x.crops.length<=32/\x.reaches.length<=64/\x.farms.length<=600/\x.rots.length<=64/\x.rights.length<=256/\x.duties.length<=256/\(∀d∈x.rots,d.turns.length<=64)/\∀e∈Ba x,BB e.1<=8:=by
 unfold C4 M8 GI Fz at h
 simp only[yw,yM,zj] at h
 obtain ⟨⟨h1,h2,h3,i,a,c,b⟩,f,g⟩:=h
 exact ⟨h1,h2,h3,i,a,c,b,f,g⟩
theorem Qg(h:x.lets.length<=64):∀e∈Ba x,0<=e.2/\e.2<=1000000:=by
 intro e b
 unfold Ba NZ KB GH KC M4 Fw J4 J5 at b
 simp only[yO,yq,yu,yV,zl,Prod.exists] at b
 rcases b with (rfl|rfl|rfl)|⟨d,i,a,rfl⟩|⟨d,i,a,rfl⟩|⟨d,i,a,rfl|rfl|rfl|rfl|rfl|rfl|rfl|rfl⟩|⟨d,i,a,rfl⟩|⟨d,i,a,(rfl|rfl|rfl)|⟨d',f,c,rfl⟩⟩|⟨d,i,a,rfl|rfl|rfl|rfl|rfl⟩|⟨d,i,a,rfl⟩
 all_goals first|exact ⟨by omega,by omega⟩|skip
 have:=List.mem_zipIdx a
 simp only
 omega
theorem Qh(h:Cz N (ET M W) (RV W) W L x)(hf:C4 x=true):(CD L x).length<=1000000:=by
 obtain ⟨e,l,r,g,q,p,o,b,_⟩:=G0 hf
 unfold CD
 simp only[yn]
 have j:((List.range L.farms.n).flatMap (EW L.farms x.farms)).length<=L.farms.n*2:=Gi _ λi=>by unfold EW;split<;>simp
 have m:((List.range L.rots.n).flatMap (Ho L x.rots)).length<=L.rots.n*66:=Qf _ λi hi=>by
  have a:i < x.rots.length:=by rw[<-h.rots.1];exact hi
  obtain ⟨_,_,_,_,_,_,_,_,_,_,_,c⟩:=h.rots.2.2 i a
  have d:((List.range (Ac L i).n).flatMap (FG (Ac L i) (x.rots[i]).turns)).length<=(Ac L i).n*1:=Gi _ λk=>by unfold FG;split<;>simp
  have:=b _ (yR a)
  have:=c.1
  unfold Ho
  rw[yk a]
  simp only[yr]
  omega
 have d:((List.range L.rights.n).flatMap (Dr L.rights x.rights)).length<=L.rights.n*2:=Gi _ λi=>by unfold Dr;split<;>simp
 have f:((List.range L.duties.n).flatMap (EB L.duties x.duties)).length<=L.duties.n*2:=Gi _ λi=>by unfold EB;split<;>simp
 have:=h.farms.1;have:=h.rots.1;have:=h.rights.1;have:=h.duties.1
 omega
theorem VR(hs:N L.s)(h:Cz N (ET M W) (RV W) W L x){Bu:Nat}(r:Bu < W.heap.size)(p:W.cell? ⟨Bu,0,none⟩=some (.pointer (some ⟨L.s,0,none⟩)))(hf:C4 x=true):M6 M W (CR B W) (DR W) Bu L x:=by
 have f:∀ {hd:AA} {g sz i q:Nat},hd.a=some (aV g 0)->hd.at sz i q=(aV g (i*sz+q)):=λl=>by rw[Bo l,yy]
 refine ⟨h.ok,h.heads (λ_ _ _=>rfl) p,⟨Bu,0,rfl,r,?_⟩,λj h1 h2=>⟨L.s,j,rfl,h.ty.lt,Sg h.ty ?_⟩,λi hi=>?_,λi hi=>?_,λi hi=>?_,?_,h.farms.1,h.rots.1,λi hi=>?_,h.rights.1,h.duties.1,Qg (G0 hf).1,Qh h hf⟩
 ·rintro ⟨_,o,ty,e,_⟩;omega
 ·have:j=19\/j=20\/j=21\/j=22\/j=23\/j=24\/j=25:=by omega
  rcases this with rfl|rfl|rfl|rfl|rfl|rfl|rfl<;>(intro y;revert y;unfold Zt;decide)
 ·obtain ⟨g,l,hg,ty,_⟩:=h.rots.2.2 i (by rw[<-h.rots.1];exact hi)
  rw[f l]
  exact ⟨_,_,rfl,ty.lt,GS (Ec ty Gh i 22 rfl)⟩
 ·obtain ⟨g,l,hg,ty,_,_,m,_⟩:=h.farms.2.2 i hi
  rw[f l]
  exact ⟨⟨_,_,rfl,ty.lt,GS (Ec ty FV i 3 rfl)⟩,m⟩
 ·obtain ⟨g,l,hg,ty,m,_⟩:=h.rights.2.2 i hi
  rw[f l]
  exact ⟨⟨_,_,rfl,ty.lt,GS (Ec ty Cn i 0 rfl)⟩,m⟩
 ·refine B9.mono (λa e v=>?_) (h.all2 hs)
  obtain ⟨b,o,rfl,hb,d,c,k,n⟩:=v
  have hr:=VQ (B:=B) e.1 b o c n k d
  have m:=n.exV (N:=M) (λ_ h _=>h)
  obtain ⟨a,cap,rfl,z,C,A⟩:=m.cells
  obtain ⟨t,r1,r2,D,w,r5⟩:=BP k
  exact ⟨b,o,_,rfl,k,m,hr,⟨_,_,rfl,d.lt,FZ d (by omega) (by omega)⟩,⟨_,_,rfl,d.lt,FZ d (by omega) (by omega)⟩,⟨_,_,rfl,d.lt,FZ d (by omega) (by omega)⟩,⟨_,_,rfl,d.lt,_,w⟩,
   λh0=>⟨_,_,rfl,d.lt,Mp d t (by rw[h0];decide)⟩⟩
 obtain ⟨_,_,_,_,_,_,_,_,_,_,_,u⟩:=h.rots.2.2 i hi
 exact u.1
end
section
variable{B:Nat}{W W':World}{N M:NP}{E:Int->Ex->Nat->Nat->Prop}{R:Int->Rf->Nat->Nat->Prop}{L:BQ}{x:AM}{t:Tb}{X:List Us}{O:NP}
theorem Ke:∀ {l:List (List Us × Bool)},(C2 l).2=true->∀p∈l,p.2=true/\∀u∈p.1,u∈(C2 l).1
 |[],_=>by simp
 |y::r,h=>by
  have e:C2 (y::r)=if y.2 then (y.1++(C2 r).1,(C2 r).2) else (y.1,false):=rfl
  rw[e] at h |-
  by_cases h1:y.2=true
  ·rw[yz h1] at h |-
   have ih:=Ke h
   intro p a
   rcases yq.1 a with rfl|a
   ·exact ⟨h1,λu b=>yO.2 (.inl b)⟩
   exact ⟨(ih p a).1,λu b=>yO.2 (.inr ((ih p a).2 u b))⟩
  rw[ym h1] at h;cases h
theorem On{α β γ:Type}{R R':α->β->Prop}{f:α->β->γ}{Q:γ->Prop}(h:∀a b,R a b->Q (f a b)->R' a b):∀ {l:List α} {m:List β},B9 R l m->(∀p∈List.zipWith f l m,Q p)->B9 R' l m
 |[],[],_,_=>trivial
 |a::l,b::m,hA,hq=>by
  rw[B9] at hA
  simp only[qB,xG] at hq
  exact ⟨h a b hA.1 hq.1,On h hA.2 hq.2⟩
 |[],_::_,hA,_=>by simp[B9] at hA
 |_::_,[],hA,_=>by simp[B9] at hA
def Zu(W:World)(X:List Us)(M:NP)(lt:Int)(e:Ex)(b o:Nat):Prop:=ET M W lt e b o/\(BS e=false->(Cx W lt e b o).2=true/\∀u∈(Cx W lt e b o).1,u∈X)
def Zv(X:List Us)(R:Int->Rf->Nat->Nat->Prop)(to:Int)(r:Rf)(b o:Nat):Prop:=R to r b o/\∃at_,(⟨b,o,to,at_,r.name,r.n⟩:Us)∈X
theorem Cz.linkE(h:Cz N (ET M W) R W L x)(hs:N L.s)(m:(Ck W L x).2=true)(n:∀u∈(Ck W L x).1,u∈X):Cz N (Zu W X M) R W L x:=by
 have k:=Ke m
 refine h.told (On (f:=CN W) (Q:=λp=>p.2=true/\∀u∈p.1,u∈X) (λa e l c=>?_) (h.all2 hs) (λp d=>?_))
 ·obtain ⟨b,o,rfl,hb,d,j⟩:=l
  refine ⟨b,o,rfl,j,λi=>?_⟩
  unfold CN at c
  rw[i] at c
  exact c
 obtain ⟨h1,h2⟩:=k p (yO.2 (.inl d))
 exact ⟨h1,λu g=>n u (h2 u g)⟩
theorem CH{f:Nat->List Us}{n i:Nat}{u:Us}(hi:i < n)(a:u∈f i):u∈(List.range n).flatMap f:=zl.2 ⟨i,zt.2 hi,a⟩
theorem Cz.linkR(h:Cz N E R W L x)(s:∀u∈FA L x,u∈X)(l:∀u∈CD L x,u∈X):Cz N E (Zv X R) W L x:=by
 have c:∀ {hd:AA} {g sz i f:Nat},hd.a=some (aV g 0)->hd.at sz i f=(aV g (i*sz+f)):=λb=>by rw[Bo b,yy]
 have q:∀u∈(List.range L.farms.n).flatMap (EW L.farms x.farms),u∈X:=λu e=>l u (by unfold CD;simp only[yO];exact .inl (.inl (.inl e)))
 have p:∀u∈(List.range L.rots.n).flatMap (Ho L x.rots),u∈X:=λu e=>l u (by unfold CD;simp only[yO];exact .inl (.inl (.inr e)))
 have r:∀u∈(List.range L.rights.n).flatMap (Dr L.rights x.rights),u∈X:=λu e=>l u (by unfold CD;simp only[yO];exact .inl (.inr e))
 have o:∀u∈(List.range L.duties.n).flatMap (EB L.duties x.duties),u∈X:=λu e=>l u (by unfold CD;simp only[yO];exact .inr e)
 refine ⟨h.ty,h.name,h.season,h.cap,h.start,h.hlets,h.hcrops,h.hreaches,h.hfarms,h.hrots,h.hrights,h.hduties,h.lets,h.crops,⟨h.reaches.1,h.reaches.2.1,λi hi=>?_⟩,⟨h.farms.1,h.farms.2.1,λi hi=>?_⟩,⟨h.rots.1,h.rots.2.1,λi hi=>?_⟩,⟨h.rights.1,h.rights.2.1,λi hi=>?_⟩,⟨h.duties.1,h.duties.2.1,λi hi=>?_⟩⟩
 ·obtain ⟨g,b,hg,ty,h1,hr,h2⟩:=h.reaches.2.2 i hi
  refine ⟨g,b,hg,ty,h1,⟨hr,⟨i,s _ (CH (by rw[h.reaches.1];exact hi) ?_)⟩⟩,h2⟩
  unfold JK;rw[yk hi];simp[c b]
 ·obtain ⟨g,b,hg,ty,h1,hr,h2,h3,d⟩:=h.farms.2.2 i hi
  refine ⟨g,b,hg,ty,h1,⟨hr,⟨0,q _ (CH (by rw[h.farms.1];exact hi) ?_)⟩⟩,h2,h3,⟨d,⟨0,q _ (CH (by rw[h.farms.1];exact hi) ?_)⟩⟩⟩
  ·unfold EW;rw[yk hi];simp[c b,DA]
  unfold EW;rw[yk hi];simp[c b,DA]
 ·obtain ⟨g,b,hg,ty,h1,hr,h2,h3,t,v,w,j⟩:=h.rots.2.2 i hi
  refine ⟨g,b,hg,ty,h1,⟨hr,⟨0,p _ (CH (by rw[h.rots.1];exact hi) ?_)⟩⟩,h2,h3,t,v,w,j.1,j.2.1,λk m=>?_⟩
  ·unfold Ho;rw[yk hi];simp[c b,DA]
  obtain ⟨g,b,hg,ty,hr,h1⟩:=j.2.2 k m
  refine ⟨g,b,hg,ty,⟨hr,⟨0,p _ (CH (i:=i) (by rw[h.rots.1];exact hi) ?_)⟩⟩,h1⟩
  unfold Ho;rw[yk hi]
  refine yq.2 (.inr (CH (i:=k) (by rw[j.1];exact m) ?_))
  unfold FG;rw[yk m];simp[c b,DA]
 ·obtain ⟨g,b,hg,ty,h0,h1,hr,d,h2⟩:=h.rights.2.2 i hi
  refine ⟨g,b,hg,ty,h0,h1,⟨hr,⟨0,r _ (CH (by rw[h.rights.1];exact hi) ?_)⟩⟩,⟨d,⟨0,r _ (CH (by rw[h.rights.1];exact hi) ?_)⟩⟩,h2⟩
  ·unfold Dr;rw[yk hi];simp[c b,DA]
  unfold Dr;rw[yk hi];simp[c b,DA]
 obtain ⟨g,b,hg,ty,h1,hr,d,h2⟩:=h.duties.2.2 i hi
 refine ⟨g,b,hg,ty,h1,⟨hr,⟨0,o _ (CH (by rw[h.duties.1];exact hi) ?_)⟩⟩,⟨d,⟨0,o _ (CH (by rw[h.duties.1];exact hi) ?_)⟩⟩,h2⟩
 ·unfold EB;rw[yk hi];simp[c b,DA]
 unfold EB;rw[yk hi];simp[c b,DA]
theorem RJ.at(h:RJ B W t X X.length O W'){u:Us}(c:u∈X)(h0:u.to≠0):W'.cell? ⟨u.b,u.o+1,none⟩=some (.int .i64 (Hu t (Ew u.to) u.name)):=by
 obtain ⟨j,a,rfl⟩:=zq.1 c
 exact ((h.done j a a).2 h0).2
theorem Qi(t:Tb)(l:List Ex):(JI t l).length=l.length:=by rw[OY];simp
mutual
theorem Ti(h:RJ B W t X X.length O W')(lt:Int):∀(e:Ex) (b o:Nat) (cs:LV),Jl W M e cs->W.rangeAt b o cs->Hr W b o->(Cx W lt e b o).2=true->(∀u∈(Cx W lt e b o).1,u∈X)->∃c,W'.rangeAt b o c/\Jl W' M (KH t e) c
 |.mk op n u rn ri args,b,o,cs,hv,hr,hp,ho,hX=>by
  rw[Jl] at hv
  obtain ⟨a,cap,rfl,h2,h3,i⟩:=hv
  obtain ⟨k,r1,r2,q,p,r5⟩:=BP hr
  have hc:∀j,j < 6->j≠4->W'.cell? ⟨b,o+j,none⟩=W.cell? ⟨b,o+j,none⟩:=λj m i=>h.cells b _ hp.lt (FZ hp m i)
  rw[Cx] at ho hX
  by_cases hs:PE op args.length=true
  ·rw[yz hs] at ho hX
   rw[r5] at ho hX
   simp only[xG] at hX
   have d:=Qj h lt args a args.length cap 0 i ho hX.2
   have f:W'.cell? ⟨b,o+4,none⟩=some (.int .i64 (if op=2 then Hu t 1 rn else ri)):=by
    by_cases g:op=2
    ·have l:=h.at hX.1 (by simp only[Nj,g,xi];split<;>simp)
     rw[yz g]
     simp only[Nj,g,xi,xw] at l
     rw[l]
     split<;>rfl
    rw[ym g]
    exact (h.cells b _ hp.lt (Mp hp k g)).trans p
   refine ⟨[iV op,iV n,iV u,.string rn,iV (if op=2 then Hu t 1 rn else ri),.slice a args.length cap],?_,?_⟩
   ·exact Af ((hc 0 (by omega) (by omega)).trans k) (Af ((hc 1 (by omega) (by omega)).trans r1) (Af ((hc 2 (by omega) (by omega)).trans r2) (Af ((hc 3 (by omega) (by omega)).trans q) (Af f (Co ((hc 5 (by omega) (by omega)).trans r5))))))
   rw[KH,Jl]
   exact ⟨a,cap,by rw[Qi],by rw[Qi];exact h2,h3,d⟩
  rw[ym hs] at ho;cases ho
theorem Qj(h:RJ B W t X X.length O W')(lt:Int):∀(l:List Ex) (a:Option Addr) (n cap i:Nat),Eg W M a i l->(BU W lt l (some (.slice a n cap)) i).2=true->(∀u∈(BU W lt l (some (.slice a n cap)) i).1,u∈X)->Eg W' M a i (JI t l)
 |[],a,n,cap,i,_,_,_=>by rw[JI,Eg];trivial
 |e::r,a,n,cap,i,hr,ho,hX=>by
  rw[Eg] at hr
  obtain ⟨⟨g,cs,rfl,h1,h2,h3,d⟩,f⟩:=hr
  rw[BU] at ho hX
  by_cases b:(Cx W lt e g (0+i*6)).2=true
  ·rw[yz b] at ho hX
   simp only[yO,or_imp,forall_and] at hX
   obtain ⟨c,c1,c2⟩:=Ti h lt e g (0+i*6) cs d (by rw[yy];exact h3) (by rw[yy];exact Mo h2 i) b hX.1
   rw[yy] at c1
   rw[JI,Eg]
   exact ⟨⟨g,c,rfl,h1,h.tyT h2,c1,c2⟩,Qj h lt r (some ⟨g,0,none⟩) n cap (i+1) f ho hX.2⟩
  rw[ym b] at ho;cases ho
end
theorem Uf{e:Ex}(h:BS e=true):e.op=0/\e.args=[]:=by
 unfold BS Eo at h
 simp only[yw,yM] at h
 exact ⟨h.1,List.eq_nil_of_length_eq_zero h.2.2.2.2⟩
theorem VS(h:RJ B W t X X.length O W'){lt:Int}{e:Ex}{b o:Nat}(m:BS e=true)(p:ET M W lt e b o)(d:Hr W b o):ET M W' lt e b o:=by
 obtain ⟨c,hr,k⟩:=p
 obtain ⟨l,g⟩:=Uf m
 cases e with
 |mk op n u rn ri args=>
 simp only[Ex.op,Ex.args] at l g
 subst g
 rw[Jl] at k
 obtain ⟨a,cap,rfl,h2,h3,i⟩:=k
 obtain ⟨f,r1,r2,s,r,r5⟩:=BP hr
 have hc:∀j,j < 6->j≠4->W'.cell? (aV b (o+j))=W.cell? (aV b (o+j)):=λj q i=>h.cells b _ d.lt (FZ d q i)
 refine ⟨_,Af ((hc 0 (by omega) (by omega)).trans f) (Af ((hc 1 (by omega) (by omega)).trans r1) (Af ((hc 2 (by omega) (by omega)).trans r2) (Af ((hc 3 (by omega) (by omega)).trans s) (Af ((h.cells b _ d.lt (Mp d f (by rw[l];decide))).trans r) (Co ((hc 5 (by omega) (by omega)).trans r5)))))),?_⟩
 rw[Jl]
 exact ⟨a,cap,rfl,h2,h3,by rw[Eg];trivial⟩
theorem Ug(hN:∀g,N g->B<=g)(hM:∀g,M g->B<=g)(hs:N L.s)(h:Cz N (ET M W) (RV W) W L x)(d:RJ B W t (D7 W L x) (D7 W L x).length O W')(p:(Ck W L x).2=true):Cz N (ET M W') (RV W') W' L (x.mp (fT t) (gT t)):=by
 have y:Cy x=true:=by
  have:=Ke p (if Cy x then CD L x else [],Cy x) (yO.2 (.inr (by simp)))
  exact this.1
 have f:∀u∈CD L x,u∈D7 W L x:=λu j=>yO.2 (.inr ((Ke p (if Cy x then CD L x else [],Cy x) (yO.2 (.inr (by simp)))).2 u (by rw[yz y];exact j)))
 refine ((h.linkE (X:=D7 W L x) hs p (λu j=>yO.2 (.inr j))).linkR (X:=D7 W L x) (λu j=>yO.2 (.inl j)) f).map (λb ty _ h=>d.tyT h) (λb o _ h=>d.cells b o h.lt (GS h)) (λlt e b o _ i l=>?_) (λto r b o _ i hr=>?_)
 ·obtain ⟨l,a⟩:=l
  unfold fT
  by_cases m:BS e=true
  ·rw[yz m];exact VS d m l i
  rw[ym m]
  obtain ⟨w,v⟩:=a (by simpa using m)
  obtain ⟨c,c1,c2⟩:=l
  exact Ti d lt e b o c c2 c1 i w v
 obtain ⟨hr,a⟩:=hr
 have k:¬ JJ B W b o:=by
  obtain ⟨ty,q,z,_⟩:=i
  exact GS ⟨ty,q,z⟩
 unfold gT
 by_cases h0:to=0
 ·rw[yz h0]
  refine ⟨hr.1,(d.cells b o i.lt k).trans hr.2.1,(d.cells b _ i.lt ?_).trans hr.2.2⟩
  obtain ⟨at_,n⟩:=a
  exact (Tg hN hM hs h _ n).notNum h0
 rw[ym h0]
 obtain ⟨at_,n⟩:=a
 exact ⟨hr.1,(d.cells b o i.lt k).trans hr.2.1,d.at n h0⟩
end
end Go.Proofs.YtbdfinegbjdblaaGreatDoor
namespace Go.Proofs.YtbdfinegbjdblaaGreatDoor
open Go.RowKit Tryz
attribute [local go_sem] Oper.semAt_some
def KJ(B:Nat):Deferred:={target:=.fn (.func 72) #[.pointer (some ⟨B+1,0,none⟩),.pointer (some ⟨B+2,0,none⟩)],args:=#[]}
def IE(D:Nat):Deferred:={target:=.collected D,args:=#[]}
def Sh(B:Nat)(w':World)(cs:LV)(x:AM):Prop:=∃(L:BQ) (N:NP),cs.length=26/\CQ N w' L cs x/\∀b,N b->B<=b/\b < w'.heap.size
def Kf(w:World)(x:AM)(e:Ending)(w':World):Prop:=
 Below w.heap.size w w'/\((AU x≠0/\e=.returned (.tuple #[.agg Cq.toArray,.int .i64 (AU x)]))\/(AU x=0/\∃cs,e=.returned (.tuple #[.agg cs.toArray,.int .i64 0])/\Sh w.heap.size w' cs (Ax x)))
structure Ly (w W:World):Prop where
 below:Below w.heap.size w W
 x:∃row:Array Value,row.size=26/\W.heap[w.heap.size+1]?=some (.cells row 49 (0,0))
 e:∃v:Value,W.heap[w.heap.size+2]?=some (.cells #[v] 34 (0,0))
theorem Ly.up{w W W':World}(h:Ly w W)(hb:Below (w.heap.size+3) W W'):Ly w W':=by
 obtain ⟨row,h1,h2⟩:=h.x
 obtain ⟨v,h3⟩:=h.e
 exact ⟨h.below.trans (hb.mono (by omega)),⟨row,h1,(hb.block _ (by omega)).trans h2⟩,⟨v,(hb.block _ (by omega)).trans h3⟩⟩
def JL(B:Nat)(tm:Array Value):Prop:=tm.getD 2 undef=.pointer (some ⟨B+1,0,none⟩)/\tm.getD 3 undef=.pointer (some ⟨B+2,0,none⟩)
structure Mq (Q:Exit->Act->World->Prop) (w:World) (x:AM):Prop where
 fail:∀tm W,JL w.heap.size tm->Ly w W->AU x≠0->Q (.panic (Fg (AU x))) {tmps:=tm,defers:=[KJ w.heap.size]} W
 failD:∀D tm W,JL w.heap.size tm->Ly w W->AU x≠0->w.heap.size+3<=D->W.heap[D]?=some (.deferred (some []))->Q (.panic (Fg (AU x))) {tmps:=tm,defers:=[IE D,KJ w.heap.size]} W
 done:∀D tm W cs,JL w.heap.size tm->Below w.heap.size w W->W.heap[w.heap.size+1]?=some (.cells cs.toArray 49 (0,0))->W.heap[w.heap.size+2]?=some (.cells #[.int .i64 0] 34 (0,0))->AU x=0->w.heap.size+3<=D->W.heap[D]?=some (.deferred (some []))->
  Sh w.heap.size (W.putObj D (.deferred none)) cs (Ax x)->Q .ret {tmps:=tm,defers:=[IE D,KJ w.heap.size]} W
theorem Qk{W:World}{tm:Array Value}{B:Nat}{cs:LV}{z:Int}(d:JL B tm)(h1:W.heap[B+1]?=some (.cells cs.toArray 49 (0,0)))(a:cs.length=26)(h2:W.heap[B+2]?=some (.cells #[.int .i64 z] 34 (0,0))):
  (results Tryz.f63 tm).run prog W=.ok (.tuple #[.agg cs.toArray,.int .i64 z]) W:=by
 obtain ⟨c,b⟩:=d
 rw[yI] at c b
 have hr:W.rangeAt (B+1) 0 cs:=by
  have:=xy h1 0 cs.length
  simpa using this
 have g:=qv (P:=prog) W (B+1) 0 49 cs _ hr jq rfl (by rw[a];kernel_rfl)
 have c2:W.cell? (aV (B+2) 0)=some (iV z):=by simp[World.cell?,h2]
 have e:(loadVar 34 (aV (B+2) 0)).run prog W=.ok (iV z) W:=by
  have f:(isAgg 34).run prog W=.ok false W:=by kernel_rfl
  simp[loadVar,f,go_sem,c2]
 simp[results,Tryz.results63,c,b,asAddr,g,e]
theorem La{w W:World}{x:AM}{tm:Array Value}(i:JL w.heap.size tm)(d:Ly w W)(h0:AU x≠0):LeavesInM Fence.wide 10 prog Tryz.f63 tm (Kf w x) [KJ w.heap.size] (.panicking (Fg (AU x))) W:=by
 obtain ⟨row,c,a⟩:=d.x
 obtain ⟨v,f⟩:=d.e
 refine ⟨by simp,.inr ⟨by simp[Fence.wide],_,_,_,_,rfl,by rfl,λ_ _=>trivial,?_⟩⟩
 refine (Nv 9 (w.heap.size+1) (w.heap.size+2) (by omega) (AU x) row v W a c f).mono ?_
 rintro e j w' ⟨rfl,rfl,rfl⟩
 have g:((W.setRow (w.heap.size+1) Cq.toArray).setCell (aV (w.heap.size+2) 0) (iV (AU x))).heap[w.heap.size+1]?=some (.cells Cq.toArray 49 (0,0)):=by
  rw[zg _ _ _ _ (by simp)]
  simp[World.setRow,yH,a]
 have h:((W.setRow (w.heap.size+1) Cq.toArray).setCell (aV (w.heap.size+2) 0) (iV (AU x))).heap[w.heap.size+2]?=some (.cells #[iV (AU x)] 34 (0,0)):=by
  have:=zp (W.setRow (w.heap.size+1) Cq.toArray) (w.heap.size+2) 0 #[v] 34 (iV (AU x)) (by simp[World.setRow,yH,f])
  rw[this];rfl
 refine ⟨_,Qk i g rfl h,?_,.inl ⟨h0,rfl⟩⟩
 refine d.below.trans ⟨rfl,rfl,rfl,by simp[World.setRow],λb hb=>?_⟩
 rw[zg _ _ _ _ (by simp;omega)]
 simp only[World.setRow,yH,ym (show ¬ w.heap.size+1=b by omega)]
theorem VT(w:World)(x:AM):Mq (bodyPostM Fence.wide 10 prog Tryz.f63 (Kf w x)) w x:=by
 refine ⟨λtm W a d h0=>La a d h0,λD tm W a d h0 g hd=>?_,λD tm W cs a hb h1 h2 h0 g hd hs=>?_⟩
 ·refine ⟨by simp,.inl ⟨D,_,rfl,run_takeDeferred hd,La a (d.up ⟨rfl,rfl,rfl,by simp,λb hb=>World.putObj_heap_other (by omega)⟩) h0⟩⟩
 refine ⟨by simp,.inl ⟨D,_,rfl,run_takeDeferred hd,?_⟩⟩
 refine ⟨by simp,.inr ⟨by simp[Fence.wide],_,_,_,_,rfl,by rfl,λ_ _=>trivial,?_⟩⟩
 refine (VM 9 _ _ _).mono ?_
 rintro e h w' ⟨rfl,rfl,rfl⟩
 have f:=hs
 obtain ⟨L,N,c,_⟩:=f
 exact ⟨_,Qk a ((World.putObj_heap_other (by omega)).trans h1) c ((World.putObj_heap_other (by omega)).trans h2),hb.trans ⟨rfl,rfl,rfl,by simp,λb hb=>World.putObj_heap_other (by omega)⟩,.inr ⟨h0,cs,rfl,hs⟩⟩
def aO:Code->Code
 |.seq _ y=>y
 |c=>c
def Gj:Nat->Code->Code
 |0,c=>c
 |k+1,c=>Gj k (aO c)
end Go.Proofs.YtbdfinegbjdblaaGreatDoor
namespace Go.Proofs.YtbdfinegbjdblaaGreatDoor
open Go.RowKit Tryz
theorem Mr(s:Nat)(w:World):Calls prog 64 #[.pointer (some ⟨s,0,none⟩)] w λx w'=>x=.returned (.func (.func 99) #[] #[.pointer (some ⟨w.heap.size,0,none⟩)])/\w'=w.alloc (.cells #[.pointer (some ⟨s,0,none⟩)] 154):=by
 have a:∀(fn:Fn) (first cap:Array Value) (w:World),(Instr.makeFunc fn first cap).run prog w=.ok (.func fn first cap) w:=λ_ _ _ _=>rfl
 go_enter func64,ntmps64
 go_wp2
 go_ret
 exact ⟨rfl,rfl⟩
section
variable{B:Nat}{W W':World}{N N' M:NP}{E:Int->Ex->Nat->Nat->Prop}{R:Int->Rf->Nat->Nat->Prop}{L:BQ}{x:AM}
theorem Cz.ren(h:Cz N E R W L x)(hN:∀g t,N g->Ty W g t->t≠49->t≠34->N' g):Cz N' E R W L x:=by
 refine ⟨h.ty,h.name,h.season,h.cap,h.start,h.hlets,h.hcrops,h.hreaches,h.hfarms,h.hrots,h.hrights,h.hduties,⟨h.lets.1,h.lets.2.1,λi hi=>?_⟩,⟨h.crops.1,h.crops.2.1,λi hi=>?_⟩,⟨h.reaches.1,h.reaches.2.1,λi hi=>?_⟩,⟨h.farms.1,h.farms.2.1,λi hi=>?_⟩,⟨h.rots.1,h.rots.2.1,λi hi=>?_⟩,⟨h.rights.1,h.rights.2.1,λi hi=>?_⟩,⟨h.duties.1,h.duties.2.1,λi hi=>?_⟩⟩
 ·obtain ⟨g,a,hg,ty,h1⟩:=h.lets.2.2 i hi
  exact ⟨g,a,hN g _ hg ty (by decide) (by decide),ty,h1⟩
 ·obtain ⟨g,a,hg,ty,h1⟩:=h.crops.2.2 i hi
  exact ⟨g,a,hN g _ hg ty (by decide) (by decide),ty,h1⟩
 ·obtain ⟨g,a,hg,ty,h1⟩:=h.reaches.2.2 i hi
  exact ⟨g,a,hN g _ hg ty (by decide) (by decide),ty,h1⟩
 ·obtain ⟨g,a,hg,ty,h1⟩:=h.farms.2.2 i hi
  exact ⟨g,a,hN g _ hg ty (by decide) (by decide),ty,h1⟩
 ·obtain ⟨g,a,hg,ty,h1,h2,h3,c,d,j,f,b⟩:=h.rots.2.2 i hi
  refine ⟨g,a,hN g _ hg ty (by decide) (by decide),ty,h1,h2,h3,c,d,j,f,b.1,b.2.1,λk e=>?_⟩
  obtain ⟨g,a,hg,ty,h1⟩:=b.2.2 k e
  exact ⟨g,a,hN g _ hg ty (by decide) (by decide),ty,h1⟩
 ·obtain ⟨g,a,hg,ty,h1⟩:=h.rights.2.2 i hi
  exact ⟨g,a,hN g _ hg ty (by decide) (by decide),ty,h1⟩
 obtain ⟨g,a,hg,ty,h1⟩:=h.duties.2.2 i hi
 exact ⟨g,a,hN g _ hg ty (by decide) (by decide),ty,h1⟩
theorem Ms{b ty:Nat}{v:Value}(h:W.heap[b]?=some (.cells #[v] ty (0,0)))(f:∀k z,v≠.int k z)(a:∀q,Gg ty q=1/\GN ty q=q % 6)(q:Nat):¬ JJ B W b q:=by
 rintro ⟨_,o,d,rfl,h1,h2,h3⟩
 have c:Ty W b ty:=⟨_,h⟩
 obtain rfl:=c.inj h1
 apply h3
 unfold FI
 rw[ED c,(a _).1,yz rfl]
 rcases h2 with h2|h2
 ·rw[(a _).1] at h2;cases h2
 rw[(a _).2] at h2
 by_cases e:o - 3=0
 ·rw[e]
  simp only[World.cell?,h]
  simp
  cases v<;>simp_all
 have:W.cell? ⟨b,o - 3,none⟩=none:=by
  simp only[World.cell?,h]
  simp;omega
 rw[this]
theorem Mt{b:Nat}(h:∀t,¬ Ty W b t)(q:Nat):¬ JJ B W b q:=by
 rintro ⟨_,o,a,rfl,h1,h2,h3⟩
 exact h _ h1
def BF(W:World)(b:Nat)(a:LB):Prop:=∃m,W.heap[b]?=some (.cells #[.map (some m)] 194 (0,0))/\Cl W m a
theorem J9{t:Nat}(h:t≠49/\t≠118/\t≠120/\t≠123/\t≠125/\t≠56/\t≠65/\t≠127/\t≠129)(q:Nat):Gg t q=1/\GN t q=q % 6:=by
 obtain ⟨h1,h2,h3,f,a,c,b,d,e⟩:=h
 unfold Gg GN
 rw[ym h1,ym h1,ym h2,ym h2,ym h3,ym h3,ym f,ym f,ym a,ym a,ym c,ym c,ym b,ym b,ym d,ym d,ym e,ym e]
 exact ⟨rfl,rfl⟩
theorem BF.read{t:Tb}{X:List Us}{k b:Nat}{O:NP}{d:LB}(h:BF W b d)(f:RJ B W t X k O W'):∃m e a,W'.cell? ⟨b,0,none⟩=some (.map (some m))/\Cl W' m d/\W'.heap[m]?=some (.map e a)/\e.size=d.length:=by
 obtain ⟨m,h1,h2⟩:=h
 have i:W'.heap[b]?=W.heap[b]?:=f.same b (yd.1 h1).1 (Ms h1 (by simp) (J9 (by decide)))
 obtain ⟨e,a,h3,j⟩:=h2.size
 have g:W'.heap[m]?=W.heap[m]?:=f.same m h2.lt (Mt λt ⟨c,hc⟩=>by rw[h3] at hc;cases hc)
 exact ⟨m,e,a,by simp[World.cell?,i,h1],h2.block g,g.trans h3,j⟩
theorem Mu{t:Tb}{X:List Us}{k b ty:Nat}{v:Value}{O:NP}(h:W.heap[b]?=some (.cells #[v] ty (0,0)))(e:∀k z,v≠.int k z)(d:∀q,Gg ty q=1/\GN ty q=q % 6)(a:RJ B W t X k O W'):W'.cell? ⟨b,0,none⟩=some v:=by
 have c:W'.heap[b]?=W.heap[b]?:=a.same b (yd.1 h).1 (Ms h e d)
 simp[World.cell?,c,h]
mutual
theorem P2(lt:Int):∀(e:Ex) (b o:Nat),∀u∈(Cx W lt e b o).1,u.to≠6
 |.mk op n u rn ri args,b,o=>by
  intro v a
  rw[Cx] at a
  by_cases hs:PE op args.length=true
  ·rw[yz hs] at a
   rcases yq.1 a with rfl|a
   ·simp only;unfold Nj;split
    ·split<;>decide
    decide
   exact Tj lt args _ 0 v a
  rw[ym hs] at a;cases a
theorem Tj(lt:Int):∀(l:List Ex) (a:Option Value) (i:Nat),∀u∈(BU W lt l a i).1,u.to≠6
 |[],a,i=>by intro v d;rw[BU] at d;cases d
 |e::r,a,i=>by
  intro v d
  by_cases f:∃b o n c,a=some (.slice (some ⟨b,o,none⟩) n c)
  ·obtain ⟨b,o,n,c,rfl⟩:=f
   rw[BU] at d
   split at d
   ·rcases yO.1 d with d|d
    ·exact P2 lt e _ _ v d
    exact Tj lt r _ _ v d
   exact P2 lt e _ _ v d
  have g:BU W lt (e::r) a i=([],false):=by
   rw[BU]
   intro b o n c h
   exact f ⟨b,o,n,c,h⟩
  rw[g] at d;cases d
end
theorem XC:∀u∈(Ck W L x).1,u.to≠6:=by
 intro u a
 obtain ⟨p,b,a⟩:=Kd a
 unfold F0 at b
 rcases yO.1 b with b|b
 ·obtain ⟨i,hi,rfl⟩:=zq.1 b
  simp only[Eb,List.getElem_zipWith] at a
  unfold CN at a
  split at a
  ·cases a
  exact P2 _ _ _ _ u a
 simp only[zu] at b
 rw[b] at a
 simp only at a
 split at a
 ·unfold CD at a
  simp only[yO] at a
  rcases a with ((a|a)|a)|a
  ·obtain ⟨i,hi,a⟩:=zl.1 a
   unfold EW at a
   split at a
   ·simp only[DA,yq,yu,yV] at a
    rcases a with rfl|rfl
    ·simp
    simp only;split<;>simp
   cases a
  ·obtain ⟨i,hi,a⟩:=zl.1 a
   unfold Ho at a
   split at a
   ·simp only[DA,yq] at a
    rcases a with rfl|a
    ·simp
    obtain ⟨k,c,a⟩:=zl.1 a
    unfold FG at a
    split at a
    ·simp only[DA,zu] at a
     rw[a];simp
    cases a
   cases a
  ·obtain ⟨i,hi,a⟩:=zl.1 a
   unfold Dr at a
   split at a
   ·simp only[DA,yq,yu,yV] at a
    rcases a with rfl|rfl
    ·simp
    simp only;split<;>simp
   cases a
  obtain ⟨i,hi,a⟩:=zl.1 a
  unfold EB at a
  split at a
  ·simp only[DA,yq,yu,yV] at a
   rcases a with rfl|rfl<;>simp
  cases a
 cases a
end
structure Jm (w:World) (x:AM) (W5:World) (L:BQ) (N M:Nat->Prop) (bl bc br bf Bf Bu:Nat):Prop where
 amid:Ly w W5
 lets:BF W5 bl (x.lets.map (·.name))
 crops:BF W5 bc (x.crops.map (·.name))
 reaches:BF W5 br (x.reaches.map (·.name))
 farms:BF W5 bf (x.farms.map (·.name))
 find:W5.heap[Bf]?=some (.cells #[.func (.func 97) #[] #[]] 203 (0,0))
 box:W5.heap[Bu]?=some (.cells #[.pointer (some ⟨L.s,0,none⟩)] 154 (0,0))
 ps:Cz N (ET M W5) (RV W5) W5 L x
 hN:∀g,N g->w.heap.size<=g/\g < W5.heap.size
 hM:∀g,M g->w.heap.size+3<=g/\g < W5.heap.size
 hs:N L.s
 ls:L.s=w.heap.size+1
 fits:C4 x=true
 wr:AU x=if E3 (Tb.of x) x&&D6 (Tb.of x) x then 0 else 170
section
variable{w W5 W:World}{x:AM}{L:BQ}{N M:NP}{bl bc br bf Bf Bu k:Nat}{t:Tb}{X:List Us}{O:NP}
theorem RJ.amid(a:Ly w W5)(h:RJ w.heap.size W5 t X k O W):Ly w W:=by
 refine ⟨a.below.trans ⟨h.os,h.tape,h.output,h.size,λb hb=>h.same b (by have:=a.below.size;omega) (λq f=>by have:=f.1;omega)⟩,?_,?_⟩
 ·obtain ⟨row,h1,h2⟩:=a.x
  obtain ⟨c',d,c⟩:=h.ty _ _ _ h2
  exact ⟨c',by omega,c⟩
 obtain ⟨v,h2⟩:=a.e
 obtain ⟨c',d,c⟩:=h.ty _ _ _ h2
 obtain ⟨v',rfl⟩:∃v',c'=#[v']:=by
  have:c'.size=1:=d
  exact ⟨c'[0],by ext i h1 h2;omega;simp at h2;subst h2;rfl⟩
 exact ⟨v',c⟩
theorem Jm.uok(h:Jm w x W5 L N M bl bc br bf Bf Bu):∀u∈D7 W5 L x,PG w.heap.size W5 u:=Tg (λg hg=>(h.hN g hg).1) (λg hg=>by have:=(h.hM g hg).1;omega) h.hs h.ps
theorem Jm.uses(h:Jm w x W5 L N M bl bc br bf Bf Bu):M6 M W5 (CR w.heap.size W5) (DR W5) Bu L x:=
 VR h.hs h.ps (yd.1 h.box).1 (by simp[World.cell?,h.box]) h.fits
theorem Jm.bad(h:Jm w x W5 L N M bl bc br bf Bf Bu){u:Us}(a:u∈D7 W5 L x)(hb:KI (Tb.of x) u=false):AU x=170:=by
 rw[h.wr]
 rcases yO.1 a with a|a
 ·have:E3 (Tb.of x) x=false:=by
   obtain ⟨i,hi,a⟩:=zl.1 a
   have b:i < x.reaches.length:=by rw[<-h.ps.reaches.1];exact zt.1 hi
   unfold JK at a
   rw[yk b] at a
   simp only[zu] at a
   unfold E3
   rw[xH]
   refine ⟨(x.reaches[i],i),zq.2 ⟨i,by simpa using b,by simp⟩,?_⟩
   rw[a] at hb
   unfold KI at hb
   unfold P1
   rw[hb];simp
  rw[this];rfl
 have:D6 (Tb.of x) x=false:=by
  rw[yB]
  intro c
  have:=((GR (Tb.of x) h.uses).2 c).2 u a
  rw[hb] at this;cases this
 rw[this];simp
theorem Jm.bad2(h:Jm w x W5 L N M bl bc br bf Bf Bu)(hb:(Ck W5 L x).2=false):AU x=170:=by
 rw[h.wr]
 have:D6 (Tb.of x) x=false:=by
  rw[yB]
  intro a
  have:=((GR (Tb.of x) h.uses).2 a).1
  rw[hb] at this;cases this
 rw[this];simp
theorem Jm.good(h:Jm w x W5 L N M bl bc br bf Bf Bu)(e:RJ w.heap.size W5 (Tb.of x) (D7 W5 L x) (D7 W5 L x).length O W)(f:(Ck W5 L x).2=true):AU x=0:=by
 have a:∀u∈D7 W5 L x,KI (Tb.of x) u=true:=λu b=>by
  obtain ⟨j,c,rfl⟩:=zq.1 b
  exact (e.done j c c).1
 rw[h.wr,(GR (Tb.of x) h.uses).1 ⟨f,λu b=>a u (yO.2 (.inr b))⟩]
 have:E3 (Tb.of x) x=true:=by
  unfold E3
  rw[zj]
  intro p g
  obtain ⟨i,hi,rfl⟩:=zq.1 g
  have d:i < x.reaches.length:=by simpa using hi
  have:=a ⟨(L.reaches.at 51 i 1).block,(L.reaches.at 51 i 1).off,if i=0 then 0 else 6,i,x.reaches[i].frm.name,x.reaches[i].frm.n⟩ (yO.2 (.inl (CH (i:=i) (by rw[h.ps.reaches.1];exact d) (by unfold JK;rw[yk d];simp))))
  rw[qM]
  unfold KI at this
  simpa[P1] using this
 rw[this];rfl
theorem Jm.src(h:Jm w x W5 L N M bl bc br bf Bf Bu)(d:RJ w.heap.size W5 (Tb.of x) (D7 W5 L x) (D7 W5 L x).length O W)(n:(Ck W5 L x).2=true):
  ∃cs,cs.length=26/\W.rangeAt L.s 0 cs/\CQ (λg=>w.heap.size<=g/\g < W5.heap.size/\g≠w.heap.size+1/\g≠w.heap.size+2) W L cs (Ax x):=by
 have h1:=Ug (λg hg=>(h.hN g hg).1) (λg hg=>by have:=(h.hM g hg).1;omega) h.hs h.ps d n
 have f:=d.amid h.amid
 obtain ⟨row,_,m⟩:=f.x
 obtain ⟨v,i⟩:=f.e
 refine Cz.srcV ((h1.imp (E':=EV (λg=>w.heap.size<=g/\g < W5.heap.size/\g≠w.heap.size+1/\g≠w.heap.size+2) W) (λ_ _ _ h=>h) (λ_ _ _ _=>rfl) (λlt e b o _ _ k=>?_) (λ_ _ _ _ _ _ h=>h)).ren λg ty hg a n1 n2=>?_)
 ·obtain ⟨c,c1,c2⟩:=k
  exact ⟨c,c1,c2.exV (λb hb _=>by have:=h.hM b hb;refine ⟨?_,?_,?_,?_⟩<;>omega)⟩
 obtain ⟨l,j⟩:=h.hN g hg
 refine ⟨l,j,λe=>?_,λe=>?_⟩
 ·subst e;exact n1 (a.inj ⟨_,m⟩)
 subst e;exact n2 (a.inj ⟨_,i⟩)
end
end Go.Proofs.YtbdfinegbjdblaaGreatDoor
namespace Go.Proofs.YtbdfinegbjdblaaGreatDoor
open Go.RowKit Tryz
attribute [local go_sem] Oper.semAt_some
theorem Ql{s:ByteArray}(h:s.toList=[]):s=⟨#[]⟩:=by
 have h1:=(Ea s).2 h
 have:s.data.size=0:=h1
 cases s with
 |mk d=>simp only at this;rw[Array.size_eq_zero_iff] at this;rw[this]
theorem Qm{l:LB}{s:ByteArray}{i:Nat}(h:Dj l s=some i):i < l.length:=by
 by_cases a:s∈l
 ·obtain ⟨j,h1,h2,_⟩:=KF a
  rw[h] at h1
  cases h1;exact h2
 rw[Hq a] at h;cases h
theorem GW{t:Tb}{to at_:Int}{r:Rf}(h0:to≠0)(h:KG t to at_ r=true):∃i:Nat,Dj (t.tab (Ew to)) r.name=some i/\Hu t (Ew to) r.name=i/\(early to=true->(i:Int) < at_)/\i < (t.tab (Ew to)).length:=by
 unfold KG at h
 rw[ym h0] at h
 unfold Hu
 cases a:Dj (t.tab (Ew to)) r.name with
 |none=>rw[a] at h;cases h
 |some i=>
  rw[a] at h
  refine ⟨i,rfl,rfl,λb=>?_,Qm a⟩
  simpa[b] using h
theorem GX{t:Tb}{to at_:Int}{r:Rf}(h0:to≠0)(h:KG t to at_ r=false):∀i:Nat,Dj (t.tab (Ew to)) r.name=some i->early to=true/\¬ (i:Int) < at_:=by
 intro i a
 unfold KG at h
 rw[ym h0,a] at h
 simp only[Bool.or_eq_false_iff,Bool.not_eq_false',xW] at h
 exact h
theorem Gk{m:Nat}{W:World}{b:Array MapEntry}{a:Nat}(h:W.heap[m]?=some (.map b a))(ty:TypeId):(Builtin.len_ #[194] ty #[.map (some m)]).run prog W=.ok (.int .i64 (b.size:Int)) W:=by
 simp[Builtin.len_,xY j4,MapKept.run_getObj_map h,goInt,Result.andThen]
theorem Zw{Q:QT}{w W W5:World}{x:AM}{L:BQ}{N M:NP}{bl bc br bf Bf:Nat}(hQ:Mq Q w x)(hC:Jm w x W5 L N M bl bc br bf Bf W.heap.size)
 (g5:RJ w.heap.size W5 (Tb.of x) (D7 W5 L x) (FA L x).length (λ_=>False) (W.alloc (.cells #[.pointer (some ⟨w.heap.size+1,0,none⟩)] 154)))
 (u0 u1 u8 u9 gl fz f8 ig iu gh il fu dx g8 i8 ey io ej fg e2 ee h9 fk et g6 e4 eh gb ic e5 fe fm g7 fy gn fp ek ec gz eu hy g2 fh gi e9 fw i6 ie fa i0 f6 gw gj ep gm en im hm ef f7 ei eg fl f0 es gx f1 fv fj f5 dz e6 ij gq ed e1 em ib ft gs fx h8 eo g3 ga e7 er e3 hh ea eb ez dy cl dp au d8 cr bd cd dm aw d9 d7 cx dj bm cv ia gy ba cj dn da b3 b0 cq ax bp cy bv bu cb ap dg ca bi dk bj aq db dh bg co bn b5 bw cg ay cn dc b7 ce bb de av cz c8 di be b9 cw bo cp az dd b4 bt ck d6 b8 d5 c9 cc bh ci bk:Value):
  Fv 63 prog (Gj 20 (Tryz.f63.body.getD .skip)) Q {tmps:=#[u0,u1,.pointer (some ⟨w.heap.size+1,0,none⟩),.pointer (some ⟨w.heap.size+2,0,none⟩),.pointer (some ⟨bl,0,none⟩),.pointer (some ⟨bc,0,none⟩),.pointer (some ⟨br,0,none⟩),.pointer (some ⟨bf,0,none⟩),u8,u9,gl,fz,f8,.pointer (some ⟨Bf,0,none⟩),ig,iu,gh,il,fu,dx,g8,i8,ey,io,ej,fg,e2,ee,h9,fk,et,g6,e4,eh,gb,ic,e5,fe,fm,g7,fy,gn,fp,ek,ec,gz,eu,hy,g2,fh,gi,e9,fw,i6,ie,fa,i0,f6,gw,gj,ep,gm,en,im,hm,ef,f7,ei,eg,fl,f0,es,gx,f1,fv,fj,f5,dz,e6,ij,gq,ed,e1,em,ib,ft,gs,fx,h8,eo,g3,ga,e7,er,e3,hh,ea,eb,ez,dy,cl,dp,au,d8,cr,bd,cd,dm,aw,d9,d7,cx,dj,bm,cv,ia,gy,ba,cj,dn,da,b3,b0,cq,ax,bp,cy,bv,bu,cb,ap,dg,ca,bi,dk,bj,aq,db,dh,bg,co,bn,b5,bw,cg,ay,cn,dc,b7,ce,bb,de,av,cz,c8,di,be,b9,cw,bo,cp,az,dd,b4,bt,ck,d6,b8,d5,c9,cc,bh,ci,bk],defers:=[KJ w.heap.size]} W:=by
 have HQ:=yb hQ;have r:=yb hC;have ak:=yb g5
 clear hQ hC g5
 unfold KJ
 refine Aj (Aj (Aa ?_))
 go_wp2_with (first|(go_at_call 64;refine (Mr _ _).mono ?_;rintro e w2 ⟨rfl,rfl⟩))
 refine Dp ?_
 refine CW (n:=10) func63 rfl (λ_ _=>rfl) (Mb 9 (by omega) r.o.uses) (λa ha=>by
   obtain ⟨u,_,rfl⟩:=xS.1 ha
   rfl)
  (λk O V=>RJ w.heap.size W5 (Tb.of x) (D7 W5 L x) ((FA L x).length+k) O V) (λ_ _ _=>False) (λch O V=>ch=Fg 170/\AU x=170/\∃k,RJ w.heap.size W5 (Tb.of x) (D7 W5 L x) k O V)
  (λk a O V=>RJ w.heap.size W5 (Tb.of x) (D7 W5 L x) ((FA L x).length+k) O V/\∃(ub uo:Nat) (f c:Int) (d:ByteArray) (s:Int) (g:Nat),(Ck W5 L x).1[k]?=some ⟨ub,uo,f,c,d,s⟩/\¬ O g/\g < V.heap.size/\V.heap[g]?=some (.cells #[pV ub uo,iV f,iV c] 158 (0,0))/\a={tmps:=#[u0,u1,pV (w.heap.size+1) 0,pV (w.heap.size+2) 0,pV bl 0,pV bc 0,pV br 0,pV bf 0,u8,u9,gl,fz,f8,pV Bf 0,ig,pV g 0,gh,il,fu,dx,g8,i8,ey,io,ej,fg,e2,ee,h9,fk,et,g6,e4,eh,gb,ic,e5,fe,fm,g7,fy,gn,fp,ek,ec,gz,eu,hy,g2,fh,gi,e9,fw,i6,ie,fa,i0,f6,gw,gj,ep,gm,en,im,hm,ef,f7,ei,eg,fl,f0,es,gx,f1,fv,fj,f5,dz,e6,ij,gq,ed,e1,em,ib,ft,gs,fx,h8,eo,g3,ga,e7,er,e3,hh,ea,eb,ez,dy,cl,dp,au,d8,cr,bd,cd,dm,aw,d9,d7,cx,dj,bm,cv,.func (.func 99) #[] #[pV W.heap.size 0],.agg #[pV ub uo,iV f,iV c],ba,cj,dn,da,b3,b0,cq,ax,bp,cy,bv,bu,cb,ap,dg,ca,bi,dk,bj,aq,db,dh,bg,co,bn,b5,bw,cg,ay,cn,dc,b7,ce,bb,de,av,cz,c8,di,be,b9,cw,bo,cp,az,dd,b4,bt,ck,d6,b8,d5,c9,cc,bh,ci,bk],defers:=[]})
  (λk=>RJ.stays _) (λ_ _ _ _ _ _ h=>h.elim) ?_ ?_ (λk O V h=>h.hd) (λ_ _ _ h=>h.elim) ?_ ak.o ?_ ?_ ?_ (λ_ _ _ _ _ _ h=>h.elim) ?_
 ·exact λch _ O V O' V' h hz ho ht hu hk hO=>⟨h.1,h.2.1,h.2.2.imp λk h=>RJ.stays k O V O' V' h hz ho ht hu hk hO⟩
 ·rintro a k O V O' V' ⟨h1,ub,uo,f,c,d,s,g,h2,h3,h4,h5,h6⟩ hz ho ht hu hk hO
  exact ⟨RJ.stays _ O V O' V' h1 hz ho ht hu hk hO,ub,uo,f,c,d,s,g,h2,λh=>(hO g h).elim h3 (λh=>by omega),by omega,(hk g h3 h4).trans h5,h6⟩
 ·intro ch Y O V G
  cases hx:(Ck W5 L x).2 with
  |true=>rw[hx] at Y;cases Y
  |false=>
   rw[hx] at Y
   cases Y
   exact ⟨rfl,r.o.bad2 hx,_,G⟩
 ·intro k hk O V lo G hO hl ad
  have fq:k < (Ck W5 L x).1.length:=by rw[zh] at hk;exact hk
  rw[xg]
  have HU:=yb (yk fq)
  generalize (Ck W5 L x).1[k]=u at HU |-
  obtain ⟨ub,uo,f,c,d,s⟩:=u
  have K:=yb G;have dt:=yb ad
  clear G hO hl ad hk fq
  unfold Us.v
  simp only
  gi_wp2
  have dq:B7 O V (V.alloc (.cells #[pV ub uo,iV f,iV c] 158)):=⟨by simp,λb hb=>yp _ _ _ (dt.o b hb)⟩
  have a6:RJ w.heap.size W5 (Tb.of x) (D7 W5 L x) ((FA L x).length+k) O (V.alloc (.cells #[pV ub uo,iV f,iV c] 158)):=K.o.below ((yg V.heap.size V).alloc (yi _) _) K.o.size
  have ac:¬ O V.heap.size:=λh=>qI _ (dt.o _ h)
  first
  |exact ⟨dq,a6,ub,uo,f,c,d,s,V.heap.size,HU.o,ac,by simp,World.alloc_heap_new _ _,rfl⟩
  |(rename_i hK;exact hK _ _ ⟨dq,a6,ub,uo,f,c,d,s,V.heap.size,HU.o,ac,by simp,World.alloc_heap_new _ _,rfl⟩)
  |(rename_i hK _;exact hK _ _ ⟨dq,a6,ub,uo,f,c,d,s,V.heap.size,HU.o,ac,by simp,World.alloc_heap_new _ _,rfl⟩)
  |fail
 ·rintro k hk O V lo a1 hl ev ad ⟨G,ub,uo,f,c,d,s,g,hu,iz,iw,aj,rfl⟩
  have hX:(D7 W5 L x)[(FA L x).length+k]?=some ⟨ub,uo,f,c,d,s⟩:=by
   unfold D7
   rw[zn (by omega),xk];exact hu
  have aa:(⟨ub,uo,f,c,d,s⟩:Us)∈D7 W5 L x:=zV hX
  have X:=r.o.uok _ aa
  obtain ⟨c0,⟨z,c1,hj⟩,cf⟩:=G.read X
  have k5:f=0\/f=1\/f=2\/f=3\/f=4\/f=5:=by
   have h6:=XC _ (zV hu)
   have h7:=X.to
   simp only at h6 h7
   omega
  have d0:V.cell? (aV g 0)=some (pV ub uo):=by simp[World.cell?,aj]
  have d1:V.cell? (aV g 1)=some (iV f):=by simp[World.cell?,aj]
  have d2:V.cell? (aV g 2)=some (iV c):=by simp[World.cell?,aj]
  have jv:V.cell? (aV Bf 0)=some (.func (.func 97) #[] #[]):=Mu r.o.find (by simp) (J9 (by decide)) G
  obtain ⟨ml,af,kb,am,ex,U,gp⟩:=r.o.lets.read G
  obtain ⟨mc,ah,ka,a8,hq,J,ih⟩:=r.o.crops.read G
  obtain ⟨mr,ai,k8,a7,e0,P,ff⟩:=r.o.reaches.read G
  obtain ⟨mf,ao,k9,ab,f2,R,gk⟩:=r.o.farms.read G
  have HX:=yb hX;have F:=yb aa;have k7:=yb X;have K:=yb G;have y:=yb c1;have C:=yb cf;have l:=yb c0;have it:=yb hj;have dt:=yb ad
  have ML:=yb ex;have MC:=yb hq;have MR:=yb e0;have MF:=yb f2
  have SL:=yb gp;have SC:=yb ih;have SR:=yb ff;have SF:=yb gk
  have m:Hid (d.size<=maxLen):=yb X.len
  have A:Hid (∀v,B7 O V (V.setCell (aV ub (uo+1)) v)):=yb (λv=>⟨by simp,λb hb=>zg V (aV ub (uo+1)) b v (λe=>by
   have h1:=G.own b hb
   have h2:=X.lt
   simp only at e h2
   omega)⟩)
  clear hX aa X G c1 cf c0 hj ad ex hq e0 f2 gp ih ff gk hu iz iw aj hl ev hk
  rcases k5 with rfl|rfl|rfl|rfl|rfl|rfl
  ·have c0:=l.o;have c1:=y.o
   obtain rfl:=it.o rfl
   clear am U a8 J a7 P ab R d2 jv
   cases hb:KI (Tb.of x) ⟨ub,uo,0,c,d,z⟩ with
   |true=>
    have Z:=yb hb
    obtain ⟨i7,iy⟩:d.size=0/\z=0:=by
     have h:=hb
     unfold KI KG at h
     simpa using h
    have iv:d=⟨#[]⟩:=by
     have h:=(Ea d).1 i7
     exact Ql h
    clear hb i7
    subst iy
    subst iv
    gi_wp2_with fail
    refine ⟨trivial,zB (CallsIn.inRound lo (zi.2 (CX _ _))) ?_⟩
    rintro e w4 ⟨rfl,q⟩
    obtain rfl:=q.symm
    gi_wp2_with fail
    exact ⟨B7.refl _ _,K.o.skip HX.o rfl Z.o⟩
   |false=>
    have Z:=yb hb
    have fd:¬ (d.size=0/\z=0):=by
     have h:=hb
     unfold KI KG at h
     simpa using h
    clear hb
    have j:=yb (r.o.bad F.o Z.o)
    have ip:=yb fd
    clear fd
    gi_wp2_with fail
    all_goals first
     |exact absurd ⟨(Ea _).2 (by assumption),(by assumption)⟩ ip.o
     |(refine ⟨trivial,zB (CallsIn.inRound lo (zi.2 (CM _ _))) ?_⟩
       rintro e w4 ⟨rfl,q⟩
       obtain rfl:=q.symm
       try gi_wp2_with fail
       exact ⟨rfl,B7.refl _ _,rfl,j.o,_,K.o⟩)
  ·have c0:=l.o;have c1:=y.o;have cf:=C.o
   clear a8 J a7 P ab R d2 c0 c1 cf
   cases hb:KI (Tb.of x) ⟨ub,uo,1,c,d,s⟩ with
   |true=>
    obtain ⟨i,t,I,E,p⟩:=GW (to:=1) (by decide) hb
    have Z:=yb hb;have HV:=yb I
    have H:=yb (GM (most:=(af.size:Int)) l.o y.o C.o ML.o m.o t (by rw[SL.o];exact Int.ofNat_lt.2 p))
    clear hb t I E p
    have B:∀ty,(Builtin.len_ #[194] ty #[.map (some ml)]).run prog V=.ok (iV (af.size:Int)) V:=λty=>Gk U ty
    gi_wp2_with fail
    refine ⟨trivial,zB (CallsIn.inRound lo (zi.2 H.o)) ?_⟩
    rintro e w4 ⟨rfl,rfl⟩
    gi_wp2_with fail
    exact ⟨A.o _,by have h:=K.o.next r.o.uok HX.o (show (1:Int)≠0 by decide) Z.o;rw[show Hu (Tb.of x) (Ew (⟨ub,uo,1,c,d,s⟩:Us).to) (⟨ub,uo,1,c,d,s⟩:Us).name=_ from HV.o] at h;exact h⟩
   |false=>
    have S:=GX (to:=1) (by decide) hb
    have j:=yb (r.o.bad F.o hb)
    have H:=yb (J6 (most:=(af.size:Int)) l.o ML.o m.o (λi t=>absurd (S i t).1 (show ¬ early 1=true by decide)))
    clear hb S
    have B:∀ty,(Builtin.len_ #[194] ty #[.map (some ml)]).run prog V=.ok (iV (af.size:Int)) V:=λty=>Gk U ty
    gi_wp2_with fail
    refine ⟨trivial,zB (CallsIn.inRound lo (zi.2 H.o)) ?_⟩
    rintro e w4 ⟨rfl,q⟩
    obtain rfl:=q.symm
    try gi_wp2_with fail
    exact ⟨rfl,B7.refl _ _,rfl,j.o,_,K.o⟩
  ·have c0:=l.o;have c1:=y.o;have cf:=C.o
   clear a8 J a7 P ab R c0 c1 cf
   cases hb:KI (Tb.of x) ⟨ub,uo,2,c,d,s⟩ with
   |true=>
    obtain ⟨i,t,I,E,p⟩:=GW (to:=2) (by decide) hb
    have Z:=yb hb;have HV:=yb I
    have H:=yb (GM (most:=c) l.o y.o C.o ML.o m.o t (by simpa using E rfl))
    clear hb t I E p
    gi_wp2_with fail
    refine ⟨trivial,zB (CallsIn.inRound lo (zi.2 H.o)) ?_⟩
    rintro e w4 ⟨rfl,rfl⟩
    gi_wp2_with fail
    exact ⟨A.o _,by have h:=K.o.next r.o.uok HX.o (show (2:Int)≠0 by decide) Z.o;rw[show Hu (Tb.of x) (Ew (⟨ub,uo,2,c,d,s⟩:Us).to) (⟨ub,uo,2,c,d,s⟩:Us).name=_ from HV.o] at h;exact h⟩
   |false=>
    have S:=GX (to:=2) (by decide) hb
    have j:=yb (r.o.bad F.o hb)
    have H:=yb (J6 (most:=c) l.o ML.o m.o (λi t=>(S i t).2))
    clear hb S
    gi_wp2_with fail
    refine ⟨trivial,zB (CallsIn.inRound lo (zi.2 H.o)) ?_⟩
    rintro e w4 ⟨rfl,q⟩
    obtain rfl:=q.symm
    try gi_wp2_with fail
    exact ⟨rfl,B7.refl _ _,rfl,j.o,_,K.o⟩
  ·have c0:=l.o;have c1:=y.o;have cf:=C.o
   clear am U a7 P ab R d2 c0 c1 cf
   cases hb:KI (Tb.of x) ⟨ub,uo,3,c,d,s⟩ with
   |true=>
    obtain ⟨i,t,I,E,p⟩:=GW (to:=3) (by decide) hb
    have Z:=yb hb;have HV:=yb I
    have H:=yb (GM (most:=(ah.size:Int)) l.o y.o C.o MC.o m.o t (by rw[SC.o];exact Int.ofNat_lt.2 p))
    clear hb t I E p
    have B:∀ty,(Builtin.len_ #[194] ty #[.map (some mc)]).run prog V=.ok (iV (ah.size:Int)) V:=λty=>Gk J ty
    gi_wp2_with fail
    refine ⟨trivial,zB (CallsIn.inRound lo (zi.2 H.o)) ?_⟩
    rintro e w4 ⟨rfl,rfl⟩
    gi_wp2_with fail
    exact ⟨A.o _,by have h:=K.o.next r.o.uok HX.o (show (3:Int)≠0 by decide) Z.o;rw[show Hu (Tb.of x) (Ew (⟨ub,uo,3,c,d,s⟩:Us).to) (⟨ub,uo,3,c,d,s⟩:Us).name=_ from HV.o] at h;exact h⟩
   |false=>
    have S:=GX (to:=3) (by decide) hb
    have j:=yb (r.o.bad F.o hb)
    have H:=yb (J6 (most:=(ah.size:Int)) l.o MC.o m.o (λi t=>absurd (S i t).1 (show ¬ early 3=true by decide)))
    clear hb S
    have B:∀ty,(Builtin.len_ #[194] ty #[.map (some mc)]).run prog V=.ok (iV (ah.size:Int)) V:=λty=>Gk J ty
    gi_wp2_with fail
    refine ⟨trivial,zB (CallsIn.inRound lo (zi.2 H.o)) ?_⟩
    rintro e w4 ⟨rfl,q⟩
    obtain rfl:=q.symm
    try gi_wp2_with fail
    exact ⟨rfl,B7.refl _ _,rfl,j.o,_,K.o⟩
  ·have c0:=l.o;have c1:=y.o;have cf:=C.o
   clear am U a8 J ab R d2 c0 c1 cf
   cases hb:KI (Tb.of x) ⟨ub,uo,4,c,d,s⟩ with
   |true=>
    obtain ⟨i,t,I,E,p⟩:=GW (to:=4) (by decide) hb
    have Z:=yb hb;have HV:=yb I
    have H:=yb (GM (most:=(ai.size:Int)) l.o y.o C.o MR.o m.o t (by rw[SR.o];exact Int.ofNat_lt.2 p))
    clear hb t I E p
    have B:∀ty,(Builtin.len_ #[194] ty #[.map (some mr)]).run prog V=.ok (iV (ai.size:Int)) V:=λty=>Gk P ty
    gi_wp2_with fail
    refine ⟨trivial,zB (CallsIn.inRound lo (zi.2 H.o)) ?_⟩
    rintro e w4 ⟨rfl,rfl⟩
    gi_wp2_with fail
    exact ⟨A.o _,by have h:=K.o.next r.o.uok HX.o (show (4:Int)≠0 by decide) Z.o;rw[show Hu (Tb.of x) (Ew (⟨ub,uo,4,c,d,s⟩:Us).to) (⟨ub,uo,4,c,d,s⟩:Us).name=_ from HV.o] at h;exact h⟩
   |false=>
    have S:=GX (to:=4) (by decide) hb
    have j:=yb (r.o.bad F.o hb)
    have H:=yb (J6 (most:=(ai.size:Int)) l.o MR.o m.o (λi t=>absurd (S i t).1 (show ¬ early 4=true by decide)))
    clear hb S
    have B:∀ty,(Builtin.len_ #[194] ty #[.map (some mr)]).run prog V=.ok (iV (ai.size:Int)) V:=λty=>Gk P ty
    gi_wp2_with fail
    refine ⟨trivial,zB (CallsIn.inRound lo (zi.2 H.o)) ?_⟩
    rintro e w4 ⟨rfl,q⟩
    obtain rfl:=q.symm
    try gi_wp2_with fail
    exact ⟨rfl,B7.refl _ _,rfl,j.o,_,K.o⟩
  have c0:=l.o;have c1:=y.o;have cf:=C.o
  clear am U a8 J a7 P d2 c0 c1 cf
  cases hb:KI (Tb.of x) ⟨ub,uo,5,c,d,s⟩ with
  |true=>
   obtain ⟨i,t,I,E,p⟩:=GW (to:=5) (by decide) hb
   have Z:=yb hb;have HV:=yb I
   have H:=yb (GM (most:=(ao.size:Int)) l.o y.o C.o MF.o m.o t (by rw[SF.o];exact Int.ofNat_lt.2 p))
   clear hb t I E p
   have B:∀ty,(Builtin.len_ #[194] ty #[.map (some mf)]).run prog V=.ok (iV (ao.size:Int)) V:=λty=>Gk R ty
   gi_wp2_with fail
   refine ⟨trivial,zB (CallsIn.inRound lo (zi.2 H.o)) ?_⟩
   rintro e w4 ⟨rfl,rfl⟩
   gi_wp2_with fail
   exact ⟨A.o _,by have h:=K.o.next r.o.uok HX.o (show (5:Int)≠0 by decide) Z.o;rw[show Hu (Tb.of x) (Ew (⟨ub,uo,5,c,d,s⟩:Us).to) (⟨ub,uo,5,c,d,s⟩:Us).name=_ from HV.o] at h;exact h⟩
  |false=>
   have S:=GX (to:=5) (by decide) hb
   have j:=yb (r.o.bad F.o hb)
   have H:=yb (J6 (most:=(ao.size:Int)) l.o MF.o m.o (λi t=>absurd (S i t).1 (show ¬ early 5=true by decide)))
   clear hb S
   have B:∀ty,(Builtin.len_ #[194] ty #[.map (some mf)]).run prog V=.ok (iV (ao.size:Int)) V:=λty=>Gk R ty
   gi_wp2_with fail
   refine ⟨trivial,zB (CallsIn.inRound lo (zi.2 H.o)) ?_⟩
   rintro e w4 ⟨rfl,q⟩
   obtain rfl:=q.symm
   try gi_wp2_with fail
   exact ⟨rfl,B7.refl _ _,rfl,j.o,_,K.o⟩
 ·intro ho D O V hD f9 G an
  have hx:(Ck W5 L x).2=true:=by
   cases hx:(Ck W5 L x).2 with
   |true=>rfl
   |false=>rw[hx] at ho;cases ho
  have a2:RJ w.heap.size W5 (Tb.of x) (D7 W5 L x) (D7 W5 L x).length O V:=by
   have h:(FA L x).length+((Ck W5 L x).1.map Us.v).length=(D7 W5 L x).length:=by unfold D7;simp
   rw[<-h];exact G
  have hA:=a2.amid r.o.amid
  have ag:w.heap.size+3<=D:=by
   obtain ⟨v,Y⟩:=r.o.amid.e
   have h1:=(yd.1 Y).1
   have h2:=ak.o.size
   omega
  obtain ⟨cs,al,dr,dv⟩:=r.o.src a2 hx
  rw[r.o.ls] at dr
  obtain ⟨row,ew,dw⟩:=hA.x
  obtain ⟨ve,Y⟩:=hA.e
  have cm:=OV dv
  have c3:(V.setRow (w.heap.size+1) cs.toArray).cell? (aV (w.heap.size+2) 0)=some ve:=by
   simp only[World.cell?,World.setRow,yH,ym (show ¬ w.heap.size+1=w.heap.size+2 by omega)]
   simp[Y]
  have f3:(V.setRow (w.heap.size+1) cs.toArray).frozen? (aV (w.heap.size+2) 0)=false:=by
   simp only[World.frozen?,World.setRow,yH,ym (show ¬ w.heap.size+1=w.heap.size+2 by omega)]
   simp[Y]
  have ii:Hid ((prog.info? 49).map (·.size)=some cs.length):=yb (by rw[al];kernel_rfl)
  have el:Hid ((prog.info? 49).map (·.size)=some cs.toArray.size):=yb (by rw[yA];exact ii.o)
  have h0:=r.o.good a2 hx
  have T:Below w.heap.size w ((V.setRow (w.heap.size+1) cs.toArray).setCell (aV (w.heap.size+2) 0) (iV 0)):=hA.below.trans ⟨rfl,rfl,rfl,by simp[World.setRow],λb hb=>by
   rw[zg _ _ _ _ (by simp;omega)]
   simp only[World.setRow,yH,ym (show ¬ w.heap.size+1=b by omega)]⟩
  have i2:((V.setRow (w.heap.size+1) cs.toArray).setCell (aV (w.heap.size+2) 0) (iV 0)).heap[w.heap.size+1]?=some (.cells cs.toArray 49 (0,0)):=by
   rw[zg _ _ _ _ (by simp)]
   simp[World.setRow,yH,dw]
  have ik:((V.setRow (w.heap.size+1) cs.toArray).setCell (aV (w.heap.size+2) 0) (iV 0)).heap[w.heap.size+2]?=some (.cells jG 34 (0,0)):=by
   have:=zp (V.setRow (w.heap.size+1) cs.toArray) (w.heap.size+2) 0 #[ve] 34 (iV 0) (by simp[World.setRow,yH,Y])
   rw[this];rfl
  have ae:∀b,b≠w.heap.size+1->b≠w.heap.size+2->((V.setRow (w.heap.size+1) cs.toArray).setCell (aV (w.heap.size+2) 0) (iV 0)).heap[b]?=V.heap[b]?:=λb h1 h2=>by
   rw[zg _ _ _ _ (by simpa using h2)]
   simp only[World.setRow,yH,ym (xC h1)]
  have f4:=(ae D (by omega) (by omega)).trans an
  have k0:W5.heap.size<=D:=by have:=ak.o.size;omega
  have k6:=a2.size
  have dl:Sh w.heap.size (((V.setRow (w.heap.size+1) cs.toArray).setCell (aV (w.heap.size+2) 0) (iV 0)).putObj D (.deferred none)) cs (Ax x):=by
   refine ⟨L,_,al,dv.same (λ_ h=>h) (λb hb=>?_),λb hb=>⟨hb.1,?_⟩⟩
   ·obtain ⟨k1,k2,k3,k4⟩:=hb
    rw[World.putObj_heap_other (by omega),ae b k3 k4]
   obtain ⟨k1,k2,k3,k4⟩:=hb
   simp[World.setRow];omega
  have du:=yb (λtm I=>HQ.o.done D tm _ cs I T i2 ik h0 ag f4 dl)
  have ir:=yb dr;have i1:=yb cm;have iq:=yb dw;have ix:Hid (row.size=cs.toArray.size):=yb (by rw[ew,yA,al])
  clear hx a2 hA ag dr dv ew dw Y cm h0 T i2 ik ae f4 k0 k6 dl hD f9 G an ho al
  simp only[Exit.inBlock,Exit.then]
  refine Aj (Aa ?_)
  go_wp2_with (first|(refine yj rfl 49 _ rfl (w.heap.size+1) 0 rfl cs _ ir.o jq rfl ii.o ?_)|(refine yt rfl 49 _ _ rfl (w.heap.size+1) cs.toArray rfl rfl 49 row iq.o el.o ix.o (yL i1.o) ?_))
  refine Aa ?_
  go_wp2
  exact du.o _ ⟨rfl,rfl⟩
 rintro D ch O V hD f9 ⟨rfl,bq,k,G⟩ an
 have ag:w.heap.size+3<=D:=by
  obtain ⟨v,Y⟩:=r.o.amid.e
  have h1:=(yd.1 Y).1
  have h2:=ak.o.size
  omega
 simp only[Exit.inBlock,Exit.then]
 have h:=λtm I=>HQ.o.failD D tm V I (G.amid r.o.amid) (by rw[bq];decide) ag an
 rw[bq] at h
 exact h _ ⟨rfl,rfl⟩
end Go.Proofs.YtbdfinegbjdblaaGreatDoor
namespace Go.Proofs.YtbdfinegbjdblaaGreatDoor
open Go.RowKit Tryz
section
variable{N:NP}{E E':Int->Ex->Nat->Nat->Prop}{R R':Int->Rf->Nat->Nat->Prop}{w W:World}{L:BQ}{x:AM}
theorem Cz.moved(h:Cz N E R W L x){Bx:Nat}(b:Ty W Bx 49)(a:∀q,q < 26->W.cell? ⟨Bx,q,none⟩=W.cell? ⟨L.s,q,none⟩)(c:∀lt e o,o+6<=26->E lt e L.s o->E lt e Bx o):Cz N E R W {L with s:=Bx} x:=
 ⟨b,⟨h.name.1,(a 0 (by omega)).trans h.name.2⟩,c _ _ _ (by omega) h.season,c _ _ _ (by omega) h.cap,c _ _ _ (by omega) h.start,(a _ (by omega)).trans h.hlets,(a _ (by omega)).trans h.hcrops,(a _ (by omega)).trans h.hreaches,(a _ (by omega)).trans h.hfarms,(a _ (by omega)).trans h.hrots,(a _ (by omega)).trans h.hrights,(a _ (by omega)).trans h.hduties,h.lets,h.crops,h.reaches,h.farms,h.rots,h.rights,h.duties⟩
theorem VU{M:NP}{Bx s:Nat}(b:∀q,q < 26->W.cell? ⟨Bx,q,none⟩=W.cell? ⟨s,q,none⟩)(lt:Int)(e:Ex)(o:Nat)(g:o+6<=26)(h:ET M W lt e s o):ET M W lt e Bx o:=by
 obtain ⟨c,h1,h2⟩:=h
 obtain ⟨a,cap,rfl,_⟩:=(h2.exV (N:=M) (λ_ h _=>h)).cells
 refine ⟨_,λj v d=>?_,h2⟩
 have f:=(yF.1 d).1
 simp only[yr,yK] at f
 rw[b _ (by omega)]
 exact h1 j v d
theorem BF.same{b:Nat}{a:LB}{w':World}(h:BF w b a)(hb:∀(c:Nat) (o:Obj),w.heap[c]?=some o->(∀row:Array Value,o≠Obj.cells row 49 (0,0))->w'.heap[c]?=w.heap[c]?):BF w' b a:=by
 obtain ⟨m,h1,h2⟩:=h
 obtain ⟨f,d,h3,_⟩:=h2.size
 exact ⟨m,(hb b _ h1 (by rintro row e;cases e)).trans h1,h2.block (hb m _ h3 (by rintro row e;cases e))⟩
end
def RL(B:Nat)(W5:World)(t:Tb)(X:List Us)(n:Nat)(o:Obj)(k:Nat)(wr:World):Prop:=wr.heap.size=n/\RJ B W5 t X k (λ_=>False) (wr.alloc o)
section
variable{B:Nat}{W5 wr w':World}{t:Tb}{X:List Us}{n k:Nat}{o:Obj}
theorem RL.heap(h:RL B W5 t X n o k wr){b:Nat}(hb:b < n):(wr.alloc o).heap[b]?=wr.heap[b]?:=yp _ _ _ (by rw[h.1];exact hb)
theorem RL.cell(h:RL B W5 t X n o k wr){b q:Nat}(hb:b < n):(wr.alloc o).cell? ⟨b,q,none⟩=wr.cell? ⟨b,q,none⟩:=Ar (h.heap hb)
theorem RL.drew(h:RL B W5 t X n o k wr):RL B W5 t X n o k wr.drew:=⟨h.1,h.2.move (yi _) rfl rfl rfl (λ_ _=>rfl) (λ_ h=>h.elim)⟩
theorem Nw{b q:Nat}{v:Value}(hb:b < wr.heap.size):(wr.setCell ⟨b,q,none⟩ v).alloc o=(wr.alloc o).setCell ⟨b,q,none⟩ v:=by
 unfold World.setCell World.alloc
 simp only[World.mk.injEq,qp]
 apply Array.ext_getElem?
 intro i
 simp only[Array.getElem?_push,yH,Array.size_modify]
 by_cases h1:i=wr.heap.size
 ·subst h1;simp[show ¬ b=wr.heap.size by omega]
 simp[h1]
theorem RL.next{u:Us}(h:RL B W5 t X n o k wr)(c:∀u∈X,PG B W5 u)(d:X[k]?=some u)(hb:u.b < n)(h0:u.to≠0)(a:KI t u=true):RL B W5 t X n o (k+1) (wr.setCell ⟨u.b,u.o+1,none⟩ (.int .i64 (Hu t (Ew u.to) u.name))):=by
 refine ⟨by simpa using h.1,?_⟩
 rw[Nw (by rw[h.1];exact hb)]
 exact h.2.next c d h0 a
theorem RL.skip{u:Us}(h:RL B W5 t X n o k wr)(b:X[k]?=some u)(h0:u.to=0)(a:KI t u=true):RL B W5 t X n o (k+1) wr:=⟨h.1,h.2.skip b h0 a⟩
theorem RL.read{u:Us}(h:RL B W5 t X n o k wr)(a:PG B W5 u)(hb:u.b < n):wr.cell? ⟨u.b,u.o,none⟩=some (.string u.name)/\(∃z,wr.cell? ⟨u.b,u.o+1,none⟩=some (.int .i64 z)/\(u.to=0->z=u.n))/\wr.frozen? ⟨u.b,u.o+1,none⟩=false:=by
 obtain ⟨h1,h2,h3⟩:=h.2.read a
 rw[h.cell hb] at h1 h2
 refine ⟨h1,h2,?_⟩
 unfold World.frozen? at h3 |-
 rw[h.heap hb] at h3
 exact h3
end
section
variable{w W5 wr:World}{x:AM}{L:BQ}{N M:NP}{bl bc br bf Bf Bu k n:Nat}{t:Tb}{X:List Us}{o:Obj}
theorem RL.amid(c:Ly w W5)(h:RL w.heap.size W5 t X n o k wr)(d:w.heap.size+3<=n):Ly w wr:=by
 have a:=RJ.amid c h.2
 obtain ⟨row,h1,h2⟩:=a.x
 obtain ⟨v,h3⟩:=a.e
 rw[h.heap (by omega)] at h2 h3
 refine ⟨⟨a.below.os,a.below.tape,a.below.output,by rw[h.1];omega,λb hb=>?_⟩,⟨row,h1,h2⟩,⟨v,h3⟩⟩
 rw[<-h.heap (by omega)]
 exact a.below.block b hb
theorem Mv{f:Nat->List Us}{g:Nat->Us}:∀n,(∀i,i < n->f i=[g i])->(List.range n).flatMap f=(List.range n).map g
 |0,_=>rfl
 |n+1,h=>by rw[Aw,Mv n (λi hi=>h i (by omega)),h n (by omega),List.range_succ];simp
theorem Mw{E:Int->Ex->Nat->Nat->Prop}{R:Int->Rf->Nat->Nat->Prop}(h:Cz N E R W5 L x):(FA L x).length=x.reaches.length:=by
 unfold FA
 rw[Mv (g:=λi=>⟨(L.reaches.at 51 i 1).block,(L.reaches.at 51 i 1).off,if i=0 then 0 else 6,i,(x.reaches.map (·.frm.name)).getD i ⟨#[]⟩,(x.reaches.map (·.frm.n)).getD i 0⟩) _ (λi hi=>by
  have a:i < x.reaches.length:=by rw[<-h.reaches.1];exact hi
  unfold JK;rw[yk a];simp[qJ,a])]
 simp[h.reaches.1]
theorem Si{E:Int->Ex->Nat->Nat->Prop}{R:Int->Rf->Nat->Nat->Prop}(h:Cz N E R W5 L x){i g:Nat}(hi:i < x.reaches.length)(c:L.reaches.a=some ⟨g,0,none⟩):(D7 W5 L x)[i]?=some ⟨g,i*51+1,if i=0 then 0 else 6,i,x.reaches[i].frm.name,x.reaches[i].frm.n⟩:=by
 unfold D7
 rw[zI (by rw[Mw h];exact hi)]
 unfold FA
 rw[Mv (g:=λi=>⟨(L.reaches.at 51 i 1).block,(L.reaches.at 51 i 1).off,if i=0 then 0 else 6,i,(x.reaches.map (·.frm.name)).getD i ⟨#[]⟩,(x.reaches.map (·.frm.n)).getD i 0⟩) _ (λi hi=>by
  have b:i < x.reaches.length:=by rw[<-h.reaches.1];exact hi
  unfold JK;rw[yk b];simp[qJ,b])]
 rw[List.getElem?_map,List.getElem?_range (by rw[h.reaches.1];exact hi)]
 simp[qJ,hi,Bo c]
end
theorem Tl{ops:Array Oper}{p:Oper->Bool}{i:Nat}{o:Oper}(h:ops.all p=true)(a:ops[i]?=some o):p o=true:=by
 rw[zC] at h
 exact h o (xj a)
theorem Al{l:Array Bool}{i j:Nat}(h:i≠j):(l.setIfInBounds i true).getD j false=l.getD j false:=xF false h
theorem BZ{l:Array Value}{i j:Nat}{v:Value}(h:i≠j):(l.setIfInBounds i v).getD j undef=l.getD j undef:=by simp[h]
def P4(lo hi:Nat)(d:Option Tmp):Bool:=match d with
 |some k=>decide (lo<=k)&&decide (k<=hi)
 |none=>true
theorem GY{lo hi:Nat}{ops:Array Oper}{d:Act}{c:Array Bool->Array Value->World->Prop}{g:Nat->Value->World->Prop}{listed:Array Bool}{a:Act}{w':World}(b:ops.all (λo=>P4 lo hi o.dst)=true)(hM:KK ops d c g listed a w'):
  ∀t,(t < lo\/hi < t)->a.tmps.getD t undef=d.tmps.getD t undef:=by
 intro t h
 refine hM.free t λi e o f hd=>?_
 have hs:P4 lo hi o.dst=true:=Tl (p:=λo=>P4 lo hi o.dst) b f
 rw[hd] at hs
 simp only[P4,yw,yM] at hs
 exact (show ¬ (lo<=t/\t<=hi) from by omega) hs
def Yw(B g rn rc mr i:Nat)(j:Nat)(v:Value)(_:World):Prop:=match j with
 |0=>v=.func (.func 97) #[] #[]
 |1=>v=.pointer (some ⟨B+1,21,none⟩)
 |2=>v=.slice (some ⟨g,0,none⟩) rn rc
 |3=>v=.int .i64 i
 |4=>v=.pointer (some ⟨g,i*51,none⟩)
 |5=>v=.pointer (some ⟨g,i*51+1,none⟩)
 |6=>v=.map (some mr)
 |7=>v=.int .i64 i
 |_=>True
structure LQ (R1 R2:World->Prop) (l:Array Bool) (_:Array Value) (w:World):Prop where
 one:l.getD 8 false=false->R1 w
 two:l.getD 8 false=true->R2 w
theorem LQ.quiet{R1 R2:World->Prop}{l:Array Bool}{tm a:Array Value}{w:World}{i:Nat}(h:LQ R1 R2 l tm w)(hi:i≠8):LQ R1 R2 (l.setIfInBounds i true) a w:=
 ⟨λk=>h.one (by rw[Al hi] at k;exact k),λk=>h.two (by rw[Al hi] at k;exact k)⟩
theorem Yx{k:Act}{wr:World}{Q:QT}{B Bf g rn rc br mr i:Nat}{R1 R2 R3:World->Prop}(ops:Array Oper)(l:Fm Tryz.f63 32=some ops)
 (h2:k.tmps.getD 2 undef=.pointer (some ⟨B+1,0,none⟩))(P:k.tmps.getD 6 undef=.pointer (some ⟨br,0,none⟩))(u:k.tmps.getD 13 undef=.pointer (some ⟨Bf,0,none⟩))(r:k.tmps.getD 14 undef=.int .i64 i)(G:k.tmps.size=174)
 (hi:i < rn)(h0:R1 wr.drew)
 (A:∀W,R1 W->W.cell? ⟨Bf,0,none⟩=some (.func (.func 97) #[] #[])/\W.cell? ⟨B+1,21,none⟩=some (.slice (some ⟨g,0,none⟩) rn rc)/\W.cell? ⟨br,0,none⟩=some (.map (some mr)))
 (m:∀W,R1 W->Calls prog 97 #[.pointer (some ⟨g,i*51+1,none⟩),.map (some mr),.int .i64 i] W λe w'=>(e=.returned (.tuple #[])/\R2 w')\/(e=.panicked (Fg 170)/\R3 w'))
 (C:∀(a:Act) W,a.defers=k.defers->(∀t,(t < 105\/113 < t)->a.tmps.getD t undef=k.tmps.getD t undef)->R3 W->Q (.panic (Fg 170)) a W)
 (D:∀(a:Act) W,a.tmps.size=174->a.defers=k.defers->(∀t,(t < 105\/113 < t)->a.tmps.getD t undef=k.tmps.getD t undef)->R2 W->Q .normal a W):
  (Code.region 32 ops true).wp prog Q k wr:=by
 obtain rfl:=yf ((rfl:Fm Tryz.f63 32=some _).symm.trans l)
 clear l
 refine G1 (by kernel_rfl) (LQ R1 R2) (Yw B g rn rc mr i) (λ_ _ _=>True) (by kernel_rfl) (by rw[G];kernel_rfl) (by kernel_rfl) (λ_ j v w w' _ _ _ h=>by unfold Yw at h |-;exact h) ⟨λ_=>h0,λh=>(by cases h)⟩ ?_ ?_
 ·intro M listed a w' hM b o f
  have c:=yb hM.ext
  have x:=(yd.1 f).1
  have y:=hM.size
  have S:=yb hi
  have K:(i:Int) < (rn:Int):=by omega
  match M,x with
  |0,_=>
   have d:=hM.old b 13 (by kernel_rfl) _ u
   have q:listed.getD 8 false=false:=by
    rw[yB];intro p
    have:=Ag hM.down 8 8 0 (by kernel_rfl) p
    rw[hM.not_yet b] at this;cases this
   obtain ⟨I,H,F⟩:=A _ (c.o.one q)
   clear hi
   obtain rfl:=yf f
   go_simp
   exact ⟨_,rfl,c.o.quiet (by decide),trivial,rfl⟩
  |1,_=>
   have d:=hM.old b 2 (by kernel_rfl) _ h2
   clear hi
   obtain rfl:=yf f
   go_simp
   exact ⟨_,rfl,c.o.quiet (by decide),trivial,rfl⟩
  |2,_=>
   have d:a.tmps[106]?.getD undef=pV (B+1) 21:=hM.dep b 1 106 (by kernel_rfl) (by kernel_rfl)
   have q:listed.getD 8 false=false:=by
    rw[yB];intro p
    have:=Ag hM.down 8 8 2 (by kernel_rfl) p
    rw[hM.not_yet b] at this;cases this
   obtain ⟨I,H,F⟩:=A _ (c.o.one q)
   clear hi
   obtain rfl:=yf f
   go_simp
   exact ⟨_,rfl,c.o.quiet (by decide),trivial,rfl⟩
  |3,_=>
   have d:=hM.old b 14 (by kernel_rfl) _ r
   clear hi
   obtain rfl:=yf f
   go_simp
   exact ⟨_,rfl,c.o.quiet (by decide),trivial,rfl⟩
  |4,_=>
   have L:a.tmps[107]?.getD undef=.slice (some (aV g 0)) rn rc:=hM.dep b 2 107 (by kernel_rfl) (by kernel_rfl)
   have J:a.tmps[108]?.getD undef=iV i:=hM.dep b 3 108 (by kernel_rfl) (by kernel_rfl)
   clear hi
   obtain rfl:=yf f
   go_simp
   exact ⟨_,rfl,c.o.quiet (by decide),trivial,rfl⟩
  |5,_=>
   have d:a.tmps[109]?.getD undef=pV g (i*51):=hM.dep b 4 109 (by kernel_rfl) (by kernel_rfl)
   clear hi
   obtain rfl:=yf f
   go_simp
   exact ⟨_,rfl,c.o.quiet (by decide),trivial,rfl⟩
  |6,_=>
   have d:=hM.old b 6 (by kernel_rfl) _ P
   have q:listed.getD 8 false=false:=by
    rw[yB];intro p
    have:=Ag hM.down 8 8 6 (by kernel_rfl) p
    rw[hM.not_yet b] at this;cases this
   obtain ⟨I,H,F⟩:=A _ (c.o.one q)
   clear hi
   obtain rfl:=yf f
   go_simp
   exact ⟨_,rfl,c.o.quiet (by decide),trivial,rfl⟩
  |7,_=>
   have d:=hM.old b 14 (by kernel_rfl) _ r
   clear hi
   obtain rfl:=yf f
   go_simp
   exact ⟨_,rfl,c.o.quiet (by decide),trivial,rfl⟩
  |8,_=>
   have L:a.tmps[105]?.getD undef=.func (.func 97) #[] #[]:=hM.dep b 0 105 (by kernel_rfl) (by kernel_rfl)
   have J:a.tmps[110]?.getD undef=pV g (i*51+1):=hM.dep b 5 110 (by kernel_rfl) (by kernel_rfl)
   have d3:a.tmps[111]?.getD undef=.map (some mr):=hM.dep b 6 111 (by kernel_rfl) (by kernel_rfl)
   have d4:a.tmps[112]?.getD undef=iV i:=hM.dep b 7 112 (by kernel_rfl) (by kernel_rfl)
   have z:=c.o.one (hM.not_yet b)
   have O:=yb (m _ z)
   have R:=yb (GY (lo:=105) (hi:=113) (by kernel_rfl) hM)
   have E:=yb hM.defers
   have N:Hid (8 < listed.size):=yb (by rw[y];show 8 < 9;omega)
   clear hi
   obtain rfl:=yf f
   go_simp
   refine O.o.mono ?_
   rintro e w2 (⟨rfl,n⟩|⟨rfl,n⟩)
   ·exact ⟨_,rfl,⟨λh=>(by simp[N.o] at h),λ_=>n⟩,trivial,trivial⟩
   exact C _ _ E.o R.o n
 intro listed a w' s hM
 exact D a w' (hM.tmps.trans G) hM.defers (GY (lo:=105) (hi:=113) (by kernel_rfl) hM) (hM.ext.two (s 8 (show 8 < 9 by omega)))
def Lb(n0:Nat)(w w':World):Prop:=w.heap.size<=w'.heap.size/\∀(b:Nat) (o:Obj),n0<=b->w.heap[b]?=some o->w'.heap[b]?=some o\/∃z a:Value,o=.cells #[z] 194 (0,0)/\w'.heap[b]?=some (.cells #[a] 194 (0,0))
theorem Lb.refl(n0:Nat)(w:World):Lb n0 w w:=⟨yi _,λ_ _ _ h=>.inl h⟩
theorem Lb.below{n0:Nat}{w w':World}(h:Below w.heap.size w w'):Lb n0 w w':=⟨h.size,λb _ _ hb=>.inl ((h.block b (yd.1 hb).1).trans hb)⟩
theorem Cl.leB{n0:Nat}{w w':World}{m:Nat}{b:LB}(h:Cl w m b)(e:Lb n0 w w')(c:n0<=m):Cl w' m b:=by
 obtain ⟨d,a,h1,h2⟩:=h
 rcases e.2 m _ c h1 with h3|⟨z,f,h3,_⟩
 ·exact ⟨d,a,h3,h2⟩
 cases h3
def Jw(n0:Nat)(v:Value)(w:World):Prop:=∃b z,v=.pointer (some ⟨b,0,none⟩)/\n0<=b/\w.heap[b]?=some (.cells #[z] 194 (0,0))
theorem Jw.leB{n0:Nat}{v:Value}{w w':World}(h:Jw n0 v w)(d:Lb n0 w w'):Jw n0 v w':=by
 obtain ⟨b,z,h1,h2,h3⟩:=h
 rcases d.2 b _ h2 h3 with a|⟨_,c,_,a⟩
 ·exact ⟨b,z,h1,h2,a⟩
 exact ⟨b,c,h1,h2,a⟩
def G2(n0:Nat)(v:Value)(a:LB)(w:World):Prop:=∃m,v=.map (some m)/\n0<=m/\Cl w m a/\a.Nodup
theorem G2.leB{n0:Nat}{v:Value}{a:LB}{w w':World}(h:G2 n0 v a w)(c:Lb n0 w w'):G2 n0 v a w':=by
 obtain ⟨m,h1,h2,h3,b⟩:=h
 exact ⟨m,h1,h2,h3.leB c h2,b⟩
def XD(n0 B:Nat)(h0 h1 h2 h3:AA)(n0s n1s n2s n3s:LB)(j:Nat)(v:Value)(w:World):Prop:=match j with
 |0=>v=.pointer (some ⟨B,19,none⟩)
 |1=>v=.slice h0.a h0.n h0.c
 |2=>G2 n0 v n0s w
 |3=>v=.pointer (some ⟨B,20,none⟩)
 |4=>v=.slice h1.a h1.n h1.c
 |5=>G2 n0 v n1s w
 |6=>v=.pointer (some ⟨B,21,none⟩)
 |7=>v=.slice h2.a h2.n h2.c
 |8=>G2 n0 v n2s w
 |9=>v=.pointer (some ⟨B,22,none⟩)
 |10=>v=.slice h3.a h3.n h3.c
 |11=>G2 n0 v n3s w
 |12|13|14|15=>Jw n0 v w
 |_=>True
theorem Qo{n0 B:Nat}{h0 h1 h2 h3:AA}{n0s n1s n2s n3s:LB}(j:Nat)(v:Value)(w w':World)(a:Lb n0 w w')(h:XD n0 B h0 h1 h2 h3 n0s n1s n2s n3s j v w):XD n0 B h0 h1 h2 h3 n0s n1s n2s n3s j v w':=by
 unfold XD at h |-
 split at h
 all_goals first|exact h|exact h.leB a
def YR(n0:Nat)(v:Value)(a:LB)(w:World):Prop:=∃b,v=.pointer (some ⟨b,0,none⟩)/\n0<=b/\b < w.heap.size/\BF w b a
def Zx(n0:Nat)(n0s n1s n2s n3s:LB)(l:Array Bool)(tm:Array Value)(w:World)(q:Nat):Prop:=l.getD (16+q) false=true->YR n0 (tm.getD (4+q) undef) ((([n0s,n1s,n2s,n3s]:List LB))[q]?.getD []) w
structure GA (n0:Nat) (V:World) (n0s n1s n2s n3s:List ByteArray) (l:Array Bool) (tm:Array Value) (w:World):Prop where
 below:Below n0 V w
 apart:∀p q,p < 4->q < 4->p≠q->l.getD (12+p) false=true->l.getD (12+q) false=true->tm.getD (4+p) undef≠tm.getD (4+q) undef
 full:∀q,q < 4->Zx n0 n0s n1s n2s n3s l tm w q
section
variable{n0:Nat}{V w w':World}{n0s n1s n2s n3s:LB}{l:Array Bool}{tm:Array Value}
theorem BF.below{b:Nat}{a:LB}(h:BF w b a)(hb:Below w.heap.size w w'):BF w' b a:=by
 obtain ⟨m,h1,h2⟩:=h
 exact ⟨m,(hb.block b (yd.1 h1).1).trans h1,h2.block (hb.block m h2.lt)⟩
theorem GA.quiet(h:GA n0 V n0s n1s n2s n3s l tm w){i t:Nat}{v:Value}(hi:i < 12)(m:7 < t)(g:n0<=w.heap.size)(hb:Below w.heap.size w w'):GA n0 V n0s n1s n2s n3s (l.setIfInBounds i true) (tm.setIfInBounds t v) w':=by
 refine ⟨h.below.trans (hb.mono g),λp q j c a e d=>?_,λq c k=>?_⟩
 ·rw[Al (by omega)] at e d
  rw[BZ (by omega),BZ (by omega)]
  exact h.apart p q j c a e d
 rw[Al (by omega)] at k
 rw[BZ (by omega)]
 obtain ⟨b,h1,h2,h3,f⟩:=h.full q c k
 exact ⟨b,h1,h2,yx h3 hb.size,f.below hb⟩
theorem GA.alloc(h:GA n0 V n0s n1s n2s n3s l tm w){q:Nat}(v:q < 4)(t:n0<=w.heap.size)(j:tm.size=174)(g:∀p,p < 4->l.getD (12+p) false=true->Jw n0 (tm.getD (4+p) undef) w)(m:l.getD (16+q) false=false)(z:Value):
  GA n0 V n0s n1s n2s n3s (l.setIfInBounds (12+q) true) (tm.setIfInBounds (4+q) (.pointer (some ⟨w.heap.size,0,none⟩))) (w.alloc (.cells #[z] 194)):=by
 have hb:Below w.heap.size w (w.alloc (.cells #[z] 194)):=(yg _ _).alloc (yi _) _
 have a:(tm.setIfInBounds (4+q) (pV w.heap.size 0)).getD (4+q) undef=pV w.heap.size 0:=by simp[j,show 4+q < 174 by omega]
 have c:∀p,p < 4->p≠q->(l.setIfInBounds (12+q) true).getD (12+p) false=true->∃b,tm.getD (4+p) undef=pV b 0/\b < w.heap.size:=λp f d k=>by
  rw[Al (by omega)] at k
  obtain ⟨b,z,h1,_,h3⟩:=g p f k
  exact ⟨b,h1,(yd.1 h3).1⟩
 refine ⟨h.below.trans (hb.mono t),λp r f hr d o n=>?_,λp f k=>?_⟩
 ·by_cases i:p=q
  ·subst i
   obtain ⟨b,h1,h2⟩:=c r hr (xC d) n
   rw[a,BZ (by omega),h1]
   intro e;simp at e<;>omega
  obtain ⟨b,h1,h2⟩:=c p f i o
  by_cases u:r=q
  ·subst u
   rw[a,BZ (by omega),h1]
   intro e;simp at e<;>omega
  rw[BZ (by omega),BZ (by omega)]
  rw[Al (by omega)] at o n
  exact h.apart p r f hr d o n
 rw[Al (by omega)] at k
 by_cases i:p=q
 ·subst i;rw[m] at k;cases k
 rw[BZ (by omega)]
 obtain ⟨b,h1,h2,h3,s⟩:=h.full p f k
 exact ⟨b,h1,h2,yx h3 hb.size,s.below hb⟩
theorem GA.store(h:GA n0 V n0s n1s n2s n3s l tm w){q b m:Nat}{z:Value}(H:q < 4)(F:n0<=b)(hb:w.heap[b]?=some (.cells #[z] 194 (0,0)))(s:tm.getD (4+q) undef=.pointer (some ⟨b,0,none⟩))
 (G:Cl w m ((([n0s,n1s,n2s,n3s]:List LB))[q]?.getD []))(v:l.getD (12+q) false=true)(i:∀p,p < 4->l.getD (16+p) false=true->l.getD (12+p) false=true):
  GA n0 V n0s n1s n2s n3s (l.setIfInBounds (16+q) true) tm (w.setCell ⟨b,0,none⟩ (.map (some m)))/\Lb n0 w (w.setCell ⟨b,0,none⟩ (.map (some m))):=by
 have d:(w.setCell (aV b 0) (.map (some m))).heap[b]?=some (.cells #[.map (some m)] 194 (0,0)):=by
  have:=zp w b 0 #[z] 194 (.map (some m)) hb
  rw[this];rfl
 have a:∀c,c≠b->(w.setCell (aV b 0) (.map (some m))).heap[c]?=w.heap[c]?:=λc hc=>zg w (aV b 0) c _ hc
 have f:∀n j,Cl w n j->Cl (w.setCell (aV b 0) (.map (some m))) n j:=λn j h=>by
  obtain ⟨I,y,h1,_⟩:=h.size
  exact h.block (a n (λe=>by rw[e,hb] at h1;cases h1))
 refine ⟨⟨?_,λp r t hr g C A=>?_,λp t k=>?_⟩,by simp,λc o hc x=>?_⟩
 ·exact h.below.trans ⟨rfl,rfl,rfl,by simp,λc hc=>a c (by omega)⟩
 ·rw[Al (by omega)] at C A
  exact h.apart p r t hr g C A
 ·by_cases B:p=q
  ·subst B
   exact ⟨b,s,F,by simpa using (yd.1 hb).1,m,d,f _ _ G⟩
  rw[Al (by omega)] at k
  obtain ⟨u,h1,h2,h3,n,D,E⟩:=h.full p t k
  have g:u≠b:=λe=>h.apart p q t H B (i p t k) v (by rw[h1,s,e])
  exact ⟨u,h1,h2,by simpa using h3,n,(a u g).trans D,f _ _ E⟩
 by_cases e:c=b
 ·subst e
  rw[hb] at x
  exact .inr ⟨z,.map (some m),(yf x).symm,d⟩
 exact .inl ((a c e).trans x)
end
theorem Zy{O:Act}{V:World}{Q:QT}{B:Nat}{h0 h1 h2 h3:AA}{n0s n1s n2s n3s:LB}(ops:Array Oper)(T:Fm Tryz.f63 11=some ops)
 (M:O.tmps.getD 1 undef=.pointer (some ⟨B,0,none⟩))(hz:O.tmps.size=174)
 (hc:∀W,Below V.heap.size V W->W.cell? ⟨B,19,none⟩=some (.slice h0.a h0.n h0.c)/\W.cell? ⟨B,20,none⟩=some (.slice h1.a h1.n h1.c)/\W.cell? ⟨B,21,none⟩=some (.slice h2.a h2.n h2.c)/\W.cell? ⟨B,22,none⟩=some (.slice h3.a h3.n h3.c))
 (ab:∀W,Below V.heap.size V W->BH W h0 7 0 n0s)(a6:∀W,Below V.heap.size V W->BH W h1 7 0 n1s)(ad:∀W,Below V.heap.size V W->BH W h2 51 0 n2s)(a8:∀W,Below V.heap.size V W->BH W h3 12 0 n3s)
 (a1:n0s.length<=100000)(a7:n1s.length<=100000)(a2:n2s.length<=100000)(ae:n3s.length<=100000)
 (R:∀(a:Act) W,a.defers=O.defers->(∀t,(t < 4\/54 < t)->a.tmps.getD t undef=O.tmps.getD t undef)->Below V.heap.size V W->¬ (n0s.Nodup/\n1s.Nodup/\n2s.Nodup/\n3s.Nodup)->Q (.panic (Fg 171)) a W)
 (ac:∀(a:Act) W (bl bc br bf:Nat),a.tmps.size=174->a.defers=O.defers->(∀t,t∉[4,5,6,7,43,44,45,46,47,48,49,50,51,52,53,54]->a.tmps.getD t undef=O.tmps.getD t undef)->
   a.tmps.getD 4 undef=.pointer (some ⟨bl,0,none⟩)->a.tmps.getD 5 undef=.pointer (some ⟨bc,0,none⟩)->a.tmps.getD 6 undef=.pointer (some ⟨br,0,none⟩)->a.tmps.getD 7 undef=.pointer (some ⟨bf,0,none⟩)->
   BF W bl n0s->BF W bc n1s->BF W br n2s->BF W bf n3s->(V.heap.size<=bl/\bl < W.heap.size)->(V.heap.size<=bc/\bc < W.heap.size)->(V.heap.size<=br/\br < W.heap.size)->(V.heap.size<=bf/\bf < W.heap.size)->Below V.heap.size V W->(n0s.Nodup/\n1s.Nodup/\n2s.Nodup/\n3s.Nodup)->Q .normal a W):
  (Code.region 11 ops true).wp prog Q O V:=by
 obtain rfl:=yf ((rfl:Fm Tryz.f63 11=some _).symm.trans T)
 clear T
 have S:∀ {af:Array Bool->Array Value->World->Prop} {Pp:Nat->Value->World->Prop} {listed:Array Bool} {a:Act} {w':World},KK _ O af Pp listed a w'->∀t,t∉[4,5,6,7,43,44,45,46,47,48,49,50,51,52,53,54]->a.tmps.getD t undef=O.tmps.getD t undef:=λhM t Z=>by
  refine hM.free t λmm ag o y hd=>Z ?_
  have hs:=Tl (ops:=(Tryz.f63.body.bind (EE 11)).getD #[]) (p:=λo=>match o.dst with|some k=>decide (k∈[4,5,6,7,43,44,45,46,47,48,49,50,51,52,53,54])|none=>true) (by kernel_rfl) y
  rw[hd] at hs
  exact zE hs
 refine G1 (by kernel_rfl) (GA V.heap.size V n0s n1s n2s n3s) (XD V.heap.size B h0 h1 h2 h3 n0s n1s n2s n3s) (λ_=>Lb V.heap.size) (by kernel_rfl) (by rw[hz];kernel_rfl) (by kernel_rfl) (λ_ j v w w' _ _ hl h=>Qo j v w w' hl h) ?_ ?_ ?_
 ·refine ⟨(yg _ _).drew,λp q K hq ah k1 k2=>?_,λq hq k=>?_⟩
  ·exfalso
   match p,K with
   |0,_=>cases k1
   |1,_=>cases k1
   |2,_=>cases k1
   |3,_=>cases k1
  exfalso
  match q,hq with
  |0,_=>cases k
  |1,_=>cases k
  |2,_=>cases k
  |3,_=>cases k
 ·intro ix listed a w' hM g o y
  have l:=yb hM.ext
  have aa:=(yd.1 y).1
  have Y:V.heap.size<=w'.heap.size:=hM.ext.below.size
  have i:=yb Y
  have N:Hid (a.tmps.size=174):=yb (hM.tmps.trans hz)
  have HF:=yb (S hM)
  have P:=yb hM.defers
  have J:Hid (∀p,p < 4->listed.getD (12+p) false=true->Jw V.heap.size (a.tmps.getD (4+p) undef) w'):=yb (λp K k=>by
   match p,K with
   |0,_=>exact hM.done 12 k _ 4 rfl rfl
   |1,_=>exact hM.done 13 k _ 5 rfl rfl
   |2,_=>exact hM.done 14 k _ 6 rfl rfl
   |3,_=>exact hM.done 15 k _ 7 rfl rfl)
  clear Y
  match ix,aa with
  |0,_=>
   have d:=hM.old g 1 (by kernel_rfl) _ M
   obtain rfl:=yf y
   go_simp
   exact ⟨_,rfl,l.o.quiet (by decide) (by decide) i.o (yg _ _),Lb.refl _ _,rfl⟩
  |1,_=>
   have d:a.tmps[43]?.getD undef=pV B 19:=hM.dep g 0 43 (by kernel_rfl) (by kernel_rfl)
   obtain ⟨x0,x1,x2,x3⟩:=hc _ l.o.below
   obtain rfl:=yf y
   go_simp
   exact ⟨_,rfl,l.o.quiet (by decide) (by decide) i.o (yg _ _),Lb.refl _ _,rfl⟩
  |2,_=>
   have d:a.tmps[44]?.getD undef=.slice h0.a h0.n h0.c:=hM.dep g 1 44 (by kernel_rfl) (by kernel_rfl)
   have L:=yb (U5 (ab _ l.o.below) a1)
   unfold AA.v at L
   obtain rfl:=yf y
   go_simp
   refine L.o.mono ?_
   rintro e w2 ⟨f,⟨r,m,rfl,F,G⟩|⟨r,rfl⟩⟩
   ·exact ⟨_,rfl,l.o.quiet (by decide) (by decide) i.o f,Lb.below f,m,rfl,yG i.o F,G,r⟩
   exact R _ _ P.o (λt Z=>HF.o t (by simp;omega)) (l.o.below.trans (f.mono i.o)) (λh=>r h.1)
  |3,_=>
   have d:=hM.old g 1 (by kernel_rfl) _ M
   obtain rfl:=yf y
   go_simp
   exact ⟨_,rfl,l.o.quiet (by decide) (by decide) i.o (yg _ _),Lb.refl _ _,rfl⟩
  |4,_=>
   have d:a.tmps[46]?.getD undef=pV B 20:=hM.dep g 3 46 (by kernel_rfl) (by kernel_rfl)
   obtain ⟨x0,x1,x2,x3⟩:=hc _ l.o.below
   obtain rfl:=yf y
   go_simp
   exact ⟨_,rfl,l.o.quiet (by decide) (by decide) i.o (yg _ _),Lb.refl _ _,rfl⟩
  |5,_=>
   have d:a.tmps[47]?.getD undef=.slice h1.a h1.n h1.c:=hM.dep g 4 47 (by kernel_rfl) (by kernel_rfl)
   have L:=yb (RY (a6 _ l.o.below) a7)
   unfold AA.v at L
   obtain rfl:=yf y
   go_simp
   refine L.o.mono ?_
   rintro e w2 ⟨f,⟨r,m,rfl,F,G⟩|⟨r,rfl⟩⟩
   ·exact ⟨_,rfl,l.o.quiet (by decide) (by decide) i.o f,Lb.below f,m,rfl,yG i.o F,G,r⟩
   exact R _ _ P.o (λt Z=>HF.o t (by simp;omega)) (l.o.below.trans (f.mono i.o)) (λh=>r h.2.1)
  |6,_=>
   have d:=hM.old g 1 (by kernel_rfl) _ M
   obtain rfl:=yf y
   go_simp
   exact ⟨_,rfl,l.o.quiet (by decide) (by decide) i.o (yg _ _),Lb.refl _ _,rfl⟩
  |7,_=>
   have d:a.tmps[49]?.getD undef=pV B 21:=hM.dep g 6 49 (by kernel_rfl) (by kernel_rfl)
   obtain ⟨x0,x1,x2,x3⟩:=hc _ l.o.below
   obtain rfl:=yf y
   go_simp
   exact ⟨_,rfl,l.o.quiet (by decide) (by decide) i.o (yg _ _),Lb.refl _ _,rfl⟩
  |8,_=>
   have d:a.tmps[50]?.getD undef=.slice h2.a h2.n h2.c:=hM.dep g 7 50 (by kernel_rfl) (by kernel_rfl)
   have L:=yb (PY (ad _ l.o.below) a2)
   unfold AA.v at L
   obtain rfl:=yf y
   go_simp
   refine L.o.mono ?_
   rintro e w2 ⟨f,⟨r,m,rfl,F,G⟩|⟨r,rfl⟩⟩
   ·exact ⟨_,rfl,l.o.quiet (by decide) (by decide) i.o f,Lb.below f,m,rfl,yG i.o F,G,r⟩
   exact R _ _ P.o (λt Z=>HF.o t (by simp;omega)) (l.o.below.trans (f.mono i.o)) (λh=>r h.2.2.1)
  |9,_=>
   have d:=hM.old g 1 (by kernel_rfl) _ M
   obtain rfl:=yf y
   go_simp
   exact ⟨_,rfl,l.o.quiet (by decide) (by decide) i.o (yg _ _),Lb.refl _ _,rfl⟩
  |10,_=>
   have d:a.tmps[52]?.getD undef=pV B 22:=hM.dep g 9 52 (by kernel_rfl) (by kernel_rfl)
   obtain ⟨x0,x1,x2,x3⟩:=hc _ l.o.below
   obtain rfl:=yf y
   go_simp
   exact ⟨_,rfl,l.o.quiet (by decide) (by decide) i.o (yg _ _),Lb.refl _ _,rfl⟩
  |11,_=>
   have d:a.tmps[53]?.getD undef=.slice h3.a h3.n h3.c:=hM.dep g 10 53 (by kernel_rfl) (by kernel_rfl)
   have L:=yb (RZ (a8 _ l.o.below) ae)
   unfold AA.v at L
   obtain rfl:=yf y
   go_simp
   refine L.o.mono ?_
   rintro e w2 ⟨f,⟨r,m,rfl,F,G⟩|⟨r,rfl⟩⟩
   ·exact ⟨_,rfl,l.o.quiet (by decide) (by decide) i.o f,Lb.below f,m,rfl,yG i.o F,G,r⟩
   exact R _ _ P.o (λt Z=>HF.o t (by simp;omega)) (l.o.below.trans (f.mono i.o)) (λh=>r h.2.2.2)
  |12,_=>
   have x:listed.getD (16+0) false=false:=by
    rw[yB];intro U
    have:=Ag hM.down 8 16 12 (by kernel_rfl) U
    rw[hM.not_yet g] at this;cases this
   have I:=yb x
   clear x
   obtain rfl:=yf y
   go_simp
   exact ⟨_,rfl,l.o.alloc (q:=0) (by decide) i.o N.o J.o I.o _,Lb.below ((yg _ _).alloc (yi _) _),_,_,rfl,i.o,World.alloc_heap_new _ _⟩
  |13,_=>
   have x:listed.getD (16+1) false=false:=by
    rw[yB];intro U
    have:=Ag hM.down 8 17 13 (by kernel_rfl) U
    rw[hM.not_yet g] at this;cases this
   have I:=yb x
   clear x
   obtain rfl:=yf y
   go_simp
   exact ⟨_,rfl,l.o.alloc (q:=1) (by decide) i.o N.o J.o I.o _,Lb.below ((yg _ _).alloc (yi _) _),_,_,rfl,i.o,World.alloc_heap_new _ _⟩
  |14,_=>
   have x:listed.getD (16+2) false=false:=by
    rw[yB];intro U
    have:=Ag hM.down 8 18 14 (by kernel_rfl) U
    rw[hM.not_yet g] at this;cases this
   have I:=yb x
   clear x
   obtain rfl:=yf y
   go_simp
   exact ⟨_,rfl,l.o.alloc (q:=2) (by decide) i.o N.o J.o I.o _,Lb.below ((yg _ _).alloc (yi _) _),_,_,rfl,i.o,World.alloc_heap_new _ _⟩
  |15,_=>
   have x:listed.getD (16+3) false=false:=by
    rw[yB];intro U
    have:=Ag hM.down 8 19 15 (by kernel_rfl) U
    rw[hM.not_yet g] at this;cases this
   have I:=yb x
   clear x
   obtain rfl:=yf y
   go_simp
   exact ⟨_,rfl,l.o.alloc (q:=3) (by decide) i.o N.o J.o I.o _,Lb.below ((yg _ _).alloc (yi _) _),_,_,rfl,i.o,World.alloc_heap_new _ _⟩
  |16,_=>
   have hb:Jw V.heap.size (a.tmps[4]?.getD undef) w':=hM.dep g 12 4 (by kernel_rfl) (by kernel_rfl)
   have F:G2 V.heap.size (a.tmps[45]?.getD undef) n0s w':=hM.dep g 2 45 (by kernel_rfl) (by kernel_rfl)
   obtain ⟨b,z,X,C,f⟩:=hb
   obtain ⟨m,d2,H,A,E⟩:=F
   have u:∀p,p < 4->listed.getD (16+p) false=true->listed.getD (12+p) false=true:=λp K k=>by
    match p,K with
    |0,_=>exact Ag hM.down 8 16 12 (by kernel_rfl) k
    |1,_=>exact Ag hM.down 8 17 13 (by kernel_rfl) k
    |2,_=>exact Ag hM.down 8 18 14 (by kernel_rfl) k
    |3,_=>exact Ag hM.down 8 19 15 (by kernel_rfl) k
   have D:=yb (l.o.store (q:=0) (m:=m) (by decide) C f (by rw[yI];exact X) A (hM.came g 12 (by kernel_rfl)) u)
   have c1:w'.cell? (aV b 0)=some z:=by simp[World.cell?,f]
   have c2:w'.frozen? (aV b 0)=false:=by simp[World.frozen?,f]
   clear C f H A E u
   obtain rfl:=yf y
   go_simp
   exact ⟨undef,rfl,D.o.1,D.o.2,trivial⟩
  |17,_=>
   have hb:Jw V.heap.size (a.tmps[5]?.getD undef) w':=hM.dep g 13 5 (by kernel_rfl) (by kernel_rfl)
   have F:G2 V.heap.size (a.tmps[48]?.getD undef) n1s w':=hM.dep g 5 48 (by kernel_rfl) (by kernel_rfl)
   obtain ⟨b,z,X,C,f⟩:=hb
   obtain ⟨m,d2,H,A,E⟩:=F
   have u:∀p,p < 4->listed.getD (16+p) false=true->listed.getD (12+p) false=true:=λp K k=>by
    match p,K with
    |0,_=>exact Ag hM.down 8 16 12 (by kernel_rfl) k
    |1,_=>exact Ag hM.down 8 17 13 (by kernel_rfl) k
    |2,_=>exact Ag hM.down 8 18 14 (by kernel_rfl) k
    |3,_=>exact Ag hM.down 8 19 15 (by kernel_rfl) k
   have D:=yb (l.o.store (q:=1) (m:=m) (by decide) C f (by rw[yI];exact X) A (hM.came g 13 (by kernel_rfl)) u)
   have c1:w'.cell? (aV b 0)=some z:=by simp[World.cell?,f]
   have c2:w'.frozen? (aV b 0)=false:=by simp[World.frozen?,f]
   clear C f H A E u
   obtain rfl:=yf y
   go_simp
   exact ⟨undef,rfl,D.o.1,D.o.2,trivial⟩
  |18,_=>
   have hb:Jw V.heap.size (a.tmps[6]?.getD undef) w':=hM.dep g 14 6 (by kernel_rfl) (by kernel_rfl)
   have F:G2 V.heap.size (a.tmps[51]?.getD undef) n2s w':=hM.dep g 8 51 (by kernel_rfl) (by kernel_rfl)
   obtain ⟨b,z,X,C,f⟩:=hb
   obtain ⟨m,d2,H,A,E⟩:=F
   have u:∀p,p < 4->listed.getD (16+p) false=true->listed.getD (12+p) false=true:=λp K k=>by
    match p,K with
    |0,_=>exact Ag hM.down 8 16 12 (by kernel_rfl) k
    |1,_=>exact Ag hM.down 8 17 13 (by kernel_rfl) k
    |2,_=>exact Ag hM.down 8 18 14 (by kernel_rfl) k
    |3,_=>exact Ag hM.down 8 19 15 (by kernel_rfl) k
   have D:=yb (l.o.store (q:=2) (m:=m) (by decide) C f (by rw[yI];exact X) A (hM.came g 14 (by kernel_rfl)) u)
   have c1:w'.cell? (aV b 0)=some z:=by simp[World.cell?,f]
   have c2:w'.frozen? (aV b 0)=false:=by simp[World.frozen?,f]
   clear C f H A E u
   obtain rfl:=yf y
   go_simp
   exact ⟨undef,rfl,D.o.1,D.o.2,trivial⟩
  |19,_=>
   have hb:Jw V.heap.size (a.tmps[7]?.getD undef) w':=hM.dep g 15 7 (by kernel_rfl) (by kernel_rfl)
   have F:G2 V.heap.size (a.tmps[54]?.getD undef) n3s w':=hM.dep g 11 54 (by kernel_rfl) (by kernel_rfl)
   obtain ⟨b,z,X,C,f⟩:=hb
   obtain ⟨m,d2,H,A,E⟩:=F
   have u:∀p,p < 4->listed.getD (16+p) false=true->listed.getD (12+p) false=true:=λp K k=>by
    match p,K with
    |0,_=>exact Ag hM.down 8 16 12 (by kernel_rfl) k
    |1,_=>exact Ag hM.down 8 17 13 (by kernel_rfl) k
    |2,_=>exact Ag hM.down 8 18 14 (by kernel_rfl) k
    |3,_=>exact Ag hM.down 8 19 15 (by kernel_rfl) k
   have D:=yb (l.o.store (q:=3) (m:=m) (by decide) C f (by rw[yI];exact X) A (hM.came g 15 (by kernel_rfl)) u)
   have c1:w'.cell? (aV b 0)=some z:=by simp[World.cell?,f]
   have c2:w'.frozen? (aV b 0)=false:=by simp[World.frozen?,f]
   clear C f H A E u
   obtain rfl:=yf y
   go_simp
   exact ⟨undef,rfl,D.o.1,D.o.2,trivial⟩
 intro listed a w' s hM
 obtain ⟨bl,l1,l2,l3,l4⟩:=hM.ext.full 0 (by decide) (s 16 (show 16 < 20 by omega))
 obtain ⟨bc,c1,c2,c3,c4⟩:=hM.ext.full 1 (by decide) (s 17 (show 17 < 20 by omega))
 obtain ⟨br,r1,r2,r3,r4⟩:=hM.ext.full 2 (by decide) (s 18 (show 18 < 20 by omega))
 obtain ⟨bf,f1,f2,f3,f4⟩:=hM.ext.full 3 (by decide) (s 19 (show 19 < 20 by omega))
 obtain ⟨_,_,_,_,g0⟩:G2 V.heap.size _ n0s w':=hM.done 2 (s 2 (show 2 < 20 by omega)) _ 45 rfl rfl
 obtain ⟨_,_,_,_,g1⟩:G2 V.heap.size _ n1s w':=hM.done 5 (s 5 (show 5 < 20 by omega)) _ 48 rfl rfl
 obtain ⟨_,_,_,_,g2⟩:G2 V.heap.size _ n2s w':=hM.done 8 (s 8 (show 8 < 20 by omega)) _ 51 rfl rfl
 obtain ⟨_,_,_,_,g3⟩:G2 V.heap.size _ n3s w':=hM.done 11 (s 11 (show 11 < 20 by omega)) _ 54 rfl rfl
 exact ac a w' bl bc br bf (hM.tmps.trans hz) hM.defers (S hM) l1 c1 r1 f1 l4 c4 r4 f4 ⟨l2,l3⟩ ⟨c2,c3⟩ ⟨r2,r3⟩ ⟨f2,f3⟩ hM.ext.below ⟨g0,g1,g2,g3⟩
theorem YS{Q:QT}{w V W5:World}{x:AM}{L:BQ}{N M:NP}{bl bc br bf Bf:Nat}(hQ:Mq Q w x)(f:Jm w x W5 L N M bl bc br bf Bf V.heap.size)
 (Y:RL w.heap.size W5 (Tb.of x) (D7 W5 L x) V.heap.size (.cells #[.pointer (some ⟨w.heap.size+1,0,none⟩)] 154) 0 V)(ai:Bf < V.heap.size)(aj:br < V.heap.size)(ak:W5.heap.size=V.heap.size+1)
 (u0 u1 u8 u9 u10 u11 u12 u14 u15 u16 u17 u18 u19 u20 u21 u22 u23 u24 u25 u26 u27 u28 u29 u30 u31 u32 u33 u34 u35 u36 u37 u38 u39 u40 u41 u42 u43 u44 u45 u46 u47 u48 u49 u50 u51 u52 u53 u54 u55 u56 u57 u58 u59 u60 u61 u62 u63 u64 u65 u66 u67 u68 u69 u70 u71 u72 u73 u74 u75 u76 u77 u78 u79 u80 u81 u82 u83 u84 u85 u86 u87 u88 u89 u90 u91 u92 u93 u94 u95 u96 u97 u98 u99 u100 u101 u102 u103 u104 u105 u106 u107 u108 u109 u110 u111 u112 u113 u114 u115 u116 u117 u118 u119 u120 u121 u122 u123 u124 u125 u126 u127 u128 u129 u130 u131 u132 u133 u134 u135 u136 u137 u138 u139 u140 u141 u142 u143 u144 u145 u146 u147 u148 u149 u150 u151 u152 u153 u154 u155 u156 u157 u158 u159 u160 u161 u162 u163 u164 u165 u166 u167 u168 u169 u170 u171 u172 u173:Value):
  Fv 63 prog (Gj 19 (Tryz.f63.body.getD .skip)) Q {tmps:=#[u0,u1,.pointer (some ⟨w.heap.size+1,0,none⟩),.pointer (some ⟨w.heap.size+2,0,none⟩),.pointer (some ⟨bl,0,none⟩),.pointer (some ⟨bc,0,none⟩),.pointer (some ⟨br,0,none⟩),.pointer (some ⟨bf,0,none⟩),u8,u9,u10,u11,u12,.pointer (some ⟨Bf,0,none⟩),u14,u15,u16,u17,u18,u19,u20,u21,u22,u23,u24,u25,u26,u27,u28,u29,u30,u31,u32,u33,u34,u35,u36,u37,u38,u39,u40,u41,u42,u43,u44,u45,u46,u47,u48,u49,u50,u51,u52,u53,u54,u55,u56,u57,u58,u59,u60,u61,u62,u63,u64,u65,u66,u67,u68,u69,u70,u71,u72,u73,u74,u75,u76,u77,u78,u79,u80,u81,u82,u83,u84,u85,u86,u87,u88,u89,u90,u91,u92,u93,u94,u95,u96,u97,u98,u99,u100,u101,u102,u103,u104,u105,u106,u107,u108,u109,u110,u111,u112,u113,u114,u115,u116,u117,u118,u119,u120,u121,u122,u123,u124,u125,u126,u127,u128,u129,u130,u131,u132,u133,u134,u135,u136,u137,u138,u139,u140,u141,u142,u143,u144,u145,u146,u147,u148,u149,u150,u151,u152,u153,u154,u155,u156,u157,u158,u159,u160,u161,u162,u163,u164,u165,u166,u167,u168,u169,u170,u171,u172,u173],defers:=[KJ w.heap.size]} V:=by
 have Z:=f.ls
 have X:w.heap.size+3<=V.heap.size:=by
  obtain ⟨v,he⟩:=f.amid.e
  have h1:=(yd.1 he).1
  rcases xp (w.heap.size+2) V.heap.size with h|h
  ·omega
  have h2:w.heap.size+2=V.heap.size:=by omega
  rw[h2,f.box] at he
  cases he
 have l:L.reaches.ok:=f.ps.reaches.ok
 have T:∀k wr,RL w.heap.size W5 (Tb.of x) (D7 W5 L x) V.heap.size (.cells #[.pointer (some ⟨w.heap.size+1,0,none⟩)] 154) k wr->wr.cell? ⟨w.heap.size+1,21,none⟩=some L.reaches.v:=λk wr h=>by
  rw[<-h.cell (by omega),h.2.cells _ _ (by omega) (GS ⟨_,Z▸f.ps.ty,rfl⟩),<-Z]
  exact f.ps.hreaches
 have H:L.reaches.n<=140737488355328:=l.1
 have a7:L.reaches.n=x.reaches.length:=f.ps.reaches.1
 have s:∀k wr,RL w.heap.size W5 (Tb.of x) (D7 W5 L x) V.heap.size (.cells #[.pointer (some ⟨w.heap.size+1,0,none⟩)] 154) k wr->wr.cell? ⟨Bf,0,none⟩=some (.func (.func 97) #[] #[]):=λk wr h=>by
  rw[<-h.cell ai];exact Mu f.find (by simp) (J9 (by decide)) h.2
 obtain ⟨mr,ad⟩:∃mr,∀k wr,RL w.heap.size W5 (Tb.of x) (D7 W5 L x) V.heap.size (.cells #[.pointer (some ⟨w.heap.size+1,0,none⟩)] 154) k wr->wr.cell? ⟨br,0,none⟩=some (.map (some mr))/\Cl wr mr (x.reaches.map (·.name)):=by
  obtain ⟨m,h1,h2⟩:=f.reaches
  obtain ⟨es,av,h3,_⟩:=h2.size
  have b3:m < V.heap.size:=by
   rcases xp m V.heap.size with h|h
   ·exact h
   have h4:m=V.heap.size:=by have:=h2.lt;omega
   rw[h4,f.box] at h3;cases h3
  refine ⟨m,λk wr h=>⟨?_,?_⟩⟩
  ·rw[<-h.cell aj];exact Mu h1 (by simp) (J9 (by decide)) h.2
  refine h2.block ?_
  rw[<-h.heap b3]
  exact h.2.same m h2.lt (Mt λt ⟨c,hc⟩=>by rw[h3] at hc;cases hc)
 have ab:=yb T;have a1:=yb s;have a2:=yb ad
 have HQ:=yb hQ;have D:=yb f;have b7:=yb X;have au:=yb ak;have HN:=yb a7
 have b0:=yb Y
 have u:Hid (∀k tm wr,RL w.heap.size W5 (Tb.of x) (D7 W5 L x) V.heap.size (.cells #[.pointer (some ⟨w.heap.size+1,0,none⟩)] 154) k wr->JL w.heap.size tm->AU x=170->Q (.panic (Fg 170)) {tmps:=tm,defers:=[KJ w.heap.size]} wr):=yb (λk tm wr h hv I=>by
  have:=hQ.fail tm wr hv (RL.amid f.amid h X) (by rw[I];decide)
  rw[I] at this;exact this)
 have p:=T 0 V Y
 have aa:=f.ps.reaches.2.2
 have aw:=yb aa
 generalize a8:L.reaches=rr at p H a7
 obtain ⟨ra,rn,rc⟩:=rr
 have q:=yb a8
 unfold AA.v at p
 simp only at p H
 clear Z X l T a7 s ad hQ f Y ai aj ak aa a8
 unfold KJ
 refine Aj (Aa ?_)
 go_wp2
 clear p
 go_loopw [91] (λiv wr=>∃i:Nat,iv=.int .i64 i/\i<=rn/\Hid (RL w.heap.size W5 (Tb.of x) (D7 W5 L x) V.heap.size (.cells #[.pointer (some ⟨w.heap.size+1,0,none⟩)] 154) i wr)) (λiv _=>rn - (intOf iv).toNat)
 case atStart=>exact ⟨0,rfl,yC _,b0⟩
 obtain ⟨i,rfl,hi,U⟩:=hrel
 by_cases ah:i < rn
 ·have hl:i < x.reaches.length:=by rw[<-HN.o,q.o];exact ah
  obtain ⟨g,ha,hg,ty,R⟩:=aw.o i hl
  rw[q.o] at ha
  simp only at ha
  subst ha
  have hX:=Si D.o.ps hl (by rw[q.o])
  have b:=zV hX
  have r:=D.o.uok _ b
  have ac:g < V.heap.size:=by
   have h1:=(D.o.hN g hg).2
   rcases xp g V.heap.size with h|h
   ·exact h
   have h4:g=V.heap.size:=by have:=au.o;omega
   obtain ⟨c,hc⟩:=ty
   rw[h4,D.o.box] at hc;cases hc
  have a6:(x.reaches[i].frm.name).size<=maxLen:=r.len
  generalize x.reaches[i].frm.name=nm at hX b r a6
  generalize x.reaches[i].frm.n=un at hX b r
  have HX:=yb hX;have K:=yb b;have S:=yb r;have E:=yb ac;have G:=yb a6
  have ap:(i:Int) < (rn:Int):=by omega
  have b9:Hid (i < (x.reaches.map (·.name)).length):=yb (by rw[zh];exact hl)
  clear hX b r ac a6 hg ty R hl
  by_cases h0:i=0
  ·subst h0
   obtain ⟨c0,⟨z,c1,C⟩,cf⟩:=U.o.read S.o E.o
   simp only[qN,yy] at c0 c1 C
   obtain rfl:=C (by simp)
   have ba:wr.cell? ⟨w.heap.size+1,21,none⟩=some (.slice (some ⟨g,0,none⟩) rn rc):=by
    have h:=ab.o _ _ U.o
    rw[q.o] at h;exact h
   clear cf C
   cases hb:KI (Tb.of x) ⟨g,0*51+1,if (0:Nat)=0 then 0 else 6,(0:Nat),nm,z⟩ with
   |true=>
    have HB:=yb hb
    obtain ⟨al,b4⟩:nm.size=0/\z=0:=by
     have h:=hb
     unfold KI KG at h
     simpa using h
    have az:nm=⟨#[]⟩:=Ql ((Ea nm).1 al)
    clear hb al
    subst b4
    subst az
    go_wp2_with (first|(go_at_call 98;refine (CX _ _).mono ?_;rintro e w5 ⟨rfl,O⟩;obtain rfl:=O.symm))
    exact ⟨⟨1,rfl,by omega,yb (U.o.skip HX.o (by simp) HB.o)⟩,by simp[intOf];omega⟩
   |false=>
    have A:=yb (D.o.bad K.o hb)
    have ae:¬ (nm.size=0/\z=0):=by
     have h:=hb
     unfold KI KG at h
     simpa using h
    have ao:=yb ae
    clear hb ae
    go_wp2_with (first|(exact absurd ⟨(Ea _).2 (by assumption),(by assumption)⟩ ao.o)|(go_at_call 98;refine (CM _ _).mono ?_;rintro e w5 ⟨rfl,O⟩;obtain rfl:=O.symm))
    all_goals first
     |exact u.o _ _ _ U.o ⟨rfl,rfl⟩ A.o
     |fail
  have ag:=yb U.o.drew
  have P:(if i=0 then (0:Int) else 6)=6:=by rw[ym h0]
  have hS:∀W,RL w.heap.size W5 (Tb.of x) (D7 W5 L x) V.heap.size (.cells #[.pointer (some ⟨w.heap.size+1,0,none⟩)] 154) i W->W.cell? ⟨Bf,0,none⟩=some (.func (.func 97) #[] #[])/\W.cell? ⟨w.heap.size+1,21,none⟩=some (.slice (some ⟨g,0,none⟩) rn rc)/\W.cell? ⟨br,0,none⟩=some (.map (some mr)):=λW h=>⟨a1.o _ _ h,by have h:=ab.o _ _ h;rw[q.o] at h;exact h,(a2.o _ _ h).1⟩
  have HS:=yb hS
  have bb:((i:Int)==0)=false:=by simp;omega
  have b8:=yb P
  have J:=yb ah
  cases hb:KI (Tb.of x) ⟨g,i*51+1,if i=0 then 0 else 6,(i:Int),nm,un⟩ with
  |true=>
   have HB:=yb hb
   rw[P] at hb
   obtain ⟨j,hp,hv,af,ay⟩:=GW (to:=6) (by decide) hb
   have d:Hid (∀W,RL w.heap.size W5 (Tb.of x) (D7 W5 L x) V.heap.size (.cells #[.pointer (some ⟨w.heap.size+1,0,none⟩)] 154) i W->Calls prog 97 #[.pointer (some ⟨g,i*51+1,none⟩),.map (some mr),.int .i64 i] W λe w'=>(e=.returned (.tuple #[])/\RL w.heap.size W5 (Tb.of x) (D7 W5 L x) V.heap.size (.cells #[.pointer (some ⟨w.heap.size+1,0,none⟩)] 154) (i+1) w')\/(e=.panicked (Fg 170)/\False)):=yb (λW h=>by
    obtain ⟨c0,⟨z,c1,C⟩,cf⟩:=h.read S.o E.o
    refine (GM (most:=(i:Int)) c0 c1 cf (a2.o _ _ h).2 G.o hp (af rfl)).mono ?_
    rintro e w2 ⟨rfl,rfl⟩
    refine .inl ⟨rfl,?_⟩
    have h:=h.next D.o.uok HX.o E.o (by simp only;rw[P];decide) HB.o
    simp only[P] at h
    rw[show Hu (Tb.of x) (Ew 6) nm=_ from hv] at h
    exact h)
   clear hb hp hv af ay P hS h0
   go_wp2_with fail
   refine Yx (B:=w.heap.size) (Bf:=Bf) (g:=g) (rn:=rn) (rc:=rc) (br:=br) (mr:=mr) (i:=i) (R1:=λW=>RL w.heap.size W5 (Tb.of x) (D7 W5 L x) V.heap.size (.cells #[.pointer (some ⟨w.heap.size+1,0,none⟩)] 154) i W) (R2:=λW=>RL w.heap.size W5 (Tb.of x) (D7 W5 L x) V.heap.size (.cells #[.pointer (some ⟨w.heap.size+1,0,none⟩)] 154) (i+1) W) (R3:=λ_=>False) _ ?_ ?_ ?_ ?_ ?_ ?_ ?_ ?_ ?_ ?_ ?_ ?_
   ·rfl
   ·rfl
   ·rfl
   ·rfl
   ·rfl
   ·rfl
   ·exact J.o
   ·exact ag.o
   ·exact HS.o
   ·exact d.o
   ·exact λ_ _ _ _ h=>h.elim
   intro a W am F y an
   have aq:=yb an
   obtain ⟨v105,v106,v107,v108,v109,v110,v111,v112,v113,rfl⟩:∃v105 v106 v107 v108 v109 v110 v111 v112 v113:Value,a={tmps:=#[u0,u1,.pointer (some ⟨w.heap.size+1,0,none⟩),.pointer (some ⟨w.heap.size+2,0,none⟩),.pointer (some ⟨bl,0,none⟩),.pointer (some ⟨bc,0,none⟩),.pointer (some ⟨br,0,none⟩),.pointer (some ⟨bf,0,none⟩),u8,u9,u10,u11,u12,.pointer (some ⟨Bf,0,none⟩),.int .i64 i,u15,u16,u17,u18,u19,u20,u21,u22,u23,u24,u25,u26,u27,u28,u29,u30,u31,u32,u33,u34,u35,u36,u37,u38,u39,u40,u41,u42,u43,u44,u45,u46,u47,u48,u49,u50,u51,u52,u53,u54,u55,u56,u57,u58,u59,u60,u61,u62,u63,u64,u65,u66,u67,u68,u69,u70,u71,u72,u73,u74,u75,u76,u77,u78,u79,u80,u81,u82,u83,u84,u85,u86,u87,.pointer (some ⟨w.heap.size+1,21,none⟩),.slice (some ⟨g,0,none⟩) rn rc,.int .i64 rn,.int .i64 i,.bool true,.int .i64 i,.int .i64 i,.bool false,u96,u97,u98,u99,u100,u101,u102,u103,u104,v105,v106,v107,v108,v109,v110,v111,v112,v113,u114,u115,u116,u117,u118,u119,u120,u121,u122,u123,u124,u125,u126,u127,u128,u129,u130,u131,u132,u133,u134,u135,u136,u137,u138,u139,u140,u141,u142,u143,u144,u145,u146,u147,u148,u149,u150,u151,u152,u153,u154,u155,u156,u157,u158,u159,u160,u161,u162,u163,u164,u165,u166,u167,u168,u169,u170,u171,u172,u173],defers:=[KJ w.heap.size]}:=by
    refine ⟨a.tmps.getD 105 undef,a.tmps.getD 106 undef,a.tmps.getD 107 undef,a.tmps.getD 108 undef,a.tmps.getD 109 undef,a.tmps.getD 110 undef,a.tmps.getD 111 undef,a.tmps.getD 112 undef,a.tmps.getD 113 undef,(Kg [105,106,107,108,109,110,111,112,113] (am.trans rfl) F (λt ht=>y t ?_)).trans (by kernel_rfl)⟩
    simp at ht;omega
   clear am F y an
   unfold KJ
   go_wp2
   exact ⟨⟨i+1,by push_cast;rfl,by omega,aq⟩,by simp[intOf];omega⟩
  |false=>
   have A:=yb (D.o.bad K.o hb)
   rw[P] at hb
   have hn:=GX (to:=6) (by decide) hb
   have d:Hid (∀W,RL w.heap.size W5 (Tb.of x) (D7 W5 L x) V.heap.size (.cells #[.pointer (some ⟨w.heap.size+1,0,none⟩)] 154) i W->Calls prog 97 #[.pointer (some ⟨g,i*51+1,none⟩),.map (some mr),.int .i64 i] W λe w'=>(e=.returned (.tuple #[])/\False)\/(e=.panicked (Fg 170)/\RL w.heap.size W5 (Tb.of x) (D7 W5 L x) V.heap.size (.cells #[.pointer (some ⟨w.heap.size+1,0,none⟩)] 154) i w')):=yb (λW h=>by
    obtain ⟨c0,⟨z,c1,C⟩,cf⟩:=h.read S.o E.o
    refine (J6 (most:=(i:Int)) c0 (a2.o _ _ h).2 G.o (λj hp=>(hn j hp).2)).mono ?_
    rintro e w2 ⟨rfl,rfl⟩
    exact .inr ⟨rfl,h⟩)
   clear hb hn P hS h0
   go_wp2_with fail
   refine Yx (B:=w.heap.size) (Bf:=Bf) (g:=g) (rn:=rn) (rc:=rc) (br:=br) (mr:=mr) (i:=i) (R1:=λW=>RL w.heap.size W5 (Tb.of x) (D7 W5 L x) V.heap.size (.cells #[.pointer (some ⟨w.heap.size+1,0,none⟩)] 154) i W) (R2:=λ_=>False) (R3:=λW=>RL w.heap.size W5 (Tb.of x) (D7 W5 L x) V.heap.size (.cells #[.pointer (some ⟨w.heap.size+1,0,none⟩)] 154) i W) _ ?_ ?_ ?_ ?_ ?_ ?_ ?_ ?_ ?_ ?_ ?_ ?_
   ·rfl
   ·rfl
   ·rfl
   ·rfl
   ·rfl
   ·rfl
   ·exact J.o
   ·exact ag.o
   ·exact HS.o
   ·exact d.o
   ·intro a W F y hr
    obtain ⟨tm,df⟩:=a
    obtain rfl:df=[KJ w.heap.size]:=F
    exact u.o i tm W hr ⟨(y 2 (by omega)).trans rfl,(y 3 (by omega)).trans rfl⟩ A.o
   exact λ_ _ _ _ _ h=>h.elim
 obtain rfl:i=rn:=by omega
 have ap:decide ((i:Int) < (i:Int))=false:=by simp
 have ax:Hid (Jm w x W5 L N M bl bc br bf Bf wr.heap.size):=yb (by rw[U.o.1];exact D.o)
 have b5:Hid (RJ w.heap.size W5 (Tb.of x) (D7 W5 L x) (FA L x).length (λ_=>False) (wr.alloc (.cells #[.pointer (some ⟨w.heap.size+1,0,none⟩)] 154))):=yb (by
  rw[Mw D.o.ps,<-HN.o,q.o]
  exact U.o.2)
 go_wp2
 exact Zw HQ.o ax.o b5.o _ _ _ _ _ _ _ _ _ _ _ _ _ _ _ _ _ _ _ _ _ _ _ _ _ _ _ _ _ _ _ _ _ _ _ _ _ _ _ _ _ _ _ _ _ _ _ _ _ _ _ _ _ _ _ _ _ _ _ _ _ _ _ _ _ _ _ _ _ _ _ _ _ _ _ _ _ _ _ _ _ _ _ _ _ _ _ _ _ _ _ _ _ _ _ _ _ _ _ _ _ _ _ _ _ _ _ _ _ _ _ _ _ _ _ _ _ _ _ _ _ _ _ _ _ _ _ _ _ _ _ _ _ _ _ _ _ _ _ _ _ _ _ _ _ _ _ _ _ _ _ _ _ _ _ _ _ _ _ _ _ _ _ _ _ _ _
structure Hv (w:World) (x:AM) (L:BQ) (cs:List Value) (N:Nat->Prop) (V:World):Prop where
 amid:Ly w V
 par:V.heap[w.heap.size]?=some (.cells cs.toArray 49 (0,0))
 src:CQ N w L cs x
 hN:∀b,N b->b < w.heap.size
 slim:Nt x
section
variable{w V V' w':World}{x:AM}{L L0:BQ}{cs cs0:LV}{N:NP}
theorem Hv.up(h:Hv w x L cs N V)(hb:Below (w.heap.size+3) V V'):Hv w x L cs N V':=
 ⟨h.amid.up hb,(hb.block _ (by omega)).trans h.par,h.src,h.hN,h.slim⟩
theorem Hv.size(h:Hv w x L cs N V):w.heap.size+3<=V.heap.size:=by
 obtain ⟨v,a⟩:=h.amid.e
 have:=(yd.1 a).1
 omega
theorem Hv.at(h:Hv w x L cs N V):CQ (λb=>b < V.heap.size) V L cs x:=by
 have a:=h.size
 exact h.src.same (λb hb=>by have:=h.hN b hb;omega) (λb hb=>h.amid.below.block b (h.hN b hb))
theorem Hv.len(h:Hv w x L cs N V):cs.length=26:=by
 obtain ⟨c0,c1,c2,rfl,g0,g1,a⟩:=h.src.cells
 obtain ⟨a0,c,rfl,j⟩:=g0.cells
 obtain ⟨b,e,rfl,i⟩:=g1.cells
 obtain ⟨g,f,rfl,d⟩:=a.cells
 rfl
theorem Hv.range(h:Hv w x L cs N V):V.rangeAt w.heap.size 0 cs:=by
 have:=xy h.par 0 cs.length
 simpa using this
theorem P5(W:World){b c:Nat}(row:Array Value)(h:c≠b):(W.setRow b row).heap[c]?=W.heap[c]?:=by
 simp only[World.setRow,yH,ym (xC h)]
theorem Ld(W:World)(b:Nat)(row:Array Value):(W.setRow b row).heap.size=W.heap.size:=by simp[World.setRow]
def Le:Obj:=.cells #[.func (.func 97) #[] #[]] 203
def Tm(b:Nat):Obj:=.cells #[.pointer (some ⟨b,0,none⟩)] 154
theorem YT(h:Hv w x L0 cs0 N V){bl bc br bf:Nat}(h1:BF V bl (x.lets.map (·.name)))(h2:BF V bc (x.crops.map (·.name)))(h3:BF V br (x.reaches.map (·.name)))(Q:BF V bf (x.farms.map (·.name)))
 (hf:C4 x=true)(hw:AU x=if E3 (Tb.of x) x&&D6 (Tb.of x) x then 0 else 170)
 (n:cs.length=26)(hb:Below V.heap.size V w')(hs:L.s=V.heap.size)(hr:w'.rangeAt L.s 0 cs)(G:Cz (λg=>V.heap.size<=g/\g≠V.heap.size+1) (ET (λg=>V.heap.size+2<=g) w') (RV w') w' L x):
  Jm w x (((w'.setRow (w.heap.size+1) cs.toArray).alloc Le).alloc (Tm (w.heap.size+1))) {L with s:=w.heap.size+1} (λg=>(V.heap.size<=g/\g≠V.heap.size+1/\g < w'.heap.size)\/g=w.heap.size+1) (λg=>V.heap.size+2<=g/\g < w'.heap.size) bl bc br bf w'.heap.size (w'.heap.size+1):=by
 have X:=h.size
 have K:=hb.size
 obtain ⟨row,H,v⟩:=h.amid.x
 obtain ⟨R,F⟩:=h.amid.e
 have U:w'.heap[w.heap.size+1]?=some (.cells row 49 (0,0)):=(hb.block _ (by omega)).trans v
 generalize m:((w'.setRow (w.heap.size+1) cs.toArray).alloc Le).alloc (Tm (w.heap.size+1))=W5
 have a:(w'.setRow (w.heap.size+1) cs.toArray).heap.size=w'.heap.size:=Ld _ _ _
 have O:W5.heap.size=w'.heap.size+2:=by rw[<-m];simp[a]
 have l:∀b,b < w'.heap.size->b≠w.heap.size+1->W5.heap[b]?=w'.heap[b]?:=λb f k=>by
  rw[<-m,yp _ _ _ (by simp[a];omega),yp _ _ _ (by rw[a];omega),P5 _ _ k]
 have z:W5.heap[w.heap.size+1]?=some (.cells cs.toArray 49 (0,0)):=by
  rw[<-m,yp _ _ _ (by simp[a];omega),yp _ _ _ (by rw[a];omega)]
  exact setRow_heap _ _ _ _ _ _ U
 have S:W5.heap[w'.heap.size]?=some Le:=by
  rw[<-m,yp _ _ _ (by simp[a])]
  have:=World.alloc_heap_new (w'.setRow (w.heap.size+1) cs.toArray) Le
  rwa [a] at this
 have J:W5.heap[w'.heap.size+1]?=some (Tm (w.heap.size+1)):=by
  rw[<-m]
  have:=World.alloc_heap_new ((w'.setRow (w.heap.size+1) cs.toArray).alloc Le) (Tm (w.heap.size+1))
  have B:((w'.setRow (w.heap.size+1) cs.toArray).alloc Le).heap.size=w'.heap.size+1:=by simp[a]
  rwa [B] at this
 have E:W5.os=w'.os/\W5.tape=w'.tape/\W5.output=w'.output:=by rw[<-m];exact ⟨rfl,rfl,rfl⟩
 clear m a
 have u:Below w.heap.size w W5:=by
  have h0:=h.amid.below.trans (hb.mono (by omega))
  exact ⟨E.1.trans h0.os,E.2.1.trans h0.tape,E.2.2.trans h0.output,by omega,λb f=>(l b (by omega) (by omega)).trans (h0.block b f)⟩
 have i:∀(c:Nat) (o:Obj),V.heap[c]?=some o->(∀row:Array Value,o≠Obj.cells row 49 (0,0))->W5.heap[c]?=V.heap[c]?:=λc o hc D=>by
  have f:=(yd.1 hc).1
  have k:c≠w.heap.size+1:=λe=>by
   rw[e,v] at hc
   exact D row (yf hc).symm
  rw[l c (by omega) k,hb.block c f]
 have j:∀q,q < 26->W5.cell? (aV (w.heap.size+1) q)=W5.cell? (aV L.s q):=λq T=>by
  have P:W5.cell? (aV L.s q)=w'.cell? (aV L.s q):=Ar (l _ G.ty.lt (by omega))
  have I:=hr q cs[q] (yk (by omega))
  rw[yy] at I
  rw[P,I]
  simp[World.cell?,z,n,T]
 refine ⟨⟨u,⟨_,by simp[n],z⟩,⟨R,(l _ (by omega) (by omega)).trans ((hb.block _ (by omega)).trans F)⟩⟩,h1.same i,h2.same i,h3.same i,Q.same i,S,J,?_,λg hg=>?_,λg hg=>?_,.inr rfl,rfl,hf,hw⟩
 ·have M:Cz (λg=>V.heap.size<=g/\g≠V.heap.size+1/\g < w'.heap.size) (ET (λg=>V.heap.size+2<=g) w') (RV w') w' L x:=G.ren λg t hg A _ _=>⟨hg.1,hg.2,A.lt⟩
  have p:∀b,(V.heap.size<=b/\b≠V.heap.size+1/\b < w'.heap.size)\/b=L.s->W5.heap[b]?=w'.heap[b]?:=λb d=>by
   rcases d with d|rfl
   ·exact l b d.2.2 (by omega)
   exact l _ G.ty.lt (by omega)
  have W:Cz (λg=>V.heap.size<=g/\g≠V.heap.size+1/\g < w'.heap.size) (ET (λg=>V.heap.size+2<=g/\g < w'.heap.size) W5) (RV W5) W5 L x:=by
   refine M.imp (λb t d A=>A.same (p b d)) (λb o d _=>Ar (p b d)) (λlt e b o d _ C=>?_) (λto r b o d _ y=>⟨y.1,(Ar (p b d)).trans y.2.1,(Ar (p b d)).trans y.2.2⟩)
   obtain ⟨c,c1,c2⟩:=C
   exact ⟨c,A8 c1 (p b d),c2.same (λg hg f=>⟨hg,f⟩) (λg hg f=>l g f (by omega))⟩
  exact (W.moved ⟨_,z⟩ j (λlt e o D C=>VU j lt e o D C)).ren λg t hg _ _ _=>.inl hg
 ·rcases hg with hg|rfl
  ·exact ⟨by omega,by omega⟩
  exact ⟨by omega,by omega⟩
 exact ⟨by omega,by omega⟩
end
theorem BF.lt{W:World}{b:Nat}{a:LB}(h:BF W b a):b < W.heap.size:=by
 obtain ⟨m,h1,_⟩:=h
 exact (yd.1 h1).1
theorem YU{Q:QT}{w V:World}{x:AM}{L:BQ}{cs:LV}{N:NP}{bl bc br bf:Nat}(hQ:Mq Q w x)(g:Hv w x L cs N V)
 (h1:BF V bl (x.lets.map (·.name)))(h2:BF V bc (x.crops.map (·.name)))(h3:BF V br (x.reaches.map (·.name)))(h4:BF V bf (x.farms.map (·.name)))
 (hf:C4 x=true)(hw:AU x=if E3 (Tb.of x) x&&D6 (Tb.of x) x then 0 else 170)
 (u0 u8 u9 dr bv dl dg e0 cz db eh ew bt cp cr cj ey e3 e4 cg dm f2 eb cc cl cv dx d5 dt cx dy eg co bu e9 ek e6 dj f0 ce cf c9 e5 dc d9 f3 cq dw du ck d6 es de en e1 ee ei c8 dv dh e2 dz ed cn ex et cw ez ea d1 ca cy ef el dk cd ec da ev ep bq f1 ej cb d2 d0 eo ch f4 dd di ci bw G bn E q ag bo bj bd Z t j ay ap J ai M bg b7 A bi u ab aa ac a6 T b8 ao ae b9 n W b0 s ax v y z ak m X O ad aq k a7 S B au bk bh U H bb aw an bp b4 av P a1 a8 R af a2 F i b3 bm az be p r D:Value):
  Fv 63 prog (Gj 17 (Tryz.f63.body.getD .skip)) Q {tmps:=#[u0,.pointer (some ⟨w.heap.size,0,none⟩),.pointer (some ⟨w.heap.size+1,0,none⟩),.pointer (some ⟨w.heap.size+2,0,none⟩),.pointer (some ⟨bl,0,none⟩),.pointer (some ⟨bc,0,none⟩),.pointer (some ⟨br,0,none⟩),.pointer (some ⟨bf,0,none⟩),u8,u9,dr,bv,dl,dg,e0,cz,db,eh,ew,bt,cp,cr,cj,ey,e3,e4,cg,dm,f2,eb,cc,cl,cv,dx,d5,dt,cx,dy,eg,co,bu,e9,ek,e6,dj,f0,ce,cf,c9,e5,dc,d9,f3,cq,dw,du,ck,d6,es,de,en,e1,ee,ei,c8,dv,dh,e2,dz,ed,cn,ex,et,cw,ez,ea,d1,ca,cy,ef,el,dk,cd,ec,da,ev,ep,bq,f1,ej,cb,d2,d0,eo,ch,f4,dd,di,ci,bw,G,bn,E,q,ag,bo,bj,bd,Z,t,j,ay,ap,J,ai,M,bg,b7,A,bi,u,ab,aa,ac,a6,T,b8,ao,ae,b9,n,W,b0,s,ax,v,y,z,ak,m,X,O,ad,aq,k,a7,S,B,au,bk,bh,U,H,bb,aw,an,bp,b4,av,P,a1,a8,R,af,a2,F,i,b3,bm,az,be,p,r,D],defers:=[KJ w.heap.size]} V:=by
 have e7:Hid ((prog.info? 49).map (·.size)=some cs.length):=yb (by rw[g.len];kernel_rfl)
 have am:=yb g.range
 have d7:=yb g.at
 have HQ:=yb hQ;have HP:=yb g
 have em:=yb h1;have cm:=yb h2;have I:=yb h3;have dn:=yb h4;have HF:=yb hf;have HW:=yb hw
 obtain ⟨row,c,hx⟩:=g.amid.x
 have HX:=yb hx;have Y:=yb c;have HZ:=yb g.size
 clear hQ g h1 h2 h3 h4 hf hw c hx
 unfold KJ
 refine Aj (Aa ?_)
 go_upto_region 25 with fail
 refine qt ?_
 refine yj rfl 49 _ rfl w.heap.size 0 rfl cs _ am.o jq rfl e7.o ?_
 refine yZ rfl λK hK=>?_
 go_simp
 refine (Se d7.o (λ_ h=>h) HP.o.slim).mono ?_
 rintro e w2 ⟨L2,a,rfl,l,b,f,ah,ba,al⟩
 have dp:=yb ((f.block _ (by have:=HZ.o;omega)).trans HX.o)
 have d:=yb l;have C:=yb (yL b);have b5:=yb f;have dq:=yb ah;have d8:=yb ba;have er:=yb al
 clear l b f ah ba al
 refine hK _ _ ?_
 clear hK K
 refine yt rfl 49 _ _ rfl (w.heap.size+1) a.toArray rfl rfl 49 row dp.o (by rw[yA,d.o];kernel_rfl) (by simp[d.o,Y.o]) C.o ?_
 refine qQ ?_
 simp only[]
 refine Aj (Aa ?_)
 go_wp2
 have HC:=YT HP.o em.o cm.o I.o dn.o HF.o HW.o d.o b5.o dq.o d8.o er.o
 have eu:(w2.setRow (w.heap.size+1) a.toArray).heap.size=w2.heap.size:=Ld _ _ _
 have aj:((w2.setRow (w.heap.size+1) a.toArray).alloc Le).heap.size=w2.heap.size+1:=by simp[eu]
 have f5:=b5.o.size
 have f6:=I.o.lt
 rw[<-aj] at HC
 exact YS (V:=(w2.setRow (w.heap.size+1) a.toArray).alloc Le) (Bf:=w2.heap.size) HQ.o HC ⟨rfl,RJ.start _ _ _ _⟩ (by omega) (by omega) (by simp) _ _ _ _ _ _ _ _ _ _ _ _ _ _ _ _ _ _ _ _ _ _ _ _ _ _ _ _ _ _ _ _ _ _ _ _ _ _ _ _ _ _ _ _ _ _ _ _ _ _ _ _ _ _ _ _ _ _ _ _ _ _ _ _ _ _ _ _ _ _ _ _ _ _ _ _ _ _ _ _ _ _ _ _ _ _ _ _ _ _ _ _ _ _ _ _ _ _ _ _ _ _ _ _ _ _ _ _ _ _ _ _ _ _ _ _ _ _ _ _ _ _ _ _ _ _ _ _ _ _ _ _ _ _ _ _ _ _ _ _ _ _ _ _ _ _ _ _ _ _ _ _ _ _ _ _ _ _ _ _ _ _ _ _ _ _ _
theorem VW{α:Type}{w:World}{sz j:Nat}{f:α->ByteArray}{h:AA}{l:List α}(h1:h.n=l.length)(h2:l.length<=140737488355328)
 (h3:∀i (hi:i < l.length),∃b o cs,h.a=some ⟨b,o,none⟩/\b < w.heap.size/\cs.length=sz/\w.rangeAt b (o+i*sz) cs/\(∀v∈cs,v.oneCell'=true)/\cs[j]?=some (.string (f l[i]))/\(f l[i]).size<=maxLen):BH w h sz j (l.map f):=by
 refine ⟨by rw[zh];exact h1,by rw[zh];exact h2,λi hi=>?_⟩
 have c:i < l.length:=by simpa using hi
 obtain ⟨b,o,cs,m,e,p,d,q,k,g⟩:=h3 i c
 rw[xg]
 exact ⟨b,o,cs,m,e,p,d,q,k,g⟩
theorem Oo{α:Type}{N:NP}{w:World}{sz j:Nat}{P:LV->α->Prop}{f:α->ByteArray}{h:AA}{l:List α}(hr:Bg N w sz P h l)(hN:∀b,N b->b < w.heap.size)
 (g:∀cs d,P cs d->(∀v∈cs,v.oneCell'=true)/\cs[j]?=some (.string (f d))/\(f d).size<=maxLen):BH w h sz j (l.map f):=by
 obtain ⟨h1,h2,h3⟩:=hr
 refine VW h1 h2 λi hi=>?_
 obtain ⟨b,o,cs,k,c,m,a,n⟩:=h3 i hi
 obtain ⟨q1,q2,e⟩:=g _ _ n
 exact ⟨b,o,cs,k,hN b c,m,a,q1,q2,e⟩
structure Zz (w:World) (L:BQ) (x:AM):Prop where
 lets:BH w L.lets 7 0 (x.lets.map (·.name))
 crops:BH w L.crops 7 0 (x.crops.map (·.name))
 reaches:BH w L.reaches 51 0 (x.reaches.map (·.name))
 farms:BH w L.farms 12 0 (x.farms.map (·.name))
 rots:BH w L.rots 23 0 (x.rots.map (·.name))
 rights:BH w L.rights 37 1 (x.rights.map (·.name))
 duties:BH w L.duties 11 0 (x.duties.map (·.name))
theorem CQ.nms{N:NP}{w:World}{L:BQ}{cs:LV}{x:AM}(h:CQ N w L cs x)(hN:∀b,N b->b < w.heap.size):Zz w L x:=by
 refine ⟨Oo h.lets hN λcs d hd=>⟨Ta cs d hd,?_⟩,Oo h.crops hN λcs d hd=>⟨Q0 cs d hd,?_⟩,Oo h.reaches hN λcs d hd=>⟨Oc cs d hd,?_⟩,Oo h.farms hN λcs d hd=>⟨Q1 cs d hd,?_⟩,?_,Oo h.rights hN λcs d hd=>⟨Od cs d hd,?_⟩,Oo h.duties hN λcs d hd=>⟨Q2 cs d hd,?_⟩⟩
 ·obtain ⟨h1,c,rfl,_⟩:=hd;exact ⟨rfl,h1⟩
 ·obtain ⟨h1,c,rfl,_⟩:=hd;exact ⟨rfl,h1⟩
 ·obtain ⟨h1,_,c0,c1,c2,c3,c4,c5,c6,c7,rfl,_⟩:=hd;exact ⟨rfl,h1⟩
 ·obtain ⟨h1,_,_,c,rfl,_⟩:=hd;exact ⟨rfl,h1⟩
 ·obtain ⟨h1,h2,h3⟩:=h.rots
  refine VW h1 h2 λi hi=>?_
  obtain ⟨b,o,cs,g,f,j,e,a⟩:=h3 i hi
  have k:=M9 a
  obtain ⟨q1,_,c0,c1,c2,rfl,_⟩:=a
  exact ⟨b,o,_,g,hN b f,j,e,k,rfl,q1⟩
 ·obtain ⟨h1,_,_,c0,c1,c2,c3,c4,rfl,_⟩:=hd;exact ⟨rfl,h1⟩
 obtain ⟨h1,_,_,c,rfl,_⟩:=hd;exact ⟨rfl,h1⟩
theorem BH.up{w w':World}{h:AA}{sz j:Nat}{a:LB}(hr:BH w h sz j a)(hb:Below w.heap.size w w'):BH w' h sz j a:=by
 obtain ⟨h1,h2,h3⟩:=hr
 refine ⟨h1,h2,λi hi=>?_⟩
 obtain ⟨b,o,cs,e,c,f,d,g⟩:=h3 i hi
 exact ⟨b,o,cs,e,yx c hb.size,f,A8 d (hb.block b c),g⟩
structure Tn (L:BQ) (x:AM) (c:Nat->Option Value):Prop where
 name:c 0=some (.string x.name)
 lets:c 19=some L.lets.v
 crops:c 20=some L.crops.v
 reaches:c 21=some L.reaches.v
 farms:c 22=some L.farms.v
 rots:c 23=some L.rots.v
 rights:c 24=some L.rights.v
 duties:c 25=some L.duties.v
theorem CQ.at{N:NP}{w:World}{L:BQ}{cs:LV}{x:AM}(h:CQ N w L cs x):Tn L x (cs[·]?):=by
 obtain ⟨c0,c1,c2,rfl,g0,g1,a⟩:=h.cells
 obtain ⟨a0,b,rfl,c⟩:=g0.cells
 obtain ⟨f,d,rfl,e⟩:=g1.cells
 obtain ⟨j,i,rfl,g⟩:=a.cells
 exact ⟨rfl,rfl,rfl,rfl,rfl,rfl,rfl,rfl⟩
theorem Hv.cells{w V:World}{x:AM}{L:BQ}{cs:LV}{N:NP}(h:Hv w x L cs N V):Tn L x (λq=>V.cell? ⟨w.heap.size,q,none⟩):=by
 have e:∀q,V.cell? (aV w.heap.size q)=cs[q]?:=λq=>by simp[World.cell?,h.par]
 have:=h.src.at
 simp only[e]
 exact this
def Gl(B:Nat)(w:World)(v:Value)(l:LB):Prop:=w.ownsRow B 9 1 v l.length (l.map .string)/\∀s∈l,s.size<=maxLen
theorem Ui(B:Nat)(w:World):Gl B w (.slice none 0 0) []:=⟨⟨rfl,.inl ⟨rfl,rfl⟩⟩,by simp⟩
theorem Gl.up{B:Nat}{w w':World}{v:Value}{l:LB}(h:Gl B w v l)(hb:Below w.heap.size w w'):Gl B w' v l:=by
 obtain ⟨⟨h1,h2⟩,h0⟩:=h
 refine ⟨⟨h1,h2.imp id ?_⟩,h0⟩
 rintro ⟨g,cap,cur,h3,b,a,c⟩
 exact ⟨g,cap,cur,h3,b,(hb.block g (yd.1 a).1).trans a,c⟩
theorem Qp{B:Nat}{a w w':World}{v:Value}{l:LB}(c:Below B a w)(h:B<=w.heap.size)(d:Gl B w v l)(hg:w.grownBy w' v.ownBlock):Below B a w':=by
 refine c.trans ⟨hg.os,hg.tape,hg.output,hg.size,λb hb=>hg.block b (by omega) (λe=>?_)⟩
 rcases d.1.2 with ⟨rfl,_⟩|⟨g,cap,cur,rfl,f,_⟩
 ·cases e
 simp only[Value.ownBlock,zs] at e
 omega
theorem Gl.nm{B:Nat}{w:World}{v:Value}{l:LB}(h:Gl B w v l)(d:l.length<=140737488355328):∃h:AA,v=h.v/\BH w h 1 0 l:=by
 obtain ⟨⟨h1,⟨rfl,h2⟩|⟨g,cap,cur,rfl,f,a,k,j,e,c⟩⟩,h0⟩:=h
 ·obtain rfl:=zL.1 h2
  exact ⟨⟨none,0,0⟩,rfl,rfl,by simp,λi hi=>absurd hi (by simp)⟩
 refine ⟨⟨some (aV g 0),l.length,cap⟩,rfl,rfl,d,λi hi=>⟨g,0,[.string l[i]],rfl,(yd.1 a).1,rfl,?_,by simp[Value.oneCell'],rfl,h0 _ (yR hi)⟩⟩
 refine Co ?_
 have b:(l.map Value.string)[i]?=some (.string l[i]):=by simp[hi]
 rw[<-c,xO,yz (by omega)] at b
 simp only[World.cell?,a]
 simpa using b
theorem GZ{ops:Array Oper}{rest:List Oper}{o:Oper}{a:Act}{Q:QT}{W:World}(B:Nat)(g:o.guard=none)(s x:Operand)(C:o.op=.call {callee:=.builtin .append,args:=#[s,x],argTypes:=#[178,178]})
 (v:Value)(l:LB)(hs:a.eval s=v)(d:Gl B W v l)(b c:Nat)(k:ByteArray)(D:a.eval x=.slice (some ⟨b,0,none⟩) 1 c)(hb:W.heap[b]?=some (.cells #[.string k] 9 (0,0)))(A:k.size<=maxLen)(n:l.length+1<=1000000)(f:B<=W.heap.size)
 (h:∀(p:Option Addr) (c:Nat) w',Gl B w' (.slice p (l.length+1) c) (l++[k])->W.grownBy w' v.ownBlock->wpList prog ops Q rest (a.put o.dst (.slice p (l.length+1) c)) w'):wpList prog ops Q (o::rest) a W:=by
 refine yZ g λK y=>?_
 have e:(prog.info? 9).map (λi=>(i.zero,i.size,i.bytes))=some (some (.string ⟨#[]⟩),1,16):=by kernel_rfl
 obtain ⟨G,hi,q,t,r⟩:=info_parts e
 have F:Ce W (.slice (some (aV b 0)) 1 c) 1 1 [.string k]:=by
  refine ⟨rfl,by simp[Value.oneCell'],_,_,rfl,.inr ⟨b,0,rfl,(yd.1 hb).1,λj u w=>?_⟩⟩
  cases j with
  |zero=>cases w;simp[World.cell?,hb]
  |succ j=>simp at w
 have z:=Ig (ops:=#[]) (E:=True) (Q:=Q) (K:=K) (o:=o) underlying178 hi q t r rfl (by decide) (by decide) B g s x C v l.length _ hs d.1 _ 1 [.string k] D F n f (λp c w' hw hg=>y _ _ (h p c w' ⟨by
  rw[yn,xx]
  exact hw,λu m=>by
  rcases yO.1 m with m|m
  ·exact d.2 u m
  rw[zu.1 m];exact A⟩ hg))
 rwa [yz (by simp[Region.wanted,g])] at z
theorem Jy{α:Type}{l:List α}{i:Nat}(h:i < l.length):l.take i++[l[i]]=l.take (i+1):=(yP h).symm
theorem VX{f:FuncId}{args:Array Value}{w:World}{a:LB}(h:Calls prog f args w (F3 w a))(c:a.Nodup):Calls prog f args w λe w'=>(∃m,e=.returned (.map (some m)))/\Below w.heap.size w w':=
 h.mono λe w' b=>by
  obtain ⟨h1,⟨_,m,h2,_⟩|⟨h2,_⟩⟩:=b
  ·exact ⟨⟨m,h2⟩,h1⟩
  exact absurd c h2
theorem Yy{f:FuncId}{args:Array Value}{w:World}{a:LB}(h:Calls prog f args w (F3 w a))(c:¬ a.Nodup):Calls prog f args w λe w'=>e=.panicked (Fg 171)/\Below w.heap.size w w':=
 h.mono λe w' b=>by
  obtain ⟨h1,⟨h2,_⟩|⟨_,h2⟩⟩:=b
  ·exact absurd h2 c
  exact ⟨h2,h1⟩
end Go.Proofs.YtbdfinegbjdblaaGreatDoor
namespace Go.Proofs.YtbdfinegbjdblaaGreatDoor
open Go.RowKit Tryz
theorem BF.up{V W:World}{b:Nat}{a:LB}(h:BF V b a)(hb:Below V.heap.size V W):BF W b a:=
 h.same λc _ hc _=>hb.block c (yd.1 hc).1
theorem ZA{Q:QT}{w V:World}{x:AM}{L:BQ}{cs:LV}{N:NP}{bl bc br bf:Nat}(hQ:Mq Q w x)(hP:Hv w x L cs N V)
 (h1:BF V bl (x.lets.map (·.name)))(h2:BF V bc (x.crops.map (·.name)))(h3:BF V br (x.reaches.map (·.name)))(h4:BF V bf (x.farms.map (·.name)))
 (hf:C4 x=true)(hw:AU x=if (DQ x).Nodup/\(x.duties.map (·.name)).Nodup then (if E3 (Tb.of x) x&&D6 (Tb.of x) x then 0 else 170) else 171)
 (u0 u8 u9 f3 dm f0 ev fd eh er fx gj dk ea ec e3 gl fg fh e0 f1 gq fp dv e5 ed f8 el f4 ef f9 fw e9 dl fl g2 fk ey gn dy dz dq fj es eo gs eb f7 f5 e4 em gb eu g7 fe fu fy dp f6 ew ff fa ft e7 gk gh ee gm fm ek dr eg fv g3 ez dx fq ep gi ga dj gp fz dt en ej g8 e1 dw et ex e2 dn b9 dg b7 ap cg dh dc d6 bq av ak cv cl bd ch be d8 d0 b3 db ay ca c9 cb bv bm d1 cj cd d2 an bo cx au cq az aw b0 ci am bp bg cc cm al bw bj b4 cn dd da bn ba d5 cp ck di cz co bh bt c8 bi ce bu b8 aj cy de cw d7 ao aq b5:Value):
  Fv 63 prog (Gj 12 (Tryz.f63.body.getD .skip)) Q {tmps:=#[u0,.pointer (some ⟨w.heap.size,0,none⟩),.pointer (some ⟨w.heap.size+1,0,none⟩),.pointer (some ⟨w.heap.size+2,0,none⟩),.pointer (some ⟨bl,0,none⟩),.pointer (some ⟨bc,0,none⟩),.pointer (some ⟨br,0,none⟩),.pointer (some ⟨bf,0,none⟩),u8,u9,f3,dm,f0,ev,fd,eh,er,fx,gj,dk,ea,ec,e3,gl,fg,fh,e0,f1,gq,fp,dv,e5,ed,f8,el,f4,ef,f9,fw,e9,dl,fl,g2,fk,ey,gn,dy,dz,dq,fj,es,eo,gs,eb,f7,f5,e4,em,gb,eu,g7,fe,fu,fy,dp,f6,ew,ff,fa,ft,e7,gk,gh,ee,gm,fm,ek,dr,eg,fv,g3,ez,dx,fq,ep,gi,ga,dj,gp,fz,dt,en,ej,g8,e1,dw,et,ex,e2,dn,b9,dg,b7,ap,cg,dh,dc,d6,bq,av,ak,cv,cl,bd,ch,be,d8,d0,b3,db,ay,ca,c9,cb,bv,bm,d1,cj,cd,d2,an,bo,cx,au,cq,az,aw,b0,ci,am,bp,bg,cc,cm,al,bw,bj,b4,cn,dd,da,bn,ba,d5,cp,ck,di,cz,co,bh,bt,c8,bi,ce,bu,b8,aj,cy,de,cw,d7,ao,aq,b5],defers:=[KJ w.heap.size]} V:=by
 have ai:=yb (hP.at.nms λ_ h=>h)
 have K:=yb hP.cells
 have HZ:Hid (w.heap.size < V.heap.size):=yb (by have:=hP.size;omega)
 have HQ:=yb hQ;have HP:=yb hP;have t:=yb hP.slim
 have g5:=yb h1;have e6:=yb h2;have ei:=yb h3;have f2:=yb h4;have HF:=yb hf;have HW:=yb hw
 have U:Hid (∀tm wr,JL w.heap.size tm->Below V.heap.size V wr->¬ ((DQ x).Nodup/\(x.duties.map (·.name)).Nodup)->Q (.panic (Fg 171)) {tmps:=tm,defers:=[KJ w.heap.size]} wr):=yb (λtm wr hv hb hn=>by
  rw[ym hn] at hw
  have:=hQ.fail tm wr hv (hP.up (hb.mono hP.size)).amid (by rw[hw];decide)
  rw[hw] at this;exact this)
 have P:Hid (Gl V.heap.size V (.slice none 0 0) ([]++(x.rots.map (λd:Bq=>d.name)).take 0)):=yb (Ui _ _)
 have J:=yb (yg V.heap.size V)
 have hc:V.cell? (aV w.heap.size 23)=some (.slice L.rots.a L.rots.n L.rots.c):=hP.cells.rots
 have j:=ai.o.rots
 generalize L.rots=rr at hc j
 obtain ⟨ra,rn,rc⟩:=rr
 have g:=yb j.2.2
 have l:=yb j.1
 have gw:rn<=140737488355328:=by have:=j.1;have:=j.2.1;simp only at*;omega
 simp only at hc g l
 clear hQ hP h1 h2 h3 h4 hf hw j
 unfold KJ
 iterate 2
  refine Aj (Aa ?_)
  go_wp2
 clear hc
 go_loopw [8,58] (λv8 iv wr=>∃i:Nat,i<=rn/\iv=iV i/\Hid (Gl V.heap.size wr v8 ([]++(x.rots.map (λd:Bq=>d.name)).take i))/\Hid (Below V.heap.size V wr)) (λ_ iv _=>rn - (intOf iv).toNat)
 case atStart=>exact ⟨0,yC _,rfl,P,J⟩
 case round=>
  clear P J
  obtain ⟨i,hi,rfl,HO,C⟩:=hrel
  by_cases R:i < rn
  ·obtain ⟨b,o,f,ha,hb,s,M,y,D,H⟩:=g.o i (by rw[<-l.o];exact R)
   subst ha
   have HL:=yb s
   have aa:=yb (A8 M (C.o.block b hb))
   have O:=yb (yL y)
   have a2:Hid ((prog.info? 56).map (·.size)=some f.length):=yb (by rw[s];kernel_rfl)
   have Y:Hid ((prog.info? 56).map (·.size)=some f.toArray.size):=yb (by rw[yA];exact a2.o)
   have G:i < (x.rots.map (λd:Bq=>d.name)).length:=by rw[<-l.o];exact R
   generalize a1:(x.rots.map (λd:Bq=>d.name))[i]=A at D H
   have du:(wr.alloc (.cells f.toArray 56)).cell? (aV wr.heap.size 0)=some (.string A):=by
    have h:=World.alloc_heap_new wr (.cells f.toArray 56)
    simp only[World.cell?,h]
    simpa using D
   have E:Hid (Below wr.heap.size wr ((wr.alloc (.cells f.toArray 56)).alloc (.cells #[.string A] 9))):=yb (((yg _ _).alloc (yi _) _).alloc (by simp) _)
   have F:=yb (HO.o.up E.o)
   have af:=yb (C.o.trans (E.o.mono C.o.size))
   have S:Hid (((wr.alloc (.cells f.toArray 56)).alloc (.cells #[.string A] 9)).heap[wr.heap.size+1]?=some (.cells #[.string A] 9 (0,0))):=yb (by
    have h:=World.alloc_heap_new (wr.alloc (.cells f.toArray 56)) (.cells #[.string A] 9)
    simpa using h)
   have ah:=yb H
   have u:Hid (([]++(x.rots.map (λd:Bq=>d.name)).take i).length+1<=1000000):=yb (by
    have h1:=t.o.rots;have h2:=t.o.rights
    simp only[yn,zM,zh,yK] at G |-
    omega)
   have k:Hid (V.heap.size<=((wr.alloc (.cells f.toArray 56)).alloc (.cells #[.string A] 9)).heap.size):=yb (yG C.o.size E.o.size)
   have q:Hid (([]++(x.rots.map (λd:Bq=>d.name)).take i)++[A]=[]++(x.rots.map (λd:Bq=>d.name)).take (i+1)):=yb (by
    rw[yX,<-a1,Jy G])
   have W:(i:Int) < (rn:Int):=by omega
   generalize ag:[]++(x.rots.map (λd:Bq=>d.name)).take i=ls at HO F u q
   clear s M y D H G a1 ag hb
   go_wp2_with (first|(refine yj rfl 56 _ rfl b (o+i*23) rfl f _ aa.o jt rfl a2.o ?_)|(refine yt rfl 56 _ _ rfl wr.heap.size f.toArray rfl rfl 56 _ (World.alloc_heap_new _ _) Y.o (by simp[HL.o]) O.o ?_;rw[World.setRow_alloc_new])|(at_builtin;refine GZ V.heap.size rfl _ _ rfl u8 ls rfl F.o (wr.heap.size+1) 1 A rfl S.o ah.o u.o k.o ?_;intro ad c w5 r Z;have ae:=yb r;have ab:=yb (Qp af.o k.o F.o Z);clear r Z))
   exact ⟨⟨i+1,by omega,by push_cast;rfl,yb (by rw[<-q.o];exact ae.o),ab⟩,by simp[intOf];omega⟩
  obtain rfl:i=rn:=by omega
  have W:decide ((i:Int) < (i:Int))=false:=by simp
  have T:Hid (Gl V.heap.size wr u8 (x.rots.map (λd:Bq=>d.name)++(x.rights.map (λd:Bj=>d.name)).take 0)):=yb (by
   have h:=HO.o
   rw[l.o,zA] at h
   simpa using h)
  clear HO g l
  go_wp2
  have hc:wr.cell? (aV w.heap.size 24)=some (.slice L.rights.a L.rights.n L.rights.c):=(C.o.cell (p:=(aV w.heap.size 24)) HZ.o).trans K.o.rights
  have j:=ai.o.rights
  generalize L.rights=rr at hc j
  obtain ⟨ra,rn,rc⟩:=rr
  have g:=yb j.2.2
  have l:=yb j.1
  have g6:rn<=140737488355328:=by have:=j.1;have:=j.2.1;simp only at*;omega
  simp only at hc g l
  clear j W
  refine Aj (Aa ?_)
  go_wp2
  clear hc
  obtain ⟨wo,rfl⟩:∃z:World,z=wr:=⟨_,rfl⟩
  obtain ⟨vo,rfl⟩:∃z:Value,z=u8:=⟨_,rfl⟩
  have P:=T
  have J:=C
  clear T C
  go_loopw [8,71] (λv8 iv wr=>∃i:Nat,i<=rn/\iv=iV i/\Hid (Gl V.heap.size wr v8 ((x.rots.map (λd:Bq=>d.name))++(x.rights.map (λd:Bj=>d.name)).take i))/\Hid (Below V.heap.size V wr)) (λ_ iv _=>rn - (intOf iv).toNat)
  case atStart=>exact ⟨0,yC _,rfl,P,J⟩
  clear P J
  obtain ⟨i,hi,rfl,HO,C⟩:=hrel
  by_cases R:i < rn
  ·obtain ⟨b,o,f,ha,hb,s,M,y,D,H⟩:=g.o i (by rw[<-l.o];exact R)
   subst ha
   have HL:=yb s
   have aa:=yb (A8 M (C.o.block b hb))
   have O:=yb (yL y)
   have a2:Hid ((prog.info? 127).map (·.size)=some f.length):=yb (by rw[s];kernel_rfl)
   have Y:Hid ((prog.info? 127).map (·.size)=some f.toArray.size):=yb (by rw[yA];exact a2.o)
   have G:i < (x.rights.map (λd:Bj=>d.name)).length:=by rw[<-l.o];exact R
   generalize a1:(x.rights.map (λd:Bj=>d.name))[i]=A at D H
   have du:(wr.alloc (.cells f.toArray 127)).cell? (aV wr.heap.size 1)=some (.string A):=by
    have h:=World.alloc_heap_new wr (.cells f.toArray 127)
    simp only[World.cell?,h]
    simpa using D
   have E:Hid (Below wr.heap.size wr ((wr.alloc (.cells f.toArray 127)).alloc (.cells #[.string A] 9))):=yb (((yg _ _).alloc (yi _) _).alloc (by simp) _)
   have F:=yb (HO.o.up E.o)
   have af:=yb (C.o.trans (E.o.mono C.o.size))
   have S:Hid (((wr.alloc (.cells f.toArray 127)).alloc (.cells #[.string A] 9)).heap[wr.heap.size+1]?=some (.cells #[.string A] 9 (0,0))):=yb (by
    have h:=World.alloc_heap_new (wr.alloc (.cells f.toArray 127)) (.cells #[.string A] 9)
    simpa using h)
   have ah:=yb H
   have u:Hid (((x.rots.map (λd:Bq=>d.name))++(x.rights.map (λd:Bj=>d.name)).take i).length+1<=1000000):=yb (by
    have h1:=t.o.rots;have h2:=t.o.rights
    simp only[yn,zM,zh] at G |-
    omega)
   have k:Hid (V.heap.size<=((wr.alloc (.cells f.toArray 127)).alloc (.cells #[.string A] 9)).heap.size):=yb (yG C.o.size E.o.size)
   have q:Hid (((x.rots.map (λd:Bq=>d.name))++(x.rights.map (λd:Bj=>d.name)).take i)++[A]=(x.rots.map (λd:Bq=>d.name))++(x.rights.map (λd:Bj=>d.name)).take (i+1)):=yb (by
    rw[yX,<-a1,Jy G])
   have W:(i:Int) < (rn:Int):=by omega
   generalize ag:(x.rots.map (λd:Bq=>d.name))++(x.rights.map (λd:Bj=>d.name)).take i=ls at HO F u q
   clear s M y D H G a1 ag hb
   go_wp2_with (first|(refine yj rfl 127 _ rfl b (o+i*37) rfl f _ aa.o j0 rfl a2.o ?_)|(refine yt rfl 127 _ _ rfl wr.heap.size f.toArray rfl rfl 127 _ (World.alloc_heap_new _ _) Y.o (by simp[HL.o]) O.o ?_;rw[World.setRow_alloc_new])|(at_builtin;refine GZ V.heap.size rfl _ _ rfl u8 ls rfl F.o (wr.heap.size+1) 1 A rfl S.o ah.o u.o k.o ?_;intro ad c w5 r Z;have ae:=yb r;have ab:=yb (Qp af.o k.o F.o Z);clear r Z))
   exact ⟨⟨i+1,by omega,by push_cast;rfl,yb (by rw[<-q.o];exact ae.o),ab⟩,by simp[intOf];omega⟩
  obtain rfl:i=rn:=by omega
  have W:decide ((i:Int) < (i:Int))=false:=by simp
  have T:Hid (Gl V.heap.size wr u8 (DQ x)):=yb (by
   have h:=HO.o
   rw[l.o,zA] at h
   exact h)
  clear HO g l
  go_wp2
  have cf:(DQ x).length<=100000:=by
   obtain ⟨_,_,_,_,h1,h2,_⟩:=G0 HF.o
   unfold DQ
   simp only[yn,zh]
   omega
  obtain ⟨⟨sa,sn,sc⟩,ac,bk⟩:=T.o.nm (by omega)
  unfold AA.v at ac
  simp only at ac
  subst ac
  have d9:=yb bk
  have ax:=yb cf
  have bb:Hid ((x.duties.map (·.name)).length<=100000):=yb (by rw[zh];exact t.o.duties)
  clear T bk cf W
  by_cases a8:(DQ x).Nodup
  ·have HR:=yb a8
   clear a8
   refine Aj (Aa ?_)
   go_wp2_with (first|(go_at_call 94;refine (VX (O9 (h:=⟨sa,sn,sc⟩) d9.o ax.o) HR.o).mono ?_;rintro e w2 ⟨⟨m,rfl⟩,X⟩;have B:=yb (C.o.trans (X.mono C.o.size));clear X))
   have hc:w2.cell? (aV w.heap.size 25)=some (.slice L.duties.a L.duties.n L.duties.c):=(B.o.cell (p:=(aV w.heap.size 25)) HZ.o).trans K.o.duties
   have cr:=yb (ai.o.duties.up B.o)
   by_cases a7:(x.duties.map (·.name)).Nodup
   ·have HD:=yb a7
    clear a7
    refine Aj (Aa ?_)
    go_wp2_with (first|(go_at_call 95;refine (VX (Mg cr.o bb.o) HD.o).mono ?_;rintro e w3 ⟨⟨m3,rfl⟩,a6⟩;have I:=yb (B.o.trans (a6.mono B.o.size));clear a6))
    exact YU HQ.o (HP.o.up (I.o.mono HP.o.size)) (g5.o.up I.o) (e6.o.up I.o) (ei.o.up I.o) (f2.o.up I.o) HF.o (by rw[HW.o,yz ⟨HR.o,HD.o⟩]) _ _ _ _ _ _ _ _ _ _ _ _ _ _ _ _ _ _ _ _ _ _ _ _ _ _ _ _ _ _ _ _ _ _ _ _ _ _ _ _ _ _ _ _ _ _ _ _ _ _ _ _ _ _ _ _ _ _ _ _ _ _ _ _ _ _ _ _ _ _ _ _ _ _ _ _ _ _ _ _ _ _ _ _ _ _ _ _ _ _ _ _ _ _ _ _ _ _ _ _ _ _ _ _ _ _ _ _ _ _ _ _ _ _ _ _ _ _ _ _ _ _ _ _ _ _ _ _ _ _ _ _ _ _ _ _ _ _ _ _ _ _ _ _ _ _ _ _ _ _ _ _ _ _ _ _ _ _ _ _ _ _ _ _ _ _ _
   have HD:=yb a7
   clear a7
   refine Aj (Aa ?_)
   go_wp2_with (first|(go_at_call 95;refine (Yy (Mg cr.o bb.o) HD.o).mono ?_;rintro e w3 ⟨rfl,a6⟩;have I:=yb (B.o.trans (a6.mono B.o.size));clear a6))
   exact U.o _ _ ⟨rfl,rfl⟩ I.o (λh=>HD.o h.2)
  have HR:=yb a8
  clear a8
  refine Aj (Aa ?_)
  go_wp2_with (first|(go_at_call 94;refine (Yy (O9 (h:=⟨sa,sn,sc⟩) d9.o ax.o) HR.o).mono ?_;rintro e w2 ⟨rfl,X⟩;have B:=yb (C.o.trans (X.mono C.o.size));clear X))
  exact U.o _ _ ⟨rfl,rfl⟩ B.o (λh=>HR.o h.1)
 end Go.Proofs.YtbdfinegbjdblaaGreatDoor
namespace Go.Proofs.YtbdfinegbjdblaaGreatDoor
open Go.RowKit Tryz
theorem ZB{Q:QT}{w V:World}{x:AM}{L:BQ}{cs:LV}{N:NP}(hQ:Mq Q w x)(hP:Hv w x L cs N V)
 (hf:C4 x=true)(hw:AU x=if ID x then (if E3 (Tb.of x) x&&D6 (Tb.of x) x then 0 else 170) else 171)
 (u0 u4 u5 u6 u7 u8 u9 da bp d8 d2 di co cz dx e9 bn ch cj cc eb dl dm c9 d9 ee dq bw ce ck dg cv db cm dh dw cg bo dn dz f1 ey f3 es et er f0 ex ew f4 eu ez dc cd cw e5 d1 e2 dj du dy bt dd d5 dk de dt cf ea e6 cl ec dp cr bu cn dv e0 d7 c8 dr cy e7 e4 bm ed e1 bv cx cq e3 ca ef d0 d6 cb bq F bg D m ad bh bb b0 U s f ao ai H ae I b8 aw z ba u a7 a6 a8 Z P ax ah aa ay j S aq q an v r y af i T J ab aj g a1 O A ak bd b9 R G az am ag bi av al K X a2 M ac Y E d au be ap b3 l n C:Value):
  Fv 63 prog (Gj 11 (Tryz.f63.body.getD .skip)) Q {tmps:=#[u0,.pointer (some ⟨w.heap.size,0,none⟩),.pointer (some ⟨w.heap.size+1,0,none⟩),.pointer (some ⟨w.heap.size+2,0,none⟩),u4,u5,u6,u7,u8,u9,da,bp,d8,d2,di,co,cz,dx,e9,bn,ch,cj,cc,eb,dl,dm,c9,d9,ee,dq,bw,ce,ck,dg,cv,db,cm,dh,dw,cg,bo,dn,dz,f1,ey,f3,es,et,er,f0,ex,ew,f4,eu,ez,dc,cd,cw,e5,d1,e2,dj,du,dy,bt,dd,d5,dk,de,dt,cf,ea,e6,cl,ec,dp,cr,bu,cn,dv,e0,d7,c8,dr,cy,e7,e4,bm,ed,e1,bv,cx,cq,e3,ca,ef,d0,d6,cb,bq,F,bg,D,m,ad,bh,bb,b0,U,s,f,ao,ai,H,ae,I,b8,aw,z,ba,u,a7,a6,a8,Z,P,ax,ah,aa,ay,j,S,aq,q,an,v,r,y,af,i,T,J,ab,aj,g,a1,O,A,ak,bd,b9,R,G,az,am,ag,bi,av,al,K,X,a2,M,ac,Y,E,d,au,be,ap,b3,l,n,C],defers:=[KJ w.heap.size]} V:=by
 have bk:=yb (hP.at.nms λ_ h=>h)
 have b:=yb hP.cells
 have HZ:Hid (w.heap.size < V.heap.size):=yb (by have:=hP.size;omega)
 have HQ:=yb hQ;have HP:=yb hP;have c:=yb hP.slim
 have HF:=yb hf;have HW:=yb hw
 have cp:Hid (∀tm wr,JL w.heap.size tm->Below V.heap.size V wr->¬ ID x->Q (.panic (Fg 171)) {tmps:=tm,defers:=[KJ w.heap.size]} wr):=yb (λtm wr hv hb hn=>by
  rw[ym hn] at hw
  have:=hQ.fail tm wr hv (hP.up (hb.mono hP.size)).amid (by rw[hw];decide)
  rw[hw] at this;exact this)
 clear hQ hP hf hw
 unfold KJ
 refine Aj (Aa ?_)
 go_wp2_with fail
 refine Zy (B:=w.heap.size) (h0:=L.lets) (h1:=L.crops) (h2:=L.reaches) (h3:=L.farms) (n0s:=x.lets.map (·.name)) (n1s:=x.crops.map (·.name)) (n2s:=x.reaches.map (·.name)) (n3s:=x.farms.map (·.name)) _ ?_ ?_ ?_ ?_ ?_ ?_ ?_ ?_ ?_ ?_ ?_ ?_ ?_ ?_
 ·rfl
 ·rfl
 ·rfl
 ·exact λW hb=>⟨(hb.cell (p:=(aV w.heap.size 19)) HZ.o).trans b.o.lets,(hb.cell (p:=(aV w.heap.size 20)) HZ.o).trans b.o.crops,(hb.cell (p:=(aV w.heap.size 21)) HZ.o).trans b.o.reaches,(hb.cell (p:=(aV w.heap.size 22)) HZ.o).trans b.o.farms⟩
 ·exact λW hb=>bk.o.lets.up hb
 ·exact λW hb=>bk.o.crops.up hb
 ·exact λW hb=>bk.o.reaches.up hb
 ·exact λW hb=>bk.o.farms.up hb
 ·rw[zh];exact c.o.lets
 ·rw[zh];exact c.o.crops
 ·rw[zh];exact c.o.reaches
 ·rw[zh];exact c.o.farms
 ·intro a W ci bj hb hn
  obtain ⟨tm,df⟩:=a
  obtain rfl:df=[KJ w.heap.size]:=ci
  exact cp.o tm W ⟨(bj 2 (by omega)).trans rfl,(bj 3 (by omega)).trans rfl⟩ hb (λh=>hn ⟨h.1,h.2.1,h.2.2.1,h.2.2.2.1⟩)
 intro a W bl bc br bf ev ci bj g4 g5 g6 g7 m4 m5 m6 m7 b4 b5 b6 b7 hb hn
 have e:a={tmps:=#[u0,pV w.heap.size 0,pV (w.heap.size+1) 0,pV (w.heap.size+2) 0,(a.tmps.getD 4 undef),(a.tmps.getD 5 undef),(a.tmps.getD 6 undef),(a.tmps.getD 7 undef),u8,u9,da,bp,d8,d2,di,co,cz,dx,e9,bn,ch,cj,cc,eb,dl,dm,c9,d9,ee,dq,bw,ce,ck,dg,cv,db,cm,dh,dw,cg,bo,dn,dz,(a.tmps.getD 43 undef),(a.tmps.getD 44 undef),(a.tmps.getD 45 undef),(a.tmps.getD 46 undef),(a.tmps.getD 47 undef),(a.tmps.getD 48 undef),(a.tmps.getD 49 undef),(a.tmps.getD 50 undef),(a.tmps.getD 51 undef),(a.tmps.getD 52 undef),(a.tmps.getD 53 undef),(a.tmps.getD 54 undef),dc,cd,cw,e5,d1,e2,dj,du,dy,bt,dd,d5,dk,de,dt,cf,ea,e6,cl,ec,dp,cr,bu,cn,dv,e0,d7,c8,dr,cy,e7,e4,bm,ed,e1,bv,cx,cq,e3,ca,ef,d0,d6,cb,bq,F,bg,D,m,ad,bh,bb,b0,U,s,f,ao,ai,H,ae,I,b8,aw,z,ba,u,a7,a6,a8,Z,P,ax,ah,aa,ay,j,S,aq,q,an,v,r,y,af,i,T,J,ab,aj,g,a1,O,A,ak,bd,b9,R,G,az,am,ag,bi,av,al,K,X,a2,M,ac,Y,E,d,au,be,ap,b3,l,n,C],defers:=[KJ w.heap.size]}:=(Kg [4,5,6,7,43,44,45,46,47,48,49,50,51,52,53,54] (ev.trans rfl) ci (λt ht=>bj t ht)).trans (by kernel_rfl)
 rw[g4,g5,g6,g7] at e
 obtain ⟨ep,ek,eo,v46,ej,eh,el,eg,v51,en,em,ei,rfl⟩:∃ep ek eo v46 ej eh el eg v51 en em ei:Value,a={tmps:=#[u0,pV w.heap.size 0,pV (w.heap.size+1) 0,pV (w.heap.size+2) 0,pV bl 0,pV bc 0,pV br 0,pV bf 0,u8,u9,da,bp,d8,d2,di,co,cz,dx,e9,bn,ch,cj,cc,eb,dl,dm,c9,d9,ee,dq,bw,ce,ck,dg,cv,db,cm,dh,dw,cg,bo,dn,dz,ep,ek,eo,v46,ej,eh,el,eg,v51,en,em,ei,dc,cd,cw,e5,d1,e2,dj,du,dy,bt,dd,d5,dk,de,dt,cf,ea,e6,cl,ec,dp,cr,bu,cn,dv,e0,d7,c8,dr,cy,e7,e4,bm,ed,e1,bv,cx,cq,e3,ca,ef,d0,d6,cb,bq,F,bg,D,m,ad,bh,bb,b0,U,s,f,ao,ai,H,ae,I,b8,aw,z,ba,u,a7,a6,a8,Z,P,ax,ah,aa,ay,j,S,aq,q,an,v,r,y,af,i,T,J,ab,aj,g,a1,O,A,ak,bd,b9,R,G,az,am,ag,bi,av,al,K,X,a2,M,ac,Y,E,d,au,be,ap,b3,l,n,C],defers:=[KJ w.heap.size]}:=⟨_,_,_,_,_,_,_,_,_,_,_,_,e⟩
 have f2:AU x=if (DQ x).Nodup/\(x.duties.map (·.name)).Nodup then (if E3 (Tb.of x) x&&D6 (Tb.of x) x then 0 else 170) else 171:=by
  rw[HW.o]
  by_cases h:ID x
  ·rw[yz h];exact (yz ⟨h.2.2.2.2.1,h.2.2.2.2.2⟩).symm
  rw[ym h];exact (ym (λk=>h ⟨hn.1,hn.2.1,hn.2.2.1,hn.2.2.2,k.1,k.2⟩)).symm
 exact ZA HQ.o (HP.o.up (hb.mono HP.o.size)) m4 m5 m6 m7 HF.o f2 _ _ _ _ _ _ _ _ _ _ _ _ _ _ _ _ _ _ _ _ _ _ _ _ _ _ _ _ _ _ _ _ _ _ _ _ _ _ _ _ _ _ _ _ _ _ _ _ _ _ _ _ _ _ _ _ _ _ _ _ _ _ _ _ _ _ _ _ _ _ _ _ _ _ _ _ _ _ _ _ _ _ _ _ _ _ _ _ _ _ _ _ _ _ _ _ _ _ _ _ _ _ _ _ _ _ _ _ _ _ _ _ _ _ _ _ _ _ _ _ _ _ _ _ _ _ _ _ _ _ _ _ _ _ _ _ _ _ _ _ _ _ _ _ _ _ _ _ _ _ _ _ _ _ _ _ _ _ _ _ _ _ _ _ _ _ _
end Go.Proofs.YtbdfinegbjdblaaGreatDoor
