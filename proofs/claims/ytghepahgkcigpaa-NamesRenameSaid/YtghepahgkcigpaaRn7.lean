/- Parts of the proof, in short words: Ra Rb Rc Rd Re Rf Rg Ri Rk Rm Yc Yd Yf Yp Yj Rh Rs Rj -/
import Derived.Test.YtghepahgkcigpaaRn0
import Derived.Test.YtghepahgkcigpaaRn5
import Derived.Test.YtghepahgkcigpaaRn6
import Derived.Test.YtghepahgkcigpaaRn4
import Derived.BigFrameIn
import Derived.Test.YtghepahgkcigpaaRn3
set_option maxRecDepth 100000
set_option maxHeartbeats 16000000
set_option linter.unusedSimpArgs false
namespace Go.Proofs.Ytghepahgkcigpaa
open Go.RowKit
structure Tb where
 lets:List ByteArray
 crops:List ByteArray
 reaches:List ByteArray
 farms:List ByteArray
def Tb.of(x:Am):Tb:=⟨x.lets.map (·.name),x.crops.map (·.name),x.reaches.map (·.name),x.farms.map (·.name)⟩
def Tb.tab(t:Tb)(c:Int):LB:=if c=3 then t.crops else if c=4 then t.reaches else if c=6 then t.reaches else if c=5 then t.farms else t.lets
def Db(to:Int):Int:=if to=2 then 1 else to
def early(to:Int):Bool:=decide (to=2)||decide (to=6)
def Hl(t:Tb)(to at_:Int)(r:Rf):Bool:=
 if to=0 then decide (r.name.size=0∧r.n=0) else match AR (t.tab (Db to)) r.name with
  |some i=>!early to||decide ((i:Int) < at_)
  |none=>false
def Gg(t:Tb)(c:Int)(s:ByteArray):Int:=match AR (t.tab c) s with
 |some i=>(i:Int)
 |none=>0
def gT(t:Tb)(to:Int)(r:Rf):Rf:=if to=0 then r else {r with n:=Gg t (Db to) r.name}
mutual
def Jc(t:Tb):Ex->Ex
 |.mk op n u rn ri args=>.mk op n u rn (if op=2 then Gg t 1 rn else ri) (Hn t args)
def Hn(t:Tb):List Ex->List Ex
 |[]=> []
 |e::r=>Jc t e::Hn t r
end
theorem NM(t:Tb):∀l:List Ex,Hn t l=l.map (Jc t)
 |[]=>rfl
 |e::r=>by rw[Hn,NM t r];rfl
def fT(t:Tb)(_:Int)(e:Ex):Ex:=if CQ e then e else Jc t e
mutual
def T6(t:Tb)(lt:Int):Ex->Bool
 |.mk op _ _ rn ri args=>ND op args.length&&(Hl t (Kt op lt) (Om op lt) ⟨rn,ri⟩&&Re t lt args)
def Re(t:Tb)(lt:Int):List Ex->Bool
 |[]=>true
 |e::r=>T6 t lt e&&Re t lt r
end
def AP(t:Tb)(e:KD):Bool:=CQ e.1||T6 t e.2 e.1
def Jd(t:Tb)(d:Bd):Bool:=Hl t 4 0 d.on&&Hl t (if d.river then 0 else 3) 0 d.crop
def LG(t:Tb)(d:B6):Bool:=Hl t 4 0 d.on&&d.turns.all fun k=>Hl t 5 0 k.farm
def Ho(t:Tb)(d:AG):Bool:=Hl t 5 0 d.farm&&Hl t (if d.kind=1 then 0 else 4) 0 d.reach
def Je(t:Tb)(d:BR):Bool:=Hl t 5 0 d.farm&&Hl t 4 0 d.reach
def CV(t:Tb)(x:Am):Bool:=(AN x).all (AP t)&&(Co x&&(x.farms.all (Jd t)&&(x.rots.all (LG t)&&(x.rights.all (Ho t)&&x.duties.all (Je t)))))
def Hp(t:Tb)(p:At × Nat):Bool:=Hl t (if p.2=0 then 0 else 6) p.2 p.1.frm
def Dp(t:Tb)(x:Am):Bool:=x.reaches.zipIdx.all (Hp t)
def B9(x:Am):Bool:=Ju x&&(Gl x.rots&&Es x)
def CH(x:Am):LB:=x.rots.map (·.name)++x.rights.map (·.name)
def Cs(x:Am):Bool:=AH x.name&&((x.lets.map (·.name)).all AH&&((x.crops.map (·.name)).all AH&&((x.reaches.map (·.name)).all AH&&((x.farms.map (·.name)).all AH&&((x.rots.map (·.name)).all AH&&((x.rights.map (·.name)).all AH&&(x.duties.map (·.name)).all AH))))))
def Eu(x:Am):Prop:=(x.lets.map (·.name)).Nodup∧(x.crops.map (·.name)).Nodup∧(x.reaches.map (·.name)).Nodup∧(x.farms.map (·.name)).Nodup∧(CH x).Nodup∧(x.duties.map (·.name)).Nodup
instance (x:Am):Decidable (Eu x):=by unfold Eu;infer_instance
def Ab(x:Am):Am:=x.mp (fT (Tb.of x)) (gT (Tb.of x))
def Ay(x:Am):Int:=
 if B9 x then (if Cs x then (if Eu x then (if Dp (Tb.of x) x&&CV (Tb.of x) x then 0 else 170) else 171) else 170) else 2
def Kb(t:Tb)(u:Us):Bool:=Hl t u.to u.at_ ⟨u.name,u.n⟩
def Jy(t:Tb)(p:List Us × Bool):Prop:=p.2=true∧∀u∈p.1,Kb t u=true
theorem OS(t:Tb):∀l:List (List Us × Bool),Jy t (BY l)↔∀p∈l,Jy t p
 |[]=>by simp[Jy,BY]
 |x::r=>by
  have ih:=OS t r
  simp only[xd,<-ih]
  have e:BY (x::r)=if x.2 then (x.1++(BY r).1,(BY r).2) else (x.1,false):=rfl
  rw[e]
  unfold Jy
  by_cases h:x.2=true
  ·simp only[h,zX,yi,xW]
   constructor
   ·rintro ⟨h1,h2⟩;exact ⟨fun u a=>h2 u (.inl a),h1,fun u a=>h2 u (.inr a)⟩
   ·rintro ⟨h1,h2,h3⟩;exact ⟨h2,fun u a=>a.elim (h1 u) (h3 u)⟩
  ·simp[h]
mutual
theorem MZ(t:Tb){w:World}{C:Addr->Prop}(lt:Int):∀(e:Ex) (b o:Nat),S5 w C e b o->(Jy t (Cx w lt e b o)↔T6 t lt e=true)
 |.mk op n u rn ri args,b,o,h=>by
  rw[S5] at h
  obtain ⟨a,cap,h1,h2,h3,h4⟩:=h
  rw[Cx,T6]
  by_cases hs:ND op args.length=true
  ·rw[yw hs,hs,h2.1]
   have ih:=N0 t lt args a args.length cap 0 h4
   unfold Jy at ih ⊢
   simp only[xd,xP,yv,<-ih,Kb]
   constructor
   ·rintro ⟨c,f,d⟩;exact ⟨f,c,d⟩
   ·rintro ⟨f,c,d⟩;exact ⟨c,f,d⟩
  ·rw[yu hs]
   simp[Jy,hs]
theorem N0(t:Tb){w:World}{C:Addr->Prop}(lt:Int):∀(l:List Ex) (a:Option Addr) (n cap i:Nat),KE w C a i l->(Jy t (BN w lt l (some (.slice a n cap)) i)↔Re t lt l=true)
 |[],a,n,cap,i,h=>by simp[BN,Re,Jy]
 |e::r,a,n,cap,i,h=>by
  rw[KE] at h
  obtain ⟨⟨b,o,rfl,h1⟩,h2⟩:=h
  have m:=MZ t lt e b (o+i*6) h1
  have k:=N0 t lt r (some ⟨b,o,none⟩) n cap (i+1) h2
  rw[BN,Re,yv,<-m,<-k]
  unfold Jy
  by_cases g:(Cx w lt e b (o+i*6)).2=true
  ·simp only[g,zX,xW,yi]
   constructor
   ·rintro ⟨f,d⟩;exact ⟨fun u c=>d u (.inl c),f,fun u c=>d u (.inr c)⟩
   ·rintro ⟨f,d,j⟩;exact ⟨d,fun u c=>c.elim (f u) (j u)⟩
  ·simp[g]
end
theorem OT{α β γ:Type}{R:α->β->Prop}{f:α->β->γ}{p:γ->Prop}{q:β->Prop}(h:∀a b,R a b->(p (f a b)↔q b)):∀ {l:List α} {m:List β},Az R l m->((∀c∈List.zipWith f l m,p c)↔∀b∈m,q b)
 |[],[],_=>by simp
 |a::l,b::m,hA=>by
  rw[Az] at hA
  simp only[xX,xd,h a b hA.1,OT h hA.2]
 |[],b::m,hA=>by simp[Az] at hA
 |a::l,[],hA=>by simp[Az] at hA
theorem TL{N:NP}{w:World}{C D:Addr->Prop}(t:Tb)(a:Array Value)(e:KD)(h:WN N w C D a e):Jy t (CO w a e)↔AP t e=true:=by
 obtain ⟨b,o,cs,rfl,_,_,c,_⟩:=h
 unfold CO AP
 by_cases hl:CQ e.1=true
 ·simp[hl,Jy]
 ·rw[yu hl,qh,or_iff_right hl]
  exact MZ t e.2 e.1 b o c
theorem Sk{f:Nat->List Us}{n:Nat}{p:Us->Prop}:(∀u∈(List.range n).flatMap f,p u)↔∀i,i < n->∀u∈f i,p u:=by
 constructor
 ·intro h i hi u a;exact h u (yQ.2 ⟨i,z6.2 hi,a⟩)
 ·intro h u a
  obtain ⟨i,hi,a⟩:=yQ.1 a
  exact h i (z6.1 hi) u a
theorem GS{α:Type}{l:List α}{n:Nat}(a:n=l.length){f:Nat->List Us}{p:Us->Prop}{q:α->Bool}(h:∀i (hi:i < l.length),(∀u∈f i,p u)↔q l[i]=true):(∀u∈(List.range n).flatMap f,p u)↔l.all q=true:=by
 rw[Sk,yO]
 constructor
 ·intro k d hd
  obtain ⟨i,hi,rfl⟩:=zg.1 hd
  exact (h i hi).1 (k i (by omega))
 ·intro k i hi
  exact (h i (by omega)).2 (k _ (yz (by omega)))
theorem GU{N:NP}{w:World}{C D:Addr->Prop}{Bu:Nat}{L:Bw}{x:Am}(t:Tb)(h:Lr N w C D Bu L x):Jy t (Cp w L x)↔CV t x=true:=by
 unfold Cp EU CV
 rw[OS]
 simp only[yi,zh,or_imp,forall_and,forall_eq,yv]
 refine and_congr ?_ ?_
 ·rw[yO]
  exact OT (TL t) h.top
 ·unfold Jy
  simp only
  refine and_congr_right fun hk=>?_
  rw[yw hk]
  unfold CD
  simp only[yi,or_imp,forall_and]
  rw[GS h.nfarms (q:=Jd t) fun i hi=>?_,GS h.nrots (q:=LG t) fun i hi=>?_,GS h.nrights (q:=Ho t) fun i hi=>?_,GS h.nduties (q:=Je t) fun i hi=>?_]
  ·simp only[and_assoc]
  ·unfold Er;rw[yk hi];simp[Je,Kb,Dv]
  ·unfold Dn;rw[yk hi];simp[Ho,Kb,Dv]
  ·unfold Hi;rw[yk hi]
   simp only[xd,LG,yv,Kb,Dv]
   refine and_congr Iff.rfl ?_
   refine GS (h.nturns i hi) fun k hk=>?_
   unfold FF;rw[yk hk];simp[Dv]
  ·unfold EO;rw[yk hi];simp[Jd,Kb,Dv]
def OU(W:World)(b:Nat):Nat:=match W.heap[b]? with
 |some (.cells _ t _)=>t
 |_=>0
theorem Ev{W:World}{b t:Nat}(h:Ty W b t):OU W b=t:=by
 obtain ⟨c,e⟩:=h
 unfold OU;rw[e]
def FH(W:World)(b o:Nat):Int:=
 if Gj (OU W b) (o+1)=1 then (match W.cell? ⟨b,o - 3,none⟩ with
  |some (.int _ z)=>if z=2 then 1 else 0
  |_=>0)
 else if OU W b=51 then (if o < 51 then 0 else 6)
 else if OU W b=59 then (if o % 12=1 then 4 else match W.cell? ⟨b,o - 7,none⟩ with
  |some (.bool r)=>if r then 0 else 3
  |_=>3)
 else if OU W b=64 then 4
 else if OU W b=66 then 5
 else if OU W b=68 then (if o % 37=2 then 5 else match W.cell? ⟨b,o - 4,none⟩ with
  |some (.int _ z)=>if z=1 then 0 else 4
  |_=>4)
 else (if o % 11=1 then 5 else 4)
def WR(t q:Nat):Prop:=Gj t q=2∨(Gj t q=1∧GL t q=4)
def Jf(B:Nat)(W:World)(b q:Nat):Prop:=B<=b∧∃o t,q=o+1∧Ty W b t∧WR t (o+1)∧FH W b o≠0
structure Oo (B:Nat) (W:World) (u:Us):Prop where
 base:B<=u.b
 t:∃t,Ty W u.b t∧WR t (u.o+1)∧¬ WR t u.o
 name:W.cell? ⟨u.b,u.o,none⟩=some (.string u.name)
 len:u.name.size<=maxLen
 n:W.cell? ⟨u.b,u.o+1,none⟩=some (.int .i64 u.n)
 cat:FH W u.b u.o=Db u.to
 to:u.to=0∨u.to=1∨u.to=2∨u.to=3∨u.to=4∨u.to=5∨u.to=6
theorem N3{u:Us}:Db u.to=0↔u.to=0:=by
 unfold Db;split<;>omega
structure RJ (B:Nat) (W4:World) (t:Tb) (X:List Us) (k:Nat) (O:Nat->Prop) (W:World):Prop where
 os:W.os=W4.os
 tape:W.tape=W4.tape
 output:W.output=W4.output
 size:W4.heap.size<=W.heap.size
 own:∀b,O b->W4.heap.size<=b
 ty:∀(b:Nat) (c:Array Value) (t:TypeId),W4.heap[b]?=some (.cells c t (0,0))->∃c':Array Value,c'.size=c.size∧W.heap[b]?=some (.cells c' t (0,0))
 same:∀b:Nat,b < W4.heap.size->(∀q,¬ Jf B W4 b q)->W.heap[b]?=W4.heap[b]?
 cells:∀b q,b < W4.heap.size->¬ Jf B W4 b q->W.cell? ⟨b,q,none⟩=W4.cell? ⟨b,q,none⟩
 nums:∀b q,Jf B W4 b q->(∃z,W4.cell? ⟨b,q,none⟩=some (.int .i64 z))->∃z,W.cell? ⟨b,q,none⟩=some (.int .i64 z)
 done:∀j (h:j < X.length),j < k->Kb t X[j]=true∧(X[j].to≠0->X[j].b < W4.heap.size∧W.cell? ⟨X[j].b,X[j].o+1,none⟩=some (.int .i64 (Gg t (Db X[j].to) X[j].name)))
section
variable{B:Nat}{W4 W w':World}{t:Tb}{X:List Us}{k:Nat}{O:NP}
theorem RJ.start(B:Nat)(W4:World)(t:Tb)(X:List Us):RJ B W4 t X 0 (fun _=>False) W4:=
 ⟨rfl,rfl,rfl,yf _,fun _ h=>h.elim,fun _ c _ h=>⟨c,rfl,h⟩,fun _ _ _=>rfl,fun _ _ _ _=>rfl,fun _ _ _ h=>h,fun _ _ h=>by omega⟩
theorem RJ.tyT(h:RJ B W4 t X k O W){b ty:Nat}(hb:Ty W4 b ty):Ty W b ty:=by
 obtain ⟨c,e⟩:=hb
 obtain ⟨a,_,e'⟩:=h.ty b c ty e
 exact ⟨a,e'⟩
theorem RJ.move{f:NP}(h:RJ B W4 t X k O W)(m:W.heap.size<=w'.heap.size)(g:w'.os=W.os)(i:w'.tape=W.tape)(n:w'.output=W.output)(hk:∀b,b < W4.heap.size->w'.heap[b]?=W.heap[b]?)(l:∀b,f b->W4.heap.size<=b):RJ B W4 t X k f w':=by
 refine ⟨g.trans h.os,i.trans h.tape,n.trans h.output,yl h.size m,l,fun b c ty hb=>?_,fun b hb a=>(hk b hb).trans (h.same b hb a),fun b q hb a=>(Ag (hk b hb)).trans (h.cells b q hb a),fun b q a hi=>?_,fun j o e=>?_⟩
 ·obtain ⟨p,e1,e2⟩:=h.ty b c ty hb
  exact ⟨p,e1,(hk b (ye.1 hb).1).trans e2⟩
 ·obtain ⟨z,d⟩:=h.nums b q a hi
  obtain ⟨_,_,ty,_,h1,_⟩:=a
  exact ⟨z,(Ag (hk b h1.lt)).trans d⟩
 ·obtain ⟨h1,h2⟩:=h.done j o e
  refine ⟨h1,fun h3=>?_⟩
  have h4:=h2 h3
  exact ⟨h4.1,(Ag (hk _ h4.1)).trans h4.2⟩
theorem RJ.stays:E6 (RJ B W4 t X):=by
 intro k O W i W' h e d f g hk c
 refine h.move e d f g (fun b hb=>hk b (fun a=>by have:=h.own b a;omega) (yr hb h.size)) (fun b hb=>?_)
 rcases c b hb with h1|h1
 ·exact h.own b h1
 ·have:=h.size;omega
theorem RJ.below{a:Nat}(h:RJ B W4 t X k O W)(hb:Below a W w')(d:W4.heap.size<=a):RJ B W4 t X k O w':=
 h.move hb.size hb.os hb.tape hb.output (fun b c=>hb.block b (by omega)) h.own
theorem Oo.notName{u:Us}(h:Oo B W4 u):¬ Jf B W4 u.b u.o:=by
 rintro ⟨_,o,ty,e,h1,h2,_⟩
 obtain ⟨a,c,f,d⟩:=h.t
 obtain rfl:=h1.inj c
 rw[<-e] at h2
 exact d h2
theorem Oo.lt{u:Us}(h:Oo B W4 u):u.b < W4.heap.size:=by
 obtain ⟨c,a,e,d⟩:=h.t
 exact a.lt
theorem Oo.num{u:Us}(h:Oo B W4 u)(h0:u.to≠0):Jf B W4 u.b (u.o+1):=by
 obtain ⟨a,c,d,f⟩:=h.t
 exact ⟨h.base,u.o,a,rfl,c,d,by rw[h.cat];exact fun e=>h0 (N3.1 e)⟩
theorem Oo.notNum{u:Us}(h:Oo B W4 u)(h0:u.to=0):¬ Jf B W4 u.b (u.o+1):=by
 rintro ⟨_,o,ty,e,h1,h2,h3⟩
 obtain rfl:o=u.o:=by omega
 rw[h.cat] at h3
 exact h3 (N3.2 h0)
theorem RJ.read{u:Us}(h:RJ B W4 t X k O W)(a:Oo B W4 u):W.cell? ⟨u.b,u.o,none⟩=some (.string u.name)∧(∃z,W.cell? ⟨u.b,u.o+1,none⟩=some (.int .i64 z)∧(u.to=0->z=u.n))∧W.frozen? ⟨u.b,u.o+1,none⟩=false:=by
 refine ⟨(h.cells _ _ a.lt a.notName).trans a.name,?_,?_⟩
 ·by_cases h0:u.to=0
  ·exact ⟨u.n,(h.cells _ _ a.lt (a.notNum h0)).trans a.n,fun _=>rfl⟩
  ·obtain ⟨z,f⟩:=h.nums _ _ (a.num h0) ⟨_,a.n⟩
   exact ⟨z,f,fun e=>absurd e h0⟩
 ·obtain ⟨d,c,i,g⟩:=a.t
  exact (h.tyT c).frozen
theorem RJ.skip{u:Us}(h:RJ B W4 t X k O W)(hk:X[k]?=some u)(h0:u.to=0)(a:Kb t u=true):RJ B W4 t X (k+1) O W:=by
 obtain ⟨hl,rfl⟩:=yA.1 hk
 refine ⟨h.os,h.tape,h.output,h.size,h.own,h.ty,h.same,h.cells,h.nums,fun j c b=>?_⟩
 by_cases e:j=k
 ·subst e;exact ⟨a,fun h=>absurd h0 h⟩
 ·exact h.done j c (by omega)
theorem RJ.next{u:Us}(h:RJ B W4 t X k O W)(s:∀u∈X,Oo B W4 u)(hk:X[k]?=some u)(h0:u.to≠0)(l:Kb t u=true):RJ B W4 t X (k+1) O (W.setCell ⟨u.b,u.o+1,none⟩ (.int .i64 (Gg t (Db u.to) u.name))):=by
 obtain ⟨hl,rfl⟩:=yA.1 hk
 have g:=s _ (yz hl)
 obtain ⟨_,⟨z,C,_⟩,_⟩:=h.read g
 obtain ⟨s1,s2,D,m⟩:=Ak (iV (Gg t (Db X[k].to) X[k].name)) C
 have r:=g.num h0
 have a:∀b q,(b≠X[k].b∨q≠X[k].o+1)->(W.setCell ⟨X[k].b,X[k].o+1,none⟩ (iV (Gg t (Db X[k].to) X[k].name))).cell? (aV b q)=W.cell? (aV b q):=fun b q d=>
  World.cell?_setCell_other _ _ _ _ (fun e=>by cases e;simp at d)
 refine ⟨s1.os.trans h.os,s1.tape.trans h.tape,s1.output.trans h.output,yl h.size s1.size,h.own,fun b c ty hb=>?_,fun b hb d=>?_,fun b q hb d=>?_,fun b q d hi=>?_,fun j v y=>?_⟩
 ·obtain ⟨w,e1,e2⟩:=h.ty b c ty hb
  by_cases i:b=X[k].b
  ·subst i
   exact ⟨_,by rw[Array.size_setIfInBounds];exact e1,z7 W _ _ w ty _ e2⟩
  ·exact ⟨w,e1,(yT W _ b _ i).trans e2⟩
 ·have i:b≠X[k].b:=fun e=>d _ (e▸r)
  exact (yT W _ b _ i).trans (h.same b hb d)
 ·rw[a b q (by by_cases e:b=X[k].b;exact .inr (fun e2=>d (by rw[e,e2];exact r));exact .inl e)]
  exact h.cells b q hb d
 ·by_cases e:b=X[k].b∧q=X[k].o+1
  ·obtain ⟨rfl,rfl⟩:=e
   exact ⟨_,m⟩
  ·rw[a b q (by by_cases e2:b=X[k].b;exact .inr (fun n=>e ⟨e2,n⟩);exact .inl e2)]
   exact h.nums b q d hi
 ·by_cases e:j=k
  ·subst e;exact ⟨l,fun _=>⟨g.lt,m⟩⟩
  ·obtain ⟨x,A⟩:=h.done j v (by omega)
   refine ⟨x,fun h3=>?_⟩
   have f:=s _ (yz v)
   by_cases e:X[j].b=X[k].b∧X[j].o+1=X[k].o+1
   ·obtain ⟨e1,e2⟩:=e
    have e2:X[j].o=X[k].o:=by omega
    have hc:Db X[j].to=Db X[k].to:=by rw[<-f.cat,<-g.cat,e1,e2]
    have p:X[j].name=X[k].name:=by
     have h1:=f.name
     rw[e1,e2,g.name] at h1
     exact (Value.string.inj (yh h1)).symm
    refine ⟨f.lt,?_⟩
    rw[e1,e2,hc,p];exact m
   ·rw[a _ _ (by by_cases e2:X[j].b=X[k].b;exact .inr (fun n=>e ⟨e2,n⟩);exact .inl e2)]
    exact A h3
end
section
variable{W:World}{g:Nat}
theorem Qt(h:Ty W g 51)(i:Nat):FH W g (i*51+1)=if i=0 then 0 else 6:=by
 have e:Gj 51 (i*51+1+1)=2:=by rw[zR,(DF Cl i (1+1)).1];rfl
 unfold FH
 rw[Ev h,e,yu (by decide),yw rfl]
 by_cases hi:i=0
 ·subst hi;rfl
 ·rw[yu hi,yu (by omega)]
theorem V7(h:Ty W g 59)(i:Nat):FH W g (i*12+1)=4:=by
 have e:Gj 59 (i*12+1+1)=2:=by rw[zR,(DF FX i (1+1)).1];rfl
 unfold FH
 rw[Ev h,e,yu (by decide),yu (by decide),yw rfl,yw (by omega)]
theorem Sl(h:Ty W g 59)(i:Nat){r:Bool}(a:W.cell? ⟨g,i*12+3,none⟩=some (.bool r)):FH W g (i*12+10)=if r then 0 else 3:=by
 have e:Gj 59 (i*12+10+1)=2:=by rw[zR,(DF FX i (10+1)).1];rfl
 unfold FH
 rw[Ev h,e,yu (by decide),yu (by decide),yw rfl,yu (by omega),show i*12+10 - 7=i*12+3 by omega,a]
theorem TM(h:Ty W g 64)(i:Nat):FH W g (i*23+1)=4:=by
 have e:Gj 64 (i*23+1+1)=2:=by rw[zR,(DF Gk i (1+1)).1];rfl
 unfold FH
 rw[Ev h,e,yu (by decide),yu (by decide),yu (by decide),yw rfl]
theorem Sm(h:Ty W g 66)(i:Nat):FH W g (i*8)=5:=by
 have e:Gj 66 (i*8+1)=2:=by rw[(DF Lp i 1).1];rfl
 unfold FH
 rw[Ev h,e,yu (by decide),yu (by decide),yu (by decide),yu (by decide),yw rfl]
theorem V8(h:Ty W g 68)(i:Nat):FH W g (i*37+2)=5:=by
 have e:Gj 68 (i*37+2+1)=2:=by rw[zR,(DF Cm i (2+1)).1];rfl
 unfold FH
 rw[Ev h,e,yu (by decide),yu (by decide),yu (by decide),yu (by decide),yu (by decide),yw rfl,yw (by omega)]
theorem V9(h:Ty W g 68)(i:Nat){k:IntKind}{z:Int}(a:W.cell? ⟨g,i*37,none⟩=some (.int k z)):FH W g (i*37+4)=if z=1 then 0 else 4:=by
 have e:Gj 68 (i*37+4+1)=2:=by rw[zR,(DF Cm i (4+1)).1];rfl
 unfold FH
 rw[Ev h,e,yu (by decide),yu (by decide),yu (by decide),yu (by decide),yu (by decide),yw rfl,yu (by omega),show i*37+4 - 4=i*37 by omega,a]
theorem Va(h:Ty W g 70)(i:Nat):FH W g (i*11+1)=5:=by
 have e:Gj 70 (i*11+1+1)=2:=by rw[zR,(DF Hh i (1+1)).1];rfl
 unfold FH
 rw[Ev h,e,yu (by decide),yu (by decide),yu (by decide),yu (by decide),yu (by decide),yu (by decide),yw (by omega)]
theorem Vb(h:Ty W g 70)(i:Nat):FH W g (i*11+3)=4:=by
 have e:Gj 70 (i*11+3+1)=2:=by rw[zR,(DF Hh i (3+1)).1];rfl
 unfold FH
 rw[Ev h,e,yu (by decide),yu (by decide),yu (by decide),yu (by decide),yu (by decide),yu (by decide),yu (by omega)]
theorem Rh{o:Nat}(h:Hg W g o){k:IntKind}{op:Int}(b:W.cell? ⟨g,o,none⟩=some (.int k op)):FH W g (o+3)=if op=2 then 1 else 0:=by
 obtain ⟨t,ty,a⟩:=h
 have e:Gj t (o+3+1)=1:=(a 4 (by omega)).1
 unfold FH
 rw[Ev ty,e,yw rfl,show o+3 - 3=o by omega,b]
theorem LH(h:Ty W g 26)(i:Nat):Hg W g (i*6):=
 ⟨_,h,fun j a=>⟨by simp[Gj],by simp only[GL];simp;omega⟩⟩
end
section
variable{B:Nat}{W:World}{M:NP}
theorem FI{to at_:Int}{r:Rf}{b o:Nat}(c:B<=b)(a:RV W to r b o)(e:Qa W b o)(hc:FH W b o=Db to)(d:to=0∨to=1∨to=2∨to=3∨to=4∨to=5∨to=6):Oo B W ⟨b,o,to,at_,r.name,r.n⟩:=by
 obtain ⟨t,ty,h1,h2⟩:=e
 refine ⟨c,⟨t,ty,.inl h2,?_⟩,a.2.1,a.1,a.2.2,hc,d⟩
 rintro (h|h)
 ·rw[h1] at h;cases h
 ·rw[h1] at h;cases h.1
mutual
theorem OV(hM:∀g,M g->B<=g)(lt:Int):∀(e:Ex) (b o:Nat) (cs:LV),B<=b->J1 W M e cs->W.rangeAt b o cs->Hg W b o->∀u∈(Cx W lt e b o).1,Oo B W u
 |.mk op n u rn ri args,b,o,cs,hb,hv,hr,hp=>by
  rw[J1] at hv
  obtain ⟨a,cap,rfl,h2,h3,h4⟩:=hv
  obtain ⟨r0,r1,r2,l,k,r5⟩:=BJ hr
  intro v c
  rw[Cx] at c
  by_cases hs:ND op args.length=true
  ·rw[yw hs,r5] at c
   simp only[yK] at c
   rcases c with rfl|c
   ·have hc:=Rh hp r0
    obtain ⟨t,ty,i⟩:=hp
    have f:=i 3 (by omega);have j:=i 4 (by omega)
    refine ⟨hb,⟨t,ty,.inr j,?_⟩,l,h3,k,?_,?_⟩
    ·rintro (h|h)
     ·simp only at h;rw[f.1] at h;cases h
     ·simp only at h;rw[f.2] at h;exact absurd h.2 (by decide)
    ·simp only;rw[hc];unfold Kt Db
     by_cases d:op=2
     ·simp only[d,zX];split<;>simp
     ·simp[d]
    ·simp only;unfold Kt
     by_cases d:op=2
     ·simp only[d,zX];split<;>simp
     ·simp[d]
   ·exact OW hM lt args a args.length cap 0 h4 v c
  ·rw[yu hs] at c;cases c
theorem OW(hM:∀g,M g->B<=g)(lt:Int):∀(l:List Ex) (a:Option Addr) (n cap i:Nat),Eh W M a i l->∀u∈(BN W lt l (some (.slice a n cap)) i).1,Oo B W u
 |[],a,n,cap,i,h=>by intro v b;rw[BN] at b;cases b
 |e::r,a,n,cap,i,h=>by
  rw[Eh] at h
  obtain ⟨⟨g,cs,rfl,h1,h2,h3,h4⟩,h5⟩:=h
  have c:=OV hM lt e g (0+i*6) cs (hM g h1) h4 (by rw[yB];exact h3) (by rw[yB];exact LH h2 i)
  have d:=OW hM lt r (some ⟨g,0,none⟩) n cap (i+1) h5
  intro v b
  rw[BN] at b
  split at b
  ·rcases yi.1 b with b|b
   ·exact c v b
   ·exact d v b
  ·exact c v b
end
theorem Jz{u:Us}:∀ {l:List (List Us × Bool)},u∈(BY l).1->∃p∈l,u∈p.1
 |[],h=>by simp[BY] at h
 |x::r,h=>by
  have e:BY (x::r)=if x.2 then (x.1++(BY r).1,(BY r).2) else (x.1,false):=rfl
  rw[e] at h
  split at h
  ·rcases yi.1 h with h|h
   ·exact ⟨x,by simp,h⟩
   ·obtain ⟨p,h1,h2⟩:=Jz h
    exact ⟨p,by simp[h1],h2⟩
  ·exact ⟨x,by simp,h⟩
theorem Ri{α β:Type}{R:α->β->Prop}{f:α->β->List Us × Bool}{P:Us->Prop}(h:∀a b,R a b->∀u∈(f a b).1,P u):∀ {l:List α} {m:List β},Az R l m->∀p∈List.zipWith f l m,∀u∈p.1,P u
 |[],_,_=>by simp
 |_::_,[],_=>by simp
 |a::l,b::m,hA=>by
  rw[Az] at hA
  simp only[xX,xd]
  exact ⟨h a b hA.1,Ri h hA.2⟩
def Jg(h:Ai)(l:List At)(i:Nat):List Us:=match l[i]? with
 |some d=> [⟨(h.at 51 i 1).block,(h.at 51 i 1).off,if i=0 then 0 else 6,i,d.frm.name,d.frm.n⟩]
 |none=> []
def FA(L:Bw)(x:Am):List Us:=(List.range L.reaches.n).flatMap (Jg L.reaches x.reaches)
def Dc(W:World)(L:Bw)(x:Am):List Us:=FA L x++(Cp W L x).1
theorem Rj{N:NP}{L:Bw}{x:Am}(hN:∀g,N g->B<=g)(hM:∀g,M g->B<=g)(hs:N L.s)(h:Cy N (ET M W) (RV W) W L x):∀u∈Dc W L x,Oo B W u:=by
 intro u d
 rcases yi.1 d with d|d
 ·obtain ⟨i,hi,d⟩:=yQ.1 d
  have hl:i < x.reaches.length:=by rw[<-h.reaches.1];exact z6.1 hi
  unfold Jg at d
  rw[yk hl] at d
  simp only[zh] at d
  obtain ⟨g,m,j,ty,_,l,_⟩:=h.reaches.2.2 i hl
  rw[Be m,yB] at d
  rw[d]
  exact FI (hN g j) l (Cf ty Cl i 1 rfl rfl) (by rw[Qt ty];split<;>rfl) (by split<;>simp)
 ·obtain ⟨p,q,d⟩:=Jz d
  unfold EU at q
  rcases yi.1 q with q|q
  ·refine Ri (R:=WJ N (ET M W) W) (f:=CO W) (P:=Oo B W) (fun a e A u d=>?_) (h.all2 hs) p q u d
   obtain ⟨b,o,rfl,hb,t,c,w,v⟩:=A
   unfold CO at d
   split at d
   ·cases d
   ·exact OV hM e.2 e.1 b o c (hN b hb) v w t u d
  ·simp only[zh] at q
   rw[q] at d
   simp only at d
   split at d
   ·unfold CD at d
    simp only[yi] at d
    rcases d with ((d|d)|d)|d
    ·obtain ⟨i,hi,d⟩:=yQ.1 d
     have hl:i < x.farms.length:=by rw[<-h.farms.1];exact z6.1 hi
     obtain ⟨g,m,j,ty,_,l,z,_,n⟩:=h.farms.2.2 i hl
     unfold EO at d
     rw[yk hl] at d
     simp only[Dv,Be m,yB,yK,zp,xv] at d
     rcases d with rfl|rfl
     ·exact FI (hN g j) l (Cf ty FX i 1 rfl rfl) (by rw[V7 ty];rfl) (by simp)
     ·exact FI (hN g j) n (Cf ty FX i 10 rfl rfl) (by rw[Sl ty i z];split<;>rfl) (by split<;>simp)
    ·obtain ⟨i,hi,d⟩:=yQ.1 d
     have hl:i < x.rots.length:=by rw[<-h.rots.1];exact z6.1 hi
     obtain ⟨g,m,j,ty,_,l,_,_,_,_,_,y⟩:=h.rots.2.2 i hl
     unfold Hi at d
     rw[yk hl] at d
     simp only[Dv,Be m,yB,yK] at d
     rcases d with rfl|d
     ·exact FI (hN g j) l (Cf ty Gk i 1 rfl rfl) (by rw[TM ty];rfl) (by simp)
     ·obtain ⟨k,hk,d⟩:=yQ.1 d
      have r:k < (x.rots[i]).turns.length:=by rw[<-y.1];exact z6.1 hk
      obtain ⟨g,m,j,ty,l,_⟩:=y.2.2 k r
      unfold FF at d
      rw[yk r] at d
      simp only[Dv,Be m,yB,qm,zh] at d
      rw[d]
      exact FI (hN g j) l (MH ty Lp k rfl rfl) (by rw[Sm ty];rfl) (by simp)
    ·obtain ⟨i,hi,d⟩:=yQ.1 d
     have hl:i < x.rights.length:=by rw[<-h.rights.1];exact z6.1 hi
     obtain ⟨g,m,j,ty,hk,_,l,n,_⟩:=h.rights.2.2 i hl
     unfold Dn at d
     rw[yk hl] at d
     simp only[Dv,Be m,yB,yK,zp,xv] at d
     rcases d with rfl|rfl
     ·exact FI (hN g j) l (Cf ty Cm i 2 rfl rfl) (by rw[V8 ty];rfl) (by simp)
     ·exact FI (hN g j) n (Cf ty Cm i 4 rfl rfl) (by rw[V9 ty i hk];split<;>rfl) (by split<;>simp)
    ·obtain ⟨i,hi,d⟩:=yQ.1 d
     have hl:i < x.duties.length:=by rw[<-h.duties.1];exact z6.1 hi
     obtain ⟨g,m,j,ty,_,l,n,_⟩:=h.duties.2.2 i hl
     unfold Er at d
     rw[yk hl] at d
     simp only[Dv,Be m,yB,yK,zp,xv] at d
     rcases d with rfl|rfl
     ·exact FI (hN g j) l (Cf ty Hh i 1 rfl rfl) (by rw[Va ty];rfl) (by simp)
     ·exact FI (hN g j) n (Cf ty Hh i 3 rfl rfl) (by rw[Vb ty];rfl) (by simp)
   ·cases d
end
section
variable{B:Nat}{W W':World}{N M:NP}{L:Bw}{x:Am}{t:Tb}{X:List Us}{k:Nat}{O:NP}
def CR(B:Nat)(W:World)(p:Addr):Prop:=∃b q,p=⟨b,q,none⟩∧b < W.heap.size∧¬ Jf B W b q
def DR(W:World)(p:Addr):Prop:=∃b q,p=⟨b,q,none⟩∧b < W.heap.size∧∃z,W.cell? ⟨b,q,none⟩=some (.int .i64 z)
theorem RJ.hd(h:RJ B W t X k O W'):Xq W (CR B W) (DR W) W':=by
 constructor
 ·rintro p ⟨b,q,rfl,h1,h2⟩;exact h.cells b q h1 h2
 ·rintro p ⟨b,q,rfl,h1,h2⟩
  by_cases a:Jf B W b q
  ·exact h.nums b q a h2
  ·rw[h.cells b q h1 a];exact h2
theorem Qu{b q ty:Nat}(h:Ty W b ty)(a:¬ WR ty q):¬ Jf B W b q:=by
 rintro ⟨_,o,c,rfl,h1,h2,_⟩
 obtain rfl:=h.inj h1
 exact a h2
theorem GW{b q:Nat}(h:OA W b q):¬ Jf B W b q:=by
 obtain ⟨ty,h1,h2⟩:=h
 exact Qu h1 (by rintro (h|h);rw[h2] at h;cases h;rw[h2] at h;cases h.1)
theorem G4{b o:Nat}(h:Hg W b o){j:Nat}(a:j < 6)(h4:j≠4):¬ Jf B W b (o+j):=by
 obtain ⟨ty,h1,h2⟩:=h
 refine Qu h1 ?_
 rintro (h|h)
 ·rw[(h2 j a).1] at h;cases h
 ·rw[(h2 j a).2] at h;exact h4 h.2
theorem LI{b o:Nat}(h:Hg W b o){c:IntKind}{op:Int}(f:W.cell? ⟨b,o,none⟩=some (.int c op))(h2:op≠2):¬ Jf B W b (o+4):=by
 rintro ⟨_,d,a,e,h1,_,h3⟩
 obtain rfl:d=o+3:=by omega
 rw[Rh h f,yu h2] at h3
 exact h3 rfl
mutual
theorem TN:∀(e:Ex) (b o:Nat) (cs:LV),J1 W M e cs->W.rangeAt b o cs->Hg W b o->S5 W (CR B W) e b o
 |.mk op n u rn ri args,b,o,cs,hv,hr,hp=>by
  rw[J1] at hv
  obtain ⟨a,cap,rfl,h2,h3,h4⟩:=hv
  obtain ⟨r0,r1,r2,d,c,r5⟩:=BJ hr
  rw[S5]
  exact ⟨a,cap,⟨r0,_,_,rfl,hp.lt,G4 (j:=0) hp (by omega) (by omega)⟩,⟨r5,_,_,rfl,hp.lt,G4 hp (by omega) (by omega)⟩,h2,Rk args a 0 h4⟩
theorem Rk:∀(l:List Ex) (a:Option Addr) (i:Nat),Eh W M a i l->KE W (CR B W) a i l
 |[],a,i,h=>by rw[KE];trivial
 |e::r,a,i,h=>by
  rw[Eh] at h
  rw[KE]
  obtain ⟨⟨g,cs,rfl,h1,h2,h3,h4⟩,h5⟩:=h
  exact ⟨⟨g,0,rfl,by rw[yB];exact TN e g (i*6) cs h4 h3 (LH h2 i)⟩,Rk r _ (i+1) h5⟩
end
theorem Gm{f:Nat->List Us}{c:Nat}(n:Nat)(h:∀i,(f i).length<=c):((List.range n).flatMap f).length<=n*c:=by
 induction n with
 |zero=>simp
 |succ n ih=>rw[Ar,yq,Nat.succ_mul];have:=h n;omega
theorem OX{f:Nat->List Us}{c:Nat}(n:Nat)(h:∀i,i < n->(f i).length<=c):((List.range n).flatMap f).length<=n*c:=by
 induction n with
 |zero=>simp
 |succ n ih=>rw[Ar,yq,Nat.succ_mul];have:=h n (by omega);have:=ih (fun i hi=>h i (by omega));omega
theorem Fg(h:B9 x=true):x.lets.length<=64∧x.crops.length<=32∧x.reaches.length<=64∧x.farms.length<=600∧x.rots.length<=64∧x.rights.length<=256∧x.duties.length<=256∧(∀d∈x.rots,d.turns.length<=64)∧∀e∈AN x,AJ e.1<=8:=by
 unfold B9 Ju Gl Es at h
 simp only[yv,yW,yO] at h
 obtain ⟨⟨h1,h2,h3,h4,h5,h6,a⟩,c,b⟩:=h
 exact ⟨h1,h2,h3,h4,h5,h6,a,c,b⟩
theorem OY(h:x.lets.length<=64):∀e∈AN x,0<=e.2∧e.2<=1000000:=by
 intro e b
 unfold AN Ie Fu Du Fv HY DD Eo Ep at b
 simp only[yi,yK,zp,xv,yQ,Prod.exists] at b
 rcases b with (rfl|rfl|rfl)|⟨d,i,a,rfl⟩|⟨d,i,a,rfl⟩|⟨d,i,a,rfl|rfl|rfl|rfl|rfl|rfl|rfl|rfl⟩|⟨d,i,a,rfl⟩|⟨d,i,a,(rfl|rfl|rfl)|⟨f,g,c,rfl⟩⟩|⟨d,i,a,rfl|rfl|rfl|rfl|rfl⟩|⟨d,i,a,rfl⟩
 all_goals first|exact ⟨by omega,by omega⟩|skip
 have:=List.mem_zipIdx a
 simp only
 omega
theorem OZ(h:Cy N (ET M W) (RV W) W L x)(a:B9 x=true):(CD L x).length<=1000000:=by
 obtain ⟨p,e,l,f,j,g,m,d,_⟩:=Fg a
 unfold CD
 simp only[yq]
 have e1:((List.range L.farms.n).flatMap (EO L.farms x.farms)).length<=L.farms.n*2:=Gm _ fun i=>by unfold EO;split<;>simp
 have e2:((List.range L.rots.n).flatMap (Hi L x.rots)).length<=L.rots.n*66:=OX _ fun i hi=>by
  have hl:i < x.rots.length:=by rw[<-h.rots.1];exact hi
  obtain ⟨_,_,_,_,_,_,_,_,_,_,_,c⟩:=h.rots.2.2 i hl
  have b:((List.range (A4 L i).n).flatMap (FF (A4 L i) (x.rots[i]).turns)).length<=(A4 L i).n*1:=Gm _ fun k=>by unfold FF;split<;>simp
  have:=d _ (yz hl)
  have:=c.1
  unfold Hi
  rw[yk hl]
  simp only[yI]
  omega
 have b:((List.range L.rights.n).flatMap (Dn L.rights x.rights)).length<=L.rights.n*2:=Gm _ fun i=>by unfold Dn;split<;>simp
 have o:((List.range L.duties.n).flatMap (Er L.duties x.duties)).length<=L.duties.n*2:=Gm _ fun i=>by unfold Er;split<;>simp
 have:=h.farms.1;have:=h.rots.1;have:=h.rights.1;have:=h.duties.1
 omega
theorem TO(hs:N L.s)(h:Cy N (ET M W) (RV W) W L x){Bu:Nat}(q:Bu < W.heap.size)(p:W.cell? ⟨Bu,0,none⟩=some (.pointer (some ⟨L.s,0,none⟩)))(r:B9 x=true):Lr M W (CR B W) (DR W) Bu L x:=by
 have k:∀ {hd:Ai} {g sz i off:Nat},hd.a=some (aV g 0)->hd.at sz i off=(aV g (i*sz+off)):=fun f=>by rw[Be f,yB]
 refine ⟨h.ok,h.heads (fun _ _ _=>rfl) p,⟨Bu,0,rfl,q,?_⟩,fun j h1 h2=>⟨L.s,j,rfl,h.ty.lt,Qu h.ty ?_⟩,fun i hi=>?_,fun i hi=>?_,fun i hi=>?_,?_,h.farms.1,h.rots.1,fun i hi=>?_,h.rights.1,h.duties.1,OY (Fg r).1,OZ h r⟩
 ·rintro ⟨_,o,ty,e,_⟩;omega
 ·have:j=19∨j=20∨j=21∨j=22∨j=23∨j=24∨j=25:=by omega
  rcases this with rfl|rfl|rfl|rfl|rfl|rfl|rfl<;>(intro u;revert u;unfold WR;decide)
 ·obtain ⟨g,f,t,ty,_⟩:=h.rots.2.2 i (by rw[<-h.rots.1];exact hi)
  rw[k f]
  exact ⟨_,_,rfl,ty.lt,GW (E9 ty Gk i 22 rfl)⟩
 ·obtain ⟨g,f,t,ty,_,_,m,_⟩:=h.farms.2.2 i hi
  rw[k f]
  exact ⟨⟨_,_,rfl,ty.lt,GW (E9 ty FX i 3 rfl)⟩,m⟩
 ·obtain ⟨g,f,t,ty,m,_⟩:=h.rights.2.2 i hi
  rw[k f]
  exact ⟨⟨_,_,rfl,ty.lt,GW (E9 ty Cm i 0 rfl)⟩,m⟩
 ·refine Az.mono (fun a e z=>?_) (h.all2 hs)
  obtain ⟨b,o,rfl,hb,d,c,l,n⟩:=z
  have w:=TN (B:=B) e.1 b o c n l d
  have m:=n.exV (N:=M) (fun _ h _=>h)
  obtain ⟨a,cap,rfl,e1,e2,A⟩:=m.cells
  obtain ⟨r0,r1,r2,C,v,r5⟩:=BJ l
  exact ⟨b,o,_,rfl,l,m,w,⟨_,_,rfl,d.lt,G4 d (by omega) (by omega)⟩,⟨_,_,rfl,d.lt,G4 d (by omega) (by omega)⟩,⟨_,_,rfl,d.lt,G4 d (by omega) (by omega)⟩,⟨_,_,rfl,d.lt,_,v⟩,
   fun h0=>⟨_,_,rfl,d.lt,LI d r0 (by rw[h0];decide)⟩⟩
 ·obtain ⟨_,_,_,_,_,_,_,_,_,_,_,y⟩:=h.rots.2.2 i hi
  exact y.1
end
section
variable{B:Nat}{W W':World}{N M:NP}{E:Int->Ex->Nat->Nat->Prop}{R:Int->Rf->Nat->Nat->Prop}{L:Bw}{x:Am}{t:Tb}{X:List Us}{O:NP}
theorem JA:∀ {l:List (List Us × Bool)},(BY l).2=true->∀p∈l,p.2=true∧∀u∈p.1,u∈(BY l).1
 |[],_=>by simp
 |y::r,h=>by
  have e:BY (y::r)=if y.2 then (y.1++(BY r).1,(BY r).2) else (y.1,false):=rfl
  rw[e] at h ⊢
  by_cases h1:y.2=true
  ·rw[yw h1] at h ⊢
   have ih:=JA h
   intro p a
   rcases yK.1 a with rfl|a
   ·exact ⟨h1,fun u b=>yi.2 (.inl b)⟩
   ·exact ⟨(ih p a).1,fun u b=>yi.2 (.inr ((ih p a).2 u b))⟩
  ·rw[yu h1] at h;cases h
theorem N4{α β γ:Type}{R R':α->β->Prop}{f:α->β->γ}{Q:γ->Prop}(h:∀a b,R a b->Q (f a b)->R' a b):∀ {l:List α} {m:List β},Az R l m->(∀p∈List.zipWith f l m,Q p)->Az R' l m
 |[],[],_,_=>trivial
 |a::l,b::m,hA,hq=>by
  rw[Az] at hA
  simp only[xX,xd] at hq
  exact ⟨h a b hA.1 hq.1,N4 h hA.2 hq.2⟩
 |[],_::_,hA,_=>by simp[Az] at hA
 |_::_,[],hA,_=>by simp[Az] at hA
def WS(W:World)(X:List Us)(M:NP)(lt:Int)(e:Ex)(b o:Nat):Prop:=ET M W lt e b o∧(CQ e=false->(Cx W lt e b o).2=true∧∀u∈(Cx W lt e b o).1,u∈X)
def WT(X:List Us)(R:Int->Rf->Nat->Nat->Prop)(to:Int)(r:Rf)(b o:Nat):Prop:=R to r b o∧∃at_,(⟨b,o,to,at_,r.name,r.n⟩:Us)∈X
theorem Cy.linkE(h:Cy N (ET M W) R W L x)(hs:N L.s)(g:(Cp W L x).2=true)(j:∀u∈(Cp W L x).1,u∈X):Cy N (WS W X M) R W L x:=by
 have m:=JA g
 refine h.told (N4 (f:=CO W) (Q:=fun p=>p.2=true∧∀u∈p.1,u∈X) (fun a e l c=>?_) (h.all2 hs) (fun p d=>?_))
 ·obtain ⟨b,o,rfl,hb,d,i⟩:=l
  refine ⟨b,o,rfl,i,fun hl=>?_⟩
  unfold CO at c
  rw[hl] at c
  exact c
 ·obtain ⟨h1,h2⟩:=m p (yi.2 (.inl d))
  exact ⟨h1,fun u k=>j u (h2 u k)⟩
theorem CI{f:Nat->List Us}{n i:Nat}{u:Us}(hi:i < n)(a:u∈f i):u∈(List.range n).flatMap f:=yQ.2 ⟨i,z6.2 hi,a⟩
theorem Cy.linkR(h:Cy N E R W L x)(s:∀u∈FA L x,u∈X)(l:∀u∈CD L x,u∈X):Cy N E (WT X R) W L x:=by
 have c:∀ {hd:Ai} {g sz i off:Nat},hd.a=some (aV g 0)->hd.at sz i off=(aV g (i*sz+off)):=fun b=>by rw[Be b,yB]
 have o:∀u∈(List.range L.farms.n).flatMap (EO L.farms x.farms),u∈X:=fun u j=>l u (by unfold CD;simp only[yi];exact .inl (.inl (.inl j)))
 have q:∀u∈(List.range L.rots.n).flatMap (Hi L x.rots),u∈X:=fun u j=>l u (by unfold CD;simp only[yi];exact .inl (.inl (.inr j)))
 have p:∀u∈(List.range L.rights.n).flatMap (Dn L.rights x.rights),u∈X:=fun u j=>l u (by unfold CD;simp only[yi];exact .inl (.inr j))
 have r:∀u∈(List.range L.duties.n).flatMap (Er L.duties x.duties),u∈X:=fun u j=>l u (by unfold CD;simp only[yi];exact .inr j)
 refine ⟨h.ty,h.name,h.season,h.cap,h.start,h.hlets,h.hcrops,h.hreaches,h.hfarms,h.hrots,h.hrights,h.hduties,h.lets,h.crops,⟨h.reaches.1,h.reaches.2.1,fun i hi=>?_⟩,⟨h.farms.1,h.farms.2.1,fun i hi=>?_⟩,⟨h.rots.1,h.rots.2.1,fun i hi=>?_⟩,⟨h.rights.1,h.rights.2.1,fun i hi=>?_⟩,⟨h.duties.1,h.duties.2.1,fun i hi=>?_⟩⟩
 ·obtain ⟨g,b,e,ty,h1,d,h2⟩:=h.reaches.2.2 i hi
  refine ⟨g,b,e,ty,h1,⟨d,⟨i,s _ (CI (by rw[h.reaches.1];exact hi) ?_)⟩⟩,h2⟩
  unfold Jg;rw[yk hi];simp[c b]
 ·obtain ⟨g,b,e,ty,h1,d,h2,h3,f⟩:=h.farms.2.2 i hi
  refine ⟨g,b,e,ty,h1,⟨d,⟨0,o _ (CI (by rw[h.farms.1];exact hi) ?_)⟩⟩,h2,h3,⟨f,⟨0,o _ (CI (by rw[h.farms.1];exact hi) ?_)⟩⟩⟩
  ·unfold EO;rw[yk hi];simp[c b,Dv]
  ·unfold EO;rw[yk hi];simp[c b,Dv]
 ·obtain ⟨g,b,e,ty,h1,d,h2,h3,h4,h5,h6,m⟩:=h.rots.2.2 i hi
  refine ⟨g,b,e,ty,h1,⟨d,⟨0,q _ (CI (by rw[h.rots.1];exact hi) ?_)⟩⟩,h2,h3,h4,h5,h6,m.1,m.2.1,fun k hk=>?_⟩
  ·unfold Hi;rw[yk hi];simp[c b,Dv]
  ·obtain ⟨g,b,e,ty,d,h1⟩:=m.2.2 k hk
   refine ⟨g,b,e,ty,⟨d,⟨0,q _ (CI (i:=i) (by rw[h.rots.1];exact hi) ?_)⟩⟩,h1⟩
   unfold Hi;rw[yk hi]
   refine yK.2 (.inr (CI (i:=k) (by rw[m.1];exact hk) ?_))
   unfold FF;rw[yk hk];simp[c b,Dv]
 ·obtain ⟨g,b,e,ty,h0,h1,d,f,h2⟩:=h.rights.2.2 i hi
  refine ⟨g,b,e,ty,h0,h1,⟨d,⟨0,p _ (CI (by rw[h.rights.1];exact hi) ?_)⟩⟩,⟨f,⟨0,p _ (CI (by rw[h.rights.1];exact hi) ?_)⟩⟩,h2⟩
  ·unfold Dn;rw[yk hi];simp[c b,Dv]
  ·unfold Dn;rw[yk hi];simp[c b,Dv]
 ·obtain ⟨g,b,e,ty,h1,d,f,h2⟩:=h.duties.2.2 i hi
  refine ⟨g,b,e,ty,h1,⟨d,⟨0,r _ (CI (by rw[h.duties.1];exact hi) ?_)⟩⟩,⟨f,⟨0,r _ (CI (by rw[h.duties.1];exact hi) ?_)⟩⟩,h2⟩
  ·unfold Er;rw[yk hi];simp[c b,Dv]
  ·unfold Er;rw[yk hi];simp[c b,Dv]
theorem RJ.at(h:RJ B W t X X.length O W'){u:Us}(c:u∈X)(h0:u.to≠0):W'.cell? ⟨u.b,u.o+1,none⟩=some (.int .i64 (Gg t (Db u.to) u.name)):=by
 obtain ⟨j,a,rfl⟩:=zg.1 c
 exact ((h.done j a a).2 h0).2
theorem P0(t:Tb)(l:List Ex):(Hn t l).length=l.length:=by rw[NM];simp
mutual
theorem Rl(h:RJ B W t X X.length O W')(lt:Int):∀(e:Ex) (b o:Nat) (cs:LV),J1 W M e cs->W.rangeAt b o cs->Hg W b o->(Cx W lt e b o).2=true->(∀u∈(Cx W lt e b o).1,u∈X)->∃c,W'.rangeAt b o c∧J1 W' M (Jc t e) c
 |.mk op n u rn ri args,b,o,cs,hv,hr,hp,ho,hX=>by
  rw[J1] at hv
  obtain ⟨a,cap,rfl,h2,h3,h4⟩:=hv
  obtain ⟨r0,r1,r2,i,g,r5⟩:=BJ hr
  have hc:∀j,j < 6->j≠4->W'.cell? ⟨b,o+j,none⟩=W.cell? ⟨b,o+j,none⟩:=fun j k h4=>h.cells b _ hp.lt (G4 hp k h4)
  rw[Cx] at ho hX
  by_cases hs:ND op args.length=true
  ·rw[yw hs] at ho hX
   rw[r5] at ho hX
   simp only[xd] at hX
   have d:=P1 h lt args a args.length cap 0 h4 ho hX.2
   have f:W'.cell? ⟨b,o+4,none⟩=some (.int .i64 (if op=2 then Gg t 1 rn else ri)):=by
    by_cases h5:op=2
    ·have h6:=h.at hX.1 (by simp only[Kt,h5,zX];split<;>simp)
     rw[yw h5]
     simp only[Kt,h5,zX,zR] at h6
     rw[h6]
     split<;>rfl
    ·rw[yu h5]
     exact (h.cells b _ hp.lt (LI hp r0 h5)).trans g
   refine ⟨[iV op,iV n,iV u,.string rn,iV (if op=2 then Gg t 1 rn else ri),.slice a args.length cap],?_,?_⟩
   ·exact A6 ((hc 0 (by omega) (by omega)).trans r0) (A6 ((hc 1 (by omega) (by omega)).trans r1) (A6 ((hc 2 (by omega) (by omega)).trans r2) (A6 ((hc 3 (by omega) (by omega)).trans i) (A6 f (Cn ((hc 5 (by omega) (by omega)).trans r5))))))
   ·rw[Jc,J1]
    exact ⟨a,cap,by rw[P0],by rw[P0];exact h2,h3,d⟩
  ·rw[yu hs] at ho;cases ho
theorem P1(h:RJ B W t X X.length O W')(lt:Int):∀(l:List Ex) (a:Option Addr) (n cap i:Nat),Eh W M a i l->(BN W lt l (some (.slice a n cap)) i).2=true->(∀u∈(BN W lt l (some (.slice a n cap)) i).1,u∈X)->Eh W' M a i (Hn t l)
 |[],a,n,cap,i,_,_,_=>by rw[Hn,Eh];trivial
 |e::r,a,n,cap,i,hr,ho,hX=>by
  rw[Eh] at hr
  obtain ⟨⟨g,cs,rfl,h1,h2,h3,h4⟩,h5⟩:=hr
  rw[BN] at ho hX
  by_cases b:(Cx W lt e g (0+i*6)).2=true
  ·rw[yw b] at ho hX
   simp only[yi,or_imp,forall_and] at hX
   obtain ⟨c,c1,c2⟩:=Rl h lt e g (0+i*6) cs h4 (by rw[yB];exact h3) (by rw[yB];exact LH h2 i) b hX.1
   rw[yB] at c1
   rw[Hn,Eh]
   exact ⟨⟨g,c,rfl,h1,h.tyT h2,c1,c2⟩,P1 h lt r (some ⟨g,0,none⟩) n cap (i+1) h5 ho hX.2⟩
  ·rw[yu b] at ho;cases ho
end
theorem Sn{e:Ex}(h:CQ e=true):e.op=0∧e.args=[]:=by
 unfold CQ Gi at h
 simp only[yv,yW] at h
 exact ⟨h.1,List.eq_nil_of_length_eq_zero h.2.2.2.2⟩
theorem TP(h:RJ B W t X X.length O W'){lt:Int}{e:Ex}{b o:Nat}(hl:CQ e=true)(m:ET M W lt e b o)(d:Hg W b o):ET M W' lt e b o:=by
 obtain ⟨c,l,f⟩:=m
 obtain ⟨i,g⟩:=Sn hl
 cases e with
 |mk op n u rn ri args=>
 simp only[Ex.op,Ex.args] at i g
 subst g
 rw[J1] at f
 obtain ⟨a,cap,rfl,h2,h3,h4⟩:=f
 obtain ⟨r0,r1,r2,p,k,r5⟩:=BJ l
 have hc:∀j,j < 6->j≠4->W'.cell? (aV b (o+j))=W.cell? (aV b (o+j)):=fun j q h4=>h.cells b _ d.lt (G4 d q h4)
 refine ⟨_,A6 ((hc 0 (by omega) (by omega)).trans r0) (A6 ((hc 1 (by omega) (by omega)).trans r1) (A6 ((hc 2 (by omega) (by omega)).trans r2) (A6 ((hc 3 (by omega) (by omega)).trans p) (A6 ((h.cells b _ d.lt (LI d r0 (by rw[i];decide))).trans k) (Cn ((hc 5 (by omega) (by omega)).trans r5)))))),?_⟩
 rw[J1]
 exact ⟨a,cap,rfl,h2,h3,by rw[Eh];trivial⟩
theorem So(hN:∀g,N g->B<=g)(hM:∀g,M g->B<=g)(hs:N L.s)(h:Cy N (ET M W) (RV W) W L x)(d:RJ B W t (Dc W L x) (Dc W L x).length O W')(n:(Cp W L x).2=true):Cy N (ET M W') (RV W') W' L (x.mp (fT t) (gT t)):=by
 have hk:Co x=true:=by
  have:=JA n (if Co x then CD L x else [],Co x) (yi.2 (.inr (by simp)))
  exact this.1
 have j:∀u∈CD L x,u∈Dc W L x:=fun u l=>yi.2 (.inr ((JA n (if Co x then CD L x else [],Co x) (yi.2 (.inr (by simp)))).2 u (by rw[yw hk];exact l)))
 refine ((h.linkE (X:=Dc W L x) hs n (fun u l=>yi.2 (.inr l))).linkR (X:=Dc W L x) (fun u l=>yi.2 (.inl l)) j).map (fun b ty _ h=>d.tyT h) (fun b o _ h=>d.cells b o h.lt (GW h)) (fun lt e b o _ f m=>?_) (fun to r b o _ f i=>?_)
 ·obtain ⟨m,a⟩:=m
  unfold fT
  by_cases hl:CQ e=true
  ·rw[yw hl];exact TP d hl m f
  ·rw[yu hl]
   obtain ⟨v,q⟩:=a (by simpa using hl)
   obtain ⟨c,c1,c2⟩:=m
   exact Rl d lt e b o c c2 c1 f v q
 ·obtain ⟨i,a⟩:=i
  have k:¬ Jf B W b o:=by
   obtain ⟨ty,p1,p2,_⟩:=f
   exact GW ⟨ty,p1,p2⟩
  unfold gT
  by_cases h0:to=0
  ·rw[yw h0]
   refine ⟨i.1,(d.cells b o f.lt k).trans i.2.1,(d.cells b _ f.lt ?_).trans i.2.2⟩
   obtain ⟨at_,p⟩:=a
   exact (Rj hN hM hs h _ p).notNum h0
  ·rw[yu h0]
   obtain ⟨at_,p⟩:=a
   exact ⟨i.1,(d.cells b o f.lt k).trans i.2.1,d.at p h0⟩
end
end Go.Proofs.Ytghepahgkcigpaa
namespace Go.Proofs.Ytghepahgkcigpaa
open Go.RowKit
attribute [local go_sem] Oper.semAt_some
def Kc(B:Nat):Deferred:={target:=.fn (.func 24) #[.pointer (some ⟨B+1,0,none⟩),.pointer (some ⟨B+2,0,none⟩)],args:=#[]}
def KG(D:Nat):Deferred:={target:=.collected D,args:=#[]}
def Qv(B:Nat)(w':World)(cs:LV)(x:Am):Prop:=∃(L:Bw) (N:NP),cs.length=26∧Bb N w' L cs x∧∀b,N b->B<=b∧b < w'.heap.size
def FJ(w:World)(x:Am)(e:Ending)(w':World):Prop:=
 Below w.heap.size w w'∧((Ay x≠0∧e=.returned (.tuple #[.agg A5.toArray,.int .i64 (Ay x)]))∨(Ay x=0∧∃cs,e=.returned (.tuple #[.agg cs.toArray,.int .i64 0])∧Qv w.heap.size w' cs (Ab x)))
structure KH (w W:World):Prop where
 below:Below w.heap.size w W
 x:∃row:Array Value,row.size=26∧W.heap[w.heap.size+1]?=some (.cells row 35 (0,0))
 e:∃v:Value,W.heap[w.heap.size+2]?=some (.cells #[v] 38 (0,0))
theorem KH.up{w W W':World}(h:KH w W)(hb:Below (w.heap.size+3) W W'):KH w W':=by
 obtain ⟨row,h1,h2⟩:=h.x
 obtain ⟨v,h3⟩:=h.e
 exact ⟨h.below.trans (hb.mono (by omega)),⟨row,h1,(hb.block _ (by omega)).trans h2⟩,⟨v,(hb.block _ (by omega)).trans h3⟩⟩
def Mq(B:Nat)(tm:Array Value):Prop:=tm.getD 2 undef=.pointer (some ⟨B+1,0,none⟩)∧tm.getD 3 undef=.pointer (some ⟨B+2,0,none⟩)
structure LK (Q:Exit->Act->World->Prop) (w:World) (x:Am):Prop where
 fail:∀tm W,Mq w.heap.size tm->KH w W->Ay x≠0->Q (.panic (F9 (Ay x))) {tmps:=tm,defers:=[Kc w.heap.size]} W
 failD:∀D tm W,Mq w.heap.size tm->KH w W->Ay x≠0->w.heap.size+3<=D->W.heap[D]?=some (.deferred (some []))->Q (.panic (F9 (Ay x))) {tmps:=tm,defers:=[KG D,Kc w.heap.size]} W
 done:∀D tm W cs,Mq w.heap.size tm->Below w.heap.size w W->W.heap[w.heap.size+1]?=some (.cells cs.toArray 35 (0,0))->W.heap[w.heap.size+2]?=some (.cells #[.int .i64 0] 38 (0,0))->Ay x=0->w.heap.size+3<=D->W.heap[D]?=some (.deferred (some []))->
  Qv w.heap.size (W.putObj D (.deferred none)) cs (Ab x)->Q .ret {tmps:=tm,defers:=[KG D,Kc w.heap.size]} W
theorem P2{W:World}{tm:Array Value}{B:Nat}{cs:LV}{z:Int}(d:Mq B tm)(h1:W.heap[B+1]?=some (.cells cs.toArray 35 (0,0)))(a:cs.length=26)(h2:W.heap[B+2]?=some (.cells #[.int .i64 z] 38 (0,0))):
  (results Try.f11 tm).run Try.prog W=.ok (.tuple #[.agg cs.toArray,.int .i64 z]) W:=by
 obtain ⟨b,c⟩:=d
 rw[yH] at b c
 have h:W.rangeAt (B+1) 0 cs:=by
  have:=yU h1 0 cs.length
  simpa using this
 have e:=qg (P:=Try.prog) W (B+1) 0 35 cs _ h qM rfl (by rw[a];kernel_rfl)
 have c2:W.cell? (aV (B+2) 0)=some (iV z):=by simp[World.cell?,h2]
 have g:(loadVar 38 (aV (B+2) 0)).run Try.prog W=.ok (iV z) W:=by
  have f:(isAgg 38).run Try.prog W=.ok false W:=by kernel_rfl
  simp[loadVar,f,go_sem,c2]
 simp[results,Try.results11,b,c,asAddr,e,g]
theorem Kw{w W:World}{x:Am}{tm:Array Value}(g:Mq w.heap.size tm)(d:KH w W)(h0:Ay x≠0):LeavesInM Fence.wide 10 Try.prog Try.f11 tm (FJ w x) [Kc w.heap.size] (.panicking (F9 (Ay x))) W:=by
 obtain ⟨row,c,a⟩:=d.x
 obtain ⟨v,f⟩:=d.e
 refine ⟨by simp,.inr ⟨by simp[Fence.wide],_,_,_,_,rfl,by rfl,fun _ _=>trivial,?_⟩⟩
 refine (Mp 9 (w.heap.size+1) (w.heap.size+2) (by omega) (Ay x) row v W a c f).mono ?_
 rintro e h w' ⟨rfl,rfl,rfl⟩
 have e1:((W.setRow (w.heap.size+1) A5.toArray).setCell (aV (w.heap.size+2) 0) (iV (Ay x))).heap[w.heap.size+1]?=some (.cells A5.toArray 35 (0,0)):=by
  rw[yT _ _ _ _ (by simp)]
  simp[World.setRow,yR,a]
 have e2:((W.setRow (w.heap.size+1) A5.toArray).setCell (aV (w.heap.size+2) 0) (iV (Ay x))).heap[w.heap.size+2]?=some (.cells #[iV (Ay x)] 38 (0,0)):=by
  have:=z7 (W.setRow (w.heap.size+1) A5.toArray) (w.heap.size+2) 0 #[v] 38 (iV (Ay x)) (by simp[World.setRow,yR,f])
  rw[this];rfl
 refine ⟨_,P2 g e1 rfl e2,?_,.inl ⟨h0,rfl⟩⟩
 refine d.below.trans ⟨rfl,rfl,rfl,by simp[World.setRow],fun b hb=>?_⟩
 rw[yT _ _ _ _ (by simp;omega)]
 simp only[World.setRow,yR,yu (show ¬ w.heap.size+1=b by omega)]
theorem TQ(w:World)(x:Am):LK (bodyPostM Fence.wide 10 Try.prog Try.f11 (FJ w x)) w x:=by
 refine ⟨fun tm W a d h0=>Kw a d h0,fun D tm W a d h0 g hd=>?_,fun D tm W cs a hb h1 h2 h0 g hd hs=>?_⟩
 ·refine ⟨by simp,.inl ⟨D,_,rfl,run_takeDeferred hd,Kw a (d.up ⟨rfl,rfl,rfl,by simp,fun b hb=>World.putObj_heap_other (by omega)⟩) h0⟩⟩
 ·refine ⟨by simp,.inl ⟨D,_,rfl,run_takeDeferred hd,?_⟩⟩
  refine ⟨by simp,.inr ⟨by simp[Fence.wide],_,_,_,_,rfl,by rfl,fun _ _=>trivial,?_⟩⟩
  refine (TK 9 _ _ _).mono ?_
  rintro e h w' ⟨rfl,rfl,rfl⟩
  have c:=hs
  obtain ⟨L,N,f,_⟩:=c
  exact ⟨_,P2 a ((World.putObj_heap_other (by omega)).trans h1) f ((World.putObj_heap_other (by omega)).trans h2),hb.trans ⟨rfl,rfl,rfl,by simp,fun b hb=>World.putObj_heap_other (by omega)⟩,.inr ⟨h0,cs,rfl,hs⟩⟩
def Xw:Code->Code
 |.seq _ y=>y
 |c=>c
def CJ:Nat->Code->Code
 |0,c=>c
 |k+1,c=>CJ k (Xw c)
end Go.Proofs.Ytghepahgkcigpaa
namespace Go.Proofs.Ytghepahgkcigpaa
open Go.RowKit
theorem LL(s:Nat)(w:World):Calls Try.prog 51 #[.pointer (some ⟨s,0,none⟩)] w fun x w'=>x=.returned (.func (.func 81) #[] #[.pointer (some ⟨w.heap.size,0,none⟩)])∧w'=w.alloc (.cells #[.pointer (some ⟨s,0,none⟩)] 52):=by
 have a:∀(fn:Fn) (first cap:Array Value) (w:World),(Instr.makeFunc fn first cap).run Try.prog w=.ok (.func fn first cap) w:=fun _ _ _ _=>rfl
 go_enter Try.func51,Try.ntmps51
 go_wp2
 go_ret
 exact ⟨rfl,rfl⟩
section
variable{B:Nat}{W W':World}{N N' M:NP}{E:Int->Ex->Nat->Nat->Prop}{R:Int->Rf->Nat->Nat->Prop}{L:Bw}{x:Am}
theorem Cy.ren(h:Cy N E R W L x)(hN:∀g t,N g->Ty W g t->t≠35->t≠38->N' g):Cy N' E R W L x:=by
 refine ⟨h.ty,h.name,h.season,h.cap,h.start,h.hlets,h.hcrops,h.hreaches,h.hfarms,h.hrots,h.hrights,h.hduties,⟨h.lets.1,h.lets.2.1,fun i hi=>?_⟩,⟨h.crops.1,h.crops.2.1,fun i hi=>?_⟩,⟨h.reaches.1,h.reaches.2.1,fun i hi=>?_⟩,⟨h.farms.1,h.farms.2.1,fun i hi=>?_⟩,⟨h.rots.1,h.rots.2.1,fun i hi=>?_⟩,⟨h.rights.1,h.rights.2.1,fun i hi=>?_⟩,⟨h.duties.1,h.duties.2.1,fun i hi=>?_⟩⟩
 ·obtain ⟨g,a,b,ty,h1⟩:=h.lets.2.2 i hi
  exact ⟨g,a,hN g _ b ty (by decide) (by decide),ty,h1⟩
 ·obtain ⟨g,a,b,ty,h1⟩:=h.crops.2.2 i hi
  exact ⟨g,a,hN g _ b ty (by decide) (by decide),ty,h1⟩
 ·obtain ⟨g,a,b,ty,h1⟩:=h.reaches.2.2 i hi
  exact ⟨g,a,hN g _ b ty (by decide) (by decide),ty,h1⟩
 ·obtain ⟨g,a,b,ty,h1⟩:=h.farms.2.2 i hi
  exact ⟨g,a,hN g _ b ty (by decide) (by decide),ty,h1⟩
 ·obtain ⟨g,a,b,ty,h1,h2,h3,h4,h5,h6,d,c⟩:=h.rots.2.2 i hi
  refine ⟨g,a,hN g _ b ty (by decide) (by decide),ty,h1,h2,h3,h4,h5,h6,d,c.1,c.2.1,fun k hk=>?_⟩
  obtain ⟨g,a,b,ty,h1⟩:=c.2.2 k hk
  exact ⟨g,a,hN g _ b ty (by decide) (by decide),ty,h1⟩
 ·obtain ⟨g,a,b,ty,h1⟩:=h.rights.2.2 i hi
  exact ⟨g,a,hN g _ b ty (by decide) (by decide),ty,h1⟩
 ·obtain ⟨g,a,b,ty,h1⟩:=h.duties.2.2 i hi
  exact ⟨g,a,hN g _ b ty (by decide) (by decide),ty,h1⟩
theorem LM{b ty:Nat}{v:Value}(h:W.heap[b]?=some (.cells #[v] ty (0,0)))(e:∀k z,v≠.int k z)(a:∀q,Gj ty q=1∧GL ty q=q % 6)(q:Nat):¬ Jf B W b q:=by
 rintro ⟨_,o,d,rfl,h1,h2,h3⟩
 have c:Ty W b ty:=⟨_,h⟩
 obtain rfl:=c.inj h1
 apply h3
 unfold FH
 rw[Ev c,(a _).1,yw rfl]
 rcases h2 with h2|h2
 ·rw[(a _).1] at h2;cases h2
 ·rw[(a _).2] at h2
  by_cases h5:o - 3=0
  ·rw[h5]
   simp only[World.cell?,h]
   simp
   cases v<;>simp_all
  ·have:W.cell? ⟨b,o - 3,none⟩=none:=by
    simp only[World.cell?,h]
    simp;omega
   rw[this]
theorem LN{b:Nat}(h:∀t,¬ Ty W b t)(q:Nat):¬ Jf B W b q:=by
 rintro ⟨_,o,a,rfl,h1,h2,h3⟩
 exact h _ h1
def Bz(W:World)(b:Nat)(nms:LB):Prop:=∃m,W.heap[b]?=some (.cells #[.map (some m)] 90 (0,0))∧Cq W m nms
theorem II{t:Nat}(h:t≠35∧t≠55∧t≠57∧t≠51∧t≠59∧t≠64∧t≠66∧t≠68∧t≠70)(q:Nat):Gj t q=1∧GL t q=q % 6:=by
 obtain ⟨h1,h2,h3,h4,h5,h6,a,c,b⟩:=h
 unfold Gj GL
 rw[yu h1,yu h1,yu h2,yu h2,yu h3,yu h3,yu h4,yu h4,yu h5,yu h5,yu h6,yu h6,yu a,yu a,yu c,yu c,yu b,yu b]
 exact ⟨rfl,rfl⟩
theorem Bz.read{t:Tb}{X:List Us}{k b:Nat}{O:NP}{nms:LB}(h:Bz W b nms)(d:RJ B W t X k O W'):∃m es a,W'.cell? ⟨b,0,none⟩=some (.map (some m))∧Cq W' m nms∧W'.heap[m]?=some (.map es a)∧es.size=nms.length:=by
 obtain ⟨m,h1,h2⟩:=h
 have e1:W'.heap[b]?=W.heap[b]?:=d.same b (ye.1 h1).1 (LM h1 (by simp) (II (by decide)))
 obtain ⟨es,a,h3,h4⟩:=h2.size
 have e2:W'.heap[m]?=W.heap[m]?:=d.same m h2.lt (LN fun t ⟨c,hc⟩=>by rw[h3] at hc;cases hc)
 exact ⟨m,es,a,by simp[World.cell?,e1,h1],h2.block e2,e2.trans h3,h4⟩
theorem LO{t:Tb}{X:List Us}{k b ty:Nat}{v:Value}{O:NP}(h:W.heap[b]?=some (.cells #[v] ty (0,0)))(a:∀k z,v≠.int k z)(c:∀q,Gj ty q=1∧GL ty q=q % 6)(d:RJ B W t X k O W'):W'.cell? ⟨b,0,none⟩=some v:=by
 have e1:W'.heap[b]?=W.heap[b]?:=d.same b (ye.1 h).1 (LM h a c)
 simp[World.cell?,e1,h]
mutual
theorem NO(lt:Int):∀(e:Ex) (b o:Nat),∀u∈(Cx W lt e b o).1,u.to≠6
 |.mk op n u rn ri args,b,o=>by
  intro v a
  rw[Cx] at a
  by_cases hs:ND op args.length=true
  ·rw[yw hs] at a
   rcases yK.1 a with rfl|a
   ·simp only;unfold Kt;split
    ·split<;>decide
    ·decide
   ·exact Rm lt args _ 0 v a
  ·rw[yu hs] at a;cases a
theorem Rm(lt:Int):∀(l:List Ex) (a:Option Value) (i:Nat),∀u∈(BN W lt l a i).1,u.to≠6
 |[],a,i=>by intro v d;rw[BN] at d;cases d
 |e::r,a,i=>by
  intro v d
  by_cases f:∃b o n c,a=some (.slice (some ⟨b,o,none⟩) n c)
  ·obtain ⟨b,o,n,c,rfl⟩:=f
   rw[BN] at d
   split at d
   ·rcases yi.1 d with d|d
    ·exact NO lt e _ _ v d
    ·exact Rm lt r _ _ v d
   ·exact NO lt e _ _ v d
  ·have e0:BN W lt (e::r) a i=([],false):=by
    rw[BN]
    intro b o n c h
    exact f ⟨b,o,n,c,h⟩
   rw[e0] at d;cases d
end
theorem Vc:∀u∈(Cp W L x).1,u.to≠6:=by
 intro u a
 obtain ⟨p,b,a⟩:=Jz a
 unfold EU at b
 rcases yi.1 b with b|b
 ·obtain ⟨i,hi,rfl⟩:=zg.1 b
  simp only[Ea,List.getElem_zipWith] at a
  unfold CO at a
  split at a
  ·cases a
  ·exact NO _ _ _ _ u a
 ·simp only[zh] at b
  rw[b] at a
  simp only at a
  split at a
  ·unfold CD at a
   simp only[yi] at a
   rcases a with ((a|a)|a)|a
   ·obtain ⟨i,hi,a⟩:=yQ.1 a
    unfold EO at a
    split at a
    ·simp only[Dv,yK,zp,xv] at a
     rcases a with rfl|rfl
     ·simp
     ·simp only;split<;>simp
    ·cases a
   ·obtain ⟨i,hi,a⟩:=yQ.1 a
    unfold Hi at a
    split at a
    ·simp only[Dv,yK] at a
     rcases a with rfl|a
     ·simp
     ·obtain ⟨k,hk,a⟩:=yQ.1 a
      unfold FF at a
      split at a
      ·simp only[Dv,zh] at a
       rw[a];simp
      ·cases a
    ·cases a
   ·obtain ⟨i,hi,a⟩:=yQ.1 a
    unfold Dn at a
    split at a
    ·simp only[Dv,yK,zp,xv] at a
     rcases a with rfl|rfl
     ·simp
     ·simp only;split<;>simp
    ·cases a
   ·obtain ⟨i,hi,a⟩:=yQ.1 a
    unfold Er at a
    split at a
    ·simp only[Dv,yK,zp,xv] at a
     rcases a with rfl|rfl<;>simp
    ·cases a
  ·cases a
end
structure J2 (w:World) (x:Am) (W5:World) (L:Bw) (N M:Nat->Prop) (bl bc br bf Bf Bu:Nat):Prop where
 amid:KH w W5
 lets:Bz W5 bl (x.lets.map (·.name))
 crops:Bz W5 bc (x.crops.map (·.name))
 reaches:Bz W5 br (x.reaches.map (·.name))
 farms:Bz W5 bf (x.farms.map (·.name))
 find:W5.heap[Bf]?=some (.cells #[.func (.func 49) #[] #[]] 100 (0,0))
 box:W5.heap[Bu]?=some (.cells #[.pointer (some ⟨L.s,0,none⟩)] 52 (0,0))
 ps:Cy N (ET M W5) (RV W5) W5 L x
 hN:∀g,N g->w.heap.size<=g∧g < W5.heap.size
 hM:∀g,M g->w.heap.size+3<=g∧g < W5.heap.size
 hs:N L.s
 ls:L.s=w.heap.size+1
 fits:B9 x=true
 wr:Ay x=if Dp (Tb.of x) x&&CV (Tb.of x) x then 0 else 170
section
variable{w W5 W:World}{x:Am}{L:Bw}{N M:NP}{bl bc br bf Bf Bu k:Nat}{t:Tb}{X:List Us}{O:NP}
theorem RJ.amid(c:KH w W5)(h:RJ w.heap.size W5 t X k O W):KH w W:=by
 refine ⟨c.below.trans ⟨h.os,h.tape,h.output,h.size,fun b hb=>h.same b (by have:=c.below.size;omega) (fun q d=>by have:=d.1;omega)⟩,?_,?_⟩
 ·obtain ⟨row,h1,h2⟩:=c.x
  obtain ⟨a,e1,e2⟩:=h.ty _ _ _ h2
  exact ⟨a,by omega,e2⟩
 ·obtain ⟨v,h2⟩:=c.e
  obtain ⟨a,e1,e2⟩:=h.ty _ _ _ h2
  obtain ⟨v',rfl⟩:∃v',a=#[v']:=by
   have:a.size=1:=e1
   exact ⟨a[0],by ext i h1 h2;omega;simp at h2;subst h2;rfl⟩
  exact ⟨v',e2⟩
theorem J2.uok(h:J2 w x W5 L N M bl bc br bf Bf Bu):∀u∈Dc W5 L x,Oo w.heap.size W5 u:=Rj (fun g a=>(h.hN g a).1) (fun g a=>by have:=(h.hM g a).1;omega) h.hs h.ps
theorem J2.uses(h:J2 w x W5 L N M bl bc br bf Bf Bu):Lr M W5 (CR w.heap.size W5) (DR W5) Bu L x:=
 TO h.hs h.ps (ye.1 h.box).1 (by simp[World.cell?,h.box]) h.fits
theorem J2.bad(h:J2 w x W5 L N M bl bc br bf Bf Bu){u:Us}(a:u∈Dc W5 L x)(hb:Kb (Tb.of x) u=false):Ay x=170:=by
 rw[h.wr]
 rcases yi.1 a with a|a
 ·have:Dp (Tb.of x) x=false:=by
   obtain ⟨i,hi,a⟩:=yQ.1 a
   have hl:i < x.reaches.length:=by rw[<-h.ps.reaches.1];exact z6.1 hi
   unfold Jg at a
   rw[yk hl] at a
   simp only[zh] at a
   unfold Dp
   rw[xx]
   refine ⟨(x.reaches[i],i),zg.2 ⟨i,by simpa using hl,by simp⟩,?_⟩
   rw[a] at hb
   unfold Kb at hb
   unfold Hp
   rw[hb];simp
  rw[this];rfl
 ·have:CV (Tb.of x) x=false:=by
   rw[yj]
   intro b
   have:=((GU (Tb.of x) h.uses).2 b).2 u a
   rw[hb] at this;cases this
  rw[this];simp
theorem J2.bad2(h:J2 w x W5 L N M bl bc br bf Bf Bu)(hb:(Cp W5 L x).2=false):Ay x=170:=by
 rw[h.wr]
 have:CV (Tb.of x) x=false:=by
  rw[yj]
  intro a
  have:=((GU (Tb.of x) h.uses).2 a).1
  rw[hb] at this;cases this
 rw[this];simp
theorem J2.good(h:J2 w x W5 L N M bl bc br bf Bf Bu)(e:RJ w.heap.size W5 (Tb.of x) (Dc W5 L x) (Dc W5 L x).length O W)(d:(Cp W5 L x).2=true):Ay x=0:=by
 have a:∀u∈Dc W5 L x,Kb (Tb.of x) u=true:=fun u b=>by
  obtain ⟨j,c,rfl⟩:=zg.1 b
  exact (e.done j c c).1
 rw[h.wr,(GU (Tb.of x) h.uses).1 ⟨d,fun u b=>a u (yi.2 (.inr b))⟩]
 have:Dp (Tb.of x) x=true:=by
  unfold Dp
  rw[yO]
  intro p f
  obtain ⟨i,hi,rfl⟩:=zg.1 f
  have hl:i < x.reaches.length:=by simpa using hi
  have:=a ⟨(L.reaches.at 51 i 1).block,(L.reaches.at 51 i 1).off,if i=0 then 0 else 6,i,x.reaches[i].frm.name,x.reaches[i].frm.n⟩ (yi.2 (.inl (CI (i:=i) (by rw[h.ps.reaches.1];exact hl) (by unfold Jg;rw[yk hl];simp))))
  rw[xg]
  unfold Kb at this
  simpa[Hp] using this
 rw[this];rfl
theorem J2.src(h:J2 w x W5 L N M bl bc br bf Bf Bu)(i:RJ w.heap.size W5 (Tb.of x) (Dc W5 L x) (Dc W5 L x).length O W)(k:(Cp W5 L x).2=true):
  ∃cs,cs.length=26∧W.rangeAt L.s 0 cs∧Bb (fun g=>w.heap.size<=g∧g < W5.heap.size∧g≠w.heap.size+1∧g≠w.heap.size+2) W L cs (Ab x):=by
 have h1:=So (fun g d=>(h.hN g d).1) (fun g d=>by have:=(h.hM g d).1;omega) h.hs h.ps i k
 have f:=i.amid h.amid
 obtain ⟨row,_,n⟩:=f.x
 obtain ⟨v,m⟩:=f.e
 refine Cy.srcV ((h1.imp (E':=EV (fun g=>w.heap.size<=g∧g < W5.heap.size∧g≠w.heap.size+1∧g≠w.heap.size+2) W) (fun _ _ _ h=>h) (fun _ _ _ _=>rfl) (fun lt e b o _ _ l=>?_) (fun _ _ _ _ _ _ h=>h)).ren fun g ty d a n1 n2=>?_)
 ·obtain ⟨c,c1,c2⟩:=l
  exact ⟨c,c1,c2.exV (fun b hb _=>by have:=h.hM b hb;refine ⟨?_,?_,?_,?_⟩<;>omega)⟩
 ·obtain ⟨j,p⟩:=h.hN g d
  refine ⟨j,p,fun e=>?_,fun e=>?_⟩
  ·subst e;exact n1 (a.inj ⟨_,n⟩)
  ·subst e;exact n2 (a.inj ⟨_,m⟩)
end
section
variable{N:NP}{E E':Int->Ex->Nat->Nat->Prop}{R R':Int->Rf->Nat->Nat->Prop}{w W:World}{L:Bw}{x:Am}
theorem Cy.moved(h:Cy N E R W L x){Bx:Nat}(b:Ty W Bx 35)(a:∀q,q < 26->W.cell? ⟨Bx,q,none⟩=W.cell? ⟨L.s,q,none⟩)(c:∀lt e o,o+6<=26->E lt e L.s o->E lt e Bx o):Cy N E R W {L with s:=Bx} x:=
 ⟨b,⟨h.name.1,(a 0 (by omega)).trans h.name.2⟩,c _ _ _ (by omega) h.season,c _ _ _ (by omega) h.cap,c _ _ _ (by omega) h.start,(a _ (by omega)).trans h.hlets,(a _ (by omega)).trans h.hcrops,(a _ (by omega)).trans h.hreaches,(a _ (by omega)).trans h.hfarms,(a _ (by omega)).trans h.hrots,(a _ (by omega)).trans h.hrights,(a _ (by omega)).trans h.hduties,h.lets,h.crops,h.reaches,h.farms,h.rots,h.rights,h.duties⟩
theorem TR{M:NP}{Bx s:Nat}(b:∀q,q < 26->W.cell? ⟨Bx,q,none⟩=W.cell? ⟨s,q,none⟩)(lt:Int)(e:Ex)(o:Nat)(g:o+6<=26)(h:ET M W lt e s o):ET M W lt e Bx o:=by
 obtain ⟨c,h1,h2⟩:=h
 obtain ⟨a,cap,rfl,_⟩:=(h2.exV (N:=M) (fun _ h _=>h)).cells
 refine ⟨_,fun j v d=>?_,h2⟩
 have f:=(yA.1 d).1
 simp only[yI,yM] at f
 rw[b _ (by omega)]
 exact h1 j v d
theorem Bz.same{b:Nat}{nms:LB}{w':World}(h:Bz w b nms)(hb:∀(c:Nat) (o:Obj),w.heap[c]?=some o->(∀row:Array Value,o≠Obj.cells row 35 (0,0))->w'.heap[c]?=w.heap[c]?):Bz w' b nms:=by
 obtain ⟨m,h1,h2⟩:=h
 obtain ⟨es,a,h3,_⟩:=h2.size
 exact ⟨m,(hb b _ h1 (by rintro row e;cases e)).trans h1,h2.block (hb m _ h3 (by rintro row e;cases e))⟩
end
def RL(B:Nat)(W5:World)(t:Tb)(X:List Us)(n:Nat)(o:Obj)(k:Nat)(wr:World):Prop:=wr.heap.size=n∧RJ B W5 t X k (fun _=>False) (wr.alloc o)
section
variable{B:Nat}{W5 wr w':World}{t:Tb}{X:List Us}{n k:Nat}{o:Obj}
theorem RL.heap(h:RL B W5 t X n o k wr){b:Nat}(hb:b < n):(wr.alloc o).heap[b]?=wr.heap[b]?:=yF _ _ _ (by rw[h.1];exact hb)
theorem RL.cell(h:RL B W5 t X n o k wr){b q:Nat}(hb:b < n):(wr.alloc o).cell? ⟨b,q,none⟩=wr.cell? ⟨b,q,none⟩:=Ag (h.heap hb)
theorem RL.drew(h:RL B W5 t X n o k wr):RL B W5 t X n o k wr.drew:=⟨h.1,h.2.move (yf _) rfl rfl rfl (fun _ _=>rfl) (fun _ h=>h.elim)⟩
theorem Mr{b q:Nat}{v:Value}(hb:b < wr.heap.size):(wr.setCell ⟨b,q,none⟩ v).alloc o=(wr.alloc o).setCell ⟨b,q,none⟩ v:=by
 unfold World.setCell World.alloc
 simp only[World.mk.injEq,and_true]
 apply Array.ext_getElem?
 intro i
 simp only[Array.getElem?_push,yR,Array.size_modify]
 by_cases h1:i=wr.heap.size
 ·subst h1;simp[show ¬ b=wr.heap.size by omega]
 ·simp[h1]
theorem RL.next{u:Us}(h:RL B W5 t X n o k wr)(c:∀u∈X,Oo B W5 u)(hk:X[k]?=some u)(hb:u.b < n)(h0:u.to≠0)(a:Kb t u=true):RL B W5 t X n o (k+1) (wr.setCell ⟨u.b,u.o+1,none⟩ (.int .i64 (Gg t (Db u.to) u.name))):=by
 refine ⟨by simpa using h.1,?_⟩
 rw[Mr (by rw[h.1];exact hb)]
 exact h.2.next c hk h0 a
theorem RL.skip{u:Us}(h:RL B W5 t X n o k wr)(hk:X[k]?=some u)(h0:u.to=0)(a:Kb t u=true):RL B W5 t X n o (k+1) wr:=⟨h.1,h.2.skip hk h0 a⟩
theorem RL.read{u:Us}(h:RL B W5 t X n o k wr)(a:Oo B W5 u)(hb:u.b < n):wr.cell? ⟨u.b,u.o,none⟩=some (.string u.name)∧(∃z,wr.cell? ⟨u.b,u.o+1,none⟩=some (.int .i64 z)∧(u.to=0->z=u.n))∧wr.frozen? ⟨u.b,u.o+1,none⟩=false:=by
 obtain ⟨h1,h2,h3⟩:=h.2.read a
 rw[h.cell hb] at h1 h2
 refine ⟨h1,h2,?_⟩
 unfold World.frozen? at h3 ⊢
 rw[h.heap hb] at h3
 exact h3
end
section
variable{w W5 wr:World}{x:Am}{L:Bw}{N M:NP}{bl bc br bf Bf Bu k n:Nat}{t:Tb}{X:List Us}{o:Obj}
theorem RL.amid(c:KH w W5)(h:RL w.heap.size W5 t X n o k wr)(d:w.heap.size+3<=n):KH w wr:=by
 have a:=RJ.amid c h.2
 obtain ⟨row,h1,h2⟩:=a.x
 obtain ⟨v,h3⟩:=a.e
 rw[h.heap (by omega)] at h2 h3
 refine ⟨⟨a.below.os,a.below.tape,a.below.output,by rw[h.1];omega,fun b hb=>?_⟩,⟨row,h1,h2⟩,⟨v,h3⟩⟩
 rw[<-h.heap (by omega)]
 exact a.below.block b hb
theorem LP{f:Nat->List Us}{g:Nat->Us}:∀n,(∀i,i < n->f i=[g i])->(List.range n).flatMap f=(List.range n).map g
 |0,_=>rfl
 |n+1,h=>by rw[Ar,LP n (fun i hi=>h i (by omega)),h n (by omega),List.range_succ];simp
theorem LQ{E:Int->Ex->Nat->Nat->Prop}{R:Int->Rf->Nat->Nat->Prop}(h:Cy N E R W5 L x):(FA L x).length=x.reaches.length:=by
 unfold FA
 rw[LP (g:=fun i=>⟨(L.reaches.at 51 i 1).block,(L.reaches.at 51 i 1).off,if i=0 then 0 else 6,i,(x.reaches.map (·.frm.name)).getD i ⟨#[]⟩,(x.reaches.map (·.frm.n)).getD i 0⟩) _ (fun i hi=>by
  have hl:i < x.reaches.length:=by rw[<-h.reaches.1];exact hi
  unfold Jg;rw[yk hl];simp[xj,hl])]
 simp[h.reaches.1]
theorem Qw{E:Int->Ex->Nat->Nat->Prop}{R:Int->Rf->Nat->Nat->Prop}(h:Cy N E R W5 L x){i g:Nat}(hi:i < x.reaches.length)(b:L.reaches.a=some ⟨g,0,none⟩):(Dc W5 L x)[i]?=some ⟨g,i*51+1,if i=0 then 0 else 6,i,x.reaches[i].frm.name,x.reaches[i].frm.n⟩:=by
 unfold Dc
 rw[zC (by rw[LQ h];exact hi)]
 unfold FA
 rw[LP (g:=fun i=>⟨(L.reaches.at 51 i 1).block,(L.reaches.at 51 i 1).off,if i=0 then 0 else 6,i,(x.reaches.map (·.frm.name)).getD i ⟨#[]⟩,(x.reaches.map (·.frm.n)).getD i 0⟩) _ (fun i hi=>by
  have hl:i < x.reaches.length:=by rw[<-h.reaches.1];exact hi
  unfold Jg;rw[yk hl];simp[xj,hl])]
 rw[List.getElem?_map,List.getElem?_range (by rw[h.reaches.1];exact hi)]
 simp[xj,hi,Be b]
end
structure Hq (w:World) (x:Am) (L:Bw) (cs:List Value) (N:Nat->Prop) (V:World):Prop where
 amid:KH w V
 par:V.heap[w.heap.size]?=some (.cells cs.toArray 35 (0,0))
 src:Bb N w L cs x
 hN:∀b,N b->b < w.heap.size
 slim:Ih x
section
variable{w V V' w':World}{x:Am}{L L0:Bw}{cs cs0:LV}{N:NP}
theorem Hq.up(h:Hq w x L cs N V)(hb:Below (w.heap.size+3) V V'):Hq w x L cs N V':=
 ⟨h.amid.up hb,(hb.block _ (by omega)).trans h.par,h.src,h.hN,h.slim⟩
theorem Hq.size(h:Hq w x L cs N V):w.heap.size+3<=V.heap.size:=by
 obtain ⟨v,a⟩:=h.amid.e
 have:=(ye.1 a).1
 omega
theorem Hq.at(h:Hq w x L cs N V):Bb (fun b=>b < V.heap.size) V L cs x:=by
 have a:=h.size
 exact h.src.same (fun b hb=>by have:=h.hN b hb;omega) (fun b hb=>h.amid.below.block b (h.hN b hb))
theorem Hq.len(h:Hq w x L cs N V):cs.length=26:=by
 obtain ⟨c0,c1,c2,rfl,b,g1,a⟩:=h.src.cells
 obtain ⟨c,f,rfl,e0⟩:=b.cells
 obtain ⟨e,p1,rfl,e1⟩:=g1.cells
 obtain ⟨d,p2,rfl,e2⟩:=a.cells
 rfl
theorem Hq.range(h:Hq w x L cs N V):V.rangeAt w.heap.size 0 cs:=by
 have:=yU h.par 0 cs.length
 simpa using this
theorem Dq(W:World){b c:Nat}(row:Array Value)(h:c≠b):(W.setRow b row).heap[c]?=W.heap[c]?:=by
 simp only[World.setRow,yR,yu (xq h)]
theorem Gn(W:World)(b:Nat)(row:Array Value):(W.setRow b row).heap.size=W.heap.size:=by simp[World.setRow]
def Kx:Obj:=.cells #[.func (.func 49) #[] #[]] 100
def Rn(b:Nat):Obj:=.cells #[.pointer (some ⟨b,0,none⟩)] 52
theorem Wd(h:Hq w x L0 cs0 N V){bl bc br bf:Nat}(h1:Bz V bl (x.lets.map (·.name)))(h2:Bz V bc (x.crops.map (·.name)))(h3:Bz V br (x.reaches.map (·.name)))(h4:Bz V bf (x.farms.map (·.name)))
 (K:B9 x=true)(O:Ay x=if Dp (Tb.of x) x&&CV (Tb.of x) x then 0 else 170)
 (v:cs.length=26)(hb:Below V.heap.size V w')(hs:L.s=V.heap.size)(J:w'.rangeAt L.s 0 cs)(z:Cy (fun g=>V.heap.size<=g∧g≠V.heap.size+1) (ET (fun g=>V.heap.size+2<=g) w') (RV w') w' L x):
  J2 w x (((w'.setRow (w.heap.size+1) cs.toArray).alloc Kx).alloc (Rn (w.heap.size+1))) {L with s:=w.heap.size+1} (fun g=>(V.heap.size<=g∧g≠V.heap.size+1∧g < w'.heap.size)∨g=w.heap.size+1) (fun g=>V.heap.size+2<=g∧g < w'.heap.size) bl bc br bf w'.heap.size (w'.heap.size+1):=by
 have T:=h.size
 have M:=hb.size
 obtain ⟨row,H,p⟩:=h.amid.x
 obtain ⟨ve,y⟩:=h.amid.e
 have Q:w'.heap[w.heap.size+1]?=some (.cells row 35 (0,0)):=(hb.block _ (by omega)).trans p
 generalize n:((w'.setRow (w.heap.size+1) cs.toArray).alloc Kx).alloc (Rn (w.heap.size+1))=W5
 have a:(w'.setRow (w.heap.size+1) cs.toArray).heap.size=w'.heap.size:=Gn _ _ _
 have I:W5.heap.size=w'.heap.size+2:=by rw[<-n];simp[a]
 have l:∀b,b < w'.heap.size->b≠w.heap.size+1->W5.heap[b]?=w'.heap[b]?:=fun b f m=>by
  rw[<-n,yF _ _ _ (by simp[a];omega),yF _ _ _ (by rw[a];omega),Dq _ _ m]
 have D:W5.heap[w.heap.size+1]?=some (.cells cs.toArray 35 (0,0)):=by
  rw[<-n,yF _ _ _ (by simp[a];omega),yF _ _ _ (by rw[a];omega)]
  exact setRow_heap _ _ _ _ _ _ Q
 have P:W5.heap[w'.heap.size]?=some Kx:=by
  rw[<-n,yF _ _ _ (by simp[a])]
  have:=World.alloc_heap_new (w'.setRow (w.heap.size+1) cs.toArray) Kx
  rwa [a] at this
 have S:W5.heap[w'.heap.size+1]?=some (Rn (w.heap.size+1)):=by
  rw[<-n]
  have:=World.alloc_heap_new ((w'.setRow (w.heap.size+1) cs.toArray).alloc Kx) (Rn (w.heap.size+1))
  have G:((w'.setRow (w.heap.size+1) cs.toArray).alloc Kx).heap.size=w'.heap.size+1:=by simp[a]
  rwa [G] at this
 have F:W5.os=w'.os∧W5.tape=w'.tape∧W5.output=w'.output:=by rw[<-n];exact ⟨rfl,rfl,rfl⟩
 clear n a
 have u:Below w.heap.size w W5:=by
  have h0:=h.amid.below.trans (hb.mono (by omega))
  exact ⟨F.1.trans h0.os,F.2.1.trans h0.tape,F.2.2.trans h0.output,by omega,fun b f=>(l b (by omega) (by omega)).trans (h0.block b f)⟩
 have i:∀(c:Nat) (o:Obj),V.heap[c]?=some o->(∀row:Array Value,o≠Obj.cells row 35 (0,0))->W5.heap[c]?=V.heap[c]?:=fun c o hc A=>by
  have f:=(ye.1 hc).1
  have m:c≠w.heap.size+1:=fun e=>by
   rw[e,p] at hc
   exact A row (yh hc).symm
  rw[l c (by omega) m,hb.block c f]
 have k:∀q,q < 26->W5.cell? (aV (w.heap.size+1) q)=W5.cell? (aV L.s q):=fun q R=>by
  have e1:W5.cell? (aV L.s q)=w'.cell? (aV L.s q):=Ag (l _ z.ty.lt (by omega))
  have e2:=J q cs[q] (yk (by omega))
  rw[yB] at e2
  rw[e1,e2]
  simp[World.cell?,D,v,R]
 refine ⟨⟨u,⟨_,by simp[v],D⟩,⟨ve,(l _ (by omega) (by omega)).trans ((hb.block _ (by omega)).trans y)⟩⟩,h1.same i,h2.same i,h3.same i,h4.same i,P,S,?_,fun g j=>?_,fun g j=>?_,.inr rfl,rfl,K,O⟩
 ·have p1:Cy (fun g=>V.heap.size<=g∧g≠V.heap.size+1∧g < w'.heap.size) (ET (fun g=>V.heap.size+2<=g) w') (RV w') w' L x:=z.ren fun g t j C _ _=>⟨j.1,j.2,C.lt⟩
  have hk:∀b,(V.heap.size<=b∧b≠V.heap.size+1∧b < w'.heap.size)∨b=L.s->W5.heap[b]?=w'.heap[b]?:=fun b d=>by
   rcases d with d|rfl
   ·exact l b d.2.2 (by omega)
   ·exact l _ z.ty.lt (by omega)
  have p2:Cy (fun g=>V.heap.size<=g∧g≠V.heap.size+1∧g < w'.heap.size) (ET (fun g=>V.heap.size+2<=g∧g < w'.heap.size) W5) (RV W5) W5 L x:=by
   refine p1.imp (fun b t d C=>C.same (hk b d)) (fun b o d _=>Ag (hk b d)) (fun lt e b o d _ B=>?_) (fun to r b o d _ E=>⟨E.1,(Ag (hk b d)).trans E.2.1,(Ag (hk b d)).trans E.2.2⟩)
   obtain ⟨c,c1,c2⟩:=B
   exact ⟨c,A2 c1 (hk b d),c2.same (fun g j f=>⟨j,f⟩) (fun g j f=>l g f (by omega))⟩
  exact (p2.moved ⟨_,D⟩ k (fun lt e o A B=>TR k lt e o A B)).ren fun g t j _ _ _=>.inl j
 ·rcases j with j|rfl
  ·exact ⟨by omega,by omega⟩
  ·exact ⟨by omega,by omega⟩
 ·exact ⟨by omega,by omega⟩
end
theorem TS{α:Type}{w:World}{sz j:Nat}{f:α->ByteArray}{h:Ai}{l:List α}(h1:h.n=l.length)(h2:l.length<=140737488355328)
 (h3:∀i (hi:i < l.length),∃b o cs,h.a=some ⟨b,o,none⟩∧b < w.heap.size∧cs.length=sz∧w.rangeAt b (o+i*sz) cs∧(∀v∈cs,v.oneCell'=true)∧cs[j]?=some (.string (f l[i]))∧(f l[i]).size<=maxLen):AW w h sz j (l.map f):=by
 refine ⟨by rw[yN];exact h1,by rw[yN];exact h2,fun i hi=>?_⟩
 have c:i < l.length:=by simpa using hi
 obtain ⟨b,o,cs,d,m,k,q,p,e,g⟩:=h3 i c
 rw[zF]
 exact ⟨b,o,cs,d,m,k,q,p,e,g⟩
theorem N6{α:Type}{N:NP}{w:World}{sz j:Nat}{P:LV->α->Prop}{f:α->ByteArray}{h:Ai}{l:List α}(e:Av N w sz P h l)(hN:∀b,N b->b < w.heap.size)
 (g:∀cs d,P cs d->(∀v∈cs,v.oneCell'=true)∧cs[j]?=some (.string (f d))∧(f d).size<=maxLen):AW w h sz j (l.map f):=by
 obtain ⟨h1,h2,h3⟩:=e
 refine TS h1 h2 fun i hi=>?_
 obtain ⟨b,o,cs,a,p,m,r,q⟩:=h3 i hi
 obtain ⟨n,k,c⟩:=g _ _ q
 exact ⟨b,o,cs,a,hN b p,m,r,n,k,c⟩
structure WU (w:World) (L:Bw) (x:Am):Prop where
 lets:AW w L.lets 7 0 (x.lets.map (·.name))
 crops:AW w L.crops 7 0 (x.crops.map (·.name))
 reaches:AW w L.reaches 51 0 (x.reaches.map (·.name))
 farms:AW w L.farms 12 0 (x.farms.map (·.name))
 rots:AW w L.rots 23 0 (x.rots.map (·.name))
 rights:AW w L.rights 37 1 (x.rights.map (·.name))
 duties:AW w L.duties 11 0 (x.duties.map (·.name))
theorem Bb.nms{N:NP}{w:World}{L:Bw}{cs:LV}{x:Am}(h:Bb N w L cs x)(hN:∀b,N b->b < w.heap.size):WU w L x:=by
 refine ⟨N6 h.lets hN fun cs d hd=>⟨R9 cs d hd,?_⟩,N6 h.crops hN fun cs d hd=>⟨OB cs d hd,?_⟩,N6 h.reaches hN fun cs d hd=>⟨K6 cs d hd,?_⟩,N6 h.farms hN fun cs d hd=>⟨OC cs d hd,?_⟩,?_,N6 h.rights hN fun cs d hd=>⟨K8 cs d hd,?_⟩,N6 h.duties hN fun cs d hd=>⟨OD cs d hd,?_⟩⟩
 ·obtain ⟨h1,c,rfl,_⟩:=hd;exact ⟨rfl,h1⟩
 ·obtain ⟨h1,c,rfl,_⟩:=hd;exact ⟨rfl,h1⟩
 ·obtain ⟨h1,_,c0,c1,c2,l,c4,q,n,p,rfl,_⟩:=hd;exact ⟨rfl,h1⟩
 ·obtain ⟨h1,_,_,c,rfl,_⟩:=hd;exact ⟨rfl,h1⟩
 ·obtain ⟨h1,h2,h3⟩:=h.rots
  refine TS h1 h2 fun i hi=>?_
  obtain ⟨b,o,cs,e,k,g,m,a⟩:=h3 i hi
  have f:=Jw a
  obtain ⟨j,_,c0,c1,c2,rfl,_⟩:=a
  exact ⟨b,o,_,e,hN b k,g,m,f,rfl,j⟩
 ·obtain ⟨h1,_,_,c0,c1,c2,l,c4,rfl,_⟩:=hd;exact ⟨rfl,h1⟩
 ·obtain ⟨h1,_,_,c,rfl,_⟩:=hd;exact ⟨rfl,h1⟩
theorem AW.up{w w':World}{h:Ai}{sz j:Nat}{nms:LB}(d:AW w h sz j nms)(hb:Below w.heap.size w w'):AW w' h sz j nms:=by
 obtain ⟨h1,h2,h3⟩:=d
 refine ⟨h1,h2,fun i hi=>?_⟩
 obtain ⟨b,o,cs,c,a,e,g,f⟩:=h3 i hi
 exact ⟨b,o,cs,c,yr a hb.size,e,A2 g (hb.block b a),f⟩
structure Ro (L:Bw) (x:Am) (c:Nat->Option Value):Prop where
 name:c 0=some (.string x.name)
 lets:c 19=some L.lets.v
 crops:c 20=some L.crops.v
 reaches:c 21=some L.reaches.v
 farms:c 22=some L.farms.v
 rots:c 23=some L.rots.v
 rights:c 24=some L.rights.v
 duties:c 25=some L.duties.v
theorem Bb.at{N:NP}{w:World}{L:Bw}{cs:LV}{x:Am}(h:Bb N w L cs x):Ro L x (cs[·]?):=by
 obtain ⟨c0,c1,c2,rfl,a,g1,b⟩:=h.cells
 obtain ⟨c,f,rfl,e0⟩:=a.cells
 obtain ⟨e,p1,rfl,e1⟩:=g1.cells
 obtain ⟨d,p2,rfl,e2⟩:=b.cells
 exact ⟨rfl,rfl,rfl,rfl,rfl,rfl,rfl,rfl⟩
theorem Hq.cells{w V:World}{x:Am}{L:Bw}{cs:LV}{N:NP}(h:Hq w x L cs N V):Ro L x (fun q=>V.cell? ⟨w.heap.size,q,none⟩):=by
 have e:∀q,V.cell? (aV w.heap.size q)=cs[q]?:=fun q=>by simp[World.cell?,h.par]
 have:=h.src.at
 simp only[e]
 exact this
def E2(B:Nat)(w:World)(v:Value)(l:LB):Prop:=w.ownsRow B 9 1 v l.length (l.map .string)∧∀s∈l,s.size<=maxLen
theorem GX(B:Nat)(w:World):E2 B w (.slice none 0 0) []:=⟨⟨rfl,.inl ⟨rfl,rfl⟩⟩,by simp⟩
theorem E2.up{B:Nat}{w w':World}{v:Value}{l:LB}(h:E2 B w v l)(hb:Below w.heap.size w w'):E2 B w' v l:=by
 obtain ⟨⟨h1,h2⟩,h0⟩:=h
 refine ⟨⟨h1,h2.imp id ?_⟩,h0⟩
 rintro ⟨g,cap,a,h3,h4,h5,h6⟩
 exact ⟨g,cap,a,h3,h4,(hb.block g (ye.1 h5).1).trans h5,h6⟩
theorem JB{B:Nat}{c w w':World}{v:Value}{l:LB}(h:Below B c w)(i:B<=w.heap.size)(d:E2 B w v l)(a:w.grownBy w' v.ownBlock):Below B c w':=by
 refine h.trans ⟨a.os,a.tape,a.output,a.size,fun b hb=>a.block b (by omega) (fun e=>?_)⟩
 rcases d.1.2 with ⟨rfl,_⟩|⟨g,cap,f,rfl,h4,_⟩
 ·cases e
 ·simp only[Value.ownBlock,yY] at e
  omega
theorem E2.nm{B:Nat}{w:World}{v:Value}{l:LB}(h:E2 B w v l)(hl:l.length<=140737488355328):∃h:Ai,v=h.v∧AW w h 1 0 l:=by
 obtain ⟨⟨h1,⟨rfl,h2⟩|⟨g,cap,b,rfl,h4,h5,h6,d,e,c⟩⟩,h0⟩:=h
 ·obtain rfl:=ze.1 h2
  exact ⟨⟨none,0,0⟩,rfl,rfl,by simp,fun i hi=>absurd hi (by simp)⟩
 ·refine ⟨⟨some (aV g 0),l.length,cap⟩,rfl,rfl,hl,fun i hi=>⟨g,0,[.string l[i]],rfl,(ye.1 h5).1,rfl,?_,by simp[Value.oneCell'],rfl,h0 _ (yz hi)⟩⟩
  refine Cn ?_
  have a:(l.map Value.string)[i]?=some (.string l[i]):=by simp[hi]
  rw[<-c,zJ,yw (by omega)] at a
  simp only[World.cell?,h5]
  simpa using a
theorem CE{ops:Array Oper}{rest:List Oper}{o:Oper}{a:Act}{Q:QT}{W:World}(B:Nat)(e:o.guard=none)(s x:Operand)(w:o.op=.call {callee:=.builtin .append,args:=#[s,x],argTypes:=#[43,43]})
 (v:Value)(l:LB)(hs:a.eval s=v)(d:E2 B W v l)(b c:Nat)(nm:ByteArray)(G:a.eval x=.slice (some ⟨b,0,none⟩) 1 c)(hb:W.heap[b]?=some (.cells #[.string nm] 9 (0,0)))(y:nm.size<=maxLen)(m:l.length+1<=1000000)(g:B<=W.heap.size)
 (h:∀(n:Option Addr) (c:Nat) w',E2 B w' (.slice n (l.length+1) c) (l++[nm])->W.grownBy w' v.ownBlock->wpList Try.prog ops Q rest (a.put o.dst (.slice n (l.length+1) c)) w'):wpList Try.prog ops Q (o::rest) a W:=by
 refine yG e fun K A=>?_
 have f:(Try.prog.info? 9).map (fun i=>(i.zero,i.size,i.bytes))=some (some (.string ⟨#[]⟩),1,16):=by kernel_rfl
 obtain ⟨H,hi,q,r,p⟩:=info_parts f
 have D:Ce W (.slice (some (aV b 0)) 1 c) 1 1 [.string nm]:=by
  refine ⟨rfl,by simp[Value.oneCell'],_,_,rfl,.inr ⟨b,0,rfl,(ye.1 hb).1,fun j u t=>?_⟩⟩
  cases j with
  |zero=>cases t;simp[World.cell?,hb]
  |succ j=>simp at t
 have z:=I0 (ops:=#[]) (E:=True) (Q:=Q) (K:=K) (o:=o) Try.underlying43 hi q r p rfl (by decide) (by decide) B e s x w v l.length _ hs d.1 _ 1 [.string nm] G D m g (fun n c w' C F=>A _ _ (h n c w' ⟨by
  rw[yq,zb]
  exact C,fun u k=>by
  rcases yi.1 k with k|k
  ·exact d.2 u k
  ·rw[zh.1 k];exact y⟩ F))
 rwa [yw (by simp[Region.wanted,e])] at z
theorem J7{α:Type}{l:List α}{i:Nat}(h:i < l.length):l.take i++[l[i]]=l.take (i+1):=(yt h).symm
theorem TT{f:FuncId}{args:Array Value}{w:World}{nms:LB}(h:Calls Try.prog f args w (EX w nms))(a:nms.Nodup):Calls Try.prog f args w fun e w'=>(∃m,e=.returned (.map (some m)))∧Below w.heap.size w w':=
 h.mono fun e w' b=>by
  obtain ⟨h1,⟨_,m,h2,_⟩|⟨h2,_⟩⟩:=b
  ·exact ⟨⟨m,h2⟩,h1⟩
  ·exact absurd a h2
theorem VS{f:FuncId}{args:Array Value}{w:World}{nms:LB}(h:Calls Try.prog f args w (EX w nms))(a:¬ nms.Nodup):Calls Try.prog f args w fun e w'=>e=.panicked (F9 171)∧Below w.heap.size w w':=
 h.mono fun e w' b=>by
  obtain ⟨h1,⟨h2,_⟩|⟨_,h2⟩⟩:=b
  ·exact absurd h2 a
  ·exact ⟨h2,h1⟩
def KI(nms:LB)(r:Rf):Int:=match AR nms r.name with
 |some i=>(i:Int)
 |none=>r.n
def CK(nms:LB)(r:Rf):Bool:=(AR nms r.name).isSome
theorem Ms{s t:ByteArray}:s.toList=t.toList↔s=t:=by
 constructor
 ·intro h
  rw[zL,zL] at h
  cases s;cases t;congr 1;exact Array.toList_inj.1 h
 ·rintro rfl;rfl
def GF(F:NP)(W:World)(b:Nat):Prop:=¬ F b∧b < W.heap.size
def BM(F:NP)(W W':World):Prop:=W.heap.size<=W'.heap.size∧∀b,b < W.heap.size->¬ F b->W'.heap[b]?=W.heap[b]?
theorem BM.refl(F:NP)(W:World):BM F W W:=⟨yf _,fun _ _ _=>rfl⟩
theorem BM.trans{F:NP}{a b c:World}(h:BM F a b)(k:BM F b c):BM F a c:=⟨yl h.1 k.1,fun i hi d=>(k.2 i (yr hi h.1) d).trans (h.2 i hi d)⟩
theorem BM.below{F:NP}{W W':World}(h:Below W.heap.size W W'):BM F W W':=⟨h.size,fun b hb _=>h.block b hb⟩
theorem BM.wide{F F':NP}{W W':World}(h:BM F W W')(c:∀b,b < W.heap.size->F b->F' b):BM F' W W':=⟨h.1,fun b hb a=>h.2 b hb (fun k=>a (c b hb k))⟩
theorem GF.up{F F':NP}{W W':World}(hs:W.heap.size<=W'.heap.size)(a:∀b,F' b->F b∨W.heap.size<=b){b:Nat}(h:GF F W b):GF F' W' b:=
 ⟨fun k=>(a b k).elim h.1 (fun hb=>absurd h.2 (Nat.not_lt.2 hb)),yr h.2 hs⟩
theorem AS.flux{F F':NP}{W W':World}{e:Ex}{cs:LV}(h:AS (GF F W) W e cs)(a:BM F W W')(c:∀b,F' b->F b∨W.heap.size<=b):AS (GF F' W') W' e cs:=
 h.same (fun _ hb=>hb.up a.1 c) (fun b hb=>a.2 b hb.2 hb.1)
theorem AS.flux'{F:NP}{W W':World}{e:Ex}{cs:LV}(h:AS (GF F W) W e cs)(a:BM F W W'):AS (GF F W') W' e cs:=h.flux a (fun _ k=>.inl k)
structure Au (W W':World) (b:Nat) (c:List Value) (t:TypeId):Prop where
 os:W'.os=W.os
 tape:W'.tape=W.tape
 output:W'.output=W.output
 size:W'.heap.size=W.heap.size
 row:W'.heap[b]?=some (.cells c.toArray t (0,0))
 block:∀k,k≠b->W'.heap[k]?=W.heap[k]?
theorem Au.below{W W':World}{b:Nat}{c:LV}{t:TypeId}(h:Au W W' b c t){B:Nat}{a:World}(d:Below B a W)(hb:B<=b):Below B a W':=
 d.trans ⟨h.os,h.tape,h.output,by rw[h.size];exact yf _,fun k hk=>h.block k (by omega)⟩
theorem Au.flux{W W':World}{b:Nat}{c:LV}{t:TypeId}(h:Au W W' b c t){F:NP}(a:F b):BM F W W':=⟨by rw[h.size];exact yf _,fun k _ hk=>h.block k (fun e=>hk (e▸a))⟩
theorem Au.fresh{W W':World}{b:Nat}{c:LV}{t:TypeId}(h:Au W W' b c t){F:NP}{V:World}(a:BM F V W)(hb:V.heap.size<=b):BM F V W':=⟨by rw[h.size];exact a.1,fun k hk d=>(h.block k (by omega)).trans (a.2 k hk d)⟩
theorem Aw{W:World}{b:Nat}{c:LV}{t:TypeId}{fr:Nat × Nat}(h:W.heap[b]?=some (.cells c.toArray t fr)):W.rangeAt b 0 c:=fun j v a=>by
 simp only[World.cell?,h,yB];simpa using a
theorem Kd{W:World}{b o n:Nat}{c:LV}{t:TypeId}(h:W.heap[b]?=some (.cells c.toArray t (0,0)))(a:o+n<=c.length):W.there b o n:=fun j d=>by
 constructor
 ·simp only[World.cell?,h]
  simp;omega
 ·simp[World.frozen?,h]
theorem F5(b:Nat)(t:TypeId):∀(e:LV) (o:Nat) (w:World) (p m q:LV),w.heap[b]?=some (.cells (p++(m++q)).toArray t (0,0))->p.length=o->m.length=e.length->Au w (w.setCells b o e) b (p++(e++q)) t
 |[],o,w,p,m,q,h,d,hm=>by
  obtain rfl:m=[]:=ze.1 hm
  exact ⟨rfl,rfl,rfl,rfl,h,fun _ _=>rfl⟩
 |v::r,o,w,p,[],q,h,d,hm=>by simp at hm
 |v::r,o,w,p,x::m,q,h,d,hm=>by
  rw[World.setCells]
  have a:Au w (w.setCell ⟨b,o,none⟩ v) b ((p++[v])++(m++q)) t:=by
   refine ⟨rfl,rfl,rfl,by simp[World.setCell],?_,fun k hk=>Below.heap_setCell w (aV b o) v k hk⟩
   simp only[World.setCell,yR,h,zX]
   simp only[xT,yY]
   congr 1
   subst d
   simp
  have c:=F5 b t r (o+1) (w.setCell (aV b o) v) (p++[v]) m q a.row (by simp[d]) (by simpa using hm)
  refine ⟨c.os.trans a.os,c.tape.trans a.tape,c.output.trans a.output,c.size.trans a.size,?_,fun k hk=>(c.block k hk).trans (a.block k hk)⟩
  have:=c.row
  simpa using this
theorem CW{ops:Array Oper}{rest:List Oper}{op:Oper}{a:Act}{w:World}{Q:QT}(d:op.guard=none)(ty:TypeId)(x y:Operand)(e:op.op=.store ty x y)
 (b o:Nat)(i:a.eval x=.pointer (some ⟨b,o,none⟩))(c:LV)(g:a.eval y=.agg c.toArray){p m q:LV}{t:TypeId}(hb:w.heap[b]?=some (.cells (p++(m++q)).toArray t (0,0)))(j:p.length=o)(f:m.length=c.length)
 (hi:(Try.prog.info? ty).map (·.size)=some c.length)(h1:∀v∈c,v.oneCell'=true)
 (h:∀W',Au w W' b (p++(c++q)) t->wpList Try.prog ops Q rest (a.put op.dst undef) W'):wpList Try.prog ops Q (op::rest) a w:=by
 refine wpList_store_mid d ty x y e b o c.toArray i g (Kd hb (by simp;omega)) (by rw[yD];exact hi) (yV h1) ?_
 exact h _ (F5 b t c o w p m q hb j f)
mutual
def UQ(nms:LB):Ex->Bool
 |.mk op _ _ rn ri args=>ND op args.length&&((if op=2 then CK nms ⟨rn,ri⟩ else decide (rn.size=0∧ri=0))&&KJ nms args)
def KJ(nms:LB):List Ex->Bool
 |[]=>true
 |e::r=>UQ nms e&&KJ nms r
end
mutual
def P3(nms:LB):Ex->Ex
 |.mk op n u rn ri args=>.mk op n u rn (if op=2 then KI nms ⟨rn,ri⟩ else ri) (Ii nms args)
def Ii(nms:LB):List Ex->List Ex
 |[]=> []
 |e::r=>P3 nms e::Ii nms r
end
theorem Al{ops:Array Oper}{rest:List Oper}{op:Oper}{a:Act}{w:World}{Q:QT}(c:op.guard=none)(ty:TypeId)(x y:Operand)(d:op.op=.store ty x y)
 (b o:Nat)(g:a.eval x=.pointer (some ⟨b,o,none⟩))(v:Value)(f:a.eval y=v)(e:v.cells=#[v]){p q:LV}{m:Value}{t:TypeId}(hb:w.heap[b]?=some (.cells (p++(m::q)).toArray t (0,0)))(i:p.length=o)
 (hi:(Try.prog.info? ty).map (·.size)=some 1)(h1:v.oneCell'=true)
 (h:∀W',Au w W' b (p++(v::q)) t->wpList Try.prog ops Q rest (a.put op.dst undef) W'):wpList Try.prog ops Q (op::rest) a w:=by
 refine I5 c ty x y d b o v g f e (Kd hb (by simp;omega)) hi h1 ?_
 exact h _ (F5 b t [v] o w p [m] q hb i rfl)
theorem Ae{ops:Array Oper}{rest:List Oper}{op:Oper}{a:Act}{w:World}{Q:QT}(d:op.guard=none)(ty:TypeId)(x y:Operand)(e:op.op=.store ty x y)
 (b:Nat)(j:a.eval x=.pointer (some ⟨b,0,none⟩))(c:LV)(i:a.eval y=.agg c.toArray){m:Array Value}{t:TypeId}(hb:w.heap[b]?=some (.cells m t (0,0)))(f:m.size=c.length)
 (hi:(Try.prog.info? ty).map (·.size)=some c.length)(h1:∀v∈c,v.oneCell'=true)
 (h:∀W',Au w W' b c t->wpList Try.prog ops Q rest (a.put op.dst undef) W'):wpList Try.prog ops Q (op::rest) a w:=by
 refine CW d ty x y e b 0 j c i (p:=[]) (m:=m.toList) (q:=[]) (by simpa using hb) rfl (by simpa using f) hi h1 fun W' g=>h W' ?_
 simpa using g
theorem Ci{c:LV}(h:c.length=6):(Try.prog.info? 26).map (·.size)=some c.length:=by rw[h];kernel_rfl
theorem Xx(r:Rf):(Try.prog.info? 23).map (·.size)=some (An r).length:=by rw[show (An r).length=2 from rfl];kernel_rfl
def FL(F:NP)(l:List Nat)(k:Nat):Prop:=F k∨k∈l
structure Xy (w:World) (ls:List Value) (h0 h1 h2 h3:Ai) (t:Tb):Prop where
 cells:ls=[h0.v,h1.v,h2.v,h3.v]
 lets:AW w h0 1 0 t.lets
 crops:AW w h1 1 0 t.crops
 reaches:AW w h2 1 0 t.reaches
 farms:AW w h3 1 0 t.farms
theorem Xy.up{w w':World}{ls:LV}{h0 h1 h2 h3:Ai}{t:Tb}(h:Xy w ls h0 h1 h2 h3 t)(hb:Below w.heap.size w w'):Xy w' ls h0 h1 h2 h3 t:=
 ⟨h.cells,h.lets.up hb,h.crops.up hb,h.reaches.up hb,h.farms.up hb⟩
structure Bx (w:World) (tx:TypeId) (ls:List Value) (n:Nat) (row:List Value) (W:World):Prop where
 below:Below w.heap.size w W
 size:w.heap.size+3<=W.heap.size
 x:W.heap[w.heap.size]?=some (.cells row.toArray tx (0,0))
 l:W.heap[w.heap.size+1]?=some (.cells ls.toArray 109 (0,0))
 r:∃zr:List Value,zr.length=n∧W.heap[w.heap.size+2]?=some (.cells zr.toArray tx (0,0))
section
variable{w W W':World}{tx:TypeId}{ls row row':LV}{n:Nat}
theorem Bx.up(h:Bx w tx ls n row W)(hb:Below (w.heap.size+3) W W'):Bx w tx ls n row W':=by
 have:=h.size
 obtain ⟨a,b,c⟩:=h.r
 exact ⟨h.below.trans (hb.mono (by omega)),yl h.size hb.size,(hb.block _ (by omega)).trans h.x,(hb.block _ (by omega)).trans h.l,a,b,(hb.block _ (by omega)).trans c⟩
theorem Bx.call(h:Bx w tx ls n row W)(hb:Below W.heap.size W W'):Bx w tx ls n row W':=h.up (hb.mono h.size)
theorem Bx.wrote(h:Bx w tx ls n row W)(a:Au W W' w.heap.size row' tx):Bx w tx ls n row' W':=by
 obtain ⟨b,c,d⟩:=h.r
 exact ⟨a.below h.below (yf _),by rw[a.size];exact h.size,a.row,(a.block _ (by omega)).trans h.l,b,c,(a.block _ (by omega)).trans d⟩
theorem Bx.drew(h:Bx w tx ls n row W):Bx w tx ls n row W.drew:=h.up (yg _ _).drew
end
def VE(F:NP)(l:List Nat)(W:World)(css:List LV)(es:List Ex):Prop:=Az (fun c e=>AS (GF (FL F l) W) W e c) css es
section
variable{F:NP}{l l':List Nat}{W W':World}{css:List LV}{es:List Ex}{e:Ex}{c:LV}
theorem JC(hl:∀k∈l',k∈l∨W.heap.size<=k):∀b,FL F l' b->FL F l b∨W.heap.size<=b:=fun b hb=>hb.elim (fun h=>.inl (.inl h)) fun h=>(hl b h).elim (fun h=>.inl (.inr h)) .inr
theorem AS.fl(h:AS (GF (FL F l) W) W e c)(a:BM (FL F l) W W')(hl:∀k∈l',k∈l∨W.heap.size<=k):AS (GF (FL F l') W') W' e c:=h.flux a (JC hl)
theorem VE.up(h:VE F l W css es)(a:BM (FL F l) W W')(hl:∀k∈l',k∈l∨W.heap.size<=k):VE F l' W' css es:=Az.mono (fun _ _ b=>b.fl a hl) h
theorem VE.drew(h:VE F l W css es):VE F l W.drew css es:=h.up ⟨yf _,fun _ _ _=>rfl⟩ (fun _ h=>.inl h)
theorem BM.call(h:Below W.heap.size W W'):BM F W W':=BM.below h
end
structure XL (w:World) (tx:TypeId) (ls:List Value) (n:Nat) (row:List Value) (F:Nat->Prop) (l:List Nat) (css:List (List Value)) (es:List Ex) (A:Nat) (c:List Value) (e:Ex) (W:World):Prop where
 bx:Bx w tx ls n row W
 a:W.heap[A]?=some (.cells c.toArray 26 (0,0))
 la:w.heap.size+3<=A
 ve:VE F l W css es
 e:AS (GF (FL F l) W) W e c
def GY(nms:LB)(e:Ex):Bool:=CQ e||UQ nms e
def E3(nms:LB)(e:Ex):Ex:=if CQ e then e else P3 nms e
def Sq(r:Rf):Bool:=decide (r.name.size=0∧r.n=0)
def E4(nms:LB)(r:Rf):Rf:=⟨r.name,KI nms r⟩
def FK(t:Tb)(d:BR):Bool:=(CK t.farms d.farm&&CK t.reaches d.reach)&&GY t.lets d.due
def Ew(t:Tb)(d:BR):BR:=⟨d.name,E4 t.farms d.farm,E4 t.reaches d.reach,E3 t.lets d.due⟩
def Ey(t:Tb)(d:AG):Bool:=(((((((CK t.farms d.farm&&decide (d.kind≥1))&&decide (d.kind<=3))&&(if d.kind=1 then Sq d.reach else CK t.reaches d.reach))&&GY t.lets d.flow)&&GY t.lets d.frm)&&GY t.lets d.to)&&GY t.lets d.every)&&GY t.lets d.len
def DU(t:Tb)(d:AG):AG:=⟨d.kind,d.name,E4 t.farms d.farm,if d.kind=1 then d.reach else E4 t.reaches d.reach,d.rank,E3 t.lets d.flow,E3 t.lets d.frm,E3 t.lets d.to,E3 t.lets d.every,E3 t.lets d.len⟩
def F6(t:Tb)(d:Bd):Bool:=(CK t.reaches d.on&&(if d.river then Sq d.crop else CK t.crops d.crop))&&GY t.lets d.area
def Eb(t:Tb)(d:Bd):Bd:=⟨d.name,E4 t.reaches d.on,d.river,E3 t.lets d.area,if d.river then d.crop else E4 t.crops d.crop⟩
def FM(t:Tb)(d:Bv):Bool:=CK t.farms d.farm&&GY t.lets d.len
def GZ(t:Tb)(d:Bv):Bv:=⟨E4 t.farms d.farm,E3 t.lets d.len⟩
def Hr(t:Tb)(d:B6):Bool:=(((CK t.reaches d.on&&GY t.lets d.flow)&&GY t.lets d.frm)&&GY t.lets d.to)&&d.turns.all (FM t)
def FN(t:Tb)(d:B6):B6:=⟨d.name,E4 t.reaches d.on,d.rank,E3 t.lets d.flow,E3 t.lets d.frm,E3 t.lets d.to,d.turns.map (GZ t)⟩
def DN(t:Tb)(d:At)(i:Nat):Bool:=((((((((if i=0 then Sq d.frm else CK (t.reaches.take i) d.frm)&&GY t.lets d.delay)&&GY t.lets d.cap)&&GY t.lets d.bank)&&GY t.lets d.siphon)&&GY t.lets d.evap0)&&GY t.lets d.seep0)&&GY t.lets d.evap1)&&GY t.lets d.seep1
def CX(t:Tb)(d:At)(i:Nat):At:=⟨d.name,if i=0 then d.frm else E4 (t.reaches.take i) d.frm,E3 t.lets d.delay,E3 t.lets d.cap,E3 t.lets d.bank,E3 t.lets d.siphon,E3 t.lets d.evap0,E3 t.lets d.evap1,E3 t.lets d.seep0,E3 t.lets d.seep1⟩
def Ij(t:Tb)(d:CF)(i:Nat):Bool:=GY (t.lets.take i) d.value
def Ez(t:Tb)(d:CF)(i:Nat):CF:=⟨d.name,E3 (t.lets.take i) d.value⟩
def Gp(t:Tb)(d:Br):Bool:=GY t.lets d.need
def Ec(t:Tb)(d:Br):Br:=⟨d.name,E3 t.lets d.need⟩
def IJ(t:Tb)(x:Am):Bool:=((((GY t.lets x.season&&GY t.lets x.cap)&&GY t.lets x.start)&&x.lets.zipIdx.all fun p=>Ij t p.1 p.2)&&x.crops.all (Gp t))
def EZ(t:Tb)(x:Am):Bool:=((((IJ t x&&x.reaches.zipIdx.all fun p=>DN t p.1 p.2)&&x.farms.all (F6 t))&&x.rots.all (Hr t))&&x.rights.all (Ey t))&&x.duties.all (FK t)
theorem F0:∀(l:LB) (s:ByteArray) (k:Nat),AR (l.take k) s=match AR l s with
  |some i=>if i < k then some i else none
  |none=>none
 |[],s,k=>by simp[AR]
 |x::r,s,0=>by
  rw[zM,AR]
  cases AR (x::r) s<;>simp
 |x::r,s,k+1=>by
  rw[List.take_succ_cons,AR,AR,F0 r s k]
  by_cases h:x=s
  ·simp[h]
  ·rw[yu h,yu h]
   cases AR r s with
   |none=>rfl
   |some i=>by_cases hi:i < k<;>simp[hi]
def PX(t:Tb)(lt:Int):LB:=if 0 < lt then t.lets.take (lt - 1).toNat else t.lets
theorem LR(l:LB)(r:Rf)(k:Nat):CK (l.take k) r=match AR l r.name with
  |some i=>decide ((i:Int) < (k:Int))
  |none=>false:=by
 unfold CK
 rw[F0]
 cases AR l r.name with
 |none=>rfl
 |some i=>by_cases hi:i < k<;>simp[hi]
theorem JD(l:LB)(r:Rf):CK l r=match AR l r.name with
  |some _=>true
  |none=>false:=by
 unfold CK
 cases AR l r.name<;>rfl
theorem JE(t:Tb)(k:Int)(r:Rf):Hl t 0 k r=Sq r:=rfl
theorem Vd(t:Tb)(lt:Int)(r:Rf):Hl t (Kt 2 lt) (Om 2 lt) r=CK (PX t lt) r:=by
 unfold PX Kt Om
 by_cases h:0 < lt
 ·simp only[yw h,zX]
  rw[LR]
  obtain ⟨k,rfl⟩:∃k:Nat,lt=1+(k:Int):=⟨(lt - 1).toNat,by omega⟩
  have e:(1+(k:Int) - 1)=k:=by omega
  rw[e]
  simp only[Hl,Tb.tab,Db,early,Int.toNat_natCast]
  cases a:AR t.lets r.name<;>simp[a]
 ·simp only[yu h,zX]
  rw[JD]
  simp only[Hl,Tb.tab,Db,early]
  cases a:AR t.lets r.name<;>simp[a]
theorem TU(t:Tb)(k:Int)(r:Rf):Hl t 3 k r=CK t.crops r:=by rw[JD];simp only[Hl,Tb.tab,Db,early];cases a:AR t.crops r.name<;>simp[a]
theorem IK(t:Tb)(k:Int)(r:Rf):Hl t 4 k r=CK t.reaches r:=by rw[JD];simp only[Hl,Tb.tab,Db,early];cases a:AR t.reaches r.name<;>simp[a]
theorem LS(t:Tb)(k:Int)(r:Rf):Hl t 5 k r=CK t.farms r:=by rw[JD];simp only[Hl,Tb.tab,Db,early];cases a:AR t.farms r.name<;>simp[a]
theorem TV(t:Tb)(k:Nat)(r:Rf):Hl t 6 k r=CK (t.reaches.take k) r:=by rw[LR];simp only[Hl,Tb.tab,Db,early];cases a:AR t.reaches r.name<;>simp[a]
mutual
theorem Rp(t:Tb)(lt:Int):∀e:Ex,UQ (PX t lt) e=T6 t lt e
 |.mk op n u rn ri args=>by
  rw[UQ,T6,P4 t lt args]
  by_cases h:op=2
  ·subst h;rw[yw rfl,Vd]
  ·rw[yu h]
   have h1:Kt op lt=0:=by simp[Kt,h]
   rw[h1,JE];rfl
theorem P4(t:Tb)(lt:Int):∀l:List Ex,KJ (PX t lt) l=Re t lt l
 |[]=>by rw[KJ,Re]
 |e::r=>by rw[KJ,Re,Rp t lt e,P4 t lt r]
end
theorem TW{t:Tb}{lt:Int}{r:Rf}(h:CK (PX t lt) r=true):KI (PX t lt) r=Gg t 1 r.name:=by
 have e:t.tab 1=t.lets:=by simp[Tb.tab]
 unfold KI Gg
 unfold CK at h
 unfold PX at h ⊢
 by_cases hl:0 < lt
 ·rw[yw hl] at h ⊢
  rw[e]
  rw[F0] at h ⊢
  cases a:AR t.lets r.name with
  |none=>rw[a] at h;cases h
  |some i=>
   rw[a] at h
   simp only at h ⊢
   by_cases hi:i < (lt - 1).toNat
   ·rw[yw hi]
   ·rw[yu hi] at h;cases h
 ·rw[yu hl] at h ⊢
  rw[e]
  cases a:AR t.lets r.name with
  |none=>rw[a] at h;cases h
  |some i=>rfl
mutual
theorem N7(t:Tb)(lt:Int):∀e:Ex,UQ (PX t lt) e=true->P3 (PX t lt) e=Jc t e
 |.mk op n u rn ri args,h=>by
  rw[UQ] at h
  simp only[yv] at h
  rw[P3,Jc,LU t lt args h.2.2]
  by_cases h2:op=2
  ·rw[yw h2,yw h2]
   have:=h.2.1
   rw[yw h2] at this
   rw[TW this]
  ·rw[yu h2,yu h2]
theorem LU(t:Tb)(lt:Int):∀l:List Ex,KJ (PX t lt) l=true->Ii (PX t lt) l=Hn t l
 |[],_=>by rw[Ii,Hn]
 |e::r,h=>by
  rw[KJ] at h
  simp only[yv] at h
  rw[Ii,Hn,N7 t lt e h.1,LU t lt r h.2]
end
theorem P5(t:Tb)(lt:Int)(e:Ex):GY (PX t lt) e=AP t (e,lt):=by
 unfold GY AP
 rw[Rp]
theorem TX{t:Tb}{lt:Int}{e:Ex}(h:GY (PX t lt) e=true):E3 (PX t lt) e=fT t lt e:=by
 unfold E3 fT
 by_cases hl:CQ e=true
 ·rw[yw hl,yw hl]
 ·rw[yu hl,yu hl]
  unfold GY at h
  rw[qh] at h
  exact N7 t lt e (h.resolve_left hl)
theorem TY(t:Tb)(i:Nat):PX t (1+(i:Int))=t.lets.take i:=by
 unfold PX
 rw[yw (by omega)]
 congr 1
 omega
theorem Ed(t:Tb)(e:Ex):GY t.lets e=AP t (e,0):=P5 t 0 e
theorem We(t:Tb)(i:Nat)(e:Ex):GY (t.lets.take i) e=AP t (e,1+(i:Int)):=by rw[<-TY];exact P5 t _ e
theorem AY{t:Tb}{e:Ex}(h:GY t.lets e=true):E3 t.lets e=fT t 0 e:=TX (t:=t) (lt:=0) h
theorem Ve{t:Tb}{i:Nat}{e:Ex}(h:GY (t.lets.take i) e=true):E3 (t.lets.take i) e=fT t (1+(i:Int)) e:=by
 rw[<-TY] at h ⊢
 exact TX h
theorem Fh{t:Tb}{c:Int}{l:LB}{r:Rf}(hc:c≠0)(b:t.tab (Db c)=l)(h:CK l r=true):E4 l r=gT t c r:=by
 unfold E4 gT KI Gg
 rw[yu hc,b]
 unfold CK at h
 cases a:AR l r.name with
 |none=>rw[a] at h;cases h
 |some i=>rfl
theorem Sr{t:Tb}{k:Nat}{r:Rf}(h:CK (t.reaches.take k) r=true):E4 (t.reaches.take k) r=gT t 6 r:=by
 unfold E4 gT KI Gg
 rw[yu (by decide)]
 have e:t.tab (Db 6)=t.reaches:=by simp[Tb.tab,Db]
 rw[e]
 unfold CK at h
 rw[F0] at h ⊢
 cases a:AR t.reaches r.name with
 |none=>rw[a] at h;cases h
 |some i=>
  rw[a] at h
  simp only at h ⊢
  split at h
  ·rename_i hi;simp[hi]
  ·cases h
section
variable{t:Tb}
theorem Vf{d:BR}(i:Nat)(h:FK t d=true):Ew t d=BR.mp (fT t) (gT t) i d:=by
 unfold FK at h
 simp only[yv] at h
 unfold Ew BR.mp
 rw[Fh (t:=t) (c:=5) (by decide) (by simp[Tb.tab,Db]) h.1.1,Fh (t:=t) (c:=4) (by decide) (by simp[Tb.tab,Db]) h.1.2,AY h.2]
theorem TZ{d:AG}(i:Nat)(h:Ey t d=true):DU t d=AG.mp (fT t) (gT t) i d:=by
 unfold Ey at h
 simp only[yv] at h
 obtain ⟨⟨⟨⟨⟨⟨⟨⟨h1,h2⟩,h3⟩,h4⟩,h5⟩,h6⟩,a⟩,e⟩,b⟩:=h
 unfold DU AG.mp
 rw[Fh (t:=t) (c:=5) (by decide) (by simp[Tb.tab,Db]) h1,AY h5,AY h6,AY a,AY e,AY b]
 by_cases hk:d.kind=1
 ·rw[yw hk,yw hk];rfl
 ·rw[yu hk] at h4
  rw[yu hk,yu hk,Fh (t:=t) (c:=4) (by decide) (by simp[Tb.tab,Db]) h4]
theorem Vg{d:Bd}(i:Nat)(h:F6 t d=true):Eb t d=Bd.mp (fT t) (gT t) i d:=by
 unfold F6 at h
 simp only[yv] at h
 unfold Eb Bd.mp
 rw[Fh (t:=t) (c:=4) (by decide) (by simp[Tb.tab,Db]) h.1.1,AY h.2]
 by_cases hk:d.river=true
 ·rw[yw hk,yw hk];rfl
 ·have h4:=h.1.2
  rw[yu hk] at h4
  rw[yu hk,yu hk,Fh (t:=t) (c:=3) (by decide) (by simp[Tb.tab,Db]) h4]
theorem Vh{d:Bv}(i:Nat)(h:FM t d=true):GZ t d=Bv.mp (fT t) (gT t) i d:=by
 unfold FM at h
 simp only[yv] at h
 unfold GZ Bv.mp
 rw[Fh (t:=t) (c:=5) (by decide) (by simp[Tb.tab,Db]) h.1,AY h.2]
theorem C9{α β:Type}{f:α->β}{g:Nat->α->β}:∀ {l:List α},(∀i (h:i < l.length),f l[i]=g i l[i])->l.map f=l.mapIdx g:=by
 intro l h
 refine zn (by simp) fun i h1 h2=>?_
 rw[zF,zs]
 exact h i (by simpa using h1)
theorem Wf{d:B6}(i:Nat)(h:Hr t d=true):FN t d=B6.mp (fT t) (gT t) i d:=by
 unfold Hr at h
 simp only[yv,yO] at h
 obtain ⟨⟨⟨⟨h1,h2⟩,h3⟩,h4⟩,h5⟩:=h
 unfold FN B6.mp
 rw[Fh (t:=t) (c:=4) (by decide) (by simp[Tb.tab,Db]) h1,AY h2,AY h3,AY h4,C9 fun i hi=>Vh i (h5 _ (yz hi))]
theorem U0{d:At}{i:Nat}(h:DN t d i=true):CX t d i=At.mp (fT t) (gT t) i d:=by
 unfold DN at h
 simp only[yv] at h
 obtain ⟨⟨⟨⟨⟨⟨⟨⟨h0,h1⟩,h2⟩,h3⟩,h4⟩,h5⟩,h6⟩,a⟩,b⟩:=h
 unfold CX At.mp
 rw[AY h1,AY h2,AY h3,AY h4,AY h5,AY h6,AY a,AY b]
 by_cases hk:i=0
 ·rw[yw hk,yw hk];rfl
 ·rw[yu hk] at h0
  rw[yu hk,yu hk,Sr h0]
theorem Wg{d:CF}{i:Nat}(h:Ij t d i=true):Ez t d i=CF.mp (fT t) i d:=by
 unfold Ez CF.mp
 rw[Ve h]
theorem Vi{d:Br}(i:Nat)(h:Gp t d=true):Ec t d=Br.mp (fT t) i d:=by
 unfold Ec Br.mp
 rw[AY h]
end
theorem Fi{α:Type}{l:List α}{f:α × Nat->List KD}{p:KD->Bool}{q:α × Nat->Bool}(h:∀a,(f a).all p=q a):(l.zipIdx.flatMap f).all p=l.zipIdx.all q:=by
 rw[List.all_flatMap]
 congr 1
 funext a
 exact h a
theorem Gq{α:Type}{l:List α}{q:α->Bool}(k:Nat):(l.zipIdx k).all (fun a=>q a.1)=l.all q:=by
 induction l generalizing k with
 |nil=>rfl
 |cons x r ih=>rw[List.zipIdx_cons,zf,zf,ih]
theorem Hs{α:Type}{l:List α}{p q:α->Bool}:(l.all p&&l.all q)=l.all fun a=>p a&&q a:=by
 induction l with
 |nil=>rfl
 |cons x r ih=>
  simp only[zf,<-ih]
  cases p x<;>cases q x<;>simp
theorem IL{α:Type}{l:List α}{p q:α->Bool}(h:∀a,p a=q a):l.all p=l.all q:=by rw[show p=q from funext h]
section
variable(t:Tb)
theorem Qx(l:List CF):(l.zipIdx.all fun p=>Ij t p.1 p.2)=(Ie l).all (AP t):=
 (Fi fun a=>by simp only[zf,zA,yX];exact (We t a.2 a.1.value).symm).symm
theorem P6(l:List Br):l.all (Gp t)=(Fu l).all (AP t):=by
 unfold Fu
 rw[Fi (q:=fun a=>Gp t a.1) fun a=>by simp only[zf,zA,yX];exact (Ed t a.1.need).symm,Gq]
theorem NQ(l:List At):(l.zipIdx.all fun p=>DN t p.1 p.2)=(l.zipIdx.all (Hp t)&&(Du l).all (AP t)):=by
 unfold Du
 rw[Fi (q:=fun a=>AP t (a.1.delay,0)&&(AP t (a.1.cap,0)&&(AP t (a.1.bank,0)&&(AP t (a.1.siphon,0)&&(AP t (a.1.evap0,0)&&(AP t (a.1.evap1,0)&&(AP t (a.1.seep0,0)&&AP t (a.1.seep1,0)))))))) fun a=>by simp only[zf,zA,yX],Hs]
 refine IL fun a=>?_
 have h0:Hp t a=(if a.2=0 then Sq a.1.frm else CK (t.reaches.take a.2) a.1.frm):=by
  unfold Hp
  by_cases h:a.2=0
  ·rw[yw h,yw h];exact JE t _ _
  ·rw[yu h,yu h];exact TV t _ _
 rw[h0]
 unfold DN
 rw[xQ]
 simp only[Ed,yv,and_assoc,and_left_comm,and_comm]
theorem P7(l:List Bd):l.all (F6 t)=(l.all (Jd t)&&(Fv l).all (AP t)):=by
 unfold Fv
 rw[Fi (q:=fun a=>AP t (a.1.area,0)) fun a=>by simp only[zf,zA,yX],Gq (q:=fun d:Bd=>AP t (d.area,0)),Hs]
 refine IL fun d=>?_
 unfold F6 Jd
 rw[IK,Ed]
 congr 2
 by_cases h:d.river=true
 ·rw[yw h,yw h,JE]
 ·rw[yu h,yu h,TU]
theorem P8(l:List Bv):l.all (FM t)=((l.all fun k=>Hl t 5 0 k.farm)&&(DD l).all (AP t)):=by
 unfold DD
 rw[Fi (q:=fun a=>AP t (a.1.len,0)) fun a=>by simp only[zf,zA,yX],Gq (q:=fun d:Bv=>AP t (d.len,0)),Hs]
 refine IL fun d=>?_
 unfold FM
 rw[LS,Ed]
theorem Qy(l:List B6):l.all (Hr t)=(l.all (LG t)&&(HY l).all (AP t)):=by
 unfold HY
 rw[Fi (q:=fun a=>(AP t (a.1.flow,0)&&(AP t (a.1.frm,0)&&AP t (a.1.to,0)))&&(DD a.1.turns).all (AP t)) fun a=>by simp only[zj,zf,zA,yX],Gq (q:=fun d:B6=>(AP t (d.flow,0)&&(AP t (d.frm,0)&&AP t (d.to,0)))&&(DD d.turns).all (AP t)),Hs]
 refine IL fun d=>?_
 unfold Hr LG
 rw[IK,Ed,Ed,Ed,P8,xQ]
 simp only[yv,and_assoc,and_left_comm,and_comm]
theorem NR(l:List AG):l.all (Ey t)=((l.all fun d=>G0 d.kind)&&(l.all (Ho t)&&(Eo l).all (AP t))):=by
 unfold Eo
 rw[Fi (q:=fun a=>AP t (a.1.flow,0)&&(AP t (a.1.frm,0)&&(AP t (a.1.to,0)&&(AP t (a.1.every,0)&&AP t (a.1.len,0))))) fun a=>by simp only[zf,zA,yX],Gq (q:=fun d:AG=>AP t (d.flow,0)&&(AP t (d.frm,0)&&(AP t (d.to,0)&&(AP t (d.every,0)&&AP t (d.len,0))))),Hs,Hs]
 refine IL fun d=>?_
 unfold Ey Ho G0
 have h0:Hl t (if d.kind=1 then 0 else 4) 0 d.reach=(if d.kind=1 then Sq d.reach else CK t.reaches d.reach):=by
  by_cases h:d.kind=1
  ·rw[yw h,yw h,JE]
  ·rw[yu h,yu h,IK]
 rw[LS,h0,xQ]
 simp only[Ed,ge_iff_le,yv,and_assoc,and_left_comm,and_comm]
theorem P9(l:List BR):l.all (FK t)=(l.all (Je t)&&(Ep l).all (AP t)):=by
 unfold Ep
 rw[Fi (q:=fun a=>AP t (a.1.due,0)) fun a=>by simp only[zf,zA,yX],Gq (q:=fun d:BR=>AP t (d.due,0)),Hs]
 refine IL fun d=>?_
 unfold FK Je
 rw[IK,LS,Ed]
theorem Rq(x:Am):EZ t x=(Dp t x&&CV t x):=by
 unfold EZ IJ CV Dp AN Co
 rw[Qx,P6,NQ,P7,Qy,NR,P9]
 simp only[zj,zf,zA,yX,Ed]
 generalize AP t (x.season,0)=a
 generalize AP t (x.cap,0)=e
 generalize AP t (x.start,0)=c
 generalize (Ie x.lets).all (AP t)=a3
 generalize (Fu x.crops).all (AP t)=a4
 generalize (Du x.reaches).all (AP t)=a5
 generalize (Fv x.farms).all (AP t)=g
 generalize (HY x.rots).all (AP t)=f
 generalize (Eo x.rights).all (AP t)=i
 generalize (Ep x.duties).all (AP t)=a9
 generalize (x.reaches.zipIdx).all (Hp t)=b0
 generalize (x.rights.all fun d=>G0 d.kind)=b1
 generalize x.farms.all (Jd t)=b2
 generalize x.rots.all (LG t)=h
 generalize x.rights.all (Ho t)=j
 generalize x.duties.all (Je t)=b
 rw[xQ]
 simp only[yv,and_assoc,and_left_comm,and_comm]
end
section
variable{P:Program}{ops:Array Oper}{rest:List Oper}{o:Oper}{a:Act}{w:World}{Q:QT}
end
section
variable{ops:Array Oper}{rest:List Oper}{o:Oper}{a:Act}{w:World}{Q:QT}{j:Nat}
end
theorem CL{W:World}{b o:Nat}{v:Value}(h:W.rangeAt b o [v]):W.cell? ⟨b,o,none⟩=some v:=h 0 v rfl
end Go.Proofs.Ytghepahgkcigpaa
namespace Go.Proofs.Ytghepahgkcigpaa
open Go.RowKit
attribute [local go_sem] Oper.semAt_some
theorem Pb{s:ByteArray}(h:s.toList=[]):s=⟨#[]⟩:=by
 have h1:=(FW s).2 h
 have:s.data.size=0:=h1
 cases s with
 |mk d=>simp only at this;rw[Array.size_eq_zero_iff] at this;rw[this]
theorem U4{l:LB}{s:ByteArray}{i:Nat}(h:AR l s=some i):i < l.length:=by
 by_cases a:s∈l
 ·obtain ⟨j,h1,h2,_⟩:=GO a
  rw[h] at h1
  cases h1;exact h2
 ·rw[G1 a] at h;cases h
theorem H3{t:Tb}{to at_:Int}{r:Rf}(h0:to≠0)(h:Hl t to at_ r=true):∃i:Nat,AR (t.tab (Db to)) r.name=some i∧Gg t (Db to) r.name=i∧(early to=true->(i:Int) < at_)∧i < (t.tab (Db to)).length:=by
 unfold Hl at h
 rw[yu h0] at h
 unfold Gg
 cases a:AR (t.tab (Db to)) r.name with
 |none=>rw[a] at h;cases h
 |some i=>
  rw[a] at h
  refine ⟨i,rfl,rfl,fun b=>?_,U4 a⟩
  simpa[b] using h
theorem H4{t:Tb}{to at_:Int}{r:Rf}(h0:to≠0)(h:Hl t to at_ r=false):∀i:Nat,AR (t.tab (Db to)) r.name=some i->early to=true∧¬ (i:Int) < at_:=by
 intro i a
 unfold Hl at h
 rw[yu h0,a] at h
 simp only[Bool.or_eq_false_iff,Bool.not_eq_false',xz] at h
 exact h
theorem Gr{m:Nat}{W:World}{es:Array MapEntry}{a:Nat}(h:W.heap[m]?=some (.map es a))(ty:TypeId):(Builtin.len_ #[90] ty #[.map (some m)]).run Try.prog W=.ok (.int .i64 (es.size:Int)) W:=by
 simp[Builtin.len_,run_underlying j4,MapKept.run_getObj_map h,goInt,Result.andThen]
theorem WZ{Q:QT}{w W W5:World}{x:Am}{L:Bw}{N M:NP}{bl bc br bf Bf:Nat}(hQ:LK Q w x)(hC:J2 w x W5 L N M bl bc br bf Bf W.heap.size)
 (eb:RJ w.heap.size W5 (Tb.of x) (Dc W5 L x) (FA L x).length (fun _=>False) (W.alloc (.cells #[.pointer (some ⟨w.heap.size+1,0,none⟩)] 52)))
 (u0 u1 u8 u9 u10 u11 gh u14 u15 u16 f4 gd fb ew eh fi hg e8 fu dy f8 g4 f2 ff du dx gm ge er g7 g6 g5 f0 ej fk e9 go f7 dw gk el ec e6 gi g9 fj en e4 ed f9 e5 g3 gs dv gg fa ga ft gc ey fg eu gy ek dr eo eg fv hf fm ea ei dz gb fd fz e3 eq fq gt fy e7 gp ef fp em g2 ev gr gl g0 fo fh db bq cd bu d6 b4 ca cy bz bd bw co bn av c6 gu fs c7 ax cr cg dd ap cn c5 dh c8 cx cm dc ce cc d5 cz cl aw cv ba di ay b8 bb au ck cp c9 bi dg aq bm d9 df bp bo d3 ci bh da bg bt b5 bj cj cw b3 cq ar d4 cu de d8 bv d7 az:Value):
  Hb 11 Try.prog (CJ 20 (Try.f11.body.getD .skip)) Q {tmps:=#[u0,u1,.pointer (some ⟨w.heap.size+1,0,none⟩),.pointer (some ⟨w.heap.size+2,0,none⟩),.pointer (some ⟨bl,0,none⟩),.pointer (some ⟨bc,0,none⟩),.pointer (some ⟨br,0,none⟩),.pointer (some ⟨bf,0,none⟩),u8,u9,u10,u11,gh,.pointer (some ⟨Bf,0,none⟩),u14,u15,u16,f4,gd,fb,ew,eh,fi,hg,e8,fu,dy,f8,g4,f2,ff,du,dx,gm,ge,er,g7,g6,g5,f0,ej,fk,e9,go,f7,dw,gk,el,ec,e6,gi,g9,fj,en,e4,ed,f9,e5,g3,gs,dv,gg,fa,ga,ft,gc,ey,fg,eu,gy,ek,dr,eo,eg,fv,hf,fm,ea,ei,dz,gb,fd,fz,e3,eq,fq,gt,fy,e7,gp,ef,fp,em,g2,ev,gr,gl,g0,fo,fh,db,bq,cd,bu,d6,b4,ca,cy,bz,bd,bw,co,bn,av,c6,gu,fs,c7,ax,cr,cg,dd,ap,cn,c5,dh,c8,cx,cm,dc,ce,cc,d5,cz,cl,aw,cv,ba,di,ay,b8,bb,au,ck,cp,c9,bi,dg,aq,bm,d9,df,bp,bo,d3,ci,bh,da,bg,bt,b5,bj,cj,cw,b3,cq,ar,d4,cu,de,d8,bv,d7,az],defers:=[Kc w.heap.size]} W:=by
 have HQ:=yb hQ;have r:=yb hC;have ah:=yb eb
 clear hQ hC eb
 unfold Kc
 refine Ah (Ah (A7 ?_))
 go_wp2_with (first|(go_at_call 51;refine (LL _ _).mono ?_;rintro e w2 ⟨rfl,rfl⟩))
 refine EP ?_
 refine Ei (n:=10) Try.func11 rfl (fun _ _=>rfl) (Lt 9 (by omega) r.o.uses) (fun a ha=>by
   obtain ⟨u,_,rfl⟩:=zy.1 ha
   rfl)
  (fun k O V=>RJ w.heap.size W5 (Tb.of x) (Dc W5 L x) ((FA L x).length+k) O V) (fun _ _ _=>False) (fun ch O V=>ch=F9 170∧Ay x=170∧∃k,RJ w.heap.size W5 (Tb.of x) (Dc W5 L x) k O V)
  (fun k a O V=>RJ w.heap.size W5 (Tb.of x) (Dc W5 L x) ((FA L x).length+k) O V∧∃(ub uo:Nat) (f c:Int) (d:ByteArray) (s:Int) (g:Nat),(Cp W5 L x).1[k]?=some ⟨ub,uo,f,c,d,s⟩∧¬ O g∧g < V.heap.size∧V.heap[g]?=some (.cells #[pV ub uo,iV f,iV c] 106 (0,0))∧a={tmps:=#[u0,u1,pV (w.heap.size+1) 0,pV (w.heap.size+2) 0,pV bl 0,pV bc 0,pV br 0,pV bf 0,u8,u9,u10,u11,gh,pV Bf 0,u14,pV g 0,u16,f4,gd,fb,ew,eh,fi,hg,e8,fu,dy,f8,g4,f2,ff,du,dx,gm,ge,er,g7,g6,g5,f0,ej,fk,e9,go,f7,dw,gk,el,ec,e6,gi,g9,fj,en,e4,ed,f9,e5,g3,gs,dv,gg,fa,ga,ft,gc,ey,fg,eu,gy,ek,dr,eo,eg,fv,hf,fm,ea,ei,dz,gb,fd,fz,e3,eq,fq,gt,fy,e7,gp,ef,fp,em,g2,ev,gr,gl,g0,fo,fh,db,bq,cd,bu,d6,b4,ca,cy,bz,bd,bw,co,bn,av,c6,.func (.func 81) #[] #[pV W.heap.size 0],.agg #[pV ub uo,iV f,iV c],c7,ax,cr,cg,dd,ap,cn,c5,dh,c8,cx,cm,dc,ce,cc,d5,cz,cl,aw,cv,ba,di,ay,b8,bb,au,ck,cp,c9,bi,dg,aq,bm,d9,df,bp,bo,d3,ci,bh,da,bg,bt,b5,bj,cj,cw,b3,cq,ar,d4,cu,de,d8,bv,d7,az],defers:=[]})
  (fun k=>RJ.stays _) (fun _ _ _ _ _ _ h=>h.elim) ?_ ?_ (fun k O V h=>h.hd) (fun _ _ _ h=>h.elim) ?_ ah.o ?_ ?_ ?_ (fun _ _ _ _ _ _ h=>h.elim) ?_
 ·exact fun ch _ O V O' V' h hz ho ht hu hk hO=>⟨h.1,h.2.1,h.2.2.imp fun k h=>RJ.stays k O V O' V' h hz ho ht hu hk hO⟩
 ·rintro a k O V O' V' ⟨h1,ub,uo,f,c,d,s,g,h2,h3,h4,h5,h6⟩ hz ho ht hu hk hO
  exact ⟨RJ.stays _ O V O' V' h1 hz ho ht hu hk hO,ub,uo,f,c,d,s,g,h2,fun h=>(hO g h).elim h3 (fun h=>by omega),by omega,(hk g h3 h4).trans h5,h6⟩
 ·intro ch Y O V H
  cases hx:(Cp W5 L x).2 with
  |true=>rw[hx] at Y;cases Y
  |false=>
   rw[hx] at Y
   cases Y
   exact ⟨rfl,r.o.bad2 hx,_,H⟩
 ·intro k hk O V lo H hO hl ac
  have h9:k < (Cp W5 L x).1.length:=by rw[yN] at hk;exact hk
  rw[zF]
  have HU:=yb (yk h9)
  generalize (Cp W5 L x).1[k]=u at HU ⊢
  obtain ⟨ub,uo,f,c,d,s⟩:=u
  have J:=yb H;have dq:=yb ac
  clear H hO hl ac hk h9
  unfold Us.v
  simp only
  gi_wp2
  have dk:BL O V (V.alloc (.cells #[pV ub uo,iV f,iV c] 106)):=⟨by simp,fun b hb=>yF _ _ _ (dq.o b hb)⟩
  have a7:RJ w.heap.size W5 (Tb.of x) (Dc W5 L x) ((FA L x).length+k) O (V.alloc (.cells #[pV ub uo,iV f,iV c] 106)):=J.o.below ((yg V.heap.size V).alloc (yf _) _) J.o.size
  have a2:¬ O V.heap.size:=fun h=>xE _ (dq.o _ h)
  first
  |exact ⟨dk,a7,ub,uo,f,c,d,s,V.heap.size,HU.o,a2,by simp,World.alloc_heap_new _ _,rfl⟩
  |(rename_i hK;exact hK _ _ ⟨dk,a7,ub,uo,f,c,d,s,V.heap.size,HU.o,a2,by simp,World.alloc_heap_new _ _,rfl⟩)
  |(rename_i hK _;exact hK _ _ ⟨dk,a7,ub,uo,f,c,d,s,V.heap.size,HU.o,a2,by simp,World.alloc_heap_new _ _,rfl⟩)
  |fail
 ·rintro k hk O V lo a1 hl f1 ac ⟨H,ub,uo,f,c,d,s,g,hu,hj,i1,af,rfl⟩
  have hX:(Dc W5 L x)[(FA L x).length+k]?=some ⟨ub,uo,f,c,d,s⟩:=by
   unfold Dc
   rw[yL (by omega),xN];exact hu
  have a6:(⟨ub,uo,f,c,d,s⟩:Us)∈Dc W5 L x:=xw hX
  have U:=r.o.uok _ a6
  obtain ⟨c0,⟨z,c1,dt⟩,cf⟩:=H.read U
  have hq:f=0∨f=1∨f=2∨f=3∨f=4∨f=5:=by
   have h6:=Vc _ (xw hu)
   have h7:=U.to
   simp only at h6 h7
   omega
  have d0:V.cell? (aV g 0)=some (pV ub uo):=by simp[World.cell?,af]
  have d1:V.cell? (aV g 1)=some (iV f):=by simp[World.cell?,af]
  have d2:V.cell? (aV g 2)=some (iV c):=by simp[World.cell?,af]
  have hr:V.cell? (aV Bf 0)=some (.func (.func 49) #[] #[]):=LO r.o.find (by simp) (II (by decide)) H
  obtain ⟨ml,ag,ib,am,gn,Z,fe⟩:=r.o.lets.read H
  obtain ⟨mc,al,ic,ad,gf,P,f6⟩:=r.o.crops.read H
  obtain ⟨mr,ak,ie,ae,gx,K,ez⟩:=r.o.reaches.read H
  obtain ⟨mf,an,ia,a0,et,R,gz⟩:=r.o.farms.read H
  have HX:=yb hX;have F:=yb a6;have ig:=yb U;have J:=yb H;have A:=yb c1;have E:=yb cf;have l:=yb c0;have hy:=yb dt;have dq:=yb ac
  have ML:=yb gn;have MC:=yb gf;have MR:=yb gx;have MF:=yb et
  have SL:=yb fe;have SC:=yb f6;have SR:=yb ez;have SF:=yb gz
  have m:Hid (d.size<=maxLen):=yb U.len
  have B:Hid (∀v,BL O V (V.setCell (aV ub (uo+1)) v)):=yb (fun v=>⟨by simp,fun b hb=>yT V (aV ub (uo+1)) b v (fun e=>by
   have h1:=H.own b hb
   have h2:=U.lt
   simp only at e h2
   omega)⟩)
  clear hX a6 U H c1 cf c0 dt ac gn gf gx et fe f6 ez gz hu hj i1 af hl f1 hk
  rcases hq with rfl|rfl|rfl|rfl|rfl|rfl
  ·have c0:=l.o;have c1:=A.o
   obtain rfl:=hy.o rfl
   clear am Z ad P ae K a0 R d2 hr
   cases hb:Kb (Tb.of x) ⟨ub,uo,0,c,d,z⟩ with
   |true=>
    have X:=yb hb
    obtain ⟨fx,hw⟩:d.size=0∧z=0:=by
     have h:=hb
     unfold Kb Hl at h
     simpa using h
    have i2:d=⟨#[]⟩:=by
     have h:=(FW d).1 fx
     exact Pb h
    clear hb fx
    subst hw
    subst i2
    gi_wp2_with fail
    refine ⟨trivial,zq (CallsIn.inRound lo (za.2 (D4 _ _))) ?_⟩
    rintro e w4 ⟨rfl,p⟩
    obtain rfl:=p.symm
    gi_wp2_with fail
    exact ⟨BL.refl _ _,J.o.skip HX.o rfl X.o⟩
   |false=>
    have X:=yb hb
    have ep:¬ (d.size=0∧z=0):=by
     have h:=hb
     unfold Kb Hl at h
     simpa using h
    clear hb
    have j:=yb (r.o.bad F.o X.o)
    have i0:=yb ep
    clear ep
    gi_wp2_with fail
    all_goals first
     |exact absurd ⟨(FW _).2 (by assumption),(by assumption)⟩ i0.o
     |(refine ⟨trivial,zq (CallsIn.inRound lo (za.2 (CN _ _))) ?_⟩
       rintro e w4 ⟨rfl,p⟩
       obtain rfl:=p.symm
       try gi_wp2_with fail
       exact ⟨rfl,BL.refl _ _,rfl,j.o,_,J.o⟩)
  ·have c0:=l.o;have c1:=A.o;have cf:=E.o
   clear ad P ae K a0 R d2 c0 c1 cf
   cases hb:Kb (Tb.of x) ⟨ub,uo,1,c,d,s⟩ with
   |true=>
    obtain ⟨i,t,I,C,q⟩:=H3 (to:=1) (by decide) hb
    have X:=yb hb;have HV:=yb I
    have G:=yb (GQ (most:=(ag.size:Int)) l.o A.o E.o ML.o m.o t (by rw[SL.o];exact Int.ofNat_lt.2 q))
    clear hb t I C q
    have y:∀ty,(Builtin.len_ #[90] ty #[.map (some ml)]).run Try.prog V=.ok (iV (ag.size:Int)) V:=fun ty=>Gr Z ty
    gi_wp2_with fail
    refine ⟨trivial,zq (CallsIn.inRound lo (za.2 G.o)) ?_⟩
    rintro e w4 ⟨rfl,rfl⟩
    gi_wp2_with fail
    exact ⟨B.o _,by have h:=J.o.next r.o.uok HX.o (show (1:Int)≠0 by decide) X.o;rw[show Gg (Tb.of x) (Db (⟨ub,uo,1,c,d,s⟩:Us).to) (⟨ub,uo,1,c,d,s⟩:Us).name=_ from HV.o] at h;exact h⟩
   |false=>
    have S:=H4 (to:=1) (by decide) hb
    have j:=yb (r.o.bad F.o hb)
    have G:=yb (IE (most:=(ag.size:Int)) l.o ML.o m.o (fun i t=>absurd (S i t).1 (show ¬ early 1=true by decide)))
    clear hb S
    have y:∀ty,(Builtin.len_ #[90] ty #[.map (some ml)]).run Try.prog V=.ok (iV (ag.size:Int)) V:=fun ty=>Gr Z ty
    gi_wp2_with fail
    refine ⟨trivial,zq (CallsIn.inRound lo (za.2 G.o)) ?_⟩
    rintro e w4 ⟨rfl,p⟩
    obtain rfl:=p.symm
    try gi_wp2_with fail
    exact ⟨rfl,BL.refl _ _,rfl,j.o,_,J.o⟩
  ·have c0:=l.o;have c1:=A.o;have cf:=E.o
   clear ad P ae K a0 R c0 c1 cf
   cases hb:Kb (Tb.of x) ⟨ub,uo,2,c,d,s⟩ with
   |true=>
    obtain ⟨i,t,I,C,q⟩:=H3 (to:=2) (by decide) hb
    have X:=yb hb;have HV:=yb I
    have G:=yb (GQ (most:=c) l.o A.o E.o ML.o m.o t (by simpa using C rfl))
    clear hb t I C q
    gi_wp2_with fail
    refine ⟨trivial,zq (CallsIn.inRound lo (za.2 G.o)) ?_⟩
    rintro e w4 ⟨rfl,rfl⟩
    gi_wp2_with fail
    exact ⟨B.o _,by have h:=J.o.next r.o.uok HX.o (show (2:Int)≠0 by decide) X.o;rw[show Gg (Tb.of x) (Db (⟨ub,uo,2,c,d,s⟩:Us).to) (⟨ub,uo,2,c,d,s⟩:Us).name=_ from HV.o] at h;exact h⟩
   |false=>
    have S:=H4 (to:=2) (by decide) hb
    have j:=yb (r.o.bad F.o hb)
    have G:=yb (IE (most:=c) l.o ML.o m.o (fun i t=>(S i t).2))
    clear hb S
    gi_wp2_with fail
    refine ⟨trivial,zq (CallsIn.inRound lo (za.2 G.o)) ?_⟩
    rintro e w4 ⟨rfl,p⟩
    obtain rfl:=p.symm
    try gi_wp2_with fail
    exact ⟨rfl,BL.refl _ _,rfl,j.o,_,J.o⟩
  ·have c0:=l.o;have c1:=A.o;have cf:=E.o
   clear am Z ae K a0 R d2 c0 c1 cf
   cases hb:Kb (Tb.of x) ⟨ub,uo,3,c,d,s⟩ with
   |true=>
    obtain ⟨i,t,I,C,q⟩:=H3 (to:=3) (by decide) hb
    have X:=yb hb;have HV:=yb I
    have G:=yb (GQ (most:=(al.size:Int)) l.o A.o E.o MC.o m.o t (by rw[SC.o];exact Int.ofNat_lt.2 q))
    clear hb t I C q
    have y:∀ty,(Builtin.len_ #[90] ty #[.map (some mc)]).run Try.prog V=.ok (iV (al.size:Int)) V:=fun ty=>Gr P ty
    gi_wp2_with fail
    refine ⟨trivial,zq (CallsIn.inRound lo (za.2 G.o)) ?_⟩
    rintro e w4 ⟨rfl,rfl⟩
    gi_wp2_with fail
    exact ⟨B.o _,by have h:=J.o.next r.o.uok HX.o (show (3:Int)≠0 by decide) X.o;rw[show Gg (Tb.of x) (Db (⟨ub,uo,3,c,d,s⟩:Us).to) (⟨ub,uo,3,c,d,s⟩:Us).name=_ from HV.o] at h;exact h⟩
   |false=>
    have S:=H4 (to:=3) (by decide) hb
    have j:=yb (r.o.bad F.o hb)
    have G:=yb (IE (most:=(al.size:Int)) l.o MC.o m.o (fun i t=>absurd (S i t).1 (show ¬ early 3=true by decide)))
    clear hb S
    have y:∀ty,(Builtin.len_ #[90] ty #[.map (some mc)]).run Try.prog V=.ok (iV (al.size:Int)) V:=fun ty=>Gr P ty
    gi_wp2_with fail
    refine ⟨trivial,zq (CallsIn.inRound lo (za.2 G.o)) ?_⟩
    rintro e w4 ⟨rfl,p⟩
    obtain rfl:=p.symm
    try gi_wp2_with fail
    exact ⟨rfl,BL.refl _ _,rfl,j.o,_,J.o⟩
  ·have c0:=l.o;have c1:=A.o;have cf:=E.o
   clear am Z ad P a0 R d2 c0 c1 cf
   cases hb:Kb (Tb.of x) ⟨ub,uo,4,c,d,s⟩ with
   |true=>
    obtain ⟨i,t,I,C,q⟩:=H3 (to:=4) (by decide) hb
    have X:=yb hb;have HV:=yb I
    have G:=yb (GQ (most:=(ak.size:Int)) l.o A.o E.o MR.o m.o t (by rw[SR.o];exact Int.ofNat_lt.2 q))
    clear hb t I C q
    have y:∀ty,(Builtin.len_ #[90] ty #[.map (some mr)]).run Try.prog V=.ok (iV (ak.size:Int)) V:=fun ty=>Gr K ty
    gi_wp2_with fail
    refine ⟨trivial,zq (CallsIn.inRound lo (za.2 G.o)) ?_⟩
    rintro e w4 ⟨rfl,rfl⟩
    gi_wp2_with fail
    exact ⟨B.o _,by have h:=J.o.next r.o.uok HX.o (show (4:Int)≠0 by decide) X.o;rw[show Gg (Tb.of x) (Db (⟨ub,uo,4,c,d,s⟩:Us).to) (⟨ub,uo,4,c,d,s⟩:Us).name=_ from HV.o] at h;exact h⟩
   |false=>
    have S:=H4 (to:=4) (by decide) hb
    have j:=yb (r.o.bad F.o hb)
    have G:=yb (IE (most:=(ak.size:Int)) l.o MR.o m.o (fun i t=>absurd (S i t).1 (show ¬ early 4=true by decide)))
    clear hb S
    have y:∀ty,(Builtin.len_ #[90] ty #[.map (some mr)]).run Try.prog V=.ok (iV (ak.size:Int)) V:=fun ty=>Gr K ty
    gi_wp2_with fail
    refine ⟨trivial,zq (CallsIn.inRound lo (za.2 G.o)) ?_⟩
    rintro e w4 ⟨rfl,p⟩
    obtain rfl:=p.symm
    try gi_wp2_with fail
    exact ⟨rfl,BL.refl _ _,rfl,j.o,_,J.o⟩
  ·have c0:=l.o;have c1:=A.o;have cf:=E.o
   clear am Z ad P ae K d2 c0 c1 cf
   cases hb:Kb (Tb.of x) ⟨ub,uo,5,c,d,s⟩ with
   |true=>
    obtain ⟨i,t,I,C,q⟩:=H3 (to:=5) (by decide) hb
    have X:=yb hb;have HV:=yb I
    have G:=yb (GQ (most:=(an.size:Int)) l.o A.o E.o MF.o m.o t (by rw[SF.o];exact Int.ofNat_lt.2 q))
    clear hb t I C q
    have y:∀ty,(Builtin.len_ #[90] ty #[.map (some mf)]).run Try.prog V=.ok (iV (an.size:Int)) V:=fun ty=>Gr R ty
    gi_wp2_with fail
    refine ⟨trivial,zq (CallsIn.inRound lo (za.2 G.o)) ?_⟩
    rintro e w4 ⟨rfl,rfl⟩
    gi_wp2_with fail
    exact ⟨B.o _,by have h:=J.o.next r.o.uok HX.o (show (5:Int)≠0 by decide) X.o;rw[show Gg (Tb.of x) (Db (⟨ub,uo,5,c,d,s⟩:Us).to) (⟨ub,uo,5,c,d,s⟩:Us).name=_ from HV.o] at h;exact h⟩
   |false=>
    have S:=H4 (to:=5) (by decide) hb
    have j:=yb (r.o.bad F.o hb)
    have G:=yb (IE (most:=(an.size:Int)) l.o MF.o m.o (fun i t=>absurd (S i t).1 (show ¬ early 5=true by decide)))
    clear hb S
    have y:∀ty,(Builtin.len_ #[90] ty #[.map (some mf)]).run Try.prog V=.ok (iV (an.size:Int)) V:=fun ty=>Gr R ty
    gi_wp2_with fail
    refine ⟨trivial,zq (CallsIn.inRound lo (za.2 G.o)) ?_⟩
    rintro e w4 ⟨rfl,p⟩
    obtain rfl:=p.symm
    try gi_wp2_with fail
    exact ⟨rfl,BL.refl _ _,rfl,j.o,_,J.o⟩
 ·intro ho D O V hD h8 H aj
  have hx:(Cp W5 L x).2=true:=by
   cases hx:(Cp W5 L x).2 with
   |true=>rfl
   |false=>rw[hx] at ho;cases ho
  have aa:RJ w.heap.size W5 (Tb.of x) (Dc W5 L x) (Dc W5 L x).length O V:=by
   have h:(FA L x).length+((Cp W5 L x).1.map Us.v).length=(Dc W5 L x).length:=by unfold Dc;simp
   rw[<-h];exact H
  have hA:=aa.amid r.o.amid
  have ai:w.heap.size+3<=D:=by
   obtain ⟨v,Y⟩:=r.o.amid.e
   have h1:=(ye.1 Y).1
   have h2:=ah.o.size
   omega
  obtain ⟨cs,ao,dl,dj⟩:=r.o.src aa hx
  rw[r.o.ls] at dl
  obtain ⟨row,ee,dn⟩:=hA.x
  obtain ⟨ve,Y⟩:=hA.e
  have b9:=NK dj
  have c3:(V.setRow (w.heap.size+1) cs.toArray).cell? (aV (w.heap.size+2) 0)=some ve:=by
   simp only[World.cell?,World.setRow,yR,yu (show ¬ w.heap.size+1=w.heap.size+2 by omega)]
   simp[Y]
  have f3:(V.setRow (w.heap.size+1) cs.toArray).frozen? (aV (w.heap.size+2) 0)=false:=by
   simp only[World.frozen?,World.setRow,yR,yu (show ¬ w.heap.size+1=w.heap.size+2 by omega)]
   simp[Y]
  have g8:Hid ((Try.prog.info? 35).map (·.size)=some cs.length):=yb (by rw[ao];kernel_rfl)
  have gq:Hid ((Try.prog.info? 35).map (·.size)=some cs.toArray.size):=yb (by rw[yD];exact g8.o)
  have h0:=r.o.good aa hx
  have T:Below w.heap.size w ((V.setRow (w.heap.size+1) cs.toArray).setCell (aV (w.heap.size+2) 0) (iV 0)):=hA.below.trans ⟨rfl,rfl,rfl,by simp[World.setRow],fun b hb=>by
   rw[yT _ _ _ _ (by simp;omega)]
   simp only[World.setRow,yR,yu (show ¬ w.heap.size+1=b by omega)]⟩
  have fc:((V.setRow (w.heap.size+1) cs.toArray).setCell (aV (w.heap.size+2) 0) (iV 0)).heap[w.heap.size+1]?=some (.cells cs.toArray 35 (0,0)):=by
   rw[yT _ _ _ _ (by simp)]
   simp[World.setRow,yR,dn]
  have fl:((V.setRow (w.heap.size+1) cs.toArray).setCell (aV (w.heap.size+2) 0) (iV 0)).heap[w.heap.size+2]?=some (.cells #[iV 0] 38 (0,0)):=by
   have:=z7 (V.setRow (w.heap.size+1) cs.toArray) (w.heap.size+2) 0 #[ve] 38 (iV 0) (by simp[World.setRow,yR,Y])
   rw[this];rfl
  have a8:∀b,b≠w.heap.size+1->b≠w.heap.size+2->((V.setRow (w.heap.size+1) cs.toArray).setCell (aV (w.heap.size+2) 0) (iV 0)).heap[b]?=V.heap[b]?:=fun b h1 h2=>by
   rw[yT _ _ _ _ (by simpa using h2)]
   simp only[World.setRow,yR,yu (xq h1)]
  have gj:=(a8 D (by omega) (by omega)).trans aj
  have i7:W5.heap.size<=D:=by have:=ah.o.size;omega
  have i6:=aa.size
  have ct:Qv w.heap.size (((V.setRow (w.heap.size+1) cs.toArray).setCell (aV (w.heap.size+2) 0) (iV 0)).putObj D (.deferred none)) cs (Ab x):=by
   refine ⟨L,_,ao,dj.same (fun _ h=>h) (fun b hb=>?_),fun b hb=>⟨hb.1,?_⟩⟩
   ·obtain ⟨k1,k2,k3,k4⟩:=hb
    rw[World.putObj_heap_other (by omega),a8 b k3 k4]
   ·obtain ⟨k1,k2,k3,k4⟩:=hb
    simp[World.setRow];omega
  have dm:=yb (fun tm I=>HQ.o.done D tm _ cs I T fc fl h0 ai gj ct)
  have i8:=yb dl;have f5:=yb b9;have hm:=yb dn;have hh:Hid (row.size=cs.toArray.size):=yb (by rw[ee,yD,ao])
  clear hx aa hA ai dl dj ee dn Y b9 h0 T fc fl a8 gj i7 i6 ct hD h8 H aj ho ao
  simp only[Exit.inBlock,Exit.then]
  refine Ah (A7 ?_)
  go_wp2_with (first|(refine ym rfl 35 _ rfl (w.heap.size+1) 0 rfl cs _ i8.o qM rfl g8.o ?_)|(refine yZ rfl 35 _ _ rfl (w.heap.size+1) cs.toArray rfl rfl 35 row hm.o gq.o hh.o (yV f5.o) ?_))
  refine A7 ?_
  go_wp2
  exact dm.o _ ⟨rfl,rfl⟩
 ·rintro D ch O V hD h8 ⟨rfl,be,k,H⟩ aj
  have ai:w.heap.size+3<=D:=by
   obtain ⟨v,Y⟩:=r.o.amid.e
   have h1:=(ye.1 Y).1
   have h2:=ah.o.size
   omega
  simp only[Exit.inBlock,Exit.then]
  have h:=fun tm I=>HQ.o.failD D tm V I (H.amid r.o.amid) (by rw[be];decide) ai aj
  rw[be] at h
  exact h _ ⟨rfl,rfl⟩
end Go.Proofs.Ytghepahgkcigpaa
namespace Go.Proofs.Ytghepahgkcigpaa
open Go.RowKit
theorem NU{ops:Array Oper}{p:Oper->Bool}{i:Nat}{o:Oper}(h:ops.all p=true)(a:ops[i]?=some o):p o=true:=by
 rw[zu] at h
 exact h o (xr a)
theorem Ac{l:Array Bool}{i j:Nat}(h:i≠j):(l.setIfInBounds i true).getD j false=l.getD j false:=xb false h
theorem BS{l:Array Value}{i j:Nat}{v:Value}(h:i≠j):(l.setIfInBounds i v).getD j undef=l.getD j undef:=by simp[h]
def NV(lo hi:Nat)(d:Option Tmp):Bool:=match d with
 |some k=>decide (lo<=k)&&decide (k<=hi)
 |none=>true
theorem FQ{lo hi:Nat}{ops:Array Oper}{e:Act}{d:Array Bool->Array Value->World->Prop}{h:Nat->Value->World->Prop}{b:Array Bool}{a:Act}{w':World}(c:ops.all (fun o=>NV lo hi o.dst)=true)(hM:Ke ops e d h b a w'):
  ∀t,(t < lo∨hi < t)->a.tmps.getD t undef=e.tmps.getD t undef:=by
 intro t i
 refine hM.free t fun j g o f hd=>?_
 have hs:NV lo hi o.dst=true:=NU (p:=fun o=>NV lo hi o.dst) c f
 rw[hd] at hs
 simp only[NV,yv,yW] at hs
 exact (show ¬ (lo<=t∧t<=hi) from by omega) hs
def VT(B g rn rc mr i:Nat)(j:Nat)(v:Value)(_:World):Prop:=match j with
 |0=>v=.func (.func 49) #[] #[]
 |1=>v=.pointer (some ⟨B+1,21,none⟩)
 |2=>v=.slice (some ⟨g,0,none⟩) rn rc
 |3=>v=.int .i64 i
 |4=>v=.pointer (some ⟨g,i*51,none⟩)
 |5=>v=.pointer (some ⟨g,i*51+1,none⟩)
 |6=>v=.map (some mr)
 |7=>v=.int .i64 i
 |_=>True
structure KY (R1 R2:World->Prop) (l:Array Bool) (_:Array Value) (w:World):Prop where
 one:l.getD 8 false=false->R1 w
 two:l.getD 8 false=true->R2 w
theorem KY.quiet{R1 R2:World->Prop}{l:Array Bool}{tm a:Array Value}{w:World}{i:Nat}(h:KY R1 R2 l tm w)(hi:i≠8):KY R1 R2 (l.setIfInBounds i true) a w:=
 ⟨fun k=>h.one (by rw[Ac hi] at k;exact k),fun k=>h.two (by rw[Ac hi] at k;exact k)⟩
theorem VU{l:Act}{wr:World}{Q:QT}{B Bf g rn rc br mr i:Nat}{R1 R2 R3:World->Prop}(ops:Array Oper)(m:Gs Try.f11 32=some ops)
 (h2:l.tmps.getD 2 undef=.pointer (some ⟨B+1,0,none⟩))(h6:l.tmps.getD 6 undef=.pointer (some ⟨br,0,none⟩))(C:l.tmps.getD 13 undef=.pointer (some ⟨Bf,0,none⟩))(s:l.tmps.getD 14 undef=.int .i64 i)(H:l.tmps.size=174)
 (hi:i < rn)(h0:R1 wr.drew)
 (z:∀W,R1 W->W.cell? ⟨Bf,0,none⟩=some (.func (.func 49) #[] #[])∧W.cell? ⟨B+1,21,none⟩=some (.slice (some ⟨g,0,none⟩) rn rc)∧W.cell? ⟨br,0,none⟩=some (.map (some mr)))
 (n:∀W,R1 W->Calls Try.prog 49 #[.pointer (some ⟨g,i*51+1,none⟩),.map (some mr),.int .i64 i] W fun e w'=>(e=.returned (.tuple #[])∧R2 w')∨(e=.panicked (F9 170)∧R3 w'))
 (A:∀(a:Act) W,a.defers=l.defers->(∀t,(t < 105∨113 < t)->a.tmps.getD t undef=l.tmps.getD t undef)->R3 W->Q (.panic (F9 170)) a W)
 (D:∀(a:Act) W,a.tmps.size=174->a.defers=l.defers->(∀t,(t < 105∨113 < t)->a.tmps.getD t undef=l.tmps.getD t undef)->R2 W->Q .normal a W):
  (Code.region 32 ops true).wp Try.prog Q l wr:=by
 obtain rfl:=yh ((rfl:Gs Try.f11 32=some _).symm.trans m)
 clear m
 refine DP (by kernel_rfl) (KY R1 R2) (VT B g rn rc mr i) (fun _ _ _=>True) (by kernel_rfl) (by rw[H];kernel_rfl) (by kernel_rfl) (fun _ j v w w' _ _ _ h=>by unfold VT at h ⊢;exact h) ⟨fun _=>h0,fun h=>(by cases h)⟩ ?_ ?_
 ·intro P c a w' hM b o k
  have f:=yb hM.ext
  have F:=(ye.1 k).1
  have x:=hM.size
  have S:=yb hi
  have K:(i:Int) < (rn:Int):=by omega
  match P,F with
  |0,_=>
   have d:=hM.old b 13 (by kernel_rfl) _ C
   have q:c.getD 8 false=false:=by
    rw[yj];intro u
    have:=A3 hM.down 8 8 0 (by kernel_rfl) u
    rw[hM.not_yet b] at this;cases this
   obtain ⟨I,G,J⟩:=z _ (f.o.one q)
   clear hi
   obtain rfl:=yh k
   go_simp
   exact ⟨_,rfl,f.o.quiet (by decide),trivial,rfl⟩
  |1,_=>
   have d:=hM.old b 2 (by kernel_rfl) _ h2
   clear hi
   obtain rfl:=yh k
   go_simp
   exact ⟨_,rfl,f.o.quiet (by decide),trivial,rfl⟩
  |2,_=>
   have d:a.tmps[106]?.getD undef=pV (B+1) 21:=hM.dep b 1 106 (by kernel_rfl) (by kernel_rfl)
   have q:c.getD 8 false=false:=by
    rw[yj];intro u
    have:=A3 hM.down 8 8 2 (by kernel_rfl) u
    rw[hM.not_yet b] at this;cases this
   obtain ⟨I,G,J⟩:=z _ (f.o.one q)
   clear hi
   obtain rfl:=yh k
   go_simp
   exact ⟨_,rfl,f.o.quiet (by decide),trivial,rfl⟩
  |3,_=>
   have d:=hM.old b 14 (by kernel_rfl) _ s
   clear hi
   obtain rfl:=yh k
   go_simp
   exact ⟨_,rfl,f.o.quiet (by decide),trivial,rfl⟩
  |4,_=>
   have N:a.tmps[107]?.getD undef=.slice (some (aV g 0)) rn rc:=hM.dep b 2 107 (by kernel_rfl) (by kernel_rfl)
   have O:a.tmps[108]?.getD undef=iV i:=hM.dep b 3 108 (by kernel_rfl) (by kernel_rfl)
   clear hi
   obtain rfl:=yh k
   go_simp
   exact ⟨_,rfl,f.o.quiet (by decide),trivial,rfl⟩
  |5,_=>
   have d:a.tmps[109]?.getD undef=pV g (i*51):=hM.dep b 4 109 (by kernel_rfl) (by kernel_rfl)
   clear hi
   obtain rfl:=yh k
   go_simp
   exact ⟨_,rfl,f.o.quiet (by decide),trivial,rfl⟩
  |6,_=>
   have d:=hM.old b 6 (by kernel_rfl) _ h6
   have q:c.getD 8 false=false:=by
    rw[yj];intro u
    have:=A3 hM.down 8 8 6 (by kernel_rfl) u
    rw[hM.not_yet b] at this;cases this
   obtain ⟨I,G,J⟩:=z _ (f.o.one q)
   clear hi
   obtain rfl:=yh k
   go_simp
   exact ⟨_,rfl,f.o.quiet (by decide),trivial,rfl⟩
  |7,_=>
   have d:=hM.old b 14 (by kernel_rfl) _ s
   clear hi
   obtain rfl:=yh k
   go_simp
   exact ⟨_,rfl,f.o.quiet (by decide),trivial,rfl⟩
  |8,_=>
   have N:a.tmps[105]?.getD undef=.func (.func 49) #[] #[]:=hM.dep b 0 105 (by kernel_rfl) (by kernel_rfl)
   have O:a.tmps[110]?.getD undef=pV g (i*51+1):=hM.dep b 5 110 (by kernel_rfl) (by kernel_rfl)
   have T:a.tmps[111]?.getD undef=.map (some mr):=hM.dep b 6 111 (by kernel_rfl) (by kernel_rfl)
   have U:a.tmps[112]?.getD undef=iV i:=hM.dep b 7 112 (by kernel_rfl) (by kernel_rfl)
   have y:=f.o.one (hM.not_yet b)
   have M:=yb (n _ y)
   have R:=yb (FQ (lo:=105) (hi:=113) (by kernel_rfl) hM)
   have E:=yb hM.defers
   have L:Hid (8 < c.size):=yb (by rw[x];show 8 < 9;omega)
   clear hi
   obtain rfl:=yh k
   go_simp
   refine M.o.mono ?_
   rintro e w2 (⟨rfl,p⟩|⟨rfl,p⟩)
   ·exact ⟨_,rfl,⟨fun h=>(by simp[L.o] at h),fun _=>p⟩,trivial,trivial⟩
   ·exact A _ _ E.o R.o p
 ·intro c a w' r hM
  exact D a w' (hM.tmps.trans H) hM.defers (FQ (lo:=105) (hi:=113) (by kernel_rfl) hM) (hM.ext.two (r 8 (show 8 < 9 by omega)))
def Ky(n0:Nat)(w w':World):Prop:=w.heap.size<=w'.heap.size∧∀(b:Nat) (o:Obj),n0<=b->w.heap[b]?=some o->w'.heap[b]?=some o∨∃z a:Value,o=.cells #[z] 90 (0,0)∧w'.heap[b]?=some (.cells #[a] 90 (0,0))
theorem Ky.refl(n0:Nat)(w:World):Ky n0 w w:=⟨yf _,fun _ _ _ h=>.inl h⟩
theorem Ky.below{n0:Nat}{w w':World}(h:Below w.heap.size w w'):Ky n0 w w':=⟨h.size,fun b _ _ hb=>.inl ((h.block b (ye.1 hb).1).trans hb)⟩
theorem Cq.leB{n0:Nat}{w w':World}{m:Nat}{nms:LB}(h:Cq w m nms)(hl:Ky n0 w w')(b:n0<=m):Cq w' m nms:=by
 obtain ⟨es,a,h1,h2⟩:=h
 rcases hl.2 m _ b h1 with h3|⟨z,c,h3,_⟩
 ·exact ⟨es,a,h3,h2⟩
 ·cases h3
def J8(n0:Nat)(v:Value)(w:World):Prop:=∃b z,v=.pointer (some ⟨b,0,none⟩)∧n0<=b∧w.heap[b]?=some (.cells #[z] 90 (0,0))
theorem J8.leB{n0:Nat}{v:Value}{w w':World}(h:J8 n0 v w)(hl:Ky n0 w w'):J8 n0 v w':=by
 obtain ⟨b,z,h1,h2,h3⟩:=h
 rcases hl.2 b _ h2 h3 with h4|⟨_,a,_,h4⟩
 ·exact ⟨b,z,h1,h2,h4⟩
 ·exact ⟨b,a,h1,h2,h4⟩
def G7(n0:Nat)(v:Value)(nms:LB)(w:World):Prop:=∃m,v=.map (some m)∧n0<=m∧Cq w m nms∧nms.Nodup
theorem G7.leB{n0:Nat}{v:Value}{nms:LB}{w w':World}(h:G7 n0 v nms w)(hl:Ky n0 w w'):G7 n0 v nms w':=by
 obtain ⟨m,h1,h2,h3,h4⟩:=h
 exact ⟨m,h1,h2,h3.leB hl h2,h4⟩
def Vl(n0 B:Nat)(h0 h1 h2 h3:Ai)(n0s n1s n2s n3s:LB)(j:Nat)(v:Value)(w:World):Prop:=match j with
 |0=>v=.pointer (some ⟨B,19,none⟩)
 |1=>v=.slice h0.a h0.n h0.c
 |2=>G7 n0 v n0s w
 |3=>v=.pointer (some ⟨B,20,none⟩)
 |4=>v=.slice h1.a h1.n h1.c
 |5=>G7 n0 v n1s w
 |6=>v=.pointer (some ⟨B,21,none⟩)
 |7=>v=.slice h2.a h2.n h2.c
 |8=>G7 n0 v n2s w
 |9=>v=.pointer (some ⟨B,22,none⟩)
 |10=>v=.slice h3.a h3.n h3.c
 |11=>G7 n0 v n3s w
 |12|13|14|15=>J8 n0 v w
 |_=>True
theorem Pc{n0 B:Nat}{h0 h1 h2 h3:Ai}{n0s n1s n2s n3s:LB}(j:Nat)(v:Value)(w w':World)(hl:Ky n0 w w')(h:Vl n0 B h0 h1 h2 h3 n0s n1s n2s n3s j v w):Vl n0 B h0 h1 h2 h3 n0s n1s n2s n3s j v w':=by
 unfold Vl at h ⊢
 split at h
 all_goals first|exact h|exact h.leB hl
def Wh(n0:Nat)(v:Value)(nms:LB)(w:World):Prop:=∃b,v=.pointer (some ⟨b,0,none⟩)∧n0<=b∧b < w.heap.size∧Bz w b nms
def X0(n0:Nat)(n0s n1s n2s n3s:LB)(l:Array Bool)(tm:Array Value)(w:World)(q:Nat):Prop:=l.getD (16+q) false=true->Wh n0 (tm.getD (4+q) undef) ((([n0s,n1s,n2s,n3s]:List LB))[q]?.getD []) w
structure GI (n0:Nat) (V:World) (n0s n1s n2s n3s:List ByteArray) (l:Array Bool) (tm:Array Value) (w:World):Prop where
 below:Below n0 V w
 apart:∀p q,p < 4->q < 4->p≠q->l.getD (12+p) false=true->l.getD (12+q) false=true->tm.getD (4+p) undef≠tm.getD (4+q) undef
 full:∀q,q < 4->X0 n0 n0s n1s n2s n3s l tm w q
section
variable{n0:Nat}{V w w':World}{n0s n1s n2s n3s:LB}{l:Array Bool}{tm:Array Value}
theorem Bz.below{b:Nat}{nms:LB}(h:Bz w b nms)(hb:Below w.heap.size w w'):Bz w' b nms:=by
 obtain ⟨m,h1,h2⟩:=h
 exact ⟨m,(hb.block b (ye.1 h1).1).trans h1,h2.block (hb.block m h2.lt)⟩
theorem GI.quiet(h:GI n0 V n0s n1s n2s n3s l tm w){i t:Nat}{v:Value}(hi:i < 12)(j:7 < t)(f:n0<=w.heap.size)(hb:Below w.heap.size w w'):GI n0 V n0s n1s n2s n3s (l.setIfInBounds i true) (tm.setIfInBounds t v) w':=by
 refine ⟨h.below.trans (hb.mono f),fun p q g c a d e=>?_,fun q c k=>?_⟩
 ·rw[Ac (by omega)] at d e
  rw[BS (by omega),BS (by omega)]
  exact h.apart p q g c a d e
 ·rw[Ac (by omega)] at k
  rw[BS (by omega)]
  obtain ⟨b,h1,h2,h3,h4⟩:=h.full q c k
  exact ⟨b,h1,h2,yr h3 hb.size,h4.below hb⟩
theorem GI.alloc(h:GI n0 V n0s n1s n2s n3s l tm w){q:Nat}(t:q < 4)(s:n0<=w.heap.size)(j:tm.size=174)(g:∀p,p < 4->l.getD (12+p) false=true->J8 n0 (tm.getD (4+p) undef) w)(m:l.getD (16+q) false=false)(z:Value):
  GI n0 V n0s n1s n2s n3s (l.setIfInBounds (12+q) true) (tm.setIfInBounds (4+q) (.pointer (some ⟨w.heap.size,0,none⟩))) (w.alloc (.cells #[z] 90)):=by
 have hb:Below w.heap.size w (w.alloc (.cells #[z] 90)):=(yg _ _).alloc (yf _) _
 have a:(tm.setIfInBounds (4+q) (pV w.heap.size 0)).getD (4+q) undef=pV w.heap.size 0:=by simp[j,show 4+q < 174 by omega]
 have c:∀p,p < 4->p≠q->(l.setIfInBounds (12+q) true).getD (12+p) false=true->∃b,tm.getD (4+p) undef=pV b 0∧b < w.heap.size:=fun p f d k=>by
  rw[Ac (by omega)] at k
  obtain ⟨b,z,h1,_,h3⟩:=g p f k
  exact ⟨b,h1,(ye.1 h3).1⟩
 refine ⟨h.below.trans (hb.mono s),fun p r f o d i n=>?_,fun p f k=>?_⟩
 ·by_cases e1:p=q
  ·subst e1
   obtain ⟨b,h1,h2⟩:=c r o (xq d) n
   rw[a,BS (by omega),h1]
   intro e;simp at e<;>omega
  ·obtain ⟨b,h1,h2⟩:=c p f e1 i
   by_cases e2:r=q
   ·subst e2
    rw[a,BS (by omega),h1]
    intro e;simp at e<;>omega
   ·rw[BS (by omega),BS (by omega)]
    rw[Ac (by omega)] at i n
    exact h.apart p r f o d i n
 ·rw[Ac (by omega)] at k
  by_cases e1:p=q
  ·subst e1;rw[m] at k;cases k
  ·rw[BS (by omega)]
   obtain ⟨b,h1,h2,h3,h4⟩:=h.full p f k
   exact ⟨b,h1,h2,yr h3 hb.size,h4.below hb⟩
theorem GI.store(h:GI n0 V n0s n1s n2s n3s l tm w){q b m:Nat}{z:Value}(D:q < 4)(C:n0<=b)(hb:w.heap[b]?=some (.cells #[z] 90 (0,0)))(s:tm.getD (4+q) undef=.pointer (some ⟨b,0,none⟩))
 (A:Cq w m ((([n0s,n1s,n2s,n3s]:List LB))[q]?.getD []))(u:l.getD (12+q) false=true)(i:∀p,p < 4->l.getD (16+p) false=true->l.getD (12+p) false=true):
  GI n0 V n0s n1s n2s n3s (l.setIfInBounds (16+q) true) tm (w.setCell ⟨b,0,none⟩ (.map (some m)))∧Ky n0 w (w.setCell ⟨b,0,none⟩ (.map (some m))):=by
 have d:(w.setCell (aV b 0) (.map (some m))).heap[b]?=some (.cells #[.map (some m)] 90 (0,0)):=by
  have:=z7 w b 0 #[z] 90 (.map (some m)) hb
  rw[this];rfl
 have a:∀c,c≠b->(w.setCell (aV b 0) (.map (some m))).heap[c]?=w.heap[c]?:=fun c hc=>yT w (aV b 0) c _ hc
 have f:∀j nms,Cq w j nms->Cq (w.setCell (aV b 0) (.map (some m))) j nms:=fun j nms h=>by
  obtain ⟨es,v,h1,_⟩:=h.size
  exact h.block (a j (fun e=>by rw[e,hb] at h1;cases h1))
 refine ⟨⟨?_,fun p r n B g x y=>?_,fun p n k=>?_⟩,by simp,fun c o hc t=>?_⟩
 ·exact h.below.trans ⟨rfl,rfl,rfl,by simp,fun c hc=>a c (by omega)⟩
 ·rw[Ac (by omega)] at x y
  exact h.apart p r n B g x y
 ·by_cases e1:p=q
  ·subst e1
   exact ⟨b,s,C,by simpa using (ye.1 hb).1,m,d,f _ _ A⟩
  ·rw[Ac (by omega)] at k
   obtain ⟨b',h1,h2,h3,j,h4,h5⟩:=h.full p n k
   have g:b'≠b:=fun e=>h.apart p q n D e1 (i p n k) u (by rw[h1,s,e])
   exact ⟨b',h1,h2,by simpa using h3,j,(a b' g).trans h4,f _ _ h5⟩
 ·by_cases e:c=b
  ·subst e
   rw[hb] at t
   exact .inr ⟨z,.map (some m),(yh t).symm,d⟩
  ·exact .inl ((a c e).trans t)
end
theorem X6{S:Act}{V:World}{Q:QT}{B:Nat}{h0 h1 h2 h3:Ai}{n0s n1s n2s n3s:LB}(ops:Array Oper)(T:Gs Try.f11 11=some ops)
 (N:S.tmps.getD 1 undef=.pointer (some ⟨B,0,none⟩))(hz:S.tmps.size=174)
 (hc:∀W,Below V.heap.size V W->W.cell? ⟨B,19,none⟩=some (.slice h0.a h0.n h0.c)∧W.cell? ⟨B,20,none⟩=some (.slice h1.a h1.n h1.c)∧W.cell? ⟨B,21,none⟩=some (.slice h2.a h2.n h2.c)∧W.cell? ⟨B,22,none⟩=some (.slice h3.a h3.n h3.c))
 (a1:∀W,Below V.heap.size V W->AW W h0 7 0 n0s)(a8:∀W,Below V.heap.size V W->AW W h1 7 0 n1s)(af:∀W,Below V.heap.size V W->AW W h2 51 0 n2s)(ad:∀W,Below V.heap.size V W->AW W h3 12 0 n3s)
 (a0:n0s.length<=100000)(ae:n1s.length<=100000)(aa:n2s.length<=100000)(a7:n3s.length<=100000)
 (P:∀(a:Act) W,a.defers=S.defers->(∀t,(t < 4∨54 < t)->a.tmps.getD t undef=S.tmps.getD t undef)->Below V.heap.size V W->¬ (n0s.Nodup∧n1s.Nodup∧n2s.Nodup∧n3s.Nodup)->Q (.panic (F9 171)) a W)
 (ac:∀(a:Act) W (bl bc br bf:Nat),a.tmps.size=174->a.defers=S.defers->(∀t,t∉[4,5,6,7,43,44,45,46,47,48,49,50,51,52,53,54]->a.tmps.getD t undef=S.tmps.getD t undef)->
   a.tmps.getD 4 undef=.pointer (some ⟨bl,0,none⟩)->a.tmps.getD 5 undef=.pointer (some ⟨bc,0,none⟩)->a.tmps.getD 6 undef=.pointer (some ⟨br,0,none⟩)->a.tmps.getD 7 undef=.pointer (some ⟨bf,0,none⟩)->
   Bz W bl n0s->Bz W bc n1s->Bz W br n2s->Bz W bf n3s->(V.heap.size<=bl∧bl < W.heap.size)->(V.heap.size<=bc∧bc < W.heap.size)->(V.heap.size<=br∧br < W.heap.size)->(V.heap.size<=bf∧bf < W.heap.size)->Below V.heap.size V W->(n0s.Nodup∧n1s.Nodup∧n2s.Nodup∧n3s.Nodup)->Q .normal a W):
  (Code.region 11 ops true).wp Try.prog Q S V:=by
 obtain rfl:=yh ((rfl:Gs Try.f11 11=some _).symm.trans T)
 clear T
 have U:∀ {a6:Array Bool->Array Value->World->Prop} {Pp:Nat->Value->World->Prop} {f:Array Bool} {a:Act} {w':World},Ke _ S a6 Pp f a w'->∀t,t∉[4,5,6,7,43,44,45,46,47,48,49,50,51,52,53,54]->a.tmps.getD t undef=S.tmps.getD t undef:=fun hM t ht=>by
  refine hM.free t fun mm ah o x hd=>ht ?_
  have hs:=NU (ops:=(Try.f11.body.bind (Eg 11)).getD #[]) (p:=fun o=>match o.dst with|some k=>decide (k∈[4,5,6,7,43,44,45,46,47,48,49,50,51,52,53,54])|none=>true) (by kernel_rfl) x
  rw[hd] at hs
  exact yy hs
 refine DP (by kernel_rfl) (GI V.heap.size V n0s n1s n2s n3s) (Vl V.heap.size B h0 h1 h2 h3 n0s n1s n2s n3s) (fun _=>Ky V.heap.size) (by kernel_rfl) (by rw[hz];kernel_rfl) (by kernel_rfl) (fun _ j v w w' _ _ hl h=>Pc j v w w' hl h) ?_ ?_ ?_
 ·refine ⟨(yg _ _).drew,fun p q M hq ag k1 k2=>?_,fun q hq k=>?_⟩
  ·exfalso
   match p,M with
   |0,_=>cases k1
   |1,_=>cases k1
   |2,_=>cases k1
   |3,_=>cases k1
  ·exfalso
   match q,hq with
   |0,_=>cases k
   |1,_=>cases k
   |2,_=>cases k
   |3,_=>cases k
 ·intro ix f a w' hM l o x
  have r:=yb hM.ext
  have a2:=(ye.1 x).1
  have Z:V.heap.size<=w'.heap.size:=hM.ext.below.size
  have i:=yb Z
  have R:Hid (a.tmps.size=174):=yb (hM.tmps.trans hz)
  have HF:=yb (U hM)
  have O:=yb hM.defers
  have K:Hid (∀p,p < 4->f.getD (12+p) false=true->J8 V.heap.size (a.tmps.getD (4+p) undef) w'):=yb (fun p M k=>by
   match p,M with
   |0,_=>exact hM.done 12 k _ 4 rfl rfl
   |1,_=>exact hM.done 13 k _ 5 rfl rfl
   |2,_=>exact hM.done 14 k _ 6 rfl rfl
   |3,_=>exact hM.done 15 k _ 7 rfl rfl)
  clear Z
  match ix,a2 with
  |0,_=>
   have d:=hM.old l 1 (by kernel_rfl) _ N
   obtain rfl:=yh x
   go_simp
   exact ⟨_,rfl,r.o.quiet (by decide) (by decide) i.o (yg _ _),Ky.refl _ _,rfl⟩
  |1,_=>
   have d:a.tmps[43]?.getD undef=pV B 19:=hM.dep l 0 43 (by kernel_rfl) (by kernel_rfl)
   obtain ⟨x0,x1,x2,x3⟩:=hc _ r.o.below
   obtain rfl:=yh x
   go_simp
   exact ⟨_,rfl,r.o.quiet (by decide) (by decide) i.o (yg _ _),Ky.refl _ _,rfl⟩
  |2,_=>
   have d:a.tmps[44]?.getD undef=.slice h0.a h0.n h0.c:=hM.dep l 1 44 (by kernel_rfl) (by kernel_rfl)
   have L:=yb (Si (a1 _ r.o.below) a0)
   unfold Ai.v at L
   obtain rfl:=yh x
   go_simp
   refine L.o.mono ?_
   rintro e w2 ⟨g,⟨s,m,rfl,F,J⟩|⟨s,rfl⟩⟩
   ·exact ⟨_,rfl,r.o.quiet (by decide) (by decide) i.o g,Ky.below g,m,rfl,yl i.o F,J,s⟩
   ·exact P _ _ O.o (fun t ht=>HF.o t (by simp;omega)) (r.o.below.trans (g.mono i.o)) (fun h=>s h.1)
  |3,_=>
   have d:=hM.old l 1 (by kernel_rfl) _ N
   obtain rfl:=yh x
   go_simp
   exact ⟨_,rfl,r.o.quiet (by decide) (by decide) i.o (yg _ _),Ky.refl _ _,rfl⟩
  |4,_=>
   have d:a.tmps[46]?.getD undef=pV B 20:=hM.dep l 3 46 (by kernel_rfl) (by kernel_rfl)
   obtain ⟨x0,x1,x2,x3⟩:=hc _ r.o.below
   obtain rfl:=yh x
   go_simp
   exact ⟨_,rfl,r.o.quiet (by decide) (by decide) i.o (yg _ _),Ky.refl _ _,rfl⟩
  |5,_=>
   have d:a.tmps[47]?.getD undef=.slice h1.a h1.n h1.c:=hM.dep l 4 47 (by kernel_rfl) (by kernel_rfl)
   have L:=yb (Ql (a8 _ r.o.below) ae)
   unfold Ai.v at L
   obtain rfl:=yh x
   go_simp
   refine L.o.mono ?_
   rintro e w2 ⟨g,⟨s,m,rfl,F,J⟩|⟨s,rfl⟩⟩
   ·exact ⟨_,rfl,r.o.quiet (by decide) (by decide) i.o g,Ky.below g,m,rfl,yl i.o F,J,s⟩
   ·exact P _ _ O.o (fun t ht=>HF.o t (by simp;omega)) (r.o.below.trans (g.mono i.o)) (fun h=>s h.2.1)
  |6,_=>
   have d:=hM.old l 1 (by kernel_rfl) _ N
   obtain rfl:=yh x
   go_simp
   exact ⟨_,rfl,r.o.quiet (by decide) (by decide) i.o (yg _ _),Ky.refl _ _,rfl⟩
  |7,_=>
   have d:a.tmps[49]?.getD undef=pV B 21:=hM.dep l 6 49 (by kernel_rfl) (by kernel_rfl)
   obtain ⟨x0,x1,x2,x3⟩:=hc _ r.o.below
   obtain rfl:=yh x
   go_simp
   exact ⟨_,rfl,r.o.quiet (by decide) (by decide) i.o (yg _ _),Ky.refl _ _,rfl⟩
  |8,_=>
   have d:a.tmps[50]?.getD undef=.slice h2.a h2.n h2.c:=hM.dep l 7 50 (by kernel_rfl) (by kernel_rfl)
   have L:=yb (ON (af _ r.o.below) aa)
   unfold Ai.v at L
   obtain rfl:=yh x
   go_simp
   refine L.o.mono ?_
   rintro e w2 ⟨g,⟨s,m,rfl,F,J⟩|⟨s,rfl⟩⟩
   ·exact ⟨_,rfl,r.o.quiet (by decide) (by decide) i.o g,Ky.below g,m,rfl,yl i.o F,J,s⟩
   ·exact P _ _ O.o (fun t ht=>HF.o t (by simp;omega)) (r.o.below.trans (g.mono i.o)) (fun h=>s h.2.2.1)
  |9,_=>
   have d:=hM.old l 1 (by kernel_rfl) _ N
   obtain rfl:=yh x
   go_simp
   exact ⟨_,rfl,r.o.quiet (by decide) (by decide) i.o (yg _ _),Ky.refl _ _,rfl⟩
  |10,_=>
   have d:a.tmps[52]?.getD undef=pV B 22:=hM.dep l 9 52 (by kernel_rfl) (by kernel_rfl)
   obtain ⟨x0,x1,x2,x3⟩:=hc _ r.o.below
   obtain rfl:=yh x
   go_simp
   exact ⟨_,rfl,r.o.quiet (by decide) (by decide) i.o (yg _ _),Ky.refl _ _,rfl⟩
  |11,_=>
   have d:a.tmps[53]?.getD undef=.slice h3.a h3.n h3.c:=hM.dep l 10 53 (by kernel_rfl) (by kernel_rfl)
   have L:=yb (Qm (ad _ r.o.below) a7)
   unfold Ai.v at L
   obtain rfl:=yh x
   go_simp
   refine L.o.mono ?_
   rintro e w2 ⟨g,⟨s,m,rfl,F,J⟩|⟨s,rfl⟩⟩
   ·exact ⟨_,rfl,r.o.quiet (by decide) (by decide) i.o g,Ky.below g,m,rfl,yl i.o F,J,s⟩
   ·exact P _ _ O.o (fun t ht=>HF.o t (by simp;omega)) (r.o.below.trans (g.mono i.o)) (fun h=>s h.2.2.2)
  |12,_=>
   have A:f.getD (16+0) false=false:=by
    rw[yj];intro X
    have:=A3 hM.down 8 16 12 (by kernel_rfl) X
    rw[hM.not_yet l] at this;cases this
   have G:=yb A
   clear A
   obtain rfl:=yh x
   go_simp
   exact ⟨_,rfl,r.o.alloc (q:=0) (by decide) i.o R.o K.o G.o _,Ky.below ((yg _ _).alloc (yf _) _),_,_,rfl,i.o,World.alloc_heap_new _ _⟩
  |13,_=>
   have A:f.getD (16+1) false=false:=by
    rw[yj];intro X
    have:=A3 hM.down 8 17 13 (by kernel_rfl) X
    rw[hM.not_yet l] at this;cases this
   have G:=yb A
   clear A
   obtain rfl:=yh x
   go_simp
   exact ⟨_,rfl,r.o.alloc (q:=1) (by decide) i.o R.o K.o G.o _,Ky.below ((yg _ _).alloc (yf _) _),_,_,rfl,i.o,World.alloc_heap_new _ _⟩
  |14,_=>
   have A:f.getD (16+2) false=false:=by
    rw[yj];intro X
    have:=A3 hM.down 8 18 14 (by kernel_rfl) X
    rw[hM.not_yet l] at this;cases this
   have G:=yb A
   clear A
   obtain rfl:=yh x
   go_simp
   exact ⟨_,rfl,r.o.alloc (q:=2) (by decide) i.o R.o K.o G.o _,Ky.below ((yg _ _).alloc (yf _) _),_,_,rfl,i.o,World.alloc_heap_new _ _⟩
  |15,_=>
   have A:f.getD (16+3) false=false:=by
    rw[yj];intro X
    have:=A3 hM.down 8 19 15 (by kernel_rfl) X
    rw[hM.not_yet l] at this;cases this
   have G:=yb A
   clear A
   obtain rfl:=yh x
   go_simp
   exact ⟨_,rfl,r.o.alloc (q:=3) (by decide) i.o R.o K.o G.o _,Ky.below ((yg _ _).alloc (yf _) _),_,_,rfl,i.o,World.alloc_heap_new _ _⟩
  |16,_=>
   have hb:J8 V.heap.size (a.tmps[4]?.getD undef) w':=hM.dep l 12 4 (by kernel_rfl) (by kernel_rfl)
   have F:G7 V.heap.size (a.tmps[45]?.getD undef) n0s w':=hM.dep l 2 45 (by kernel_rfl) (by kernel_rfl)
   obtain ⟨b,z,Y,C,g⟩:=hb
   obtain ⟨m,d2,I,y,H⟩:=F
   have D:∀p,p < 4->f.getD (16+p) false=true->f.getD (12+p) false=true:=fun p M k=>by
    match p,M with
    |0,_=>exact A3 hM.down 8 16 12 (by kernel_rfl) k
    |1,_=>exact A3 hM.down 8 17 13 (by kernel_rfl) k
    |2,_=>exact A3 hM.down 8 18 14 (by kernel_rfl) k
    |3,_=>exact A3 hM.down 8 19 15 (by kernel_rfl) k
   have E:=yb (r.o.store (q:=0) (m:=m) (by decide) C g (by rw[yH];exact Y) y (hM.came l 12 (by kernel_rfl)) D)
   have c1:w'.cell? (aV b 0)=some z:=by simp[World.cell?,g]
   have c2:w'.frozen? (aV b 0)=false:=by simp[World.frozen?,g]
   clear C g I y H D
   obtain rfl:=yh x
   go_simp
   exact ⟨undef,rfl,E.o.1,E.o.2,trivial⟩
  |17,_=>
   have hb:J8 V.heap.size (a.tmps[5]?.getD undef) w':=hM.dep l 13 5 (by kernel_rfl) (by kernel_rfl)
   have F:G7 V.heap.size (a.tmps[48]?.getD undef) n1s w':=hM.dep l 5 48 (by kernel_rfl) (by kernel_rfl)
   obtain ⟨b,z,Y,C,g⟩:=hb
   obtain ⟨m,d2,I,y,H⟩:=F
   have D:∀p,p < 4->f.getD (16+p) false=true->f.getD (12+p) false=true:=fun p M k=>by
    match p,M with
    |0,_=>exact A3 hM.down 8 16 12 (by kernel_rfl) k
    |1,_=>exact A3 hM.down 8 17 13 (by kernel_rfl) k
    |2,_=>exact A3 hM.down 8 18 14 (by kernel_rfl) k
    |3,_=>exact A3 hM.down 8 19 15 (by kernel_rfl) k
   have E:=yb (r.o.store (q:=1) (m:=m) (by decide) C g (by rw[yH];exact Y) y (hM.came l 13 (by kernel_rfl)) D)
   have c1:w'.cell? (aV b 0)=some z:=by simp[World.cell?,g]
   have c2:w'.frozen? (aV b 0)=false:=by simp[World.frozen?,g]
   clear C g I y H D
   obtain rfl:=yh x
   go_simp
   exact ⟨undef,rfl,E.o.1,E.o.2,trivial⟩
  |18,_=>
   have hb:J8 V.heap.size (a.tmps[6]?.getD undef) w':=hM.dep l 14 6 (by kernel_rfl) (by kernel_rfl)
   have F:G7 V.heap.size (a.tmps[51]?.getD undef) n2s w':=hM.dep l 8 51 (by kernel_rfl) (by kernel_rfl)
   obtain ⟨b,z,Y,C,g⟩:=hb
   obtain ⟨m,d2,I,y,H⟩:=F
   have D:∀p,p < 4->f.getD (16+p) false=true->f.getD (12+p) false=true:=fun p M k=>by
    match p,M with
    |0,_=>exact A3 hM.down 8 16 12 (by kernel_rfl) k
    |1,_=>exact A3 hM.down 8 17 13 (by kernel_rfl) k
    |2,_=>exact A3 hM.down 8 18 14 (by kernel_rfl) k
    |3,_=>exact A3 hM.down 8 19 15 (by kernel_rfl) k
   have E:=yb (r.o.store (q:=2) (m:=m) (by decide) C g (by rw[yH];exact Y) y (hM.came l 14 (by kernel_rfl)) D)
   have c1:w'.cell? (aV b 0)=some z:=by simp[World.cell?,g]
   have c2:w'.frozen? (aV b 0)=false:=by simp[World.frozen?,g]
   clear C g I y H D
   obtain rfl:=yh x
   go_simp
   exact ⟨undef,rfl,E.o.1,E.o.2,trivial⟩
  |19,_=>
   have hb:J8 V.heap.size (a.tmps[7]?.getD undef) w':=hM.dep l 15 7 (by kernel_rfl) (by kernel_rfl)
   have F:G7 V.heap.size (a.tmps[54]?.getD undef) n3s w':=hM.dep l 11 54 (by kernel_rfl) (by kernel_rfl)
   obtain ⟨b,z,Y,C,g⟩:=hb
   obtain ⟨m,d2,I,y,H⟩:=F
   have D:∀p,p < 4->f.getD (16+p) false=true->f.getD (12+p) false=true:=fun p M k=>by
    match p,M with
    |0,_=>exact A3 hM.down 8 16 12 (by kernel_rfl) k
    |1,_=>exact A3 hM.down 8 17 13 (by kernel_rfl) k
    |2,_=>exact A3 hM.down 8 18 14 (by kernel_rfl) k
    |3,_=>exact A3 hM.down 8 19 15 (by kernel_rfl) k
   have E:=yb (r.o.store (q:=3) (m:=m) (by decide) C g (by rw[yH];exact Y) y (hM.came l 15 (by kernel_rfl)) D)
   have c1:w'.cell? (aV b 0)=some z:=by simp[World.cell?,g]
   have c2:w'.frozen? (aV b 0)=false:=by simp[World.frozen?,g]
   clear C g I y H D
   obtain rfl:=yh x
   go_simp
   exact ⟨undef,rfl,E.o.1,E.o.2,trivial⟩
 ·intro f a w' u hM
  obtain ⟨bl,l1,l2,l3,l4⟩:=hM.ext.full 0 (by decide) (u 16 (show 16 < 20 by omega))
  obtain ⟨bc,c1,c2,c3,c4⟩:=hM.ext.full 1 (by decide) (u 17 (show 17 < 20 by omega))
  obtain ⟨br,r1,r2,r3,r4⟩:=hM.ext.full 2 (by decide) (u 18 (show 18 < 20 by omega))
  obtain ⟨bf,f1,f2,f3,f4⟩:=hM.ext.full 3 (by decide) (u 19 (show 19 < 20 by omega))
  obtain ⟨_,_,_,_,g0⟩:G7 V.heap.size _ n0s w':=hM.done 2 (u 2 (show 2 < 20 by omega)) _ 45 rfl rfl
  obtain ⟨_,_,_,_,g1⟩:G7 V.heap.size _ n1s w':=hM.done 5 (u 5 (show 5 < 20 by omega)) _ 48 rfl rfl
  obtain ⟨_,_,_,_,g2⟩:G7 V.heap.size _ n2s w':=hM.done 8 (u 8 (show 8 < 20 by omega)) _ 51 rfl rfl
  obtain ⟨_,_,_,_,g3⟩:G7 V.heap.size _ n3s w':=hM.done 11 (u 11 (show 11 < 20 by omega)) _ 54 rfl rfl
  exact ac a w' bl bc br bf (hM.tmps.trans hz) hM.defers (U hM) l1 c1 r1 f1 l4 c4 r4 f4 ⟨l2,l3⟩ ⟨c2,c3⟩ ⟨r2,r3⟩ ⟨f2,f3⟩ hM.ext.below ⟨g0,g1,g2,g3⟩
theorem Wi{Q:QT}{w V W5:World}{x:Am}{L:Bw}{N M:NP}{bl bc br bf Bf:Nat}(hQ:LK Q w x)(f:J2 w x W5 L N M bl bc br bf Bf V.heap.size)
 (P:RL w.heap.size W5 (Tb.of x) (Dc W5 L x) V.heap.size (.cells #[.pointer (some ⟨w.heap.size+1,0,none⟩)] 52) 0 V)(ah:Bf < V.heap.size)(ad:br < V.heap.size)(am:W5.heap.size=V.heap.size+1)
 (u0 u1 u8 u9 u10 u11 u12 u14 u15 u16 u17 u18 u19 u20 u21 u22 u23 u24 u25 u26 u27 u28 u29 u30 u31 u32 u33 u34 u35 u36 u37 u38 u39 u40 u41 u42 u43 u44 u45 u46 u47 u48 u49 u50 u51 u52 u53 u54 u55 u56 u57 u58 u59 u60 u61 u62 u63 u64 u65 u66 u67 u68 u69 u70 u71 u72 u73 u74 u75 u76 u77 u78 u79 u80 u81 u82 u83 u84 u85 u86 u87 u88 u89 u90 u91 u92 u93 u94 u95 u96 u97 u98 u99 u100 u101 u102 u103 u104 u105 u106 u107 u108 u109 u110 u111 u112 u113 u114 u115 u116 u117 u118 u119 u120 u121 u122 u123 u124 u125 u126 u127 u128 u129 u130 u131 u132 u133 u134 u135 u136 u137 u138 u139 u140 u141 u142 u143 u144 u145 u146 u147 u148 u149 u150 u151 u152 u153 u154 u155 u156 u157 u158 u159 u160 u161 u162 u163 u164 u165 u166 u167 u168 u169 u170 u171 u172 u173:Value):
  Hb 11 Try.prog (CJ 19 (Try.f11.body.getD .skip)) Q {tmps:=#[u0,u1,.pointer (some ⟨w.heap.size+1,0,none⟩),.pointer (some ⟨w.heap.size+2,0,none⟩),.pointer (some ⟨bl,0,none⟩),.pointer (some ⟨bc,0,none⟩),.pointer (some ⟨br,0,none⟩),.pointer (some ⟨bf,0,none⟩),u8,u9,u10,u11,u12,.pointer (some ⟨Bf,0,none⟩),u14,u15,u16,u17,u18,u19,u20,u21,u22,u23,u24,u25,u26,u27,u28,u29,u30,u31,u32,u33,u34,u35,u36,u37,u38,u39,u40,u41,u42,u43,u44,u45,u46,u47,u48,u49,u50,u51,u52,u53,u54,u55,u56,u57,u58,u59,u60,u61,u62,u63,u64,u65,u66,u67,u68,u69,u70,u71,u72,u73,u74,u75,u76,u77,u78,u79,u80,u81,u82,u83,u84,u85,u86,u87,u88,u89,u90,u91,u92,u93,u94,u95,u96,u97,u98,u99,u100,u101,u102,u103,u104,u105,u106,u107,u108,u109,u110,u111,u112,u113,u114,u115,u116,u117,u118,u119,u120,u121,u122,u123,u124,u125,u126,u127,u128,u129,u130,u131,u132,u133,u134,u135,u136,u137,u138,u139,u140,u141,u142,u143,u144,u145,u146,u147,u148,u149,u150,u151,u152,u153,u154,u155,u156,u157,u158,u159,u160,u161,u162,u163,u164,u165,u166,u167,u168,u169,u170,u171,u172,u173],defers:=[Kc w.heap.size]} V:=by
 have S:=f.ls
 have T:w.heap.size+3<=V.heap.size:=by
  obtain ⟨v,he⟩:=f.amid.e
  have h1:=(ye.1 he).1
  rcases zS (w.heap.size+2) V.heap.size with h|h
  ·omega
  ·have h2:w.heap.size+2=V.heap.size:=by omega
   rw[h2,f.box] at he
   cases he
 have p:L.reaches.ok:=f.ps.reaches.ok
 have X:∀k wr,RL w.heap.size W5 (Tb.of x) (Dc W5 L x) V.heap.size (.cells #[.pointer (some ⟨w.heap.size+1,0,none⟩)] 52) k wr->wr.cell? ⟨w.heap.size+1,21,none⟩=some L.reaches.v:=fun k wr h=>by
  rw[<-h.cell (by omega),h.2.cells _ _ (by omega) (GW ⟨_,S▸f.ps.ty,rfl⟩),<-S]
  exact f.ps.hreaches
 have J:L.reaches.n<=140737488355328:=p.1
 have O:L.reaches.n=x.reaches.length:=f.ps.reaches.1
 have A:∀k wr,RL w.heap.size W5 (Tb.of x) (Dc W5 L x) V.heap.size (.cells #[.pointer (some ⟨w.heap.size+1,0,none⟩)] 52) k wr->wr.cell? ⟨Bf,0,none⟩=some (.func (.func 49) #[] #[]):=fun k wr h=>by
  rw[<-h.cell ah];exact LO f.find (by simp) (II (by decide)) h.2
 obtain ⟨mr,ac⟩:∃mr,∀k wr,RL w.heap.size W5 (Tb.of x) (Dc W5 L x) V.heap.size (.cells #[.pointer (some ⟨w.heap.size+1,0,none⟩)] 52) k wr->wr.cell? ⟨br,0,none⟩=some (.map (some mr))∧Cq wr mr (x.reaches.map (·.name)):=by
  obtain ⟨m,h1,h2⟩:=f.reaches
  obtain ⟨es,an,h3,_⟩:=h2.size
  have b4:m < V.heap.size:=by
   rcases zS m V.heap.size with h|h
   ·exact h
   ·have h4:m=V.heap.size:=by have:=h2.lt;omega
    rw[h4,f.box] at h3;cases h3
  refine ⟨m,fun k wr h=>⟨?_,?_⟩⟩
  ·rw[<-h.cell ad];exact LO h1 (by simp) (II (by decide)) h.2
  ·refine h2.block ?_
   rw[<-h.heap b4]
   exact h.2.same m h2.lt (LN fun t ⟨c,hc⟩=>by rw[h3] at hc;cases hc)
 have ai:=yb X;have a2:=yb A;have Y:=yb ac
 have HQ:=yb hQ;have D:=yb f;have bb:=yb T;have ao:=yb am;have HN:=yb O
 have av:=yb P
 have s:Hid (∀k tm wr,RL w.heap.size W5 (Tb.of x) (Dc W5 L x) V.heap.size (.cells #[.pointer (some ⟨w.heap.size+1,0,none⟩)] 52) k wr->Mq w.heap.size tm->Ay x=170->Q (.panic (F9 170)) {tmps:=tm,defers:=[Kc w.heap.size]} wr):=yb (fun k tm wr h hv G=>by
  have:=hQ.fail tm wr hv (RL.amid f.amid h T) (by rw[G];decide)
  rw[G] at this;exact this)
 have l:=X 0 V P
 have af:=f.ps.reaches.2.2
 have au:=yb af
 generalize a7:L.reaches=rr at l J O
 obtain ⟨ra,rn,rc⟩:=rr
 have q:=yb a7
 unfold Ai.v at l
 simp only at l J
 clear S T p X O A ac hQ f P ah ad am af a7
 unfold Kc
 refine Ah (A7 ?_)
 go_wp2
 clear l
 go_loopw [91] (fun iv wr=>∃i:Nat,iv=.int .i64 i∧i<=rn∧Hid (RL w.heap.size W5 (Tb.of x) (Dc W5 L x) V.heap.size (.cells #[.pointer (some ⟨w.heap.size+1,0,none⟩)] 52) i wr)) (fun iv _=>rn - (intOf iv).toNat)
 case atStart=>exact ⟨0,rfl,yC _,av⟩
 case round=>
  obtain ⟨i,rfl,hi,Z⟩:=hrel
  by_cases a6:i < rn
  ·have hl:i < x.reaches.length:=by rw[<-HN.o,q.o];exact a6
   obtain ⟨g,ha,hg,ty,a1⟩:=au.o i hl
   rw[q.o] at ha
   simp only at ha
   subst ha
   have hX:=Qw D.o.ps hl (by rw[q.o])
   have b:=xw hX
   have y:=D.o.uok _ b
   have al:g < V.heap.size:=by
    have h1:=(D.o.hN g hg).2
    rcases zS g V.heap.size with h|h
    ·exact h
    ·have h4:g=V.heap.size:=by have:=ao.o;omega
     obtain ⟨c,hc⟩:=ty
     rw[h4,D.o.box] at hc;cases hc
   have R:(x.reaches[i].frm.name).size<=maxLen:=y.len
   generalize x.reaches[i].frm.name=nm at hX b y R
   generalize x.reaches[i].frm.n=un at hX b y
   have HX:=yb hX;have K:=yb b;have U:=yb y;have E:=yb al;have I:=yb R
   have ay:(i:Int) < (rn:Int):=by omega
   have ba:Hid (i < (x.reaches.map (·.name)).length):=yb (by rw[yN];exact hl)
   clear hX b y al R hg ty a1 hl
   by_cases h0:i=0
   ·subst h0
    obtain ⟨c0,⟨z,c1,r⟩,cf⟩:=Z.o.read U.o E.o
    simp only[Nat.zero_mul,yB] at c0 c1 r
    obtain rfl:=r (by simp)
    have b9:wr.cell? ⟨w.heap.size+1,21,none⟩=some (.slice (some ⟨g,0,none⟩) rn rc):=by
     have h:=ai.o _ _ Z.o
     rw[q.o] at h;exact h
    clear cf r
    cases hb:Kb (Tb.of x) ⟨g,0*51+1,if (0:Nat)=0 then 0 else 6,(0:Nat),nm,z⟩ with
    |true=>
     have HB:=yb hb
     obtain ⟨ag,aq⟩:nm.size=0∧z=0:=by
      have h:=hb
      unfold Kb Hl at h
      simpa using h
     have az:nm=⟨#[]⟩:=Pb ((FW nm).1 ag)
     clear hb ag
     subst aq
     subst az
     go_wp2_with (first|(go_at_call 50;refine (D4 _ _).mono ?_;rintro e w5 ⟨rfl,a0⟩;obtain rfl:=a0.symm))
     exact ⟨⟨1,rfl,by omega,yb (Z.o.skip HX.o (by simp) HB.o)⟩,by simp[intOf];omega⟩
    |false=>
     have u:=yb (D.o.bad K.o hb)
     have aa:¬ (nm.size=0∧z=0):=by
      have h:=hb
      unfold Kb Hl at h
      simpa using h
     have ax:=yb aa
     clear hb aa
     go_wp2_with (first|(exact absurd ⟨(FW _).2 (by assumption),(by assumption)⟩ ax.o)|(go_at_call 50;refine (CN _ _).mono ?_;rintro e w5 ⟨rfl,a0⟩;obtain rfl:=a0.symm))
     all_goals first
      |exact s.o _ _ _ Z.o ⟨rfl,rfl⟩ u.o
      |fail
   ·have a8:=yb Z.o.drew
    have h6:(if i=0 then (0:Int) else 6)=6:=by rw[yu h0]
    have hS:∀W,RL w.heap.size W5 (Tb.of x) (Dc W5 L x) V.heap.size (.cells #[.pointer (some ⟨w.heap.size+1,0,none⟩)] 52) i W->W.cell? ⟨Bf,0,none⟩=some (.func (.func 49) #[] #[])∧W.cell? ⟨w.heap.size+1,21,none⟩=some (.slice (some ⟨g,0,none⟩) rn rc)∧W.cell? ⟨br,0,none⟩=some (.map (some mr)):=fun W h=>⟨a2.o _ _ h,by have h:=ai.o _ _ h;rw[q.o] at h;exact h,(Y.o _ _ h).1⟩
    have HS:=yb hS
    have b8:((i:Int)==0)=false:=by simp;omega
    have b5:=yb h6
    have H:=yb a6
    cases hb:Kb (Tb.of x) ⟨g,i*51+1,if i=0 then 0 else 6,(i:Int),nm,un⟩ with
    |true=>
     have HB:=yb hb
     rw[h6] at hb
     obtain ⟨j,hp,hv,ae,b3⟩:=H3 (to:=6) (by decide) hb
     have d:Hid (∀W,RL w.heap.size W5 (Tb.of x) (Dc W5 L x) V.heap.size (.cells #[.pointer (some ⟨w.heap.size+1,0,none⟩)] 52) i W->Calls Try.prog 49 #[.pointer (some ⟨g,i*51+1,none⟩),.map (some mr),.int .i64 i] W fun e w'=>(e=.returned (.tuple #[])∧RL w.heap.size W5 (Tb.of x) (Dc W5 L x) V.heap.size (.cells #[.pointer (some ⟨w.heap.size+1,0,none⟩)] 52) (i+1) w')∨(e=.panicked (F9 170)∧False)):=yb (fun W h=>by
      obtain ⟨c0,⟨z,c1,r⟩,cf⟩:=h.read U.o E.o
      refine (GQ (most:=(i:Int)) c0 c1 cf (Y.o _ _ h).2 I.o hp (ae rfl)).mono ?_
      rintro e w2 ⟨rfl,rfl⟩
      refine .inl ⟨rfl,?_⟩
      have h:=h.next D.o.uok HX.o E.o (by simp only;rw[h6];decide) HB.o
      simp only[h6] at h
      rw[show Gg (Tb.of x) (Db 6) nm=_ from hv] at h
      exact h)
     clear hb hp hv ae b3 h6 hS h0
     go_wp2_with fail
     refine VU (B:=w.heap.size) (Bf:=Bf) (g:=g) (rn:=rn) (rc:=rc) (br:=br) (mr:=mr) (i:=i) (R1:=fun W=>RL w.heap.size W5 (Tb.of x) (Dc W5 L x) V.heap.size (.cells #[.pointer (some ⟨w.heap.size+1,0,none⟩)] 52) i W) (R2:=fun W=>RL w.heap.size W5 (Tb.of x) (Dc W5 L x) V.heap.size (.cells #[.pointer (some ⟨w.heap.size+1,0,none⟩)] 52) (i+1) W) (R3:=fun _=>False) _ ?_ ?_ ?_ ?_ ?_ ?_ ?_ ?_ ?_ ?_ ?_ ?_
     ·rfl
     ·rfl
     ·rfl
     ·rfl
     ·rfl
     ·rfl
     ·exact H.o
     ·exact a8.o
     ·exact HS.o
     ·exact d.o
     ·exact fun _ _ _ _ h=>h.elim
     ·intro a W ak F C aj
      have ap:=yb aj
      obtain ⟨v105,v106,v107,v108,v109,v110,v111,v112,v113,rfl⟩:∃v105 v106 v107 v108 v109 v110 v111 v112 v113:Value,a={tmps:=#[u0,u1,.pointer (some ⟨w.heap.size+1,0,none⟩),.pointer (some ⟨w.heap.size+2,0,none⟩),.pointer (some ⟨bl,0,none⟩),.pointer (some ⟨bc,0,none⟩),.pointer (some ⟨br,0,none⟩),.pointer (some ⟨bf,0,none⟩),u8,u9,u10,u11,u12,.pointer (some ⟨Bf,0,none⟩),.int .i64 i,u15,u16,u17,u18,u19,u20,u21,u22,u23,u24,u25,u26,u27,u28,u29,u30,u31,u32,u33,u34,u35,u36,u37,u38,u39,u40,u41,u42,u43,u44,u45,u46,u47,u48,u49,u50,u51,u52,u53,u54,u55,u56,u57,u58,u59,u60,u61,u62,u63,u64,u65,u66,u67,u68,u69,u70,u71,u72,u73,u74,u75,u76,u77,u78,u79,u80,u81,u82,u83,u84,u85,u86,u87,.pointer (some ⟨w.heap.size+1,21,none⟩),.slice (some ⟨g,0,none⟩) rn rc,.int .i64 rn,.int .i64 i,.bool true,.int .i64 i,.int .i64 i,.bool false,u96,u97,u98,u99,u100,u101,u102,u103,u104,v105,v106,v107,v108,v109,v110,v111,v112,v113,u114,u115,u116,u117,u118,u119,u120,u121,u122,u123,u124,u125,u126,u127,u128,u129,u130,u131,u132,u133,u134,u135,u136,u137,u138,u139,u140,u141,u142,u143,u144,u145,u146,u147,u148,u149,u150,u151,u152,u153,u154,u155,u156,u157,u158,u159,u160,u161,u162,u163,u164,u165,u166,u167,u168,u169,u170,u171,u172,u173],defers:=[Kc w.heap.size]}:=by
       refine ⟨a.tmps.getD 105 undef,a.tmps.getD 106 undef,a.tmps.getD 107 undef,a.tmps.getD 108 undef,a.tmps.getD 109 undef,a.tmps.getD 110 undef,a.tmps.getD 111 undef,a.tmps.getD 112 undef,a.tmps.getD 113 undef,(KX [105,106,107,108,109,110,111,112,113] (ak.trans rfl) F (fun t ht=>C t ?_)).trans (by kernel_rfl)⟩
       simp at ht;omega
      clear ak F C aj
      unfold Kc
      go_wp2
      exact ⟨⟨i+1,by push_cast;rfl,by omega,ap⟩,by simp[intOf];omega⟩
    |false=>
     have u:=yb (D.o.bad K.o hb)
     rw[h6] at hb
     have hn:=H4 (to:=6) (by decide) hb
     have d:Hid (∀W,RL w.heap.size W5 (Tb.of x) (Dc W5 L x) V.heap.size (.cells #[.pointer (some ⟨w.heap.size+1,0,none⟩)] 52) i W->Calls Try.prog 49 #[.pointer (some ⟨g,i*51+1,none⟩),.map (some mr),.int .i64 i] W fun e w'=>(e=.returned (.tuple #[])∧False)∨(e=.panicked (F9 170)∧RL w.heap.size W5 (Tb.of x) (Dc W5 L x) V.heap.size (.cells #[.pointer (some ⟨w.heap.size+1,0,none⟩)] 52) i w')):=yb (fun W h=>by
      obtain ⟨c0,⟨z,c1,r⟩,cf⟩:=h.read U.o E.o
      refine (IE (most:=(i:Int)) c0 (Y.o _ _ h).2 I.o (fun j hp=>(hn j hp).2)).mono ?_
      rintro e w2 ⟨rfl,rfl⟩
      exact .inr ⟨rfl,h⟩)
     clear hb hn h6 hS h0
     go_wp2_with fail
     refine VU (B:=w.heap.size) (Bf:=Bf) (g:=g) (rn:=rn) (rc:=rc) (br:=br) (mr:=mr) (i:=i) (R1:=fun W=>RL w.heap.size W5 (Tb.of x) (Dc W5 L x) V.heap.size (.cells #[.pointer (some ⟨w.heap.size+1,0,none⟩)] 52) i W) (R2:=fun _=>False) (R3:=fun W=>RL w.heap.size W5 (Tb.of x) (Dc W5 L x) V.heap.size (.cells #[.pointer (some ⟨w.heap.size+1,0,none⟩)] 52) i W) _ ?_ ?_ ?_ ?_ ?_ ?_ ?_ ?_ ?_ ?_ ?_ ?_
     ·rfl
     ·rfl
     ·rfl
     ·rfl
     ·rfl
     ·rfl
     ·exact H.o
     ·exact a8.o
     ·exact HS.o
     ·exact d.o
     ·intro a W F C hr
      obtain ⟨tm,df⟩:=a
      obtain rfl:df=[Kc w.heap.size]:=F
      exact s.o i tm W hr ⟨(C 2 (by omega)).trans rfl,(C 3 (by omega)).trans rfl⟩ u.o
     ·exact fun _ _ _ _ _ h=>h.elim
  ·obtain rfl:i=rn:=by omega
   have ay:decide ((i:Int) < (i:Int))=false:=by simp
   have aw:Hid (J2 w x W5 L N M bl bc br bf Bf wr.heap.size):=yb (by rw[Z.o.1];exact D.o)
   have ar:Hid (RJ w.heap.size W5 (Tb.of x) (Dc W5 L x) (FA L x).length (fun _=>False) (wr.alloc (.cells #[.pointer (some ⟨w.heap.size+1,0,none⟩)] 52))):=yb (by
    rw[LQ D.o.ps,<-HN.o,q.o]
    exact Z.o.2)
   go_wp2
   exact WZ HQ.o aw.o ar.o _ _ _ _ _ _ _ _ _ _ _ _ _ _ _ _ _ _ _ _ _ _ _ _ _ _ _ _ _ _ _ _ _ _ _ _ _ _ _ _ _ _ _ _ _ _ _ _ _ _ _ _ _ _ _ _ _ _ _ _ _ _ _ _ _ _ _ _ _ _ _ _ _ _ _ _ _ _ _ _ _ _ _ _ _ _ _ _ _ _ _ _ _ _ _ _ _ _ _ _ _ _ _ _ _ _ _ _ _ _ _ _ _ _ _ _ _ _ _ _ _ _ _ _ _ _ _ _ _ _ _ _ _ _ _ _ _ _ _ _ _ _ _ _ _ _ _ _ _ _ _ _ _ _ _ _ _ _ _ _ _ _ _ _ _ _ _
end Go.Proofs.Ytghepahgkcigpaa
