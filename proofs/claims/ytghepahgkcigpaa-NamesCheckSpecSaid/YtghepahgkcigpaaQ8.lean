/- Parts of the proof, in short words: Qb Ra Rb Rc Rd Re Rf Rg Ri Rk Rm Yc Yd Yf Yp Yj Rs -/
import Derived.Test.YtghepahgkcigpaaQ0
import Derived.Test.YtghepahgkcigpaaQ4
import Derived.Test.YtghepahgkcigpaaQ7
import Derived.RecoverIn
import Derived.Test.YtghepahgkcigpaaQ5
import Derived.Test.YtghepahgkcigpaaQ6
import Derived.BigFrameIn
import Derived.Test.YtghepahgkcigpaaQ3
set_option maxRecDepth 100000
set_option maxHeartbeats 8000000
set_option linter.unusedSimpArgs false
namespace Go.Proofs.Ytghepahgkcigpaa
open Go.RowKit
def Bp:LV:=[.string ⟨#[]⟩,.int .i64 0,.int .i64 0,.int .i64 0,.string ⟨#[]⟩,.int .i64 0,.slice none 0 0,.int .i64 0,.int .i64 0,.int .i64 0,.string ⟨#[]⟩,.int .i64 0,.slice none 0 0,.int .i64 0,.int .i64 0,.int .i64 0,.string ⟨#[]⟩,.int .i64 0,.slice none 0 0,.slice none 0 0,.slice none 0 0,.slice none 0 0,.slice none 0 0,.slice none 0 0,.slice none 0 0,.slice none 0 0]
theorem MW(n Bx b:Nat)(f:Bx≠b)(c:Int)(row:Array Value)(v:Value)(w:World)(k:w.heap[Bx]?=some (.cells row 35 (0,0)))(d:row.size=26)(j:w.heap[b]?=some (.cells #[v] 38 (0,0))):
  CallsDIn Fence.wide n Try.prog 24 #[.pointer (some ⟨Bx,0,none⟩),.pointer (some ⟨b,0,none⟩)] (.panicking [{v:=.iface 38 (.int .i64 c),recovered:=false}]) w fun e r w'=>
   e=.returned (.tuple #[])∧r=.panicking [{v:=.iface 38 (.int .i64 c),recovered:=true}]∧w'=(w.setRow Bx Bp.toArray).setCell ⟨b,0,none⟩ (.int .i64 c):=by
 have m:∀W:World,(Instr.typeAssert (.iface 38 (iV c)) 20 38 true).run Try.prog W=.ok (.tuple #[iV c,.bool true]) W:=fun _=>by kernel_rfl
 have c1:(w.setRow Bx Bp.toArray).cell? (aV b 0)=some v:=by
  simp only[World.cell?,World.setRow,yU,yq f]
  simp[j]
 have x:(w.setRow Bx Bp.toArray).frozen? (aV b 0)=false:=by
  simp only[World.frozen?,World.setRow,yU,yq f]
  simp[j]
 have t:=ya k
 have u:Hid ((Try.prog.info? 35).map (·.size)=some row.size):=ya (by rw[d];kernel_rfl)
 have g:Hid (∀v∈Bp,v.oneCell'=true):=ya (fun v p=>yM.1 (show Bp.all (fun v=>v.oneCell')=true from rfl) v p)
 clear k j
 refine callsDIn_of_wpSIn Try.func24 rfl trivial fun l cs s=>?_
 apply wpSIn_seq
 apply wpSIn_region
 simp[wpOpsSIn,go_sem,recoverD,s,Try.ntmps24,Exit.thenS]
 refine wpSIn_of_wpIn rfl ?_
 generalize q:bodyPostS Try.prog Try.f24 l cs _=Q
 generalize h:(_::cs:List Frame)=i
 simp only[List.setIfInBounds_toArray,List.set_cons_zero,List.set_cons_succ,zQ,zR,xl,yE,yL,xd]
 refine wpIn_wide.2 ?_
 go_upto_region 7 with fail
 refine xo ?_
 iterate 2
  refine yF rfl fun K a=>?_
  go_simp
  refine a _ _ ?_
  clear a K
 refine z6 rfl 35 _ _ rfl Bx Bp.toArray rfl rfl 35 row t.o (by kernel_rfl) d (yy g.o) ?_
 refine yF rfl fun K a=>?_
 go_simp
 refine a _ _ ?_
 clear a K
 refine xQ ?_
 simp only[Exit.inBlock]
 show Q _ _ i _
 rw[<-q,<-h]
 exact ⟨rfl,_,rfl,_,zI rfl _ _ _,rfl,rfl,rfl⟩
theorem U4(n:Nat)(f p1:Addr)(w:World):
  CallsDIn Fence.wide n Try.prog 24 #[.pointer (some f),.pointer (some p1)] .returning w fun e d w'=>e=.returned (.tuple #[])∧d=.returning∧w'=w:=by
 refine callsDIn_of_wpSIn Try.func24 rfl trivial fun b cs a=>?_
 apply wpSIn_seq
 apply wpSIn_region
 simp[wpOpsSIn,go_sem,recoverD,a,Try.ntmps24,Exit.thenS]
 refine wpSIn_of_wpIn rfl ?_
 generalize c:bodyPostS Try.prog Try.f24 b cs _=Q
 simp only[List.setIfInBounds_toArray,List.set_cons_zero,List.set_cons_succ,zQ,zR,xl,yE,yL,xd]
 refine wpIn_wide.2 ?_
 go_wp2
 change Q _ _ (b::cs) _
 rw[<-c]
 refine ⟨rfl,.returning,?_,_,zI rfl _ _ _,rfl,rfl,rfl⟩
 rw[<-a]
structure Tb where
 lets:List ByteArray
 crops:List ByteArray
 reaches:List ByteArray
 farms:List ByteArray
def Tb.of(x:AA):Tb:=⟨x.lets.map (·.name),x.crops.map (·.name),x.reaches.map (·.name),x.farms.map (·.name)⟩
def Tb.Xo(t:Tb)(c:Int):LB:=if c=3 then t.crops else if c=4 then t.reaches else if c=6 then t.reaches else if c=5 then t.farms else t.lets
def Ds(to:Int):Int:=if to=2 then 1 else to
def early(to:Int):Bool:=decide (to=2)||decide (to=6)
def Ig(t:Tb)(to at_:Int)(r:Rf):Bool:=
 if to=0 then decide (r.name.size=0∧r.n=0) else match B9 (t.Xo (Ds to)) r.name with
  |some i=>!early to||decide ((i:Int) < at_)
  |none=>false
def GH(t:Tb)(c:Int)(s:ByteArray):Int:=match B9 (t.Xo c) s with
 |some i=>(i:Int)
 |none=>0
def gT(t:Tb)(to:Int)(r:Rf):Rf:=if to=0 then r else {r with n:=GH t (Ds to) r.name}
mutual
def Ih(t:Tb):Ex->Ex
 |.mk op n u rn ri args=>.mk op n u rn (if op=2 then GH t 1 rn else ri) (GI t args)
def GI(t:Tb):List Ex->List Ex
 |[]=> []
 |e::r=>Ih t e::GI t r
end
theorem Oo(t:Tb):∀l:List Ex,GI t l=l.map (Ih t)
 |[]=>rfl
 |e::r=>by rw[GI,Oo t r];rfl
def fT(t:Tb)(_:Int)(e:Ex):Ex:=if Da e then e else Ih t e
mutual
def TC(t:Tb)(lt:Int):Ex->Bool
 |.mk op _ _ rn ri args=>Kq op args.length&&(Ig t (KP op lt) (P0 op lt) ⟨rn,ri⟩&&S7 t lt args)
def S7(t:Tb)(lt:Int):List Ex->Bool
 |[]=>true
 |e::r=>TC t lt e&&S7 t lt r
end
def Bd(t:Tb)(e:Kp):Bool:=Da e.1||TC t e.2 e.1
def JM(t:Tb)(d:BN):Bool:=Ig t 4 0 d.on&&Ig t (if d.river then 0 else 3) 0 d.crop
def M6(t:Tb)(d:AS):Bool:=Ig t 4 0 d.on&&d.turns.all fun k=>Ig t 5 0 k.farm
def Ii(t:Tb)(d:AJ):Bool:=Ig t 5 0 d.farm&&Ig t (if d.kind=1 then 0 else 4) 0 d.reach
def JN(t:Tb)(d:BV):Bool:=Ig t 5 0 d.farm&&Ig t 4 0 d.reach
def Dc(t:Tb)(x:AA):Bool:=(Bb x).all (Bd t)&&(CF x&&(x.farms.all (JM t)&&(x.rots.all (M6 t)&&(x.rights.all (Ii t)&&x.duties.all (JN t)))))
def Ij(t:Tb)(p:AI × Nat):Bool:=Ig t (if p.2=0 then 0 else 6) p.2 p.1.frm
def DG(t:Tb)(x:AA):Bool:=x.reaches.zipIdx.all (Ij t)
def BX(x:AA):Bool:=FD x&&(En x.rots&&Fe x)
def D0(x:AA):LB:=x.rots.map (·.name)++x.rights.map (·.name)
def Dv(x:AA):Bool:=AU x.name&&((x.lets.map (·.name)).all AU&&((x.crops.map (·.name)).all AU&&((x.reaches.map (·.name)).all AU&&((x.farms.map (·.name)).all AU&&((x.rots.map (·.name)).all AU&&((x.rights.map (·.name)).all AU&&(x.duties.map (·.name)).all AU))))))
def Gi(x:AA):Prop:=(x.lets.map (·.name)).Nodup∧(x.crops.map (·.name)).Nodup∧(x.reaches.map (·.name)).Nodup∧(x.farms.map (·.name)).Nodup∧(D0 x).Nodup∧(x.duties.map (·.name)).Nodup
instance (x:AA):Decidable (Gi x):=by unfold Gi;infer_instance
def Ao(x:AA):AA:=x.mp (fT (Tb.of x)) (gT (Tb.of x))
def AK(x:AA):Int:=
 if BX x then (if Dv x then (if Gi x then (if DG (Tb.of x) x&&Dc (Tb.of x) x then 0 else 170) else 171) else 170) else 2
def Kv(t:Tb)(u:Us):Bool:=Ig t u.to u.at_ ⟨u.name,u.n⟩
def K5(t:Tb)(p:List Us × Bool):Prop:=p.2=true∧∀u∈p.1,Kv t u=true
theorem PA(t:Tb):∀l:List (List Us × Bool),K5 t (Cm l)↔∀p∈l,K5 t p
 |[]=>by simp[K5,Cm]
 |x::r=>by
  have ih:=PA t r
  simp only[xk,<-ih]
  have e:Cm (x::r)=if x.2 then (x.1++(Cm r).1,(Cm r).2) else (x.1,false):=rfl
  rw[e]
  unfold K5
  by_cases h:x.2=true
  ·simp only[h,zO,yn,qk]
   constructor
   ·rintro ⟨h1,h2⟩;exact ⟨fun u a=>h2 u (.inl a),h1,fun u a=>h2 u (.inr a)⟩
   ·rintro ⟨h1,h2,h3⟩;exact ⟨h2,fun u a=>a.elim (h1 u) (h3 u)⟩
  ·simp[h]
mutual
theorem Ny(t:Tb){w:World}{C:Addr->Prop}(lt:Int):∀(e:Ex) (b o:Nat),SH w C e b o->(K5 t (CS w lt e b o)↔TC t lt e=true)
 |.mk op n u rn ri args,b,o,h=>by
  rw[SH] at h
  obtain ⟨a,cap,h1,h2,h3,h4⟩:=h
  rw[CS,TC]
  by_cases hs:Kq op args.length=true
  ·rw[yu hs,hs,h2.1]
   have ih:=Nz t lt args a args.length cap 0 h4
   unfold K5 at ih ⊢
   simp only[xk,Bool.true_and,ym,<-ih,Kv]
   constructor
   ·rintro ⟨c,d,f⟩;exact ⟨d,c,f⟩
   ·rintro ⟨d,c,f⟩;exact ⟨c,d,f⟩
  ·rw[yq hs]
   simp[K5,hs]
theorem Nz(t:Tb){w:World}{C:Addr->Prop}(lt:Int):∀(l:List Ex) (a:Option Addr) (n cap i:Nat),Lb w C a i l->(K5 t (Ce w lt l (some (.slice a n cap)) i)↔S7 t lt l=true)
 |[],a,n,cap,i,h=>by simp[Ce,S7,K5]
 |e::r,a,n,cap,i,h=>by
  rw[Lb] at h
  obtain ⟨⟨b,o,rfl,h1⟩,h2⟩:=h
  have j:=Ny t lt e b (o+i*6) h1
  have m:=Nz t lt r (some ⟨b,o,none⟩) n cap (i+1) h2
  rw[Ce,S7,ym,<-j,<-m]
  unfold K5
  by_cases g:(CS w lt e b (o+i*6)).2=true
  ·simp only[g,zO,qk,yn]
   constructor
   ·rintro ⟨f,d⟩;exact ⟨fun u c=>d u (.inl c),f,fun u c=>d u (.inr c)⟩
   ·rintro ⟨f,d,k⟩;exact ⟨d,fun u c=>c.elim (f u) (k u)⟩
  ·simp[g]
end
theorem PB{α β γ:Type}{R:α->β->Prop}{f:α->β->γ}{p:γ->Prop}{q:β->Prop}(h:∀a b,R a b->(p (f a b)↔q b)):∀ {l:List α} {m:List β},AW R l m->((∀c∈List.zipWith f l m,p c)↔∀b∈m,q b)
 |[],[],_=>by simp
 |a::l,b::m,hA=>by
  rw[AW] at hA
  simp only[xZ,xk,h a b hA.1,PB h hA.2]
 |[],b::m,hA=>by simp[AW] at hA
 |a::l,[],hA=>by simp[AW] at hA
theorem U5{N:NP}{w:World}{C D:Addr->Prop}(t:Tb)(a:Array Value)(e:Kp)(h:WA N w C D a e):K5 t (D8 w a e)↔Bd t e=true:=by
 obtain ⟨b,o,cs,rfl,_,_,c,_⟩:=h
 unfold D8 Bd
 by_cases hl:Da e.1=true
 ·simp[hl,K5]
 ·rw[yq hl,Bool.or_eq_true,or_iff_right hl]
  exact Ny t e.2 e.1 b o c
theorem SY{f:Nat->List Us}{n:Nat}{p:Us->Prop}:(∀u∈(List.range n).flatMap f,p u)↔∀i,i < n->∀u∈f i,p u:=by
 constructor
 ·intro h i hi u a;exact h u (yQ.2 ⟨i,yW.2 hi,a⟩)
 ·intro h u a
  obtain ⟨i,hi,a⟩:=yQ.1 a
  exact h i (yW.1 hi) u a
theorem Ho{α:Type}{l:List α}{n:Nat}(a:n=l.length){f:Nat->List Us}{p:Us->Prop}{q:α->Bool}(h:∀i (hi:i < l.length),(∀u∈f i,p u)↔q l[i]=true):(∀u∈(List.range n).flatMap f,p u)↔l.all q=true:=by
 rw[SY,yM]
 constructor
 ·intro k d hd
  obtain ⟨i,hi,rfl⟩:=zc.1 hd
  exact (h i hi).1 (k i (by omega))
 ·intro k i hi
  exact (h i (by omega)).2 (k _ (yw (by omega)))
theorem Hp{N:NP}{w:World}{C D:Addr->Prop}{Bu:Nat}{L:BL}{x:AA}(t:Tb)(h:LS N w C D Bu L x):K5 t (CG w L x)↔Dc t x=true:=by
 unfold CG Fc Dc
 rw[PA]
 simp only[yn,zg,or_imp,forall_and,forall_eq,ym]
 refine and_congr ?_ ?_
 ·rw[yM]
  exact PB (U5 t) h.top
 ·unfold K5
  simp only
  refine and_congr_right fun a=>?_
  rw[yu a]
  unfold CV
  simp only[yn,or_imp,forall_and]
  rw[Ho h.nfarms (q:=JM t) fun i hi=>?_,Ho h.nrots (q:=M6 t) fun i hi=>?_,Ho h.nrights (q:=Ii t) fun i hi=>?_,Ho h.nduties (q:=JN t) fun i hi=>?_]
  ·simp only[and_assoc]
  ·unfold EO;rw[yl hi];simp[JN,Kv,DL]
  ·unfold DF;rw[yl hi];simp[Ii,Kv,DL]
  ·unfold Ib;rw[yl hi]
   simp only[xk,M6,ym,Kv,DL]
   refine and_congr z7 ?_
   refine Ho (h.nturns i hi) fun k a=>?_
   unfold G4;rw[yl a];simp[DL]
  ·unfold F8;rw[yl hi];simp[JM,Kv,DL]
def PC(W:World)(b:Nat):Nat:=match W.heap[b]? with
 |some (.cells _ t _)=>t
 |_=>0
theorem ER{W:World}{b t:Nat}(h:Ty W b t):PC W b=t:=by
 obtain ⟨c,e⟩:=h
 unfold PC;rw[e]
def G5(W:World)(b o:Nat):Int:=
 if GK (PC W b) (o+1)=1 then (match W.cell? ⟨b,o - 3,none⟩ with
  |some (.int _ z)=>if z=2 then 1 else 0
  |_=>0)
 else if PC W b=51 then (if o < 51 then 0 else 6)
 else if PC W b=59 then (if o % 12=1 then 4 else match W.cell? ⟨b,o - 7,none⟩ with
  |some (.bool r)=>if r then 0 else 3
  |_=>3)
 else if PC W b=64 then 4
 else if PC W b=66 then 5
 else if PC W b=68 then (if o % 37=2 then 5 else match W.cell? ⟨b,o - 4,none⟩ with
  |some (.int _ z)=>if z=1 then 0 else 4
  |_=>4)
 else (if o % 11=1 then 5 else 4)
def WD(t q:Nat):Prop:=GK t q=2∨(GK t q=1∧Hg t q=4)
def JO(B:Nat)(W:World)(b q:Nat):Prop:=B<=b∧∃o t,q=o+1∧Ty W b t∧WD t (o+1)∧G5 W b o≠0
structure P2 (B:Nat) (W:World) (u:Us):Prop where
 base:B<=u.b
 t:∃t,Ty W u.b t∧WD t (u.o+1)∧¬ WD t u.o
 name:W.cell? ⟨u.b,u.o,none⟩=some (.string u.name)
 len:u.name.size<=maxLen
 n:W.cell? ⟨u.b,u.o+1,none⟩=some (.int .i64 u.n)
 cat:G5 W u.b u.o=Ds u.to
 to:u.to=0∨u.to=1∨u.to=2∨u.to=3∨u.to=4∨u.to=5∨u.to=6
theorem NA{u:Us}:Ds u.to=0↔u.to=0:=by
 unfold Ds;split<;>omega
structure RJ (B:Nat) (W4:World) (t:Tb) (X:List Us) (k:Nat) (O:Nat->Prop) (W:World):Prop where
 os:W.os=W4.os
 tape:W.tape=W4.tape
 output:W.output=W4.output
 size:W4.heap.size<=W.heap.size
 own:∀b,O b->W4.heap.size<=b
 ty:∀(b:Nat) (c:Array Value) (t:TypeId),W4.heap[b]?=some (.cells c t (0,0))->∃c':Array Value,c'.size=c.size∧W.heap[b]?=some (.cells c' t (0,0))
 same:∀b:Nat,b < W4.heap.size->(∀q,¬ JO B W4 b q)->W.heap[b]?=W4.heap[b]?
 cells:∀b q,b < W4.heap.size->¬ JO B W4 b q->W.cell? ⟨b,q,none⟩=W4.cell? ⟨b,q,none⟩
 nums:∀b q,JO B W4 b q->(∃z,W4.cell? ⟨b,q,none⟩=some (.int .i64 z))->∃z,W.cell? ⟨b,q,none⟩=some (.int .i64 z)
 done:∀j (h:j < X.length),j < k->Kv t X[j]=true∧(X[j].to≠0->X[j].b < W4.heap.size∧W.cell? ⟨X[j].b,X[j].o+1,none⟩=some (.int .i64 (GH t (Ds X[j].to) X[j].name)))
section
variable{B:Nat}{W4 W w':World}{t:Tb}{X:List Us}{k:Nat}{O:NP}
theorem RJ.start(B:Nat)(W4:World)(t:Tb)(X:List Us):RJ B W4 t X 0 (fun _=>False) W4:=
 ⟨rfl,rfl,rfl,ye _,fun _ h=>h.elim,fun _ c _ h=>⟨c,rfl,h⟩,fun _ _ _=>rfl,fun _ _ _ _=>rfl,fun _ _ _ h=>h,fun _ _ h=>by omega⟩
theorem RJ.XI(h:RJ B W4 t X k O W){b ty:Nat}(hb:Ty W4 b ty):Ty W b ty:=by
 obtain ⟨c,e⟩:=hb
 obtain ⟨a,_,e'⟩:=h.ty b c ty e
 exact ⟨a,e'⟩
theorem RJ.move{g:NP}(h:RJ B W4 t X k O W)(o:W.heap.size<=w'.heap.size)(l:w'.os=W.os)(m:w'.tape=W.tape)(p:w'.output=W.output)(d:∀b,b < W4.heap.size->w'.heap[b]?=W.heap[b]?)(i:∀b,g b->W4.heap.size<=b):RJ B W4 t X k g w':=by
 refine ⟨l.trans h.os,m.trans h.tape,p.trans h.output,yo h.size o,i,fun b c ty hb=>?_,fun b hb a=>(d b hb).trans (h.same b hb a),fun b q hb a=>(Ap (d b hb)).trans (h.cells b q hb a),fun b q a hi=>?_,fun j r f=>?_⟩
 ·obtain ⟨n,e1,e2⟩:=h.ty b c ty hb
  exact ⟨n,e1,(d b (yd.1 hb).1).trans e2⟩
 ·obtain ⟨z,e⟩:=h.nums b q a hi
  obtain ⟨_,_,ty,_,h1,_⟩:=a
  exact ⟨z,(Ap (d b h1.lt)).trans e⟩
 ·obtain ⟨h1,h2⟩:=h.done j r f
  refine ⟨h1,fun h3=>?_⟩
  have h4:=h2 h3
  exact ⟨h4.1,(Ap (d _ h4.1)).trans h4.2⟩
theorem RJ.stays:Ep (RJ B W4 t X):=by
 intro k O W j W' h d i e g f c
 refine h.move d i e g (fun b hb=>f b (fun a=>by have:=h.own b a;omega) (yk hb h.size)) (fun b hb=>?_)
 rcases c b hb with h1|h1
 ·exact h.own b h1
 ·have:=h.size;omega
theorem RJ.below{a:Nat}(h:RJ B W4 t X k O W)(hb:Below a W w')(d:W4.heap.size<=a):RJ B W4 t X k O w':=
 h.move hb.size hb.os hb.tape hb.output (fun b c=>hb.block b (by omega)) h.own
theorem P2.Xv{u:Us}(h:P2 B W4 u):¬ JO B W4 u.b u.o:=by
 rintro ⟨_,o,ty,e,h1,h2,_⟩
 obtain ⟨c,a,f,d⟩:=h.t
 obtain rfl:=h1.inj a
 rw[<-e] at h2
 exact d h2
theorem P2.lt{u:Us}(h:P2 B W4 u):u.b < W4.heap.size:=by
 obtain ⟨c,a,d,e⟩:=h.t
 exact a.lt
theorem P2.num{u:Us}(h:P2 B W4 u)(h0:u.to≠0):JO B W4 u.b (u.o+1):=by
 obtain ⟨a,c,d,f⟩:=h.t
 exact ⟨h.base,u.o,a,rfl,c,d,by rw[h.cat];exact fun e=>h0 (NA.1 e)⟩
theorem P2.Xr{u:Us}(h:P2 B W4 u)(h0:u.to=0):¬ JO B W4 u.b (u.o+1):=by
 rintro ⟨_,o,ty,e,h1,h2,h3⟩
 obtain rfl:o=u.o:=by omega
 rw[h.cat] at h3
 exact h3 (NA.2 h0)
theorem RJ.read{u:Us}(h:RJ B W4 t X k O W)(a:P2 B W4 u):W.cell? ⟨u.b,u.o,none⟩=some (.string u.name)∧(∃z,W.cell? ⟨u.b,u.o+1,none⟩=some (.int .i64 z)∧(u.to=0->z=u.n))∧W.frozen? ⟨u.b,u.o+1,none⟩=false:=by
 refine ⟨(h.cells _ _ a.lt a.Xv).trans a.name,?_,?_⟩
 ·by_cases h0:u.to=0
  ·exact ⟨u.n,(h.cells _ _ a.lt (a.Xr h0)).trans a.n,fun _=>rfl⟩
  ·obtain ⟨z,f⟩:=h.nums _ _ (a.num h0) ⟨_,a.n⟩
   exact ⟨z,f,fun e=>absurd e h0⟩
 ·obtain ⟨d,c,g,i⟩:=a.t
  exact (h.XI c).frozen
theorem RJ.skip{u:Us}(h:RJ B W4 t X k O W)(c:X[k]?=some u)(h0:u.to=0)(a:Kv t u=true):RJ B W4 t X (k+1) O W:=by
 obtain ⟨hl,rfl⟩:=yA.1 c
 refine ⟨h.os,h.tape,h.output,h.size,h.own,h.ty,h.same,h.cells,h.nums,fun j d b=>?_⟩
 by_cases e:j=k
 ·subst e;exact ⟨a,fun h=>absurd h0 h⟩
 ·exact h.done j d (by omega)
theorem RJ.next{u:Us}(h:RJ B W4 t X k O W)(v:∀u∈X,P2 B W4 u)(y:X[k]?=some u)(h0:u.to≠0)(p:Kv t u=true):RJ B W4 t X (k+1) O (W.setCell ⟨u.b,u.o+1,none⟩ (.int .i64 (GH t (Ds u.to) u.name))):=by
 obtain ⟨hl,rfl⟩:=yA.1 y
 have g:=v _ (yw hl)
 obtain ⟨_,⟨z,C,_⟩,_⟩:=h.read g
 obtain ⟨i,F,G,n⟩:=Ar (iV (GH t (Ds X[k].to) X[k].name)) C
 have s:=g.num h0
 have a:∀b q,(b≠X[k].b∨q≠X[k].o+1)->(W.setCell ⟨X[k].b,X[k].o+1,none⟩ (iV (GH t (Ds X[k].to) X[k].name))).cell? (aV b q)=W.cell? (aV b q):=fun b q d=>
  xP _ _ _ _ (fun e=>by cases e;simp at d)
 refine ⟨i.os.trans h.os,i.tape.trans h.tape,i.output.trans h.output,yo h.size i.size,h.own,fun b c ty hb=>?_,fun b hb d=>?_,fun b q hb d=>?_,fun b q d hi=>?_,fun j x D=>?_⟩
 ·obtain ⟨w,e1,e2⟩:=h.ty b c ty hb
  by_cases l:b=X[k].b
  ·subst l
   exact ⟨_,by rw[Array.size_setIfInBounds];exact e1,zk W _ _ w ty _ e2⟩
  ·exact ⟨w,e1,(zf W _ b _ l).trans e2⟩
 ·have l:b≠X[k].b:=fun e=>d _ (e▸s)
  exact (zf W _ b _ l).trans (h.same b hb d)
 ·rw[a b q (by by_cases e:b=X[k].b;exact .inr (fun e2=>d (by rw[e,e2];exact s));exact .inl e)]
  exact h.cells b q hb d
 ·by_cases e:b=X[k].b∧q=X[k].o+1
  ·obtain ⟨rfl,rfl⟩:=e
   exact ⟨_,n⟩
  ·rw[a b q (by by_cases e2:b=X[k].b;exact .inr (fun r=>e ⟨e2,r⟩);exact .inl e2)]
   exact h.nums b q d hi
 ·by_cases e:j=k
  ·subst e;exact ⟨p,fun _=>⟨g.lt,n⟩⟩
  ·obtain ⟨A,E⟩:=h.done j x (by omega)
   refine ⟨A,fun h3=>?_⟩
   have f:=v _ (yw x)
   by_cases e:X[j].b=X[k].b∧X[j].o+1=X[k].o+1
   ·obtain ⟨e1,e2⟩:=e
    have e2:X[j].o=X[k].o:=by omega
    have hc:Ds X[j].to=Ds X[k].to:=by rw[<-f.cat,<-g.cat,e1,e2]
    have m:X[j].name=X[k].name:=by
     have h1:=f.name
     rw[e1,e2,g.name] at h1
     exact (Value.string.inj (yh h1)).symm
    refine ⟨f.lt,?_⟩
    rw[e1,e2,hc,m];exact n
   ·rw[a _ _ (by by_cases e2:X[j].b=X[k].b;exact .inr (fun r=>e ⟨e2,r⟩);exact .inl e2)]
    exact E h3
end
section
variable{W:World}{g:Nat}
theorem R6(h:Ty W g 51)(i:Nat):G5 W g (i*51+1)=if i=0 then 0 else 6:=by
 have e:GK 51 (i*51+1+1)=2:=by rw[zU,(E3 CC i (1+1)).1];rfl
 unfold G5
 rw[ER h,e,yq (by decide),yu rfl]
 by_cases hi:i=0
 ·subst hi;rfl
 ·rw[yq hi,yq (by omega)]
theorem Vb(h:Ty W g 59)(i:Nat):G5 W g (i*12+1)=4:=by
 have e:GK 59 (i*12+1+1)=2:=by rw[zU,(E3 Gd i (1+1)).1];rfl
 unfold G5
 rw[ER h,e,yq (by decide),yq (by decide),yu rfl,yu (by omega)]
theorem SZ(h:Ty W g 59)(i:Nat){r:Bool}(a:W.cell? ⟨g,i*12+3,none⟩=some (.bool r)):G5 W g (i*12+10)=if r then 0 else 3:=by
 have e:GK 59 (i*12+10+1)=2:=by rw[zU,(E3 Gd i (10+1)).1];rfl
 unfold G5
 rw[ER h,e,yq (by decide),yq (by decide),yu rfl,yq (by omega),show i*12+10 - 7=i*12+3 by omega,a]
theorem U6(h:Ty W g 64)(i:Nat):G5 W g (i*23+1)=4:=by
 have e:GK 64 (i*23+1+1)=2:=by rw[zU,(E3 GL i (1+1)).1];rfl
 unfold G5
 rw[ER h,e,yq (by decide),yq (by decide),yq (by decide),yu rfl]
theorem T0(h:Ty W g 66)(i:Nat):G5 W g (i*8)=5:=by
 have e:GK 66 (i*8+1)=2:=by rw[(E3 LP i 1).1];rfl
 unfold G5
 rw[ER h,e,yq (by decide),yq (by decide),yq (by decide),yq (by decide),yu rfl]
theorem Vc(h:Ty W g 68)(i:Nat):G5 W g (i*37+2)=5:=by
 have e:GK 68 (i*37+2+1)=2:=by rw[zU,(E3 CD i (2+1)).1];rfl
 unfold G5
 rw[ER h,e,yq (by decide),yq (by decide),yq (by decide),yq (by decide),yq (by decide),yu rfl,yu (by omega)]
theorem Vd(h:Ty W g 68)(i:Nat){k:IntKind}{z:Int}(a:W.cell? ⟨g,i*37,none⟩=some (.int k z)):G5 W g (i*37+4)=if z=1 then 0 else 4:=by
 have e:GK 68 (i*37+4+1)=2:=by rw[zU,(E3 CD i (4+1)).1];rfl
 unfold G5
 rw[ER h,e,yq (by decide),yq (by decide),yq (by decide),yq (by decide),yq (by decide),yu rfl,yq (by omega),show i*37+4 - 4=i*37 by omega,a]
theorem Ve(h:Ty W g 70)(i:Nat):G5 W g (i*11+1)=5:=by
 have e:GK 70 (i*11+1+1)=2:=by rw[zU,(E3 Ia i (1+1)).1];rfl
 unfold G5
 rw[ER h,e,yq (by decide),yq (by decide),yq (by decide),yq (by decide),yq (by decide),yq (by decide),yu (by omega)]
theorem Vf(h:Ty W g 70)(i:Nat):G5 W g (i*11+3)=4:=by
 have e:GK 70 (i*11+3+1)=2:=by rw[zU,(E3 Ia i (3+1)).1];rfl
 unfold G5
 rw[ER h,e,yq (by decide),yq (by decide),yq (by decide),yq (by decide),yq (by decide),yq (by decide),yq (by omega)]
theorem S8{o:Nat}(h:I9 W g o){k:IntKind}{op:Int}(b:W.cell? ⟨g,o,none⟩=some (.int k op)):G5 W g (o+3)=if op=2 then 1 else 0:=by
 obtain ⟨t,ty,a⟩:=h
 have e:GK t (o+3+1)=1:=(a 4 (by omega)).1
 unfold G5
 rw[ER ty,e,yu rfl,show o+3 - 3=o by omega,b]
theorem M7(h:Ty W g 26)(i:Nat):I9 W g (i*6):=
 ⟨_,h,fun j a=>⟨by simp[GK],by simp only[Hg];simp;omega⟩⟩
end
section
variable{B:Nat}{W:World}{M:NP}
theorem G6{to at_:Int}{r:Rf}{b o:Nat}(c:B<=b)(a:RV W to r b o)(d:QI W b o)(hc:G5 W b o=Ds to)(e:to=0∨to=1∨to=2∨to=3∨to=4∨to=5∨to=6):P2 B W ⟨b,o,to,at_,r.name,r.n⟩:=by
 obtain ⟨t,ty,h1,h2⟩:=d
 refine ⟨c,⟨t,ty,.inl h2,?_⟩,a.2.1,a.1,a.2.2,hc,e⟩
 rintro (h|h)
 ·rw[h1] at h;cases h
 ·rw[h1] at h;cases h.1
mutual
theorem PD(hM:∀g,M g->B<=g)(lt:Int):∀(e:Ex) (b o:Nat) (cs:LV),B<=b->Jr W M e cs->W.rangeAt b o cs->I9 W b o->∀u∈(CS W lt e b o).1,P2 B W u
 |.mk op n u rn ri args,b,o,cs,hb,hv,hr,hp=>by
  rw[Jr] at hv
  obtain ⟨a,cap,rfl,h2,h3,h4⟩:=hv
  obtain ⟨p,r1,r2,m,l,j⟩:=BZ hr
  intro v c
  rw[CS] at c
  by_cases hs:Kq op args.length=true
  ·rw[yu hs,j] at c
   simp only[yO] at c
   rcases c with rfl|c
   ·have hc:=S8 hp p
    obtain ⟨t,ty,i⟩:=hp
    have f:=i 3 (by omega);have k:=i 4 (by omega)
    refine ⟨hb,⟨t,ty,.inr k,?_⟩,m,h3,l,?_,?_⟩
    ·rintro (h|h)
     ·simp only at h;rw[f.1] at h;cases h
     ·simp only at h;rw[f.2] at h;exact absurd h.2 (by decide)
    ·simp only;rw[hc];unfold KP Ds
     by_cases d:op=2
     ·simp only[d,zO];split<;>simp
     ·simp[d]
    ·simp only;unfold KP
     by_cases d:op=2
     ·simp only[d,zO];split<;>simp
     ·simp[d]
   ·exact PE hM lt args a args.length cap 0 h4 v c
  ·rw[yq hs] at c;cases c
theorem PE(hM:∀g,M g->B<=g)(lt:Int):∀(l:List Ex) (a:Option Addr) (n cap i:Nat),EA W M a i l->∀u∈(Ce W lt l (some (.slice a n cap)) i).1,P2 B W u
 |[],a,n,cap,i,h=>by intro v b;rw[Ce] at b;cases b
 |e::r,a,n,cap,i,h=>by
  rw[EA] at h
  obtain ⟨⟨g,cs,rfl,h1,h2,h3,h4⟩,h5⟩:=h
  have c:=PD hM lt e g (0+i*6) cs (hM g h1) h4 (by rw[yD];exact h3) (by rw[yD];exact M7 h2 i)
  have d:=PE hM lt r (some ⟨g,0,none⟩) n cap (i+1) h5
  intro v b
  rw[Ce] at b
  split at b
  ·rcases yn.1 b with b|b
   ·exact c v b
   ·exact d v b
  ·exact c v b
end
theorem K6{u:Us}:∀ {l:List (List Us × Bool)},u∈(Cm l).1->∃p∈l,u∈p.1
 |[],h=>by simp[Cm] at h
 |x::r,h=>by
  have e:Cm (x::r)=if x.2 then (x.1++(Cm r).1,(Cm r).2) else (x.1,false):=rfl
  rw[e] at h
  split at h
  ·rcases yn.1 h with h|h
   ·exact ⟨x,by simp,h⟩
   ·obtain ⟨p,h1,h2⟩:=K6 h
    exact ⟨p,by simp[h1],h2⟩
  ·exact ⟨x,by simp,h⟩
theorem S9{α β:Type}{R:α->β->Prop}{f:α->β->List Us × Bool}{P:Us->Prop}(h:∀a b,R a b->∀u∈(f a b).1,P u):∀ {l:List α} {m:List β},AW R l m->∀p∈List.zipWith f l m,∀u∈p.1,P u
 |[],_,_=>by simp
 |_::_,[],_=>by simp
 |a::l,b::m,hA=>by
  rw[AW] at hA
  simp only[xZ,xk]
  exact ⟨h a b hA.1,S9 h hA.2⟩
def JP(h:AF)(l:List AI)(i:Nat):List Us:=match l[i]? with
 |some d=> [⟨(h.at 51 i 1).block,(h.at 51 i 1).off,if i=0 then 0 else 6,i,d.frm.name,d.frm.n⟩]
 |none=> []
def G2(L:BL)(x:AA):List Us:=(List.range L.reaches.n).flatMap (JP L.reaches x.reaches)
def Dt(W:World)(L:BL)(x:AA):List Us:=G2 L x++(CG W L x).1
theorem Sa{N:NP}{L:BL}{x:AA}(hN:∀g,N g->B<=g)(hM:∀g,M g->B<=g)(hs:N L.s)(h:CT N (ET M W) (RV W) W L x):∀u∈Dt W L x,P2 B W u:=by
 intro u d
 rcases yn.1 d with d|d
 ·obtain ⟨i,hi,d⟩:=yQ.1 d
  have hl:i < x.reaches.length:=by rw[<-h.reaches.1];exact yW.1 hi
  unfold JP at d
  rw[yl hl] at d
  simp only[zg] at d
  obtain ⟨g,m,j,ty,_,l,_⟩:=h.reaches.2.2 i hl
  rw[BE m,yD] at d
  rw[d]
  exact G6 (hN g j) l (Cy ty CC i 1 rfl rfl) (by rw[R6 ty];split<;>rfl) (by split<;>simp)
 ·obtain ⟨p,q,d⟩:=K6 d
  unfold Fc at q
  rcases yn.1 q with q|q
  ·refine S9 (R:=Wx N (ET M W) W) (f:=D8 W) (P:=P2 B W) (fun a e C u d=>?_) (h.Xq hs) p q u d
   obtain ⟨b,o,rfl,hb,r,c,w,y⟩:=C
   unfold D8 at d
   split at d
   ·cases d
   ·exact PD hM e.2 e.1 b o c (hN b hb) y w r u d
  ·simp only[zg] at q
   rw[q] at d
   simp only at d
   split at d
   ·unfold CV at d
    simp only[yn] at d
    rcases d with ((d|d)|d)|d
    ·obtain ⟨i,hi,d⟩:=yQ.1 d
     have hl:i < x.farms.length:=by rw[<-h.farms.1];exact yW.1 hi
     obtain ⟨g,m,j,ty,_,l,A,_,n⟩:=h.farms.2.2 i hl
     unfold F8 at d
     rw[yl hl] at d
     simp only[DL,BE m,yD,yO,zs,xD] at d
     rcases d with rfl|rfl
     ·exact G6 (hN g j) l (Cy ty Gd i 1 rfl rfl) (by rw[Vb ty];rfl) (by simp)
     ·exact G6 (hN g j) n (Cy ty Gd i 10 rfl rfl) (by rw[SZ ty i A];split<;>rfl) (by split<;>simp)
    ·obtain ⟨i,hi,d⟩:=yQ.1 d
     have hl:i < x.rots.length:=by rw[<-h.rots.1];exact yW.1 hi
     obtain ⟨g,m,j,ty,_,l,_,_,_,_,_,z⟩:=h.rots.2.2 i hl
     unfold Ib at d
     rw[yl hl] at d
     simp only[DL,BE m,yD,yO] at d
     rcases d with rfl|d
     ·exact G6 (hN g j) l (Cy ty GL i 1 rfl rfl) (by rw[U6 ty];rfl) (by simp)
     ·obtain ⟨k,v,d⟩:=yQ.1 d
      have t:k < (x.rots[i]).turns.length:=by rw[<-z.1];exact yW.1 v
      obtain ⟨g,m,j,ty,l,_⟩:=z.2.2 k t
      unfold G4 at d
      rw[yl t] at d
      simp only[DL,BE m,yD,xG,zg] at d
      rw[d]
      exact G6 (hN g j) l (Nk ty LP k rfl rfl) (by rw[T0 ty];rfl) (by simp)
    ·obtain ⟨i,hi,d⟩:=yQ.1 d
     have hl:i < x.rights.length:=by rw[<-h.rights.1];exact yW.1 hi
     obtain ⟨g,m,j,ty,v,_,l,n,_⟩:=h.rights.2.2 i hl
     unfold DF at d
     rw[yl hl] at d
     simp only[DL,BE m,yD,yO,zs,xD] at d
     rcases d with rfl|rfl
     ·exact G6 (hN g j) l (Cy ty CD i 2 rfl rfl) (by rw[Vc ty];rfl) (by simp)
     ·exact G6 (hN g j) n (Cy ty CD i 4 rfl rfl) (by rw[Vd ty i v];split<;>rfl) (by split<;>simp)
    ·obtain ⟨i,hi,d⟩:=yQ.1 d
     have hl:i < x.duties.length:=by rw[<-h.duties.1];exact yW.1 hi
     obtain ⟨g,m,j,ty,_,l,n,_⟩:=h.duties.2.2 i hl
     unfold EO at d
     rw[yl hl] at d
     simp only[DL,BE m,yD,yO,zs,xD] at d
     rcases d with rfl|rfl
     ·exact G6 (hN g j) l (Cy ty Ia i 1 rfl rfl) (by rw[Ve ty];rfl) (by simp)
     ·exact G6 (hN g j) n (Cy ty Ia i 3 rfl rfl) (by rw[Vf ty];rfl) (by simp)
   ·cases d
end
section
variable{B:Nat}{W W':World}{N M:NP}{L:BL}{x:AA}{t:Tb}{X:List Us}{k:Nat}{O:NP}
def CR(B:Nat)(W:World)(p:Addr):Prop:=∃b q,p=⟨b,q,none⟩∧b < W.heap.size∧¬ JO B W b q
def DR(W:World)(p:Addr):Prop:=∃b q,p=⟨b,q,none⟩∧b < W.heap.size∧∃z,W.cell? ⟨b,q,none⟩=some (.int .i64 z)
theorem RJ.hd(h:RJ B W t X k O W'):X7 W (CR B W) (DR W) W':=by
 constructor
 ·rintro p ⟨b,q,rfl,h1,h2⟩;exact h.cells b q h1 h2
 ·rintro p ⟨b,q,rfl,h1,h2⟩
  by_cases a:JO B W b q
  ·exact h.nums b q a h2
  ·rw[h.cells b q h1 a];exact h2
theorem R9{b q ty:Nat}(h:Ty W b ty)(c:¬ WD ty q):¬ JO B W b q:=by
 rintro ⟨_,o,a,rfl,h1,h2,_⟩
 obtain rfl:=h.inj h1
 exact c h2
theorem Hr{b q:Nat}(h:Pe W b q):¬ JO B W b q:=by
 obtain ⟨ty,h1,h2⟩:=h
 exact R9 h1 (by rintro (h|h);rw[h2] at h;cases h;rw[h2] at h;cases h.1)
theorem Gj{b o:Nat}(h:I9 W b o){j:Nat}(a:j < 6)(h4:j≠4):¬ JO B W b (o+j):=by
 obtain ⟨ty,h1,h2⟩:=h
 refine R9 h1 ?_
 rintro (h|h)
 ·rw[(h2 j a).1] at h;cases h
 ·rw[(h2 j a).2] at h;exact h4 h.2
theorem M8{b o:Nat}(h:I9 W b o){c:IntKind}{op:Int}(f:W.cell? ⟨b,o,none⟩=some (.int c op))(h2:op≠2):¬ JO B W b (o+4):=by
 rintro ⟨_,d,a,e,h1,_,h3⟩
 obtain rfl:d=o+3:=by omega
 rw[S8 h f,yq h2] at h3
 exact h3 rfl
mutual
theorem U7:∀(e:Ex) (b o:Nat) (cs:LV),Jr W M e cs->W.rangeAt b o cs->I9 W b o->SH W (CR B W) e b o
 |.mk op n u rn ri args,b,o,cs,hv,hr,hp=>by
  rw[Jr] at hv
  obtain ⟨a,cap,rfl,h2,h3,h4⟩:=hv
  obtain ⟨c,r1,r2,f,g,d⟩:=BZ hr
  rw[SH]
  exact ⟨a,cap,⟨c,_,_,rfl,hp.lt,Gj (j:=0) hp (by omega) (by omega)⟩,⟨d,_,_,rfl,hp.lt,Gj hp (by omega) (by omega)⟩,h2,Sb args a 0 h4⟩
theorem Sb:∀(l:List Ex) (a:Option Addr) (i:Nat),EA W M a i l->Lb W (CR B W) a i l
 |[],a,i,h=>by rw[Lb];trivial
 |e::r,a,i,h=>by
  rw[EA] at h
  rw[Lb]
  obtain ⟨⟨g,cs,rfl,h1,h2,h3,h4⟩,h5⟩:=h
  exact ⟨⟨g,0,rfl,by rw[yD];exact U7 e g (i*6) cs h4 h3 (M7 h2 i)⟩,Sb r _ (i+1) h5⟩
end
theorem GM{f:Nat->List Us}{c:Nat}(n:Nat)(h:∀i,(f i).length<=c):((List.range n).flatMap f).length<=n*c:=by
 induction n with
 |zero=>simp
 |succ n ih=>rw[Az,yi,Nat.succ_mul];have:=h n;omega
theorem PF{f:Nat->List Us}{c:Nat}(n:Nat)(h:∀i,i < n->(f i).length<=c):((List.range n).flatMap f).length<=n*c:=by
 induction n with
 |zero=>simp
 |succ n ih=>rw[Az,yi,Nat.succ_mul];have:=h n (by omega);have:=ih (fun i hi=>h i (by omega));omega
theorem FE(h:BX x=true):x.lets.length<=64∧x.crops.length<=32∧x.reaches.length<=64∧x.farms.length<=600∧x.rots.length<=64∧x.rights.length<=256∧x.duties.length<=256∧(∀d∈x.rots,d.turns.length<=64)∧∀e∈Bb x,AV e.1<=8:=by
 unfold BX FD En Fe at h
 simp only[ym,yR,yM] at h
 obtain ⟨⟨h1,h2,h3,h4,h5,h6,c⟩,a,b⟩:=h
 exact ⟨h1,h2,h3,h4,h5,h6,c,a,b⟩
theorem PG(h:x.lets.length<=64):∀e∈Bb x,0<=e.2∧e.2<=1000000:=by
 intro e b
 unfold Bb JB Gb Eb Gc Iv DY EM EN at b
 simp only[yn,yO,zs,xD,yQ,Prod.exists] at b
 rcases b with (rfl|rfl|rfl)|⟨d,i,a,rfl⟩|⟨d,i,a,rfl⟩|⟨d,i,a,rfl|rfl|rfl|rfl|rfl|rfl|rfl|rfl⟩|⟨d,i,a,rfl⟩|⟨d,i,a,(rfl|rfl|rfl)|⟨f,g,c,rfl⟩⟩|⟨d,i,a,rfl|rfl|rfl|rfl|rfl⟩|⟨d,i,a,rfl⟩
 all_goals first|exact ⟨by omega,by omega⟩|skip
 have:=List.mem_zipIdx a
 simp only
 omega
theorem PH(h:CT N (ET M W) (RV W) W L x)(a:BX x=true):(CV L x).length<=1000000:=by
 obtain ⟨e,o,j,g,m,f,l,b,_⟩:=FE a
 unfold CV
 simp only[yi]
 have e1:((List.range L.farms.n).flatMap (F8 L.farms x.farms)).length<=L.farms.n*2:=GM _ fun i=>by unfold F8;split<;>simp
 have e2:((List.range L.rots.n).flatMap (Ib L x.rots)).length<=L.rots.n*66:=PF _ fun i hi=>by
  have hl:i < x.rots.length:=by rw[<-h.rots.1];exact hi
  obtain ⟨_,_,_,_,_,_,_,_,_,_,_,c⟩:=h.rots.2.2 i hl
  have d:((List.range (A5 L i).n).flatMap (G4 (A5 L i) (x.rots[i]).turns)).length<=(A5 L i).n*1:=GM _ fun k=>by unfold G4;split<;>simp
  have:=b _ (yw hl)
  have:=c.1
  unfold Ib
  rw[yl hl]
  simp only[yC]
  omega
 have d:((List.range L.rights.n).flatMap (DF L.rights x.rights)).length<=L.rights.n*2:=GM _ fun i=>by unfold DF;split<;>simp
 have p:((List.range L.duties.n).flatMap (EO L.duties x.duties)).length<=L.duties.n*2:=GM _ fun i=>by unfold EO;split<;>simp
 have:=h.farms.1;have:=h.rots.1;have:=h.rights.1;have:=h.duties.1
 omega
theorem U8(hs:N L.s)(h:CT N (ET M W) (RV W) W L x){Bu:Nat}(q:Bu < W.heap.size)(n:W.cell? ⟨Bu,0,none⟩=some (.pointer (some ⟨L.s,0,none⟩)))(r:BX x=true):LS M W (CR B W) (DR W) Bu L x:=by
 have l:∀ {hd:AF} {g sz i off:Nat},hd.a=some (aV g 0)->hd.at sz i off=(aV g (i*sz+off)):=fun f=>by rw[BE f,yD]
 refine ⟨h.ok,h.heads (fun _ _ _=>rfl) n,⟨Bu,0,rfl,q,?_⟩,fun j h1 h2=>⟨L.s,j,rfl,h.ty.lt,R9 h.ty ?_⟩,fun i hi=>?_,fun i hi=>?_,fun i hi=>?_,?_,h.farms.1,h.rots.1,fun i hi=>?_,h.rights.1,h.duties.1,PG (FE r).1,PH h r⟩
 ·rintro ⟨_,o,ty,e,_⟩;omega
 ·have:j=19∨j=20∨j=21∨j=22∨j=23∨j=24∨j=25:=by omega
  rcases this with rfl|rfl|rfl|rfl|rfl|rfl|rfl<;>(intro v;revert v;unfold WD;decide)
 ·obtain ⟨g,f,t,ty,_⟩:=h.rots.2.2 i (by rw[<-h.rots.1];exact hi)
  rw[l f]
  exact ⟨_,_,rfl,ty.lt,Hr (Es ty GL i 22 rfl)⟩
 ·obtain ⟨g,f,t,ty,_,_,m,_⟩:=h.farms.2.2 i hi
  rw[l f]
  exact ⟨⟨_,_,rfl,ty.lt,Hr (Es ty Gd i 3 rfl)⟩,m⟩
 ·obtain ⟨g,f,t,ty,m,_⟩:=h.rights.2.2 i hi
  rw[l f]
  exact ⟨⟨_,_,rfl,ty.lt,Hr (Es ty CD i 0 rfl)⟩,m⟩
 ·refine AW.mono (fun a e z=>?_) (h.Xq hs)
  obtain ⟨b,o,rfl,hb,d,c,k,p⟩:=z
  have u:=U7 (B:=B) e.1 b o c p k d
  have m:=p.XB (N:=M) (fun _ h _=>h)
  obtain ⟨a,cap,rfl,e1,e2,E⟩:=m.cells
  obtain ⟨A,r1,r2,D,y,C⟩:=BZ k
  exact ⟨b,o,_,rfl,k,m,u,⟨_,_,rfl,d.lt,Gj d (by omega) (by omega)⟩,⟨_,_,rfl,d.lt,Gj d (by omega) (by omega)⟩,⟨_,_,rfl,d.lt,Gj d (by omega) (by omega)⟩,⟨_,_,rfl,d.lt,_,y⟩,
   fun h0=>⟨_,_,rfl,d.lt,M8 d A (by rw[h0];decide)⟩⟩
 ·obtain ⟨_,_,_,_,_,_,_,_,_,_,_,w⟩:=h.rots.2.2 i hi
  exact w.1
end
section
variable{B:Nat}{W W':World}{N M:NP}{E:Int->Ex->Nat->Nat->Prop}{R:Int->Rf->Nat->Nat->Prop}{L:BL}{x:AA}{t:Tb}{X:List Us}{O:NP}
theorem K7:∀ {l:List (List Us × Bool)},(Cm l).2=true->∀p∈l,p.2=true∧∀u∈p.1,u∈(Cm l).1
 |[],_=>by simp
 |y::r,h=>by
  have e:Cm (y::r)=if y.2 then (y.1++(Cm r).1,(Cm r).2) else (y.1,false):=rfl
  rw[e] at h ⊢
  by_cases h1:y.2=true
  ·rw[yu h1] at h ⊢
   have ih:=K7 h
   intro p a
   rcases yO.1 a with rfl|a
   ·exact ⟨h1,fun u b=>yn.2 (.inl b)⟩
   ·exact ⟨(ih p a).1,fun u b=>yn.2 (.inr ((ih p a).2 u b))⟩
  ·rw[yq h1] at h;cases h
theorem NB{α β γ:Type}{R R':α->β->Prop}{f:α->β->γ}{Q:γ->Prop}(h:∀a b,R a b->Q (f a b)->R' a b):∀ {l:List α} {m:List β},AW R l m->(∀p∈List.zipWith f l m,Q p)->AW R' l m
 |[],[],_,_=>trivial
 |a::l,b::m,hA,hq=>by
  rw[AW] at hA
  simp only[xZ,xk] at hq
  exact ⟨h a b hA.1 hq.1,NB h hA.2 hq.2⟩
 |[],_::_,hA,_=>by simp[AW] at hA
 |_::_,[],hA,_=>by simp[AW] at hA
def WE(W:World)(X:List Us)(M:NP)(lt:Int)(e:Ex)(b o:Nat):Prop:=ET M W lt e b o∧(Da e=false->(CS W lt e b o).2=true∧∀u∈(CS W lt e b o).1,u∈X)
def WG(X:List Us)(R:Int->Rf->Nat->Nat->Prop)(to:Int)(r:Rf)(b o:Nat):Prop:=R to r b o∧∃at_,(⟨b,o,to,at_,r.name,r.n⟩:Us)∈X
theorem CT.XC(h:CT N (ET M W) R W L x)(hs:N L.s)(g:(CG W L x).2=true)(i:∀u∈(CG W L x).1,u∈X):CT N (WE W X M) R W L x:=by
 have m:=K7 g
 refine h.told (NB (f:=D8 W) (Q:=fun p=>p.2=true∧∀u∈p.1,u∈X) (fun a e k c=>?_) (h.Xq hs) (fun p d=>?_))
 ·obtain ⟨b,o,rfl,hb,d,j⟩:=k
  refine ⟨b,o,rfl,j,fun hl=>?_⟩
  unfold D8 at c
  rw[hl] at c
  exact c
 ·obtain ⟨h1,h2⟩:=m p (yn.2 (.inl d))
  exact ⟨h1,fun u l=>i u (h2 u l)⟩
theorem D3{f:Nat->List Us}{n i:Nat}{u:Us}(hi:i < n)(a:u∈f i):u∈(List.range n).flatMap f:=yQ.2 ⟨i,yW.2 hi,a⟩
theorem CT.XD(h:CT N E R W L x)(t:∀u∈G2 L x,u∈X)(l:∀u∈CV L x,u∈X):CT N E (WG X R) W L x:=by
 have c:∀ {hd:AF} {g sz i off:Nat},hd.a=some (aV g 0)->hd.at sz i off=(aV g (i*sz+off)):=fun b=>by rw[BE b,yD]
 have s:∀u∈(List.range L.farms.n).flatMap (F8 L.farms x.farms),u∈X:=fun u j=>l u (by unfold CV;simp only[yn];exact .inl (.inl (.inl j)))
 have p:∀u∈(List.range L.rots.n).flatMap (Ib L x.rots),u∈X:=fun u j=>l u (by unfold CV;simp only[yn];exact .inl (.inl (.inr j)))
 have q:∀u∈(List.range L.rights.n).flatMap (DF L.rights x.rights),u∈X:=fun u j=>l u (by unfold CV;simp only[yn];exact .inl (.inr j))
 have r:∀u∈(List.range L.duties.n).flatMap (EO L.duties x.duties),u∈X:=fun u j=>l u (by unfold CV;simp only[yn];exact .inr j)
 refine ⟨h.ty,h.name,h.season,h.cap,h.start,h.hlets,h.hcrops,h.hreaches,h.hfarms,h.hrots,h.hrights,h.hduties,h.lets,h.crops,⟨h.reaches.1,h.reaches.2.1,fun i hi=>?_⟩,⟨h.farms.1,h.farms.2.1,fun i hi=>?_⟩,⟨h.rots.1,h.rots.2.1,fun i hi=>?_⟩,⟨h.rights.1,h.rights.2.1,fun i hi=>?_⟩,⟨h.duties.1,h.duties.2.1,fun i hi=>?_⟩⟩
 ·obtain ⟨g,b,f,ty,h1,d,h2⟩:=h.reaches.2.2 i hi
  refine ⟨g,b,f,ty,h1,⟨d,⟨i,t _ (D3 (by rw[h.reaches.1];exact hi) ?_)⟩⟩,h2⟩
  unfold JP;rw[yl hi];simp[c b]
 ·obtain ⟨g,b,f,ty,h1,d,h2,h3,e⟩:=h.farms.2.2 i hi
  refine ⟨g,b,f,ty,h1,⟨d,⟨0,s _ (D3 (by rw[h.farms.1];exact hi) ?_)⟩⟩,h2,h3,⟨e,⟨0,s _ (D3 (by rw[h.farms.1];exact hi) ?_)⟩⟩⟩
  ·unfold F8;rw[yl hi];simp[c b,DL]
  ·unfold F8;rw[yl hi];simp[c b,DL]
 ·obtain ⟨g,b,f,ty,h1,d,h2,h3,h4,h5,h6,m⟩:=h.rots.2.2 i hi
  refine ⟨g,b,f,ty,h1,⟨d,⟨0,p _ (D3 (by rw[h.rots.1];exact hi) ?_)⟩⟩,h2,h3,h4,h5,h6,m.1,m.2.1,fun k o=>?_⟩
  ·unfold Ib;rw[yl hi];simp[c b,DL]
  ·obtain ⟨g,b,f,ty,d,h1⟩:=m.2.2 k o
   refine ⟨g,b,f,ty,⟨d,⟨0,p _ (D3 (i:=i) (by rw[h.rots.1];exact hi) ?_)⟩⟩,h1⟩
   unfold Ib;rw[yl hi]
   refine yO.2 (.inr (D3 (i:=k) (by rw[m.1];exact o) ?_))
   unfold G4;rw[yl o];simp[c b,DL]
 ·obtain ⟨g,b,f,ty,h0,h1,d,e,h2⟩:=h.rights.2.2 i hi
  refine ⟨g,b,f,ty,h0,h1,⟨d,⟨0,q _ (D3 (by rw[h.rights.1];exact hi) ?_)⟩⟩,⟨e,⟨0,q _ (D3 (by rw[h.rights.1];exact hi) ?_)⟩⟩,h2⟩
  ·unfold DF;rw[yl hi];simp[c b,DL]
  ·unfold DF;rw[yl hi];simp[c b,DL]
 ·obtain ⟨g,b,f,ty,h1,d,e,h2⟩:=h.duties.2.2 i hi
  refine ⟨g,b,f,ty,h1,⟨d,⟨0,r _ (D3 (by rw[h.duties.1];exact hi) ?_)⟩⟩,⟨e,⟨0,r _ (D3 (by rw[h.duties.1];exact hi) ?_)⟩⟩,h2⟩
  ·unfold EO;rw[yl hi];simp[c b,DL]
  ·unfold EO;rw[yl hi];simp[c b,DL]
theorem RJ.at(h:RJ B W t X X.length O W'){u:Us}(c:u∈X)(h0:u.to≠0):W'.cell? ⟨u.b,u.o+1,none⟩=some (.int .i64 (GH t (Ds u.to) u.name)):=by
 obtain ⟨j,a,rfl⟩:=zc.1 c
 exact ((h.done j a a).2 h0).2
theorem PI(t:Tb)(l:List Ex):(GI t l).length=l.length:=by rw[Oo];simp
mutual
theorem Sc(h:RJ B W t X X.length O W')(lt:Int):∀(e:Ex) (b o:Nat) (cs:LV),Jr W M e cs->W.rangeAt b o cs->I9 W b o->(CS W lt e b o).2=true->(∀u∈(CS W lt e b o).1,u∈X)->∃c,W'.rangeAt b o c∧Jr W' M (Ih t e) c
 |.mk op n u rn ri args,b,o,cs,hv,hr,hp,ho,hX=>by
  rw[Jr] at hv
  obtain ⟨a,cap,rfl,h2,h3,h4⟩:=hv
  obtain ⟨i,r1,r2,l,k,g⟩:=BZ hr
  have hc:∀j,j < 6->j≠4->W'.cell? ⟨b,o+j,none⟩=W.cell? ⟨b,o+j,none⟩:=fun j m h4=>h.cells b _ hp.lt (Gj hp m h4)
  rw[CS] at ho hX
  by_cases hs:Kq op args.length=true
  ·rw[yu hs] at ho hX
   rw[g] at ho hX
   simp only[xk] at hX
   have d:=PJ h lt args a args.length cap 0 h4 ho hX.2
   have f:W'.cell? ⟨b,o+4,none⟩=some (.int .i64 (if op=2 then GH t 1 rn else ri)):=by
    by_cases h5:op=2
    ·have h6:=h.at hX.1 (by simp only[KP,h5,zO];split<;>simp)
     rw[yu h5]
     simp only[KP,h5,zO,zU] at h6
     rw[h6]
     split<;>rfl
    ·rw[yq h5]
     exact (h.cells b _ hp.lt (M8 hp i h5)).trans k
   refine ⟨[iV op,iV n,iV u,.string rn,iV (if op=2 then GH t 1 rn else ri),.slice a args.length cap],?_,?_⟩
   ·exact Ac ((hc 0 (by omega) (by omega)).trans i) (Ac ((hc 1 (by omega) (by omega)).trans r1) (Ac ((hc 2 (by omega) (by omega)).trans r2) (Ac ((hc 3 (by omega) (by omega)).trans l) (Ac f (CE ((hc 5 (by omega) (by omega)).trans g))))))
   ·rw[Ih,Jr]
    exact ⟨a,cap,by rw[PI],by rw[PI];exact h2,h3,d⟩
  ·rw[yq hs] at ho;cases ho
theorem PJ(h:RJ B W t X X.length O W')(lt:Int):∀(l:List Ex) (a:Option Addr) (n cap i:Nat),EA W M a i l->(Ce W lt l (some (.slice a n cap)) i).2=true->(∀u∈(Ce W lt l (some (.slice a n cap)) i).1,u∈X)->EA W' M a i (GI t l)
 |[],a,n,cap,i,_,_,_=>by rw[GI,EA];trivial
 |e::r,a,n,cap,i,hr,ho,hX=>by
  rw[EA] at hr
  obtain ⟨⟨g,cs,rfl,h1,h2,h3,h4⟩,h5⟩:=hr
  rw[Ce] at ho hX
  by_cases b:(CS W lt e g (0+i*6)).2=true
  ·rw[yu b] at ho hX
   simp only[yn,or_imp,forall_and] at hX
   obtain ⟨c,c1,c2⟩:=Sc h lt e g (0+i*6) cs h4 (by rw[yD];exact h3) (by rw[yD];exact M7 h2 i) b hX.1
   rw[yD] at c1
   rw[GI,EA]
   exact ⟨⟨g,c,rfl,h1,h.XI h2,c1,c2⟩,PJ h lt r (some ⟨g,0,none⟩) n cap (i+1) h5 ho hX.2⟩
  ·rw[yq b] at ho;cases ho
end
theorem T1{e:Ex}(h:Da e=true):e.op=0∧e.args=[]:=by
 unfold Da EG at h
 simp only[ym,yR] at h
 exact ⟨h.1,List.eq_nil_of_length_eq_zero h.2.2.2.2⟩
theorem U9(h:RJ B W t X X.length O W'){lt:Int}{e:Ex}{b o:Nat}(hl:Da e=true)(q:ET M W lt e b o)(d:I9 W b o):ET M W' lt e b o:=by
 obtain ⟨c,l,i⟩:=q
 obtain ⟨f,g⟩:=T1 hl
 cases e with
 |mk op n u rn ri args=>
 simp only[Ex.op,Ex.args] at f g
 subst g
 rw[Jr] at i
 obtain ⟨a,cap,rfl,h2,h3,h4⟩:=i
 obtain ⟨k,r1,r2,r,p,m⟩:=BZ l
 have hc:∀j,j < 6->j≠4->W'.cell? (aV b (o+j))=W.cell? (aV b (o+j)):=fun j s h4=>h.cells b _ d.lt (Gj d s h4)
 refine ⟨_,Ac ((hc 0 (by omega) (by omega)).trans k) (Ac ((hc 1 (by omega) (by omega)).trans r1) (Ac ((hc 2 (by omega) (by omega)).trans r2) (Ac ((hc 3 (by omega) (by omega)).trans r) (Ac ((h.cells b _ d.lt (M8 d k (by rw[f];decide))).trans p) (CE ((hc 5 (by omega) (by omega)).trans m)))))),?_⟩
 rw[Jr]
 exact ⟨a,cap,rfl,h2,h3,by rw[EA];trivial⟩
theorem T2(hN:∀g,N g->B<=g)(hM:∀g,M g->B<=g)(hs:N L.s)(h:CT N (ET M W) (RV W) W L x)(d:RJ B W t (Dt W L x) (Dt W L x).length O W')(p:(CG W L x).2=true):CT N (ET M W') (RV W') W' L (x.mp (fT t) (gT t)):=by
 have v:CF x=true:=by
  have:=K7 p (if CF x then CV L x else [],CF x) (yn.2 (.inr (by simp)))
  exact this.1
 have i:∀u∈CV L x,u∈Dt W L x:=fun u l=>yn.2 (.inr ((K7 p (if CF x then CV L x else [],CF x) (yn.2 (.inr (by simp)))).2 u (by rw[yu v];exact l)))
 refine ((h.XC (X:=Dt W L x) hs p (fun u l=>yn.2 (.inr l))).XD (X:=Dt W L x) (fun u l=>yn.2 (.inl l)) i).map (fun b ty _ h=>d.XI h) (fun b o _ h=>d.cells b o h.lt (Hr h)) (fun lt e b o _ j m=>?_) (fun to r b o _ j f=>?_)
 ·obtain ⟨m,a⟩:=m
  unfold fT
  by_cases hl:Da e=true
  ·rw[yu hl];exact U9 d hl m j
  ·rw[yq hl]
   obtain ⟨q,w⟩:=a (by simpa using hl)
   obtain ⟨c,c1,c2⟩:=m
   exact Sc d lt e b o c c2 c1 j q w
 ·obtain ⟨f,a⟩:=f
  have k:¬ JO B W b o:=by
   obtain ⟨ty,p1,p2,_⟩:=j
   exact Hr ⟨ty,p1,p2⟩
  unfold gT
  by_cases h0:to=0
  ·rw[yu h0]
   refine ⟨f.1,(d.cells b o j.lt k).trans f.2.1,(d.cells b _ j.lt ?_).trans f.2.2⟩
   obtain ⟨at_,n⟩:=a
   exact (Sa hN hM hs h _ n).Xr h0
  ·rw[yq h0]
   obtain ⟨at_,n⟩:=a
   exact ⟨f.1,(d.cells b o j.lt k).trans f.2.1,d.at n h0⟩
end
end Go.Proofs.Ytghepahgkcigpaa
namespace Go.Proofs.Ytghepahgkcigpaa
open Go.RowKit
attribute [local go_sem] Oper.semAt_some
def Kw(B:Nat):Deferred:={target:=.fn (.func 24) #[.pointer (some ⟨B+1,0,none⟩),.pointer (some ⟨B+2,0,none⟩)],args:=#[]}
def Le(D:Nat):Deferred:={target:=.collected D,args:=#[]}
def Ra(B:Nat)(w':World)(cs:LV)(x:AA):Prop:=∃(L:BL) (N:NP),cs.length=26∧Ba N w' L cs x∧∀b,N b->B<=b∧b < w'.heap.size
def GN(w:World)(x:AA)(e:Ending)(w':World):Prop:=
 Below w.heap.size w w'∧((AK x≠0∧e=.returned (.tuple #[.agg Bp.toArray,.int .i64 (AK x)]))∨(AK x=0∧∃cs,e=.returned (.tuple #[.agg cs.toArray,.int .i64 0])∧Ra w.heap.size w' cs (Ao x)))
structure Lf (w W:World):Prop where
 below:Below w.heap.size w W
 x:∃row:Array Value,row.size=26∧W.heap[w.heap.size+1]?=some (.cells row 35 (0,0))
 e:∃v:Value,W.heap[w.heap.size+2]?=some (.cells #[v] 38 (0,0))
theorem Lf.up{w W W':World}(h:Lf w W)(hb:Below (w.heap.size+3) W W'):Lf w W':=by
 obtain ⟨row,h1,h2⟩:=h.x
 obtain ⟨v,h3⟩:=h.e
 exact ⟨h.below.trans (hb.mono (by omega)),⟨row,h1,(hb.block _ (by omega)).trans h2⟩,⟨v,(hb.block _ (by omega)).trans h3⟩⟩
def MX(B:Nat)(tm:Array Value):Prop:=tm.getD 2 undef=.pointer (some ⟨B+1,0,none⟩)∧tm.getD 3 undef=.pointer (some ⟨B+2,0,none⟩)
structure M9 (Q:Exit->Act->World->Prop) (w:World) (x:AA):Prop where
 fail:∀tm W,MX w.heap.size tm->Lf w W->AK x≠0->Q (.panic (Fx (AK x))) {tmps:=tm,defers:=[Kw w.heap.size]} W
 failD:∀D tm W,MX w.heap.size tm->Lf w W->AK x≠0->w.heap.size+3<=D->W.heap[D]?=some (.deferred (some []))->Q (.panic (Fx (AK x))) {tmps:=tm,defers:=[Le D,Kw w.heap.size]} W
 done:∀D tm W cs,MX w.heap.size tm->Below w.heap.size w W->W.heap[w.heap.size+1]?=some (.cells cs.toArray 35 (0,0))->W.heap[w.heap.size+2]?=some (.cells #[.int .i64 0] 38 (0,0))->AK x=0->w.heap.size+3<=D->W.heap[D]?=some (.deferred (some []))->
  Ra w.heap.size (W.putObj D (.deferred none)) cs (Ao x)->Q .ret {tmps:=tm,defers:=[Le D,Kw w.heap.size]} W
theorem PK{W:World}{tm:Array Value}{B:Nat}{cs:LV}{z:Int}(g:MX B tm)(h1:W.heap[B+1]?=some (.cells cs.toArray 35 (0,0)))(a:cs.length=26)(h2:W.heap[B+2]?=some (.cells #[.int .i64 z] 38 (0,0))):
  (results Try.f11 tm).run Try.prog W=.ok (.tuple #[.agg cs.toArray,.int .i64 z]) W:=by
 obtain ⟨c,b⟩:=g
 rw[yH] at c b
 have f:W.rangeAt (B+1) 0 cs:=by
  have:=yV h1 0 cs.length
  simpa using this
 have d:=xL (P:=Try.prog) W (B+1) 0 35 cs _ f qO rfl (by rw[a];kernel_rfl)
 have c2:W.cell? (aV (B+2) 0)=some (iV z):=by simp[World.cell?,h2]
 have e:(loadVar 38 (aV (B+2) 0)).run Try.prog W=.ok (iV z) W:=by
  have h:(isAgg 38).run Try.prog W=.ok false W:=by kernel_rfl
  simp[loadVar,h,go_sem,c2]
 simp[results,Try.results11,c,b,asAddr,d,e]
theorem KS{w W:World}{x:AA}{tm:Array Value}(g:MX w.heap.size tm)(d:Lf w W)(h0:AK x≠0):LeavesInM Fence.wide 10 Try.prog Try.f11 tm (GN w x) [Kw w.heap.size] (.panicking (Fx (AK x))) W:=by
 obtain ⟨row,c,a⟩:=d.x
 obtain ⟨v,f⟩:=d.e
 refine ⟨by simp,.inr ⟨by simp[Fence.wide],_,_,_,_,rfl,by rfl,fun _ _=>trivial,?_⟩⟩
 refine (MW 9 (w.heap.size+1) (w.heap.size+2) (by omega) (AK x) row v W a c f).mono ?_
 rintro e h w' ⟨rfl,rfl,rfl⟩
 have e1:((W.setRow (w.heap.size+1) Bp.toArray).setCell (aV (w.heap.size+2) 0) (iV (AK x))).heap[w.heap.size+1]?=some (.cells Bp.toArray 35 (0,0)):=by
  rw[zf _ _ _ _ (by simp)]
  simp[World.setRow,yU,a]
 have e2:((W.setRow (w.heap.size+1) Bp.toArray).setCell (aV (w.heap.size+2) 0) (iV (AK x))).heap[w.heap.size+2]?=some (.cells #[iV (AK x)] 38 (0,0)):=by
  have:=zk (W.setRow (w.heap.size+1) Bp.toArray) (w.heap.size+2) 0 #[v] 38 (iV (AK x)) (by simp[World.setRow,yU,f])
  rw[this];rfl
 refine ⟨_,PK g e1 rfl e2,?_,.inl ⟨h0,rfl⟩⟩
 refine d.below.trans ⟨rfl,rfl,rfl,by simp[World.setRow],fun b hb=>?_⟩
 rw[zf _ _ _ _ (by simp;omega)]
 simp only[World.setRow,yU,yq (show ¬ w.heap.size+1=b by omega)]
theorem Ua(w:World)(x:AA):M9 (bodyPostM Fence.wide 10 Try.prog Try.f11 (GN w x)) w x:=by
 refine ⟨fun tm W a f h0=>KS a f h0,fun D tm W a f h0 g hd=>?_,fun D tm W cs a hb h1 h2 h0 g hd hs=>?_⟩
 ·refine ⟨by simp,.inl ⟨D,_,rfl,run_takeDeferred hd,KS a (f.up ⟨rfl,rfl,rfl,by simp,fun b hb=>World.putObj_heap_other (by omega)⟩) h0⟩⟩
 ·refine ⟨by simp,.inl ⟨D,_,rfl,run_takeDeferred hd,?_⟩⟩
  refine ⟨by simp,.inr ⟨by simp[Fence.wide],_,_,_,_,rfl,by rfl,fun _ _=>trivial,?_⟩⟩
  refine (U4 9 _ _ _).mono ?_
  rintro e h w' ⟨rfl,rfl,rfl⟩
  have d:=hs
  obtain ⟨L,N,c,_⟩:=d
  exact ⟨_,PK a ((World.putObj_heap_other (by omega)).trans h1) c ((World.putObj_heap_other (by omega)).trans h2),hb.trans ⟨rfl,rfl,rfl,by simp,fun b hb=>World.putObj_heap_other (by omega)⟩,.inr ⟨h0,cs,rfl,hs⟩⟩
def Xb:Code->Code
 |.seq _ y=>y
 |c=>c
def DM:Nat->Code->Code
 |0,c=>c
 |k+1,c=>DM k (Xb c)
end Go.Proofs.Ytghepahgkcigpaa
namespace Go.Proofs.Ytghepahgkcigpaa
open Go.RowKit
theorem Ma(s:Nat)(w:World):Calls Try.prog 51 #[.pointer (some ⟨s,0,none⟩)] w fun x w'=>x=.returned (.func (.func 81) #[] #[.pointer (some ⟨w.heap.size,0,none⟩)])∧w'=w.alloc (.cells #[.pointer (some ⟨s,0,none⟩)] 52):=by
 have a:∀(fn:Fn) (first cap:Array Value) (w:World),(Instr.makeFunc fn first cap).run Try.prog w=.ok (.func fn first cap) w:=fun _ _ _ _=>rfl
 go_enter Try.func51,Try.ntmps51
 go_wp2
 go_ret
 exact ⟨rfl,rfl⟩
section
variable{B:Nat}{W W':World}{N N' M:NP}{E:Int->Ex->Nat->Nat->Prop}{R:Int->Rf->Nat->Nat->Prop}{L:BL}{x:AA}
theorem CT.XJ(h:CT N E R W L x)(hN:∀g t,N g->Ty W g t->t≠35->t≠38->N' g):CT N' E R W L x:=by
 refine ⟨h.ty,h.name,h.season,h.cap,h.start,h.hlets,h.hcrops,h.hreaches,h.hfarms,h.hrots,h.hrights,h.hduties,⟨h.lets.1,h.lets.2.1,fun i hi=>?_⟩,⟨h.crops.1,h.crops.2.1,fun i hi=>?_⟩,⟨h.reaches.1,h.reaches.2.1,fun i hi=>?_⟩,⟨h.farms.1,h.farms.2.1,fun i hi=>?_⟩,⟨h.rots.1,h.rots.2.1,fun i hi=>?_⟩,⟨h.rights.1,h.rights.2.1,fun i hi=>?_⟩,⟨h.duties.1,h.duties.2.1,fun i hi=>?_⟩⟩
 ·obtain ⟨g,a,b,ty,h1⟩:=h.lets.2.2 i hi
  exact ⟨g,a,hN g _ b ty (by decide) (by decide),ty,h1⟩
 ·obtain ⟨g,a,b,ty,h1⟩:=h.crops.2.2 i hi
  exact ⟨g,a,hN g _ b ty (by decide) (by decide),ty,h1⟩
 ·obtain ⟨g,a,b,ty,h1⟩:=h.reaches.2.2 i hi
  exact ⟨g,a,hN g _ b ty (by decide) (by decide),ty,h1⟩
 ·obtain ⟨g,a,b,ty,h1⟩:=h.farms.2.2 i hi
  exact ⟨g,a,hN g _ b ty (by decide) (by decide),ty,h1⟩
 ·obtain ⟨g,a,b,ty,h1,h2,h3,h4,h5,h6,e,c⟩:=h.rots.2.2 i hi
  refine ⟨g,a,hN g _ b ty (by decide) (by decide),ty,h1,h2,h3,h4,h5,h6,e,c.1,c.2.1,fun k d=>?_⟩
  obtain ⟨g,a,b,ty,h1⟩:=c.2.2 k d
  exact ⟨g,a,hN g _ b ty (by decide) (by decide),ty,h1⟩
 ·obtain ⟨g,a,b,ty,h1⟩:=h.rights.2.2 i hi
  exact ⟨g,a,hN g _ b ty (by decide) (by decide),ty,h1⟩
 ·obtain ⟨g,a,b,ty,h1⟩:=h.duties.2.2 i hi
  exact ⟨g,a,hN g _ b ty (by decide) (by decide),ty,h1⟩
theorem Mb{b ty:Nat}{v:Value}(h:W.heap[b]?=some (.cells #[v] ty (0,0)))(e:∀k z,v≠.int k z)(a:∀q,GK ty q=1∧Hg ty q=q % 6)(q:Nat):¬ JO B W b q:=by
 rintro ⟨_,o,d,rfl,h1,h2,h3⟩
 have c:Ty W b ty:=⟨_,h⟩
 obtain rfl:=c.inj h1
 apply h3
 unfold G5
 rw[ER c,(a _).1,yu rfl]
 rcases h2 with h2|h2
 ·rw[(a _).1] at h2;cases h2
 ·rw[(a _).2] at h2
  by_cases h5:o - 3=0
  ·rw[h5]
   simp only[World.cell?,h]
   simp
   cases v<;>simp_all
  ·have:W.cell? ⟨b,o - 3,none⟩=none:=by
    simp only[World.cell?,h]
    simp;omega
   rw[this]
theorem Mc{b:Nat}(h:∀t,¬ Ty W b t)(q:Nat):¬ JO B W b q:=by
 rintro ⟨_,o,a,rfl,h1,h2,h3⟩
 exact h _ h1
def BS(W:World)(b:Nat)(a:LB):Prop:=∃m,W.heap[b]?=some (.cells #[.map (some m)] 90 (0,0))∧CH W m a
theorem Jh{t:Nat}(h:t≠35∧t≠55∧t≠57∧t≠51∧t≠59∧t≠64∧t≠66∧t≠68∧t≠70)(q:Nat):GK t q=1∧Hg t q=q % 6:=by
 obtain ⟨h1,h2,h3,h4,h5,h6,c,a,b⟩:=h
 unfold GK Hg
 rw[yq h1,yq h1,yq h2,yq h2,yq h3,yq h3,yq h4,yq h4,yq h5,yq h5,yq h6,yq h6,yq c,yq c,yq a,yq a,yq b,yq b]
 exact ⟨rfl,rfl⟩
theorem BS.read{t:Tb}{X:List Us}{k b:Nat}{O:NP}{d:LB}(h:BS W b d)(e:RJ B W t X k O W'):∃m es a,W'.cell? ⟨b,0,none⟩=some (.map (some m))∧CH W' m d∧W'.heap[m]?=some (.map es a)∧es.size=d.length:=by
 obtain ⟨m,h1,h2⟩:=h
 have e1:W'.heap[b]?=W.heap[b]?:=e.same b (yd.1 h1).1 (Mb h1 (by simp) (Jh (by decide)))
 obtain ⟨es,a,h3,h4⟩:=h2.size
 have e2:W'.heap[m]?=W.heap[m]?:=e.same m h2.lt (Mc fun t ⟨c,hc⟩=>by rw[h3] at hc;cases hc)
 exact ⟨m,es,a,by simp[World.cell?,e1,h1],h2.block e2,e2.trans h3,h4⟩
theorem Md{t:Tb}{X:List Us}{k b ty:Nat}{v:Value}{O:NP}(h:W.heap[b]?=some (.cells #[v] ty (0,0)))(d:∀k z,v≠.int k z)(a:∀q,GK ty q=1∧Hg ty q=q % 6)(c:RJ B W t X k O W'):W'.cell? ⟨b,0,none⟩=some v:=by
 have e1:W'.heap[b]?=W.heap[b]?:=c.same b (yd.1 h).1 (Mb h d a)
 simp[World.cell?,e1,h]
mutual
theorem Oq(lt:Int):∀(e:Ex) (b o:Nat),∀u∈(CS W lt e b o).1,u.to≠6
 |.mk op n u rn ri args,b,o=>by
  intro v a
  rw[CS] at a
  by_cases hs:Kq op args.length=true
  ·rw[yu hs] at a
   rcases yO.1 a with rfl|a
   ·simp only;unfold KP;split
    ·split<;>decide
    ·decide
   ·exact Sd lt args _ 0 v a
  ·rw[yq hs] at a;cases a
theorem Sd(lt:Int):∀(l:List Ex) (a:Option Value) (i:Nat),∀u∈(Ce W lt l a i).1,u.to≠6
 |[],a,i=>by intro v d;rw[Ce] at d;cases d
 |e::r,a,i=>by
  intro v d
  by_cases f:∃b o n c,a=some (.slice (some ⟨b,o,none⟩) n c)
  ·obtain ⟨b,o,n,c,rfl⟩:=f
   rw[Ce] at d
   split at d
   ·rcases yn.1 d with d|d
    ·exact Oq lt e _ _ v d
    ·exact Sd lt r _ _ v d
   ·exact Oq lt e _ _ v d
  ·have e0:Ce W lt (e::r) a i=([],false):=by
    rw[Ce]
    intro b o n c h
    exact f ⟨b,o,n,c,h⟩
   rw[e0] at d;cases d
end
theorem Vg:∀u∈(CG W L x).1,u.to≠6:=by
 intro u a
 obtain ⟨p,b,a⟩:=K6 a
 unfold Fc at b
 rcases yn.1 b with b|b
 ·obtain ⟨i,hi,rfl⟩:=zc.1 b
  simp only[Et,List.getElem_zipWith] at a
  unfold D8 at a
  split at a
  ·cases a
  ·exact Oq _ _ _ _ u a
 ·simp only[zg] at b
  rw[b] at a
  simp only at a
  split at a
  ·unfold CV at a
   simp only[yn] at a
   rcases a with ((a|a)|a)|a
   ·obtain ⟨i,hi,a⟩:=yQ.1 a
    unfold F8 at a
    split at a
    ·simp only[DL,yO,zs,xD] at a
     rcases a with rfl|rfl
     ·simp
     ·simp only;split<;>simp
    ·cases a
   ·obtain ⟨i,hi,a⟩:=yQ.1 a
    unfold Ib at a
    split at a
    ·simp only[DL,yO] at a
     rcases a with rfl|a
     ·simp
     ·obtain ⟨k,c,a⟩:=yQ.1 a
      unfold G4 at a
      split at a
      ·simp only[DL,zg] at a
       rw[a];simp
      ·cases a
    ·cases a
   ·obtain ⟨i,hi,a⟩:=yQ.1 a
    unfold DF at a
    split at a
    ·simp only[DL,yO,zs,xD] at a
     rcases a with rfl|rfl
     ·simp
     ·simp only;split<;>simp
    ·cases a
   ·obtain ⟨i,hi,a⟩:=yQ.1 a
    unfold EO at a
    split at a
    ·simp only[DL,yO,zs,xD] at a
     rcases a with rfl|rfl<;>simp
    ·cases a
  ·cases a
end
structure Js (w:World) (x:AA) (W5:World) (L:BL) (N M:Nat->Prop) (bl bc br bf Bf Bu:Nat):Prop where
 amid:Lf w W5
 lets:BS W5 bl (x.lets.map (·.name))
 crops:BS W5 bc (x.crops.map (·.name))
 reaches:BS W5 br (x.reaches.map (·.name))
 farms:BS W5 bf (x.farms.map (·.name))
 find:W5.heap[Bf]?=some (.cells #[.func (.func 49) #[] #[]] 100 (0,0))
 box:W5.heap[Bu]?=some (.cells #[.pointer (some ⟨L.s,0,none⟩)] 52 (0,0))
 ps:CT N (ET M W5) (RV W5) W5 L x
 hN:∀g,N g->w.heap.size<=g∧g < W5.heap.size
 hM:∀g,M g->w.heap.size+3<=g∧g < W5.heap.size
 hs:N L.s
 ls:L.s=w.heap.size+1
 fits:BX x=true
 wr:AK x=if DG (Tb.of x) x&&Dc (Tb.of x) x then 0 else 170
section
variable{w W5 W:World}{x:AA}{L:BL}{N M:NP}{bl bc br bf Bf Bu k:Nat}{t:Tb}{X:List Us}{O:NP}
theorem RJ.amid(c:Lf w W5)(h:RJ w.heap.size W5 t X k O W):Lf w W:=by
 refine ⟨c.below.trans ⟨h.os,h.tape,h.output,h.size,fun b hb=>h.same b (by have:=c.below.size;omega) (fun q d=>by have:=d.1;omega)⟩,?_,?_⟩
 ·obtain ⟨row,h1,h2⟩:=c.x
  obtain ⟨a,e1,e2⟩:=h.ty _ _ _ h2
  exact ⟨a,by omega,e2⟩
 ·obtain ⟨v,h2⟩:=c.e
  obtain ⟨a,e1,e2⟩:=h.ty _ _ _ h2
  obtain ⟨v',rfl⟩:∃v',a=#[v']:=by
   have:a.size=1:=e1
   exact ⟨a[0],by ext i h1 h2;omega;simp at h2;subst h2;rfl⟩
  exact ⟨v',e2⟩
theorem Js.Xx(h:Js w x W5 L N M bl bc br bf Bf Bu):∀u∈Dt W5 L x,P2 w.heap.size W5 u:=Sa (fun g a=>(h.hN g a).1) (fun g a=>by have:=(h.hM g a).1;omega) h.hs h.ps
theorem Js.Xw(h:Js w x W5 L N M bl bc br bf Bf Bu):LS M W5 (CR w.heap.size W5) (DR W5) Bu L x:=
 U8 h.hs h.ps (yd.1 h.box).1 (by simp[World.cell?,h.box]) h.fits
theorem Js.bad(h:Js w x W5 L N M bl bc br bf Bf Bu){u:Us}(a:u∈Dt W5 L x)(hb:Kv (Tb.of x) u=false):AK x=170:=by
 rw[h.wr]
 rcases yn.1 a with a|a
 ·have:DG (Tb.of x) x=false:=by
   obtain ⟨i,hi,a⟩:=yQ.1 a
   have hl:i < x.reaches.length:=by rw[<-h.ps.reaches.1];exact yW.1 hi
   unfold JP at a
   rw[yl hl] at a
   simp only[zg] at a
   unfold DG
   rw[zZ]
   refine ⟨(x.reaches[i],i),zc.2 ⟨i,by simpa using hl,by simp⟩,?_⟩
   rw[a] at hb
   unfold Kv at hb
   unfold Ij
   rw[hb];simp
  rw[this];rfl
 ·have:Dc (Tb.of x) x=false:=by
   rw[yj]
   intro b
   have:=((Hp (Tb.of x) h.Xw).2 b).2 u a
   rw[hb] at this;cases this
  rw[this];simp
theorem Js.XK(h:Js w x W5 L N M bl bc br bf Bf Bu)(hb:(CG W5 L x).2=false):AK x=170:=by
 rw[h.wr]
 have:Dc (Tb.of x) x=false:=by
  rw[yj]
  intro a
  have:=((Hp (Tb.of x) h.Xw).2 a).1
  rw[hb] at this;cases this
 rw[this];simp
theorem Js.XL(h:Js w x W5 L N M bl bc br bf Bf Bu)(e:RJ w.heap.size W5 (Tb.of x) (Dt W5 L x) (Dt W5 L x).length O W)(f:(CG W5 L x).2=true):AK x=0:=by
 have a:∀u∈Dt W5 L x,Kv (Tb.of x) u=true:=fun u b=>by
  obtain ⟨j,c,rfl⟩:=zc.1 b
  exact (e.done j c c).1
 rw[h.wr,(Hp (Tb.of x) h.Xw).1 ⟨f,fun u b=>a u (yn.2 (.inr b))⟩]
 have:DG (Tb.of x) x=true:=by
  unfold DG
  rw[yM]
  intro p d
  obtain ⟨i,hi,rfl⟩:=zc.1 d
  have hl:i < x.reaches.length:=by simpa using hi
  have:=a ⟨(L.reaches.at 51 i 1).block,(L.reaches.at 51 i 1).off,if i=0 then 0 else 6,i,x.reaches[i].frm.name,x.reaches[i].frm.n⟩ (yn.2 (.inl (D3 (i:=i) (by rw[h.ps.reaches.1];exact hl) (by unfold JP;rw[yl hl];simp))))
  rw[xB]
  unfold Kv at this
  simpa[Ij] using this
 rw[this];rfl
theorem Js.src(h:Js w x W5 L N M bl bc br bf Bf Bu)(i:RJ w.heap.size W5 (Tb.of x) (Dt W5 L x) (Dt W5 L x).length O W)(j:(CG W5 L x).2=true):
  ∃cs,cs.length=26∧W.rangeAt L.s 0 cs∧Ba (fun g=>w.heap.size<=g∧g < W5.heap.size∧g≠w.heap.size+1∧g≠w.heap.size+2) W L cs (Ao x):=by
 have h1:=T2 (fun g a=>(h.hN g a).1) (fun g a=>by have:=(h.hM g a).1;omega) h.hs h.ps i j
 have f:=i.amid h.amid
 obtain ⟨row,_,m⟩:=f.x
 obtain ⟨v,p⟩:=f.e
 refine CT.XA ((h1.imp (E':=EV (fun g=>w.heap.size<=g∧g < W5.heap.size∧g≠w.heap.size+1∧g≠w.heap.size+2) W) (fun _ _ _ h=>h) (fun _ _ _ _=>rfl) (fun lt e b o _ _ k=>?_) (fun _ _ _ _ _ _ h=>h)).XJ fun g ty a d n1 n2=>?_)
 ·obtain ⟨c,c1,c2⟩:=k
  exact ⟨c,c1,c2.XB (fun b hb _=>by have:=h.hM b hb;refine ⟨?_,?_,?_,?_⟩<;>omega)⟩
 ·obtain ⟨n,l⟩:=h.hN g a
  refine ⟨n,l,fun e=>?_,fun e=>?_⟩
  ·subst e;exact n1 (d.inj ⟨_,m⟩)
  ·subst e;exact n2 (d.inj ⟨_,p⟩)
end
section
variable{N:NP}{E E':Int->Ex->Nat->Nat->Prop}{R R':Int->Rf->Nat->Nat->Prop}{w W:World}{L:BL}{x:AA}
theorem CT.XE(h:CT N E R W L x){Bx:Nat}(c:Ty W Bx 35)(a:∀q,q < 26->W.cell? ⟨Bx,q,none⟩=W.cell? ⟨L.s,q,none⟩)(b:∀lt e o,o+6<=26->E lt e L.s o->E lt e Bx o):CT N E R W {L with s:=Bx} x:=
 ⟨c,⟨h.name.1,(a 0 (by omega)).trans h.name.2⟩,b _ _ _ (by omega) h.season,b _ _ _ (by omega) h.cap,b _ _ _ (by omega) h.start,(a _ (by omega)).trans h.hlets,(a _ (by omega)).trans h.hcrops,(a _ (by omega)).trans h.hreaches,(a _ (by omega)).trans h.hfarms,(a _ (by omega)).trans h.hrots,(a _ (by omega)).trans h.hrights,(a _ (by omega)).trans h.hduties,h.lets,h.crops,h.reaches,h.farms,h.rots,h.rights,h.duties⟩
theorem Ub{M:NP}{Bx s:Nat}(b:∀q,q < 26->W.cell? ⟨Bx,q,none⟩=W.cell? ⟨s,q,none⟩)(lt:Int)(e:Ex)(o:Nat)(g:o+6<=26)(h:ET M W lt e s o):ET M W lt e Bx o:=by
 obtain ⟨c,h1,h2⟩:=h
 obtain ⟨a,cap,rfl,_⟩:=(h2.XB (N:=M) (fun _ h _=>h)).cells
 refine ⟨_,fun j v d=>?_,h2⟩
 have f:=(yA.1 d).1
 simp only[yC,yK] at f
 rw[b _ (by omega)]
 exact h1 j v d
theorem BS.same{b:Nat}{a:LB}{w':World}(h:BS w b a)(hb:∀(c:Nat) (o:Obj),w.heap[c]?=some o->(∀row:Array Value,o≠Obj.cells row 35 (0,0))->w'.heap[c]?=w.heap[c]?):BS w' b a:=by
 obtain ⟨m,h1,h2⟩:=h
 obtain ⟨es,d,h3,_⟩:=h2.size
 exact ⟨m,(hb b _ h1 (by rintro row e;cases e)).trans h1,h2.block (hb m _ h3 (by rintro row e;cases e))⟩
end
def RL(B:Nat)(W5:World)(t:Tb)(X:List Us)(n:Nat)(o:Obj)(k:Nat)(wr:World):Prop:=wr.heap.size=n∧RJ B W5 t X k (fun _=>False) (wr.alloc o)
section
variable{B:Nat}{W5 wr w':World}{t:Tb}{X:List Us}{n k:Nat}{o:Obj}
theorem RL.heap(h:RL B W5 t X n o k wr){b:Nat}(hb:b < n):(wr.alloc o).heap[b]?=wr.heap[b]?:=yT _ _ _ (by rw[h.1];exact hb)
theorem RL.cell(h:RL B W5 t X n o k wr){b q:Nat}(hb:b < n):(wr.alloc o).cell? ⟨b,q,none⟩=wr.cell? ⟨b,q,none⟩:=Ap (h.heap hb)
theorem RL.drew(h:RL B W5 t X n o k wr):RL B W5 t X n o k wr.drew:=⟨h.1,h.2.move (ye _) rfl rfl rfl (fun _ _=>rfl) (fun _ h=>h.elim)⟩
theorem MY{b q:Nat}{v:Value}(hb:b < wr.heap.size):(wr.setCell ⟨b,q,none⟩ v).alloc o=(wr.alloc o).setCell ⟨b,q,none⟩ v:=by
 unfold World.setCell World.alloc
 simp only[World.mk.injEq,and_true]
 apply Array.ext_getElem?
 intro i
 simp only[Array.getElem?_push,yU,Array.size_modify]
 by_cases h1:i=wr.heap.size
 ·subst h1;simp[show ¬ b=wr.heap.size by omega]
 ·simp[h1]
theorem RL.next{u:Us}(h:RL B W5 t X n o k wr)(c:∀u∈X,P2 B W5 u)(d:X[k]?=some u)(hb:u.b < n)(h0:u.to≠0)(a:Kv t u=true):RL B W5 t X n o (k+1) (wr.setCell ⟨u.b,u.o+1,none⟩ (.int .i64 (GH t (Ds u.to) u.name))):=by
 refine ⟨by simpa using h.1,?_⟩
 rw[MY (by rw[h.1];exact hb)]
 exact h.2.next c d h0 a
theorem RL.skip{u:Us}(h:RL B W5 t X n o k wr)(b:X[k]?=some u)(h0:u.to=0)(a:Kv t u=true):RL B W5 t X n o (k+1) wr:=⟨h.1,h.2.skip b h0 a⟩
theorem RL.read{u:Us}(h:RL B W5 t X n o k wr)(a:P2 B W5 u)(hb:u.b < n):wr.cell? ⟨u.b,u.o,none⟩=some (.string u.name)∧(∃z,wr.cell? ⟨u.b,u.o+1,none⟩=some (.int .i64 z)∧(u.to=0->z=u.n))∧wr.frozen? ⟨u.b,u.o+1,none⟩=false:=by
 obtain ⟨h1,h2,h3⟩:=h.2.read a
 rw[h.cell hb] at h1 h2
 refine ⟨h1,h2,?_⟩
 unfold World.frozen? at h3 ⊢
 rw[h.heap hb] at h3
 exact h3
end
section
variable{w W5 wr:World}{x:AA}{L:BL}{N M:NP}{bl bc br bf Bf Bu k n:Nat}{t:Tb}{X:List Us}{o:Obj}
theorem RL.amid(c:Lf w W5)(h:RL w.heap.size W5 t X n o k wr)(d:w.heap.size+3<=n):Lf w wr:=by
 have a:=RJ.amid c h.2
 obtain ⟨row,h1,h2⟩:=a.x
 obtain ⟨v,h3⟩:=a.e
 rw[h.heap (by omega)] at h2 h3
 refine ⟨⟨a.below.os,a.below.tape,a.below.output,by rw[h.1];omega,fun b hb=>?_⟩,⟨row,h1,h2⟩,⟨v,h3⟩⟩
 rw[<-h.heap (by omega)]
 exact a.below.block b hb
theorem Me{f:Nat->List Us}{g:Nat->Us}:∀n,(∀i,i < n->f i=[g i])->(List.range n).flatMap f=(List.range n).map g
 |0,_=>rfl
 |n+1,h=>by rw[Az,Me n (fun i hi=>h i (by omega)),h n (by omega),List.range_succ];simp
theorem Mf{E:Int->Ex->Nat->Nat->Prop}{R:Int->Rf->Nat->Nat->Prop}(h:CT N E R W5 L x):(G2 L x).length=x.reaches.length:=by
 unfold G2
 rw[Me (g:=fun i=>⟨(L.reaches.at 51 i 1).block,(L.reaches.at 51 i 1).off,if i=0 then 0 else 6,i,(x.reaches.map (·.frm.name)).getD i ⟨#[]⟩,(x.reaches.map (·.frm.n)).getD i 0⟩) _ (fun i hi=>by
  have hl:i < x.reaches.length:=by rw[<-h.reaches.1];exact hi
  unfold JP;rw[yl hl];simp[zW,hl])]
 simp[h.reaches.1]
theorem Rb{E:Int->Ex->Nat->Nat->Prop}{R:Int->Rf->Nat->Nat->Prop}(h:CT N E R W5 L x){i g:Nat}(hi:i < x.reaches.length)(b:L.reaches.a=some ⟨g,0,none⟩):(Dt W5 L x)[i]?=some ⟨g,i*51+1,if i=0 then 0 else 6,i,x.reaches[i].frm.name,x.reaches[i].frm.n⟩:=by
 unfold Dt
 rw[zp (by rw[Mf h];exact hi)]
 unfold G2
 rw[Me (g:=fun i=>⟨(L.reaches.at 51 i 1).block,(L.reaches.at 51 i 1).off,if i=0 then 0 else 6,i,(x.reaches.map (·.frm.name)).getD i ⟨#[]⟩,(x.reaches.map (·.frm.n)).getD i 0⟩) _ (fun i hi=>by
  have hl:i < x.reaches.length:=by rw[<-h.reaches.1];exact hi
  unfold JP;rw[yl hl];simp[zW,hl])]
 rw[List.getElem?_map,List.getElem?_range (by rw[h.reaches.1];exact hi)]
 simp[zW,hi,BE b]
end
structure Ik (w:World) (x:AA) (L:BL) (cs:List Value) (N:Nat->Prop) (V:World):Prop where
 amid:Lf w V
 par:V.heap[w.heap.size]?=some (.cells cs.toArray 35 (0,0))
 src:Ba N w L cs x
 hN:∀b,N b->b < w.heap.size
 slim:MU x
section
variable{w V V' w':World}{x:AA}{L L0:BL}{cs cs0:LV}{N:NP}
theorem Ik.up(h:Ik w x L cs N V)(hb:Below (w.heap.size+3) V V'):Ik w x L cs N V':=
 ⟨h.amid.up hb,(hb.block _ (by omega)).trans h.par,h.src,h.hN,h.slim⟩
theorem Ik.size(h:Ik w x L cs N V):w.heap.size+3<=V.heap.size:=by
 obtain ⟨v,a⟩:=h.amid.e
 have:=(yd.1 a).1
 omega
theorem Ik.at(h:Ik w x L cs N V):Ba (fun b=>b < V.heap.size) V L cs x:=by
 have a:=h.size
 exact h.src.same (fun b hb=>by have:=h.hN b hb;omega) (fun b hb=>h.amid.below.block b (h.hN b hb))
theorem Ik.len(h:Ik w x L cs N V):cs.length=26:=by
 obtain ⟨c0,c1,c2,rfl,b,g1,a⟩:=h.src.cells
 obtain ⟨f,c,rfl,e0⟩:=b.cells
 obtain ⟨d,p1,rfl,e1⟩:=g1.cells
 obtain ⟨e,p2,rfl,e2⟩:=a.cells
 rfl
theorem Ik.range(h:Ik w x L cs N V):V.rangeAt w.heap.size 0 cs:=by
 have:=yV h.par 0 cs.length
 simpa using this
theorem DH(W:World){b c:Nat}(row:Array Value)(h:c≠b):(W.setRow b row).heap[c]?=W.heap[c]?:=by
 simp only[World.setRow,yU,yq (xr h)]
theorem GO(W:World)(b:Nat)(row:Array Value):(W.setRow b row).heap.size=W.heap.size:=by simp[World.setRow]
def KT:Obj:=.cells #[.func (.func 49) #[] #[]] 100
def Se(b:Nat):Obj:=.cells #[.pointer (some ⟨b,0,none⟩)] 52
theorem VZ(h:Ik w x L0 cs0 N V){bl bc br bf:Nat}(h1:BS V bl (x.lets.map (·.name)))(h2:BS V bc (x.crops.map (·.name)))(h3:BS V br (x.reaches.map (·.name)))(h4:BS V bf (x.farms.map (·.name)))
 (J:BX x=true)(O:AK x=if DG (Tb.of x) x&&Dc (Tb.of x) x then 0 else 170)
 (p:cs.length=26)(hb:Below V.heap.size V w')(hs:L.s=V.heap.size)(K:w'.rangeAt L.s 0 cs)(E:CT (fun g=>V.heap.size<=g∧g≠V.heap.size+1) (ET (fun g=>V.heap.size+2<=g) w') (RV w') w' L x):
  Js w x (((w'.setRow (w.heap.size+1) cs.toArray).alloc KT).alloc (Se (w.heap.size+1))) {L with s:=w.heap.size+1} (fun g=>(V.heap.size<=g∧g≠V.heap.size+1∧g < w'.heap.size)∨g=w.heap.size+1) (fun g=>V.heap.size+2<=g∧g < w'.heap.size) bl bc br bf w'.heap.size (w'.heap.size+1):=by
 have U:=h.size
 have P:=hb.size
 obtain ⟨row,I,v⟩:=h.amid.x
 obtain ⟨ve,D⟩:=h.amid.e
 have Q:w'.heap[w.heap.size+1]?=some (.cells row 35 (0,0)):=(hb.block _ (by omega)).trans v
 generalize l:((w'.setRow (w.heap.size+1) cs.toArray).alloc KT).alloc (Se (w.heap.size+1))=W5
 have a:(w'.setRow (w.heap.size+1) cs.toArray).heap.size=w'.heap.size:=GO _ _ _
 have M:W5.heap.size=w'.heap.size+2:=by rw[<-l];simp[a]
 have n:∀b,b < w'.heap.size->b≠w.heap.size+1->W5.heap[b]?=w'.heap[b]?:=fun b f m=>by
  rw[<-l,yT _ _ _ (by simp[a];omega),yT _ _ _ (by rw[a];omega),DH _ _ m]
 have C:W5.heap[w.heap.size+1]?=some (.cells cs.toArray 35 (0,0)):=by
  rw[<-l,yT _ _ _ (by simp[a];omega),yT _ _ _ (by rw[a];omega)]
  exact setRow_heap _ _ _ _ _ _ Q
 have R:W5.heap[w'.heap.size]?=some KT:=by
  rw[<-l,yT _ _ _ (by simp[a])]
  have:=World.alloc_heap_new (w'.setRow (w.heap.size+1) cs.toArray) KT
  rwa [a] at this
 have S:W5.heap[w'.heap.size+1]?=some (Se (w.heap.size+1)):=by
  rw[<-l]
  have:=World.alloc_heap_new ((w'.setRow (w.heap.size+1) cs.toArray).alloc KT) (Se (w.heap.size+1))
  have G:((w'.setRow (w.heap.size+1) cs.toArray).alloc KT).heap.size=w'.heap.size+1:=by simp[a]
  rwa [G] at this
 have H:W5.os=w'.os∧W5.tape=w'.tape∧W5.output=w'.output:=by rw[<-l];exact ⟨rfl,rfl,rfl⟩
 clear l a
 have y:Below w.heap.size w W5:=by
  have h0:=h.amid.below.trans (hb.mono (by omega))
  exact ⟨H.1.trans h0.os,H.2.1.trans h0.tape,H.2.2.trans h0.output,by omega,fun b f=>(n b (by omega) (by omega)).trans (h0.block b f)⟩
 have i:∀(c:Nat) (o:Obj),V.heap[c]?=some o->(∀row:Array Value,o≠Obj.cells row 35 (0,0))->W5.heap[c]?=V.heap[c]?:=fun c o hc z=>by
  have f:=(yd.1 hc).1
  have m:c≠w.heap.size+1:=fun e=>by
   rw[e,v] at hc
   exact z row (yh hc).symm
  rw[n c (by omega) m,hb.block c f]
 have k:∀q,q < 26->W5.cell? (aV (w.heap.size+1) q)=W5.cell? (aV L.s q):=fun q T=>by
  have e1:W5.cell? (aV L.s q)=w'.cell? (aV L.s q):=Ap (n _ E.ty.lt (by omega))
  have e2:=K q cs[q] (yl (by omega))
  rw[yD] at e2
  rw[e1,e2]
  simp[World.cell?,C,p,T]
 refine ⟨⟨y,⟨_,by simp[p],C⟩,⟨ve,(n _ (by omega) (by omega)).trans ((hb.block _ (by omega)).trans D)⟩⟩,h1.same i,h2.same i,h3.same i,h4.same i,R,S,?_,fun g j=>?_,fun g j=>?_,.inr rfl,rfl,J,O⟩
 ·have p1:CT (fun g=>V.heap.size<=g∧g≠V.heap.size+1∧g < w'.heap.size) (ET (fun g=>V.heap.size+2<=g) w') (RV w') w' L x:=E.XJ fun g t j A _ _=>⟨j.1,j.2,A.lt⟩
  have u:∀b,(V.heap.size<=b∧b≠V.heap.size+1∧b < w'.heap.size)∨b=L.s->W5.heap[b]?=w'.heap[b]?:=fun b d=>by
   rcases d with d|rfl
   ·exact n b d.2.2 (by omega)
   ·exact n _ E.ty.lt (by omega)
  have p2:CT (fun g=>V.heap.size<=g∧g≠V.heap.size+1∧g < w'.heap.size) (ET (fun g=>V.heap.size+2<=g∧g < w'.heap.size) W5) (RV W5) W5 L x:=by
   refine p1.imp (fun b t d A=>A.same (u b d)) (fun b o d _=>Ap (u b d)) (fun lt e b o d _ B=>?_) (fun to r b o d _ F=>⟨F.1,(Ap (u b d)).trans F.2.1,(Ap (u b d)).trans F.2.2⟩)
   obtain ⟨c,c1,c2⟩:=B
   exact ⟨c,A1 c1 (u b d),c2.same (fun g j f=>⟨j,f⟩) (fun g j f=>n g f (by omega))⟩
  exact (p2.XE ⟨_,C⟩ k (fun lt e o z B=>Ub k lt e o z B)).XJ fun g t j _ _ _=>.inl j
 ·rcases j with j|rfl
  ·exact ⟨by omega,by omega⟩
  ·exact ⟨by omega,by omega⟩
 ·exact ⟨by omega,by omega⟩
end
theorem Uc{α:Type}{w:World}{sz j:Nat}{f:α->ByteArray}{h:AF}{l:List α}(h1:h.n=l.length)(h2:l.length<=140737488355328)
 (h3:∀i (hi:i < l.length),∃b o cs,h.a=some ⟨b,o,none⟩∧b < w.heap.size∧cs.length=sz∧w.rangeAt b (o+i*sz) cs∧(∀v∈cs,v.oneCell'=true)∧cs[j]?=some (.string (f l[i]))∧(f l[i]).size<=maxLen):AZ w h sz j (l.map f):=by
 refine ⟨by rw[yI];exact h1,by rw[yI];exact h2,fun i hi=>?_⟩
 have c:i < l.length:=by simpa using hi
 obtain ⟨b,o,cs,m,e,g,k,p,q,d⟩:=h3 i c
 rw[xf]
 exact ⟨b,o,cs,m,e,g,k,p,q,d⟩
theorem NC{α:Type}{N:NP}{w:World}{sz j:Nat}{P:LV->α->Prop}{f:α->ByteArray}{h:AF}{l:List α}(c:B7 N w sz P h l)(hN:∀b,N b->b < w.heap.size)
 (a:∀cs d,P cs d->(∀v∈cs,v.oneCell'=true)∧cs[j]?=some (.string (f d))∧(f d).size<=maxLen):AZ w h sz j (l.map f):=by
 obtain ⟨h1,h2,h3⟩:=c
 refine Uc h1 h2 fun i hi=>?_
 obtain ⟨b,o,cs,p,g,m,n,r⟩:=h3 i hi
 obtain ⟨q,e,k⟩:=a _ _ r
 exact ⟨b,o,cs,p,hN b g,m,n,q,e,k⟩
structure VL (w:World) (L:BL) (x:AA):Prop where
 lets:AZ w L.lets 7 0 (x.lets.map (·.name))
 crops:AZ w L.crops 7 0 (x.crops.map (·.name))
 reaches:AZ w L.reaches 51 0 (x.reaches.map (·.name))
 farms:AZ w L.farms 12 0 (x.farms.map (·.name))
 rots:AZ w L.rots 23 0 (x.rots.map (·.name))
 rights:AZ w L.rights 37 1 (x.rights.map (·.name))
 duties:AZ w L.duties 11 0 (x.duties.map (·.name))
theorem Ba.Xs{N:NP}{w:World}{L:BL}{cs:LV}{x:AA}(h:Ba N w L cs x)(hN:∀b,N b->b < w.heap.size):VL w L x:=by
 refine ⟨NC h.lets hN fun cs d hd=>⟨S1 cs d hd,?_⟩,NC h.crops hN fun cs d hd=>⟨Pf cs d hd,?_⟩,NC h.reaches hN fun cs d hd=>⟨Ks cs d hd,?_⟩,NC h.farms hN fun cs d hd=>⟨Pg cs d hd,?_⟩,?_,NC h.rights hN fun cs d hd=>⟨Kt cs d hd,?_⟩,NC h.duties hN fun cs d hd=>⟨Ph cs d hd,?_⟩⟩
 ·obtain ⟨h1,c,rfl,_⟩:=hd;exact ⟨rfl,h1⟩
 ·obtain ⟨h1,c,rfl,_⟩:=hd;exact ⟨rfl,h1⟩
 ·obtain ⟨h1,_,c0,c1,c2,k,m,q,p,r,rfl,_⟩:=hd;exact ⟨rfl,h1⟩
 ·obtain ⟨h1,_,_,c,rfl,_⟩:=hd;exact ⟨rfl,h1⟩
 ·obtain ⟨h1,h2,h3⟩:=h.rots
  refine Uc h1 h2 fun i hi=>?_
  obtain ⟨b,o,cs,l,f,g,j,a⟩:=h3 i hi
  have e:=K4 a
  obtain ⟨n,_,c0,c1,c2,rfl,_⟩:=a
  exact ⟨b,o,_,l,hN b f,g,j,e,rfl,n⟩
 ·obtain ⟨h1,_,_,c0,c1,c2,k,m,rfl,_⟩:=hd;exact ⟨rfl,h1⟩
 ·obtain ⟨h1,_,_,c,rfl,_⟩:=hd;exact ⟨rfl,h1⟩
theorem AZ.up{w w':World}{h:AF}{sz j:Nat}{a:LB}(d:AZ w h sz j a)(hb:Below w.heap.size w w'):AZ w' h sz j a:=by
 obtain ⟨h1,h2,h3⟩:=d
 refine ⟨h1,h2,fun i hi=>?_⟩
 obtain ⟨b,o,cs,g,c,e,f,k⟩:=h3 i hi
 exact ⟨b,o,cs,g,yk c hb.size,e,A1 f (hb.block b c),k⟩
structure Sf (L:BL) (x:AA) (c:Nat->Option Value):Prop where
 name:c 0=some (.string x.name)
 lets:c 19=some L.lets.v
 crops:c 20=some L.crops.v
 reaches:c 21=some L.reaches.v
 farms:c 22=some L.farms.v
 rots:c 23=some L.rots.v
 rights:c 24=some L.rights.v
 duties:c 25=some L.duties.v
theorem Ba.at{N:NP}{w:World}{L:BL}{cs:LV}{x:AA}(h:Ba N w L cs x):Sf L x (cs[·]?):=by
 obtain ⟨c0,c1,c2,rfl,b,g1,a⟩:=h.cells
 obtain ⟨f,d,rfl,e0⟩:=b.cells
 obtain ⟨e,p1,rfl,e1⟩:=g1.cells
 obtain ⟨c,p2,rfl,e2⟩:=a.cells
 exact ⟨rfl,rfl,rfl,rfl,rfl,rfl,rfl,rfl⟩
theorem Ik.cells{w V:World}{x:AA}{L:BL}{cs:LV}{N:NP}(h:Ik w x L cs N V):Sf L x (fun q=>V.cell? ⟨w.heap.size,q,none⟩):=by
 have e:∀q,V.cell? (aV w.heap.size q)=cs[q]?:=fun q=>by simp[World.cell?,h.par]
 have:=h.src.at
 simp only[e]
 exact this
def E5(B:Nat)(w:World)(v:Value)(l:LB):Prop:=w.ownsRow B 9 1 v l.length (l.map .string)∧∀s∈l,s.size<=maxLen
theorem Kx(B:Nat)(w:World):E5 B w (.slice none 0 0) []:=⟨⟨rfl,.inl ⟨rfl,rfl⟩⟩,by simp⟩
theorem E5.up{B:Nat}{w w':World}{v:Value}{l:LB}(h:E5 B w v l)(hb:Below w.heap.size w w'):E5 B w' v l:=by
 obtain ⟨⟨h1,h2⟩,h0⟩:=h
 refine ⟨⟨h1,h2.imp id ?_⟩,h0⟩
 rintro ⟨g,cap,a,h3,h4,h5,h6⟩
 exact ⟨g,cap,a,h3,h4,(hb.block g (yd.1 h5).1).trans h5,h6⟩
theorem IS{B:Nat}{c w w':World}{v:Value}{l:LB}(d:Below B c w)(i:B<=w.heap.size)(f:E5 B w v l)(a:w.grownBy w' v.ownBlock):Below B c w':=by
 refine d.trans ⟨a.os,a.tape,a.output,a.size,fun b hb=>a.block b (by omega) (fun e=>?_)⟩
 rcases f.1.2 with ⟨rfl,_⟩|⟨g,cap,h,rfl,h4,_⟩
 ·cases e
 ·simp only[Value.ownBlock,yZ] at e
  omega
theorem E5.nm{B:Nat}{w:World}{v:Value}{l:LB}(h:E5 B w v l)(hl:l.length<=140737488355328):∃h:AF,v=h.v∧AZ w h 1 0 l:=by
 obtain ⟨⟨h1,⟨rfl,h2⟩|⟨g,cap,b,rfl,h4,h5,h6,d,e,c⟩⟩,h0⟩:=h
 ·obtain rfl:=yX.1 h2
  exact ⟨⟨none,0,0⟩,rfl,rfl,by simp,fun i hi=>absurd hi (by simp)⟩
 ·refine ⟨⟨some (aV g 0),l.length,cap⟩,rfl,rfl,hl,fun i hi=>⟨g,0,[.string l[i]],rfl,(yd.1 h5).1,rfl,?_,by simp[Value.oneCell'],rfl,h0 _ (yw hi)⟩⟩
  refine CE ?_
  have a:(l.map Value.string)[i]?=some (.string l[i]):=by simp[hi]
  rw[<-c,zJ,yu (by omega)] at a
  simp only[World.cell?,h5]
  simpa using a
theorem Dx{ops:Array Oper}{rest:List Oper}{o:Oper}{a:Act}{Q:QT}{W:World}(B:Nat)(g:o.guard=none)(s x:Operand)(z:o.op=.call {callee:=.builtin .append,args:=#[s,x],argTypes:=#[43,43]})
 (v:Value)(l:LB)(hs:a.eval s=v)(d:E5 B W v l)(b c:Nat)(n:ByteArray)(G:a.eval x=.slice (some ⟨b,0,none⟩) 1 c)(hb:W.heap[b]?=some (.cells #[.string n] 9 (0,0)))(y:n.size<=maxLen)(m:l.length+1<=1000000)(e:B<=W.heap.size)
 (h:∀(p:Option Addr) (c:Nat) w',E5 B w' (.slice p (l.length+1) c) (l++[n])->W.grownBy w' v.ownBlock->wpList Try.prog ops Q rest (a.put o.dst (.slice p (l.length+1) c)) w'):wpList Try.prog ops Q (o::rest) a W:=by
 refine yF g fun K D=>?_
 have f:(Try.prog.info? 9).map (fun i=>(i.zero,i.size,i.bytes))=some (some (.string ⟨#[]⟩),1,16):=by kernel_rfl
 obtain ⟨I,hi,r,t,q⟩:=info_parts f
 have C:Cx W (.slice (some (aV b 0)) 1 c) 1 1 [.string n]:=by
  refine ⟨rfl,by simp[Value.oneCell'],_,_,rfl,.inr ⟨b,0,rfl,(yd.1 hb).1,fun j u w=>?_⟩⟩
  cases j with
  |zero=>cases w;simp[World.cell?,hb]
  |succ j=>simp at w
 have F:=Iw (ops:=#[]) (E:=True) (Q:=Q) (K:=K) (o:=o) Try.underlying43 hi r t q rfl (by decide) (by decide) B g s x z v l.length _ hs d.1 _ 1 [.string n] G C m e (fun p c w' A H=>D _ _ (h p c w' ⟨by
  rw[yi,ze]
  exact A,fun u k=>by
  rcases yn.1 k with k|k
  ·exact d.2 u k
  ·rw[zg.1 k];exact y⟩ H))
 rwa [yu (by simp[Region.wanted,g])] at F
theorem Fp{α:Type}{l:List α}{i:Nat}(h:i < l.length):l.take i++[l[i]]=l.take (i+1):=(yr h).symm
theorem Ud{f:FuncId}{args:Array Value}{w:World}{a:LB}(h:Calls Try.prog f args w (Fg w a))(c:a.Nodup):Calls Try.prog f args w fun e w'=>(∃m,e=.returned (.map (some m)))∧Below w.heap.size w w':=
 h.mono fun e w' b=>by
  obtain ⟨h1,⟨_,m,h2,_⟩|⟨h2,_⟩⟩:=b
  ·exact ⟨⟨m,h2⟩,h1⟩
  ·exact absurd c h2
theorem VM{f:FuncId}{args:Array Value}{w:World}{a:LB}(h:Calls Try.prog f args w (Fg w a))(c:¬ a.Nodup):Calls Try.prog f args w fun e w'=>e=.panicked (Fx 171)∧Below w.heap.size w w':=
 h.mono fun e w' b=>by
  obtain ⟨h1,⟨h2,_⟩|⟨_,h2⟩⟩:=b
  ·exact absurd h2 c
  ·exact ⟨h2,h1⟩
theorem Ix:∀ {l:LB} {s:ByteArray} {i:Nat} (h:i < l.length),B9 (l.take i) s=none->l[i]≠s->B9 (l.take (i+1)) s=none
 |[],_,i,h,_,_=>by simp at h
 |x::r,s,0,h,h1,h2=>by
  rw[xU,B9,yq (by simpa using h2)];rfl
 |x::r,s,i+1,h,h1,h2=>by
  rw[xU,B9] at h1 ⊢
  split at h1
  ·cases h1
  ·rename_i a
   rw[yq a,Ix (by simpa using h) (by simpa using h1) (by simpa using h2)];rfl
theorem PL:∀ {l:LB} {s:ByteArray} {i:Nat} (h:i < l.length),B9 (l.take i) s=none->l[i]=s->B9 l s=some i
 |[],_,i,h,_,_=>by simp at h
 |x::r,s,0,h,h1,h2=>by
  rw[B9,yu (by simpa using h2)]
 |x::r,s,i+1,h,h1,h2=>by
  rw[xU,B9] at h1
  split at h1
  ·cases h1
  ·rename_i a
   rw[B9,yq a,PL (by simpa using h) (by simpa using h1) (by simpa using h2)];rfl
theorem H3{fn:Func}{t u:Tmp}{ty:TypeId}{tmps:Array Value}{P:Program}{w:World}{p:Addr}{v:Value}(h:fn.results=#[.cell t ty,.tmp u])(a:tmps.getD t undef=.pointer (some p))(hl:(loadVar ty p).run P w=.ok v w):(results fn tmps).run P w=.ok (.tuple #[v,tmps.getD u undef]) w:=by
 rw[yH] at a
 simp[results,h,a,asAddr,hl]
theorem Mg{w:World}{b:Nat}{x y x0 y0:Value}(h0:w.cell? ⟨b,0,none⟩=some x0)(h1:w.cell? ⟨b,1,none⟩=some y0):((w.setCell ⟨b,0,none⟩ x).setCell ⟨b,1,none⟩ y).rangeAt b 0 [x,y]:=by
 have c:(w.setCell (aV b 0) x).cell? (aV b 1)=some y0:=(xP _ _ _ _ (by intro e;cases e)).trans h1
 have d:(w.setCell (aV b 0) x).cell? (aV b 0)=some x:=ql _ _ _ h0
 intro j v a
 match j,a with
 |0,a=>cases a;exact (xP _ _ _ _ (by intro e;cases e)).trans d
 |1,a=>cases a;exact ql _ _ _ c
 |j+2,a=>simp at a
theorem Mh{B:Nat}{a w:World}{b:Nat}(h:Below B a w)(hb:B<=b)(x y:Value):Below B a ((w.setCell ⟨b,0,none⟩ x).setCell ⟨b,1,none⟩ y):=(h.setCell (p:=⟨b,0,none⟩) hb x).setCell (p:=⟨b,1,none⟩) hb y
theorem BH{a c b b':Value}(h:a=c)(d:b=b'):Ending.returned (.tuple #[a,b])=.returned (.tuple #[c,b']):=by rw[h,d]
def Aj(a:LB)(r:Rf):Int:=match B9 a r.name with
 |some i=>(i:Int)
 |none=>r.n
def Dh(a:LB)(r:Rf):Bool:=(B9 a r.name).isSome
theorem JE{s t:ByteArray}:s.toList=t.toList↔s=t:=by
 constructor
 ·intro h
  rw[zC,zC] at h
  cases s;cases t;congr 1;exact Array.toList_inj.1 h
 ·rintro rfl;rfl
theorem Ky{w:World}{h:AF}{a:LB}(x:AZ w h 1 0 a)(r:Rf):
  Calls Try.prog 88 #[.agg #[.string r.name,.int .i64 r.n],h.v] w fun e w'=>e=.returned (.tuple #[.agg #[.string r.name,.int .i64 (Aj a r)],.bool (Dh a r)])∧Below w.heap.size w w':=by
 have N:=ya x.2.2
 have G:=ya x.1
 have C:h.n<=140737488355328:=by rw[x.1];exact x.2.1
 obtain ⟨U,A,hc⟩:=h
 obtain ⟨rn,ri⟩:=r
 unfold AF.v
 simp only at G N C ⊢
 clear x
 go_enter Try.func88,Try.ntmps88
 go_wp2
 obtain ⟨w1,c⟩:∃w1,w1=((w.alloc (.cells #[.string rn,iV ri] 23)).alloc (.cells jf 23)):=⟨_,rfl⟩
 have d:Hid (Below w.heap.size w w1):=ya (by rw[c];exact ((yc _ _).alloc (ye _) _).alloc (by simp) _)
 have M:Hid (w1.heap.size=w.heap.size+2):=ya (by rw[c];simp)
 have F:Hid (w1.heap[w.heap.size]?=some (.cells #[.string rn,iV ri] 23 (0,0))):=ya (by rw[c,yT _ _ _ (by simp)];exact World.alloc_heap_new _ _)
 have L:Hid (w1.heap[w.heap.size+1]?=some (.cells jf 23 (0,0))):=ya (by rw[c];have:=World.alloc_heap_new (w.alloc (.cells #[.string rn,iV ri] 23)) (.cells jf 23);simpa using this)
 rw[<-c]
 clear c
 have t:=ya (yc w1.heap.size w1)
 go_loopw [6] (fun J wr=>∃i:Nat,J=iV i∧i<=A∧Hid (B9 (a.take i) rn=none)∧Hid (Below w1.heap.size w1 wr)) (fun J _=>A - (intOf J).toNat)
 case atStart=>exact ⟨0,rfl,yv _,by simp[ya,B9],t⟩
 case round=>
  clear t
  obtain ⟨i,rfl,hi,H,q⟩:=hrel
  have p:wr.heap[w.heap.size]?=_:=(q.o.block w.heap.size (by rw[M.o];omega)).trans F.o
  have f:wr.heap[w.heap.size+1]?=_:=(q.o.block (w.heap.size+1) (by rw[M.o];omega)).trans L.o
  have S:wr.cell? (aV w.heap.size 0)=some (.string rn):=by simp[World.cell?,p]
  have Q:wr.cell? (aV w.heap.size 1)=some (iV ri):=by simp[World.cell?,p]
  have D:wr.cell? (aV (w.heap.size+1) 0)=some (.string {data:=#[]}):=by simp[World.cell?,f]
  have B:wr.cell? (aV (w.heap.size+1) 1)=some (iV 0):=by simp[World.cell?,f]
  have T:wr.frozen? (aV (w.heap.size+1) 0)=false:=by simp[World.frozen?,f]
  have P:wr.frozen? (aV (w.heap.size+1) 1)=false:=by simp[World.frozen?,f]
  clear p f
  by_cases E:i < A
  ·have l:i < a.length:=by rw[<-G.o];exact E
   obtain ⟨b,o,cs,rfl,hb,hl,k,g,j,y⟩:=N.o i l
   have m:=d.o.trans (q.o.mono d.o.size)
   have s:wr.cell? (aV b (o+i))=some (.string a[i]):=by
    have:=A1 k (m.block b hb) 0 _ j
    simpa using this
   have K:(i:Int) < (A:Int):=by omega
   by_cases z:a[i]=rn
   ·have u:Hid (B9 a rn=some i):=ya (PL l H.o z)
    rw[z] at s
    clear k g j y m hl hb
    go_wp2_with fail
    go_region
    go_wp2
    refine xg (H3 rfl rfl (xL _ (w.heap.size+1) 0 23 [.string rn,iV i] _ ?_ qD rfl (by kernel_rfl))) rfl ?_
    ·exact Mg (w:=wr) D B
    ·refine ⟨BH (by unfold Aj;rw[u.o]) (by unfold Dh;rw[u.o];rfl),?_⟩
     exact (Mh (d.o.trans (q.o.mono d.o.size)) (zE _) _ _).drew
   ·have I:=ya (Ix l H.o z)
    generalize a[i]=R at s z
    have O:(R.toList==rn.toList)=false:=by
     rw[xb];exact fun h=>z (JE.1 h)
    clear k g j y m hl hb
    go_wp2_with fail
    go_region
    go_wp2
    exact ⟨⟨i+1,by go_num,by omega,I,ya q.o.drew⟩,by simp[intOf];omega⟩
  ·obtain rfl:i=A:=by omega
   have K:decide ((i:Int) < (i:Int))=false:=by simp
   have u:Hid (B9 a rn=none):=ya (by have:=H.o;rwa [G.o,yx] at this)
   go_wp2
   refine xg (H3 rfl rfl (xL _ (w.heap.size+1) 0 23 [.string rn,iV ri] _ ?_ qD rfl (by kernel_rfl))) rfl ?_
   ·exact Mg (w:=wr) D B
   ·refine ⟨BH (by unfold Aj;rw[u.o]) (by unfold Dh;rw[u.o];rfl),?_⟩
    exact Mh (d.o.trans (q.o.mono d.o.size)) (zE _) _ _
def GF(F:NP)(W:World)(b:Nat):Prop:=¬ F b∧b < W.heap.size
def AP(F:NP)(W W':World):Prop:=W.heap.size<=W'.heap.size∧∀b,b < W.heap.size->¬ F b->W'.heap[b]?=W.heap[b]?
theorem AP.refl(F:NP)(W:World):AP F W W:=⟨ye _,fun _ _ _=>rfl⟩
theorem AP.trans{F:NP}{a b c:World}(h:AP F a b)(k:AP F b c):AP F a c:=⟨yo h.1 k.1,fun i hi d=>(k.2 i (yk hi h.1) d).trans (h.2 i hi d)⟩
theorem AP.below{F:NP}{W W':World}(h:Below W.heap.size W W'):AP F W W':=⟨h.size,fun b hb _=>h.block b hb⟩
theorem AP.wide{F F':NP}{W W':World}(h:AP F W W')(c:∀b,b < W.heap.size->F b->F' b):AP F' W W':=⟨h.1,fun b hb a=>h.2 b hb (fun k=>a (c b hb k))⟩
theorem GF.up{F F':NP}{W W':World}(hs:W.heap.size<=W'.heap.size)(a:∀b,F' b->F b∨W.heap.size<=b){b:Nat}(h:GF F W b):GF F' W' b:=
 ⟨fun k=>(a b k).elim h.1 (fun hb=>absurd h.2 (Nat.not_lt.2 hb)),yk h.2 hs⟩
theorem Bh.flux{F F':NP}{W W':World}{e:Ex}{cs:LV}(h:Bh (GF F W) W e cs)(a:AP F W W')(c:∀b,F' b->F b∨W.heap.size<=b):Bh (GF F' W') W' e cs:=
 h.same (fun _ hb=>hb.up a.1 c) (fun b hb=>a.2 b hb.2 hb.1)
theorem Bh.Xm{F:NP}{W W':World}{e:Ex}{cs:LV}(h:Bh (GF F W) W e cs)(a:AP F W W'):Bh (GF F W') W' e cs:=h.flux a (fun _ k=>.inl k)
structure AB (W W':World) (b:Nat) (c:List Value) (t:TypeId):Prop where
 os:W'.os=W.os
 tape:W'.tape=W.tape
 output:W'.output=W.output
 size:W'.heap.size=W.heap.size
 row:W'.heap[b]?=some (.cells c.toArray t (0,0))
 block:∀k,k≠b->W'.heap[k]?=W.heap[k]?
theorem AB.below{W W':World}{b:Nat}{c:LV}{t:TypeId}(h:AB W W' b c t){B:Nat}{a:World}(d:Below B a W)(hb:B<=b):Below B a W':=
 d.trans ⟨h.os,h.tape,h.output,by rw[h.size];exact ye _,fun k e=>h.block k (by omega)⟩
theorem AB.flux{W W':World}{b:Nat}{c:LV}{t:TypeId}(h:AB W W' b c t){F:NP}(d:F b):AP F W W':=⟨by rw[h.size];exact ye _,fun k _ a=>h.block k (fun e=>a (e▸d))⟩
theorem AB.fresh{W W':World}{b:Nat}{c:LV}{t:TypeId}(h:AB W W' b c t){F:NP}{V:World}(a:AP F V W)(hb:V.heap.size<=b):AP F V W':=⟨by rw[h.size];exact a.1,fun k e d=>(h.block k (by omega)).trans (a.2 k e d)⟩
theorem A6{W:World}{b:Nat}{c:LV}{t:TypeId}{fr:Nat × Nat}(h:W.heap[b]?=some (.cells c.toArray t fr)):W.rangeAt b 0 c:=fun j v a=>by
 simp only[World.cell?,h,yD];simpa using a
theorem Be{W:World}{b o n:Nat}{c:LV}{t:TypeId}(h:W.heap[b]?=some (.cells c.toArray t (0,0)))(a:o+n<=c.length):W.there b o n:=fun j d=>by
 constructor
 ·simp only[World.cell?,h]
  simp;omega
 ·simp[World.frozen?,h]
theorem Aw(b:Nat)(t:TypeId):∀(f:LV) (o:Nat) (w:World) (p m q:LV),w.heap[b]?=some (.cells (p++(m++q)).toArray t (0,0))->p.length=o->m.length=f.length->AB w (w.setCells b o f) b (p++(f++q)) t
 |[],o,w,p,m,q,h,d,hm=>by
  obtain rfl:m=[]:=yX.1 hm
  exact ⟨rfl,rfl,rfl,rfl,h,fun _ _=>rfl⟩
 |v::r,o,w,p,[],q,h,d,hm=>by simp at hm
 |v::r,o,w,p,x::m,q,h,d,hm=>by
  rw[World.setCells]
  have c:AB w (w.setCell ⟨b,o,none⟩ v) b ((p++[v])++(m++q)) t:=by
   refine ⟨rfl,rfl,rfl,by simp[World.setCell],?_,fun k e=>Below.heap_setCell w (aV b o) v k e⟩
   simp only[World.setCell,yU,h,zO]
   simp only[xK,yZ]
   congr 1
   subst d
   simp
  have a:=Aw b t r (o+1) (w.setCell (aV b o) v) (p++[v]) m q c.row (by simp[d]) (by simpa using hm)
  refine ⟨a.os.trans c.os,a.tape.trans c.tape,a.output.trans c.output,a.size.trans c.size,?_,fun k e=>(a.block k e).trans (c.block k e)⟩
  have:=a.row
  simpa using this
theorem A7{ops:Array Oper}{rest:List Oper}{op:Oper}{a:Act}{w:World}{Q:QT}(d:op.guard=none)(ty:TypeId)(x y:Operand)(g:op.op=.store ty x y)
 (b o:Nat)(i:a.eval x=.pointer (some ⟨b,o,none⟩))(c:LV)(f:a.eval y=.agg c.toArray){p m q:LV}{t:TypeId}(hb:w.heap[b]?=some (.cells (p++(m++q)).toArray t (0,0)))(j:p.length=o)(e:m.length=c.length)
 (hi:(Try.prog.info? ty).map (·.size)=some c.length)(h1:∀v∈c,v.oneCell'=true)
 (h:∀W',AB w W' b (p++(c++q)) t->wpList Try.prog ops Q rest (a.put op.dst undef) W'):wpList Try.prog ops Q (op::rest) a w:=by
 refine wpList_store_mid d ty x y g b o c.toArray i f (Be hb (by simp;omega)) (by rw[yp];exact hi) (yy h1) ?_
 exact h _ (Aw b t c o w p m q hb j e)
theorem At{fn:Func}{t u:Tmp}{ty:TypeId}{R:Ending->World->Prop}{tm:Array Value}{W:World}{b:Nat}{c:LV}{d:TypeDesc}{a:TypeId}(h:fn.results=#[.cell t ty,.tmp u])(f:tm.getD t undef=.pointer (some ⟨b,0,none⟩))(i:W.heap[b]?=some (.cells c.toArray a (0,0)))
 (e:Try.prog.underlying ty=some d)(hd:d.isRow=true)(hi:(Try.prog.info? ty).map (·.size)=some c.length)(g:R (.returned (.tuple #[.agg c.toArray,tm.getD u undef])) W):bodyPost Try.prog fn R .ret {tmps:=tm,defers:=[]} W:=
 xg (H3 h f (xL _ b 0 ty c d (A6 i) e hd hi)) rfl g
mutual
def JF(a:LB):Ex->Bool
 |.mk op _ _ rn ri args=>Kq op args.length&&((if op=2 then Dh a ⟨rn,ri⟩ else decide (rn.size=0∧ri=0))&&MZ a args)
def MZ(a:LB):List Ex->Bool
 |[]=>true
 |e::r=>JF a e&&MZ a r
end
mutual
def Kz(a:LB):Ex->Ex
 |.mk op n u rn ri args=>.mk op n u rn (if op=2 then Aj a ⟨rn,ri⟩ else ri) (KU a args)
def KU(a:LB):List Ex->List Ex
 |[]=> []
 |e::r=>Kz a e::KU a r
end
def Ot(F:NP)(w:World)(b:Bool)(e1:Ex)(x:Ending)(w':World):Prop:=
 ∃(a:LV) (e':Ex),x=.returned (.tuple #[.agg a.toArray,.bool b])∧Bh (GF F w') w' e' a∧(b=true->e'=e1)∧Below w.heap.size w w'
theorem AQ{ops:Array Oper}{rest:List Oper}{op:Oper}{a:Act}{w:World}{Q:QT}(c:op.guard=none)(ty:TypeId)(x y:Operand)(e:op.op=.store ty x y)
 (b o:Nat)(g:a.eval x=.pointer (some ⟨b,o,none⟩))(v:Value)(d:a.eval y=v)(f:v.cells=#[v]){p q:LV}{m:Value}{t:TypeId}(hb:w.heap[b]?=some (.cells (p++(m::q)).toArray t (0,0)))(i:p.length=o)
 (hi:(Try.prog.info? ty).map (·.size)=some 1)(h1:v.oneCell'=true)
 (h:∀W',AB w W' b (p++(v::q)) t->wpList Try.prog ops Q rest (a.put op.dst undef) W'):wpList Try.prog ops Q (op::rest) a w:=by
 refine IC c ty x y e b o v g d f (Be hb (by simp;omega)) hi h1 ?_
 exact h _ (Aw b t [v] o w p [m] q hb i rfl)
theorem A2{ops:Array Oper}{rest:List Oper}{op:Oper}{a:Act}{w:World}{Q:QT}(d:op.guard=none)(ty:TypeId)(x y:Operand)(g:op.op=.store ty x y)
 (b:Nat)(j:a.eval x=.pointer (some ⟨b,0,none⟩))(c:LV)(f:a.eval y=.agg c.toArray){m:Array Value}{t:TypeId}(hb:w.heap[b]?=some (.cells m t (0,0)))(e:m.size=c.length)
 (hi:(Try.prog.info? ty).map (·.size)=some c.length)(h1:∀v∈c,v.oneCell'=true)
 (h:∀W',AB w W' b c t->wpList Try.prog ops Q rest (a.put op.dst undef) W'):wpList Try.prog ops Q (op::rest) a w:=by
 refine A7 d ty x y g b 0 j c f (p:=[]) (m:=m.toList) (q:=[]) (by simpa using hb) rfl (by simpa using e) hi h1 fun W' i=>h W' ?_
 simpa using i
theorem AE{c:LV}(h:c.length=6):(Try.prog.info? 26).map (·.size)=some c.length:=by rw[h];kernel_rfl
theorem CK(r:Rf):(Try.prog.info? 23).map (·.size)=some (Ad r).length:=by rw[show (Ad r).length=2 from rfl];kernel_rfl
def FL(F:NP)(l:List Nat)(k:Nat):Prop:=F k∨k∈l
def ES{δ:Type}(V:NP->World->LV->δ->Prop)(F:NP)(w:World)(b:Bool)(d:δ)(x:Ending)(w':World):Prop:=
 ∃(a:LV) (c:δ),x=.returned (.tuple #[.agg a.toArray,.bool b])∧V (GF F w') w' a c∧(b=true->c=d)∧Below w.heap.size w w'
structure MN (w:World) (ls:List Value) (h0 h1 h2 h3:AF) (t:Tb):Prop where
 cells:ls=[h0.v,h1.v,h2.v,h3.v]
 lets:AZ w h0 1 0 t.lets
 crops:AZ w h1 1 0 t.crops
 reaches:AZ w h2 1 0 t.reaches
 farms:AZ w h3 1 0 t.farms
theorem MN.up{w w':World}{ls:LV}{h0 h1 h2 h3:AF}{t:Tb}(h:MN w ls h0 h1 h2 h3 t)(hb:Below w.heap.size w w'):MN w' ls h0 h1 h2 h3 t:=
 ⟨h.cells,h.lets.up hb,h.crops.up hb,h.reaches.up hb,h.farms.up hb⟩
structure Bx (w:World) (tx:TypeId) (ls:List Value) (n:Nat) (row:List Value) (W:World):Prop where
 below:Below w.heap.size w W
 size:w.heap.size+3<=W.heap.size
 x:W.heap[w.heap.size]?=some (.cells row.toArray tx (0,0))
 l:W.heap[w.heap.size+1]?=some (.cells ls.toArray 109 (0,0))
 r:∃zr:List Value,zr.length=n∧W.heap[w.heap.size+2]?=some (.cells zr.toArray tx (0,0))
section
variable{w W W':World}{tx:TypeId}{ls row row':LV}{n:Nat}
theorem FF{rc a:Array Value}{W:World}(h:W=((w.alloc (.cells rc tx)).alloc (.cells ls.toArray 109)).alloc (.cells a tx))(d:row.toArray=rc)(c:a.size=n):Bx w tx ls n row W:=by
 subst h d
 have b1:Below w.heap.size w (w.alloc (.cells row.toArray tx)):=(yc _ _).alloc (ye _) _
 have b2:Below (w.heap.size+1) (w.alloc (.cells row.toArray tx)) ((w.alloc (.cells row.toArray tx)).alloc (.cells ls.toArray 109)):=(yc _ _).alloc (by simp) _
 have b:Below (w.heap.size+2) ((w.alloc (.cells row.toArray tx)).alloc (.cells ls.toArray 109)) (((w.alloc (.cells row.toArray tx)).alloc (.cells ls.toArray 109)).alloc (.cells a tx)):=(yc _ _).alloc (by simp) _
 refine ⟨(b1.trans (b2.mono (by omega))).trans (b.mono (by omega)),by simp,?_,?_,a.toList,by simpa using c,?_⟩
 ·rw[b.block _ (by omega),b2.block _ (by omega)];exact World.alloc_heap_new _ _
 ·rw[b.block _ (by omega)]
  have:=World.alloc_heap_new (w.alloc (.cells row.toArray tx)) (.cells ls.toArray 109)
  simpa using this
 ·have:=World.alloc_heap_new ((w.alloc (.cells row.toArray tx)).alloc (.cells ls.toArray 109)) (.cells a tx)
  simpa using this
theorem Bx.up(h:Bx w tx ls n row W)(hb:Below (w.heap.size+3) W W'):Bx w tx ls n row W':=by
 have:=h.size
 obtain ⟨b,a,c⟩:=h.r
 exact ⟨h.below.trans (hb.mono (by omega)),yo h.size hb.size,(hb.block _ (by omega)).trans h.x,(hb.block _ (by omega)).trans h.l,b,a,(hb.block _ (by omega)).trans c⟩
theorem Bx.call(h:Bx w tx ls n row W)(hb:Below W.heap.size W W'):Bx w tx ls n row W':=h.up (hb.mono h.size)
theorem Bx.wrote(h:Bx w tx ls n row W)(a:AB W W' w.heap.size row' tx):Bx w tx ls n row' W':=by
 obtain ⟨c,b,d⟩:=h.r
 exact ⟨a.below h.below (ye _),by rw[a.size];exact h.size,a.row,(a.block _ (by omega)).trans h.l,c,b,(a.block _ (by omega)).trans d⟩
theorem Bx.other(h:Bx w tx ls n row W){b:Nat}{c:LV}{t:TypeId}(a:AB W W' b c t)(hb:w.heap.size+3<=b):Bx w tx ls n row W':=by
 have:=h.size
 obtain ⟨e,d,f⟩:=h.r
 exact ⟨a.below h.below (by omega),by rw[a.size];exact h.size,(a.block _ (by omega)).trans h.x,(a.block _ (by omega)).trans h.l,e,d,(a.block _ (by omega)).trans f⟩
theorem Bx.drew(h:Bx w tx ls n row W):Bx w tx ls n row W.drew:=h.up (yc _ _).drew
end
def VE(F:NP)(l:List Nat)(W:World)(css:List LV)(es:List Ex):Prop:=AW (fun c e=>Bh (GF (FL F l) W) W e c) css es
section
variable{F:NP}{l l':List Nat}{W W':World}{css:List LV}{es:List Ex}{e:Ex}{c:LV}
theorem Sg(hl:∀k∈l',k∈l∨W.heap.size<=k):∀b,FL F l' b->FL F l b∨W.heap.size<=b:=fun b hb=>hb.elim (fun h=>.inl (.inl h)) fun h=>(hl b h).elim (fun h=>.inl (.inr h)) .inr
theorem Bh.fl(h:Bh (GF (FL F l) W) W e c)(a:AP (FL F l) W W')(hl:∀k∈l',k∈l∨W.heap.size<=k):Bh (GF (FL F l') W') W' e c:=h.flux a (Sg hl)
theorem VE.up(h:VE F l W css es)(a:AP (FL F l) W W')(hl:∀k∈l',k∈l∨W.heap.size<=k):VE F l' W' css es:=AW.mono (fun _ _ b=>b.fl a hl) h
theorem Bh.XF(h:Bh (GF (FL F l) W) W e c)(a:AP (FL F l) W W'):Bh (GF F W') W' e c:=h.flux a (fun _ hb=>.inl (.inl hb))
theorem VE.drew(h:VE F l W css es):VE F l W.drew css es:=h.up ⟨ye _,fun _ _ _=>rfl⟩ (fun _ h=>.inl h)
theorem FG(a:∀b,F b->b < W.heap.size)(hl:∀k∈l,k < W.heap.size):∀b,FL F l b->b < W.heap.size:=fun b hb=>hb.elim (a b) (hl b)
theorem AP.call(h:Below W.heap.size W W'):AP F W W':=AP.below h
end
structure WH (w:World) (tx:TypeId) (ls:List Value) (n:Nat) (row:List Value) (F:Nat->Prop) (l:List Nat) (css:List (List Value)) (es:List Ex) (A:Nat) (c:List Value) (e:Ex) (W:World):Prop where
 bx:Bx w tx ls n row W
 a:W.heap[A]?=some (.cells c.toArray 26 (0,0))
 la:w.heap.size+3<=A
 ve:VE F l W css es
 e:Bh (GF (FL F l) W) W e c
theorem EB{w W w2 w3 w4:World}{tx:TypeId}{ls row row':LV}{n A:Nat}{F:NP}{l:List Nat}{css:List LV}{es:List Ex}{c:LV}{e:Ex}{o:Obj}
 (g:Bx w tx ls n row W)(m:VE F l W css es)(j:w.heap.size∈l)(h2:Below W.heap.size W w2)(p:Bh (GF (FL F l) w2) w2 e c)(q:A=w2.heap.size)(h3:AB (w2.alloc o) w3 A c 26)(h4:AB w3 w4 w.heap.size row' tx):
  WH w tx ls n row' F (l++[A]) css es A c e w4:=by
 subst q
 have hs:=g.size;have r:=h2.size
 have i:Below w2.heap.size w2 (w2.alloc o):=(yc _ _).alloc (ye _) _
 have f:Below w2.heap.size w2 w3:=h3.below i (ye _)
 have hl:∀k∈l++[w2.heap.size],k∈l∨w2.heap.size<=k:=fun k a=>by
  rcases yn.1 a with a|a
  ·exact .inl a
  ·simp at a;exact .inr (by omega)
 have d:AP (FL F l) w2 w4:=(AP.below f).trans (h4.flux (.inr j))
 have b:AP (FL F l) W w4:=(AP.below h2).trans d
 refine ⟨((g.call h2).up (f.mono (by omega))).wrote h4,(h4.block _ (by omega)).trans h3.row,by omega,m.up b (fun k a=>(hl k a).imp id fun h=>by omega),p.fl d hl⟩
theorem Ca{w W w2 w3 w4:World}{tx:TypeId}{ls row row':LV}{n A:Nat}{F:NP}{l:List Nat}{css:List LV}{es:List Ex}{c c0:LV}{e:Ex}
 (h:Bx w tx ls n row W)(j:VE F l W css es)(i:w.heap.size∈l)(b:A∈l)(g:w.heap.size+3<=A)(_:W.heap[A]?=some (.cells c0.toArray 26 (0,0)))(h2:Below W.heap.size W w2)(m:Bh (GF (FL F l) w2) w2 e c)(h3:AB w2 w3 A c 26)(h4:AB w3 w4 w.heap.size row' tx):
  WH w tx ls n row' F l css es A c e w4:=by
 have f:AP (FL F l) w2 w4:=(h3.flux (.inr b)).trans (h4.flux (.inr i))
 have d:AP (FL F l) W w4:=(AP.below h2).trans f
 exact ⟨((h.call h2).other h3 g).wrote h4,(h4.block _ (by omega)).trans h3.row,g,j.up d (fun k a=>.inl a),m.fl f (fun k a=>.inl a)⟩
theorem Ov{w W w2 w3 w4:World}{tx tr:TypeId}{ls row row' c:LV}{n:Nat}{F:NP}{l:List Nat}{css:List LV}{es:List Ex}{o:Obj}
 (d:Bx w tx ls n row W)(g:VE F l W css es)(f:w.heap.size∈l)(h2:Below W.heap.size W w2)(h3:AB (w2.alloc o) w3 w2.heap.size c tr)(h4:AB w3 w4 w.heap.size row' tx):
  Bx w tx ls n row' w4∧VE F l w4 css es∧Below W.heap.size W w3:=by
 have hs:=d.size;have h:=h2.size
 have a:Below w2.heap.size w2 w3:=h3.below ((yc _ _).alloc (ye _) _) (ye _)
 have b:AP (FL F l) W w4:=(AP.below h2).trans ((AP.below a).trans (h4.flux (.inr f)))
 exact ⟨((d.call h2).up (a.mono (by omega))).wrote h4,g.up b (fun k e=>.inl e),h2.trans (a.mono h2.size)⟩
theorem DN{w:World}{h:AF}{a:LB}(b:AZ w h 1 0 a)(r:Rf):
  Calls Try.prog 88 #[.agg (Ad r).toArray,h.v] w fun e w'=>e=.returned (.tuple #[.agg (Ad ⟨r.name,Aj a r⟩).toArray,.bool (Dh a r)])∧Below w.heap.size w w':=Ky b r
def Dp(a:LB)(e:Ex):Bool:=Da e||JF a e
def BR(a:LB)(e:Ex):Ex:=if Da e then e else Kz a e
def Hs(r:Rf):Bool:=decide (r.name.size=0∧r.n=0)
def H6(a:LB)(r:Rf):Rf:=⟨r.name,Aj a r⟩
def Ci(t:Tb)(d:BV):Bool:=(Dh t.farms d.farm&&Dh t.reaches d.reach)&&Dp t.lets d.due
def BP(t:Tb)(d:BV):BV:=⟨d.name,H6 t.farms d.farm,H6 t.reaches d.reach,BR t.lets d.due⟩
def BA(t:Tb)(d:AJ):Bool:=(((((((Dh t.farms d.farm&&decide (d.kind≥1))&&decide (d.kind<=3))&&(if d.kind=1 then Hs d.reach else Dh t.reaches d.reach))&&Dp t.lets d.flow)&&Dp t.lets d.frm)&&Dp t.lets d.to)&&Dp t.lets d.every)&&Dp t.lets d.len
def Bg(t:Tb)(d:AJ):AJ:=⟨d.kind,d.name,H6 t.farms d.farm,if d.kind=1 then d.reach else H6 t.reaches d.reach,d.rank,BR t.lets d.flow,BR t.lets d.frm,BR t.lets d.to,BR t.lets d.every,BR t.lets d.len⟩
def Cc(t:Tb)(d:BN):Bool:=(Dh t.reaches d.on&&(if d.river then Hs d.crop else Dh t.crops d.crop))&&Dp t.lets d.area
def BQ(t:Tb)(d:BN):BN:=⟨d.name,H6 t.reaches d.on,d.river,BR t.lets d.area,if d.river then d.crop else H6 t.crops d.crop⟩
def Ei(t:Tb)(d:BM):Bool:=Dh t.farms d.farm&&Dp t.lets d.len
def DO(t:Tb)(d:BM):BM:=⟨H6 t.farms d.farm,BR t.lets d.len⟩
def Du(t:Tb)(d:AS):Bool:=(((Dh t.reaches d.on&&Dp t.lets d.flow)&&Dp t.lets d.frm)&&Dp t.lets d.to)&&d.turns.all (Ei t)
def Cu(t:Tb)(d:AS):AS:=⟨d.name,H6 t.reaches d.on,d.rank,BR t.lets d.flow,BR t.lets d.frm,BR t.lets d.to,d.turns.map (DO t)⟩
def BI(t:Tb)(d:AI)(i:Nat):Bool:=((((((((if i=0 then Hs d.frm else Dh (t.reaches.take i) d.frm)&&Dp t.lets d.delay)&&Dp t.lets d.cap)&&Dp t.lets d.bank)&&Dp t.lets d.siphon)&&Dp t.lets d.evap0)&&Dp t.lets d.seep0)&&Dp t.lets d.evap1)&&Dp t.lets d.seep1
def Bt(t:Tb)(d:AI)(i:Nat):AI:=⟨d.name,if i=0 then d.frm else H6 (t.reaches.take i) d.frm,BR t.lets d.delay,BR t.lets d.cap,BR t.lets d.bank,BR t.lets d.siphon,BR t.lets d.evap0,BR t.lets d.evap1,BR t.lets d.seep0,BR t.lets d.seep1⟩
def H7(t:Tb)(d:E8)(i:Nat):Bool:=Dp (t.lets.take i) d.value
def EU(t:Tb)(d:E8)(i:Nat):E8:=⟨d.name,BR (t.lets.take i) d.value⟩
def Fq(t:Tb)(d:Cp):Bool:=Dp t.lets d.need
def Eu(t:Tb)(d:Cp):Cp:=⟨d.name,BR t.lets d.need⟩
def Ji(t:Tb)(x:AA):Bool:=((((Dp t.lets x.season&&Dp t.lets x.cap)&&Dp t.lets x.start)&&x.lets.zipIdx.all fun p=>H7 t p.1 p.2)&&x.crops.all (Fq t))
def KB(t:Tb)(x:AA):Bool:=((((Ji t x&&x.reaches.zipIdx.all fun p=>BI t p.1 p.2)&&x.farms.all (Cc t))&&x.rots.all (Du t))&&x.rights.all (BA t))&&x.duties.all (Ci t)
theorem Il:∀(l:LB) (s:ByteArray) (k:Nat),B9 (l.take k) s=match B9 l s with
  |some i=>if i < k then some i else none
  |none=>none
 |[],s,k=>by simp[B9]
 |x::r,s,0=>by
  rw[zN,B9]
  cases B9 (x::r) s<;>simp
 |x::r,s,k+1=>by
  rw[xU,B9,B9,Il r s k]
  by_cases h:x=s
  ·simp[h]
  ·rw[yq h,yq h]
   cases B9 r s with
   |none=>rfl
   |some i=>by_cases hi:i < k<;>simp[hi]
def Qy(t:Tb)(lt:Int):LB:=if 0 < lt then t.lets.take (lt - 1).toNat else t.lets
theorem Mk(l:LB)(r:Rf)(k:Nat):Dh (l.take k) r=match B9 l r.name with
  |some i=>decide ((i:Int) < (k:Int))
  |none=>false:=by
 unfold Dh
 rw[Il]
 cases B9 l r.name with
 |none=>rfl
 |some i=>by_cases hi:i < k<;>simp[hi]
theorem K8(l:LB)(r:Rf):Dh l r=match B9 l r.name with
  |some _=>true
  |none=>false:=by
 unfold Dh
 cases B9 l r.name<;>rfl
theorem K9(t:Tb)(k:Int)(r:Rf):Ig t 0 k r=Hs r:=rfl
theorem Vj(t:Tb)(lt:Int)(r:Rf):Ig t (KP 2 lt) (P0 2 lt) r=Dh (Qy t lt) r:=by
 unfold Qy KP P0
 by_cases h:0 < lt
 ·simp only[yu h,zO]
  rw[Mk]
  obtain ⟨k,rfl⟩:∃k:Nat,lt=1+(k:Int):=⟨(lt - 1).toNat,by omega⟩
  have e:(1+(k:Int) - 1)=k:=by omega
  rw[e]
  simp only[Ig,Tb.Xo,Ds,early,Int.toNat_natCast]
  cases a:B9 t.lets r.name<;>simp[a]
 ·simp only[yq h,zO]
  rw[K8]
  simp only[Ig,Tb.Xo,Ds,early]
  cases a:B9 t.lets r.name<;>simp[a]
theorem Uf(t:Tb)(k:Int)(r:Rf):Ig t 3 k r=Dh t.crops r:=by rw[K8];simp only[Ig,Tb.Xo,Ds,early];cases a:B9 t.crops r.name<;>simp[a]
theorem Jj(t:Tb)(k:Int)(r:Rf):Ig t 4 k r=Dh t.reaches r:=by rw[K8];simp only[Ig,Tb.Xo,Ds,early];cases a:B9 t.reaches r.name<;>simp[a]
theorem Ml(t:Tb)(k:Int)(r:Rf):Ig t 5 k r=Dh t.farms r:=by rw[K8];simp only[Ig,Tb.Xo,Ds,early];cases a:B9 t.farms r.name<;>simp[a]
theorem Ug(t:Tb)(k:Nat)(r:Rf):Ig t 6 k r=Dh (t.reaches.take k) r:=by rw[Mk];simp only[Ig,Tb.Xo,Ds,early];cases a:B9 t.reaches r.name<;>simp[a]
mutual
theorem Si(t:Tb)(lt:Int):∀e:Ex,JF (Qy t lt) e=TC t lt e
 |.mk op n u rn ri args=>by
  rw[JF,TC,PO t lt args]
  by_cases h:op=2
  ·subst h;rw[yu rfl,Vj]
  ·rw[yq h]
   have h1:KP op lt=0:=by simp[KP,h]
   rw[h1,K9];rfl
theorem PO(t:Tb)(lt:Int):∀l:List Ex,MZ (Qy t lt) l=S7 t lt l
 |[]=>by rw[MZ,S7]
 |e::r=>by rw[MZ,S7,Si t lt e,PO t lt r]
end
theorem Uh{t:Tb}{lt:Int}{r:Rf}(h:Dh (Qy t lt) r=true):Aj (Qy t lt) r=GH t 1 r.name:=by
 have e:t.Xo 1=t.lets:=by simp[Tb.Xo]
 unfold Aj GH
 unfold Dh at h
 unfold Qy at h ⊢
 by_cases hl:0 < lt
 ·rw[yu hl] at h ⊢
  rw[e]
  rw[Il] at h ⊢
  cases a:B9 t.lets r.name with
  |none=>rw[a] at h;cases h
  |some i=>
   rw[a] at h
   simp only at h ⊢
   by_cases hi:i < (lt - 1).toNat
   ·rw[yu hi]
   ·rw[yq hi] at h;cases h
 ·rw[yq hl] at h ⊢
  rw[e]
  cases a:B9 t.lets r.name with
  |none=>rw[a] at h;cases h
  |some i=>rfl
mutual
theorem ND(t:Tb)(lt:Int):∀e:Ex,JF (Qy t lt) e=true->Kz (Qy t lt) e=Ih t e
 |.mk op n u rn ri args,h=>by
  rw[JF] at h
  simp only[ym] at h
  rw[Kz,Ih,Mm t lt args h.2.2]
  by_cases h2:op=2
  ·rw[yu h2,yu h2]
   have:=h.2.1
   rw[yu h2] at this
   rw[Uh this]
  ·rw[yq h2,yq h2]
theorem Mm(t:Tb)(lt:Int):∀l:List Ex,MZ (Qy t lt) l=true->KU (Qy t lt) l=GI t l
 |[],_=>by rw[KU,GI]
 |e::r,h=>by
  rw[MZ] at h
  simp only[ym] at h
  rw[KU,GI,ND t lt e h.1,Mm t lt r h.2]
end
theorem PQ(t:Tb)(lt:Int)(e:Ex):Dp (Qy t lt) e=Bd t (e,lt):=by
 unfold Dp Bd
 rw[Si]
theorem Ui{t:Tb}{lt:Int}{e:Ex}(h:Dp (Qy t lt) e=true):BR (Qy t lt) e=fT t lt e:=by
 unfold BR fT
 by_cases hl:Da e=true
 ·rw[yu hl,yu hl]
 ·rw[yq hl,yq hl]
  unfold Dp at h
  rw[Bool.or_eq_true] at h
  exact ND t lt e (h.resolve_left hl)
theorem Uj(t:Tb)(i:Nat):Qy t (1+(i:Int))=t.lets.take i:=by
 unfold Qy
 rw[yu (by omega)]
 congr 1
 omega
theorem Ev(t:Tb)(e:Ex):Dp t.lets e=Bd t (e,0):=PQ t 0 e
theorem W7(t:Tb)(i:Nat)(e:Ex):Dp (t.lets.take i) e=Bd t (e,1+(i:Int)):=by rw[<-Uj];exact PQ t _ e
theorem Bv{t:Tb}{e:Ex}(h:Dp t.lets e=true):BR t.lets e=fT t 0 e:=Ui (t:=t) (lt:=0) h
theorem Vk{t:Tb}{i:Nat}{e:Ex}(h:Dp (t.lets.take i) e=true):BR (t.lets.take i) e=fT t (1+(i:Int)) e:=by
 rw[<-Uj] at h ⊢
 exact Ui h
theorem FJ{t:Tb}{c:Int}{l:LB}{r:Rf}(hc:c≠0)(b:t.Xo (Ds c)=l)(h:Dh l r=true):H6 l r=gT t c r:=by
 unfold H6 gT Aj GH
 rw[yq hc,b]
 unfold Dh at h
 cases a:B9 l r.name with
 |none=>rw[a] at h;cases h
 |some i=>rfl
theorem T3{t:Tb}{k:Nat}{r:Rf}(h:Dh (t.reaches.take k) r=true):H6 (t.reaches.take k) r=gT t 6 r:=by
 unfold H6 gT Aj GH
 rw[yq (by decide)]
 have e:t.Xo (Ds 6)=t.reaches:=by simp[Tb.Xo,Ds]
 rw[e]
 unfold Dh at h
 rw[Il] at h ⊢
 cases a:B9 t.reaches r.name with
 |none=>rw[a] at h;cases h
 |some i=>
  rw[a] at h
  simp only at h ⊢
  split at h
  ·rename_i hi;simp[hi]
  ·cases h
section
variable{t:Tb}
theorem Vl{d:BV}(i:Nat)(h:Ci t d=true):BP t d=BV.mp (fT t) (gT t) i d:=by
 unfold Ci at h
 simp only[ym] at h
 unfold BP BV.mp
 rw[FJ (t:=t) (c:=5) (by decide) (by simp[Tb.Xo,Ds]) h.1.1,FJ (t:=t) (c:=4) (by decide) (by simp[Tb.Xo,Ds]) h.1.2,Bv h.2]
theorem Uk{d:AJ}(i:Nat)(h:BA t d=true):Bg t d=AJ.mp (fT t) (gT t) i d:=by
 unfold BA at h
 simp only[ym] at h
 obtain ⟨⟨⟨⟨⟨⟨⟨⟨h1,h2⟩,h3⟩,h4⟩,h5⟩,h6⟩,f⟩,b⟩,e⟩:=h
 unfold Bg AJ.mp
 rw[FJ (t:=t) (c:=5) (by decide) (by simp[Tb.Xo,Ds]) h1,Bv h5,Bv h6,Bv f,Bv b,Bv e]
 by_cases a:d.kind=1
 ·rw[yu a,yu a];rfl
 ·rw[yq a] at h4
  rw[yq a,yq a,FJ (t:=t) (c:=4) (by decide) (by simp[Tb.Xo,Ds]) h4]
theorem Vm{d:BN}(i:Nat)(h:Cc t d=true):BQ t d=BN.mp (fT t) (gT t) i d:=by
 unfold Cc at h
 simp only[ym] at h
 unfold BQ BN.mp
 rw[FJ (t:=t) (c:=4) (by decide) (by simp[Tb.Xo,Ds]) h.1.1,Bv h.2]
 by_cases a:d.river=true
 ·rw[yu a,yu a];rfl
 ·have h4:=h.1.2
  rw[yq a] at h4
  rw[yq a,yq a,FJ (t:=t) (c:=3) (by decide) (by simp[Tb.Xo,Ds]) h4]
theorem Vn{d:BM}(i:Nat)(h:Ei t d=true):DO t d=BM.mp (fT t) (gT t) i d:=by
 unfold Ei at h
 simp only[ym] at h
 unfold DO BM.mp
 rw[FJ (t:=t) (c:=5) (by decide) (by simp[Tb.Xo,Ds]) h.1,Bv h.2]
theorem Fh{α β:Type}{f:α->β}{g:Nat->α->β}:∀ {l:List α},(∀i (h:i < l.length),f l[i]=g i l[i])->l.map f=l.mapIdx g:=by
 intro l h
 refine zw (by simp) fun i h1 h2=>?_
 rw[xf,xA]
 exact h i (by simpa using h1)
theorem W8{d:AS}(i:Nat)(h:Du t d=true):Cu t d=AS.mp (fT t) (gT t) i d:=by
 unfold Du at h
 simp only[ym,yM] at h
 obtain ⟨⟨⟨⟨h1,h2⟩,h3⟩,h4⟩,h5⟩:=h
 unfold Cu AS.mp
 rw[FJ (t:=t) (c:=4) (by decide) (by simp[Tb.Xo,Ds]) h1,Bv h2,Bv h3,Bv h4,Fh fun i hi=>Vn i (h5 _ (yw hi))]
theorem Ul{d:AI}{i:Nat}(h:BI t d i=true):Bt t d i=AI.mp (fT t) (gT t) i d:=by
 unfold BI at h
 simp only[ym] at h
 obtain ⟨⟨⟨⟨⟨⟨⟨⟨h0,h1⟩,h2⟩,h3⟩,h4⟩,h5⟩,h6⟩,c⟩,b⟩:=h
 unfold Bt AI.mp
 rw[Bv h1,Bv h2,Bv h3,Bv h4,Bv h5,Bv h6,Bv c,Bv b]
 by_cases a:i=0
 ·rw[yu a,yu a];rfl
 ·rw[yq a] at h0
  rw[yq a,yq a,T3 h0]
theorem W9{d:E8}{i:Nat}(h:H7 t d i=true):EU t d i=E8.mp (fT t) i d:=by
 unfold EU E8.mp
 rw[Vk h]
theorem Vo{d:Cp}(i:Nat)(h:Fq t d=true):Eu t d=Cp.mp (fT t) i d:=by
 unfold Eu Cp.mp
 rw[Bv h]
end
theorem FK{α:Type}{l:List α}{f:α × Nat->List Kp}{p:Kp->Bool}{q:α × Nat->Bool}(h:∀a,(f a).all p=q a):(l.zipIdx.flatMap f).all p=l.zipIdx.all q:=by
 rw[List.all_flatMap]
 congr 1
 funext a
 exact h a
theorem GP{α:Type}{l:List α}{q:α->Bool}(k:Nat):(l.zipIdx k).all (fun a=>q a.1)=l.all q:=by
 induction l generalizing k with
 |nil=>rfl
 |cons x r ih=>rw[qd,zb,zb,ih]
theorem Im{α:Type}{l:List α}{p q:α->Bool}:(l.all p&&l.all q)=l.all fun a=>p a&&q a:=by
 induction l with
 |nil=>rfl
 |cons x r ih=>
  simp only[zb,<-ih]
  cases p x<;>cases q x<;>simp
theorem Jk{α:Type}{l:List α}{p q:α->Bool}(h:∀a,p a=q a):l.all p=l.all q:=by rw[show p=q from funext h]
section
variable(t:Tb)
theorem Rc(l:List E8):(l.zipIdx.all fun p=>H7 t p.1 p.2)=(JB l).all (Bd t):=
 (FK fun a=>by simp only[zb,zn,zj];exact (W7 t a.2 a.1.value).symm).symm
theorem PR(l:List Cp):l.all (Fq t)=(Gb l).all (Bd t):=by
 unfold Gb
 rw[FK (q:=fun a=>Fq t a.1) fun a=>by simp only[zb,zn,zj];exact (Ev t a.1.need).symm,GP]
theorem Ow(l:List AI):(l.zipIdx.all fun p=>BI t p.1 p.2)=(l.zipIdx.all (Ij t)&&(Eb l).all (Bd t)):=by
 unfold Eb
 rw[FK (q:=fun a=>Bd t (a.1.delay,0)&&(Bd t (a.1.cap,0)&&(Bd t (a.1.bank,0)&&(Bd t (a.1.siphon,0)&&(Bd t (a.1.evap0,0)&&(Bd t (a.1.evap1,0)&&(Bd t (a.1.seep0,0)&&Bd t (a.1.seep1,0)))))))) fun a=>by simp only[zb,zn,zj],Im]
 refine Jk fun a=>?_
 have h0:Ij t a=(if a.2=0 then Hs a.1.frm else Dh (t.reaches.take a.2) a.1.frm):=by
  unfold Ij
  by_cases h:a.2=0
  ·rw[yu h,yu h];exact K9 t _ _
  ·rw[yq h,yq h];exact Ug t _ _
 rw[h0]
 unfold BI
 rw[zu]
 simp only[Ev,ym,and_assoc,qw,and_comm]
theorem PS(l:List BN):l.all (Cc t)=(l.all (JM t)&&(Gc l).all (Bd t)):=by
 unfold Gc
 rw[FK (q:=fun a=>Bd t (a.1.area,0)) fun a=>by simp only[zb,zn,zj],GP (q:=fun d:BN=>Bd t (d.area,0)),Im]
 refine Jk fun d=>?_
 unfold Cc JM
 rw[Jj,Ev]
 congr 2
 by_cases h:d.river=true
 ·rw[yu h,yu h,K9]
 ·rw[yq h,yq h,Uf]
theorem PT(l:List BM):l.all (Ei t)=((l.all fun k=>Ig t 5 0 k.farm)&&(DY l).all (Bd t)):=by
 unfold DY
 rw[FK (q:=fun a=>Bd t (a.1.len,0)) fun a=>by simp only[zb,zn,zj],GP (q:=fun d:BM=>Bd t (d.len,0)),Im]
 refine Jk fun d=>?_
 unfold Ei
 rw[Ml,Ev]
theorem Rd(l:List AS):l.all (Du t)=(l.all (M6 t)&&(Iv l).all (Bd t)):=by
 unfold Iv
 rw[FK (q:=fun a=>(Bd t (a.1.flow,0)&&(Bd t (a.1.frm,0)&&Bd t (a.1.to,0)))&&(DY a.1.turns).all (Bd t)) fun a=>by simp only[z8,zb,zn,zj],GP (q:=fun d:AS=>(Bd t (d.flow,0)&&(Bd t (d.frm,0)&&Bd t (d.to,0)))&&(DY d.turns).all (Bd t)),Im]
 refine Jk fun d=>?_
 unfold Du M6
 rw[Jj,Ev,Ev,Ev,PT,zu]
 simp only[ym,and_assoc,qw,and_comm]
theorem Ox(l:List AJ):l.all (BA t)=((l.all fun d=>Gf d.kind)&&(l.all (Ii t)&&(EM l).all (Bd t))):=by
 unfold EM
 rw[FK (q:=fun a=>Bd t (a.1.flow,0)&&(Bd t (a.1.frm,0)&&(Bd t (a.1.to,0)&&(Bd t (a.1.every,0)&&Bd t (a.1.len,0))))) fun a=>by simp only[zb,zn,zj],GP (q:=fun d:AJ=>Bd t (d.flow,0)&&(Bd t (d.frm,0)&&(Bd t (d.to,0)&&(Bd t (d.every,0)&&Bd t (d.len,0))))),Im,Im]
 refine Jk fun d=>?_
 unfold BA Ii Gf
 have h0:Ig t (if d.kind=1 then 0 else 4) 0 d.reach=(if d.kind=1 then Hs d.reach else Dh t.reaches d.reach):=by
  by_cases h:d.kind=1
  ·rw[yu h,yu h,K9]
  ·rw[yq h,yq h,Jj]
 rw[Ml,h0,zu]
 simp only[Ev,ge_iff_le,ym,and_assoc,qw,and_comm]
theorem PU(l:List BV):l.all (Ci t)=(l.all (JN t)&&(EN l).all (Bd t)):=by
 unfold EN
 rw[FK (q:=fun a=>Bd t (a.1.due,0)) fun a=>by simp only[zb,zn,zj],GP (q:=fun d:BV=>Bd t (d.due,0)),Im]
 refine Jk fun d=>?_
 unfold Ci JN
 rw[Jj,Ml,Ev]
theorem Sj(x:AA):KB t x=(DG t x&&Dc t x):=by
 unfold KB Ji Dc DG Bb CF
 rw[Rc,PR,Ow,PS,Rd,Ox,PU]
 simp only[z8,zb,zn,zj,Ev]
 generalize Bd t (x.season,0)=j
 generalize Bd t (x.cap,0)=g
 generalize Bd t (x.start,0)=h
 generalize (JB x.lets).all (Bd t)=a3
 generalize (Gb x.crops).all (Bd t)=a4
 generalize (Eb x.reaches).all (Bd t)=a5
 generalize (Gc x.farms).all (Bd t)=i
 generalize (Iv x.rots).all (Bd t)=a
 generalize (EM x.rights).all (Bd t)=e
 generalize (EN x.duties).all (Bd t)=a9
 generalize (x.reaches.zipIdx).all (Ij t)=b0
 generalize (x.rights.all fun d=>Gf d.kind)=b1
 generalize x.farms.all (JM t)=b2
 generalize x.rots.all (M6 t)=c
 generalize x.rights.all (Ii t)=b
 generalize x.duties.all (JN t)=f
 rw[zu]
 simp only[ym,and_assoc,qw,and_comm]
end
section
variable{P:Program}{ops:Array Oper}{rest:List Oper}{o:Oper}{a:Act}{w:World}{Q:QT}
theorem Fi{j:Nat}{g:Bool}(v:Value)(b:o.guard=some (j,true))(d:yielded ops a.tmps j=some g)(h1:∀K:Act->World->Prop,g=true->K (a.put o.dst v) w->Oper.wp P o a w K Q)
 (h:wpList P ops Q rest (a.put o.dst (Ue g v undef)) w):wpList P ops Q (o::rest) a w:=by
 refine wpList_step fun K e=>?_
 have c:=e _ _ h
 cases g
 ·rw[yq (by simp[Region.wanted,b,d])]
  exact c
 ·rw[yu (by simp[Region.wanted,b,d])]
  exact h1 K rfl c
end
theorem Um{o:Oper}{a:Act}{w:World}{K:Act->World->Prop}{Q:QT}(x y:Operand)(d:o.op=.binOp .eql 23 x y 23)(r:Rf)(b:a.eval x=.agg (Ad r).toArray)(c:a.eval y=.agg #[.string {data:=#[]},.int .i64 0])
 (h:K (a.put o.dst (.bool (Hs r))) w):Oper.wp Try.prog o a w K Q:=by
 have e:Hs r=(decide (r.name.toList=[])&&decide (r.n=0)):=by
  unfold Hs
  rw[zu]
  simp only[yR,ym,Dg]
 rw[e] at h
 clear e
 obtain ⟨rn,ri⟩:=r
 simp only[Ad] at h b ⊢
 by_cases h1:rn.toList=[]
 ·by_cases h2:ri=0
  ·subst h2
   simp only[h1,decide_true,Bool.and_self] at h
   unfold Oper.wp execOp
   simp only[d,b,c]
   go_simp
   exact h
  ·simp only[h1,h2,decide_true,decide_false,xT] at h
   have f:(ri==0)=false:=by simpa using h2
   unfold Oper.wp execOp
   simp only[d,b,c]
   go_simp
   exact h
 ·simp only[h1,decide_false,xE] at h
  unfold Oper.wp execOp
  simp only[d,b,c]
  go_simp
  exact h
theorem T4{o:Oper}{a:Act}{w:World}{K:Act->World->Prop}{Q:QT}(b:o.op=.build 23 #[])(h:K (a.put o.dst (.agg #[.string {data:=#[]},.int .i64 0])) w):Oper.wp Try.prog o a w K Q:=by
 unfold Oper.wp execOp
 simp only[b]
 go_simp
 exact h
theorem Un{o:Oper}{a:Act}{w:World}{K:Act->World->Prop}{Q:QT}{T i:Nat}{x:Operand}(e:o.op=.fieldAddr T x i)(b off:Nat)(c:a.eval x=.pointer (some ⟨b,0,none⟩))
 (d:(Instr.fieldAt T (.pointer (some ⟨b,0,none⟩)) i).run Try.prog w=.ok (.pointer (some ⟨b,off,none⟩)) w)(h:K (a.put o.dst (.pointer (some ⟨b,off,none⟩))) w):Oper.wp Try.prog o a w K Q:=by
 unfold Oper.wp execOp
 simp only[e,c,d,qm,qb,xO]
 exact h
section
variable{ops:Array Oper}{rest:List Oper}{o:Oper}{a:Act}{w:World}{Q:QT}{j:Nat}
theorem DX{T i:Nat}{x:Operand}(m:o.op=.fieldAddr T x i)(g:Bool)(c:o.guard=some (j,true))(e:yielded ops a.tmps j=some g)(b off:Nat)(d:g=true->a.eval x=.pointer (some ⟨b,0,none⟩))
 (k:(Instr.fieldAt T (.pointer (some ⟨b,0,none⟩)) i).run Try.prog w=.ok (.pointer (some ⟨b,off,none⟩)) w)(h:wpList Try.prog ops Q rest (a.put o.dst (Ue g (.pointer (some ⟨b,off,none⟩)) undef)) w):wpList Try.prog ops Q (o::rest) a w:=
 Fi _ c e (fun _ f l=>Un m b off (d f) k l) h
theorem Kb{ty:TypeId}{x:Operand}(f:o.op=.load ty x)(g:Bool)(c:o.guard=some (j,true))(e:yielded ops a.tmps j=some g)(b off:Nat)(k:g=true->a.eval x=.pointer (some ⟨b,off,none⟩))(cs:LV)(d:TypeDesc)(hc:w.rangeAt b off cs)
 (m:Try.prog.underlying ty=some d)(hd:d.isRow=true)(hi:(Try.prog.info? ty).map (·.size)=some cs.length)(h:wpList Try.prog ops Q rest (a.put o.dst (Ue g (.agg cs.toArray) undef)) w):wpList Try.prog ops Q (o::rest) a w:=
 Fi _ c e (fun _ l i=>wp_load_mid ty x f b off (k l) cs d hc m hd hi i) h
theorem IT(e:o.op=.build 23 #[])(g:Bool)(b:o.guard=some (j,true))(c:yielded ops a.tmps j=some g)(h:wpList Try.prog ops Q rest (a.put o.dst (Ue g (.agg #[.string {data:=#[]},.int .i64 0]) undef)) w):wpList Try.prog ops Q (o::rest) a w:=
 Fi _ b c (fun _ _ d=>T4 e d) h
theorem KV{x y:Operand}(k:o.op=.binOp .eql 23 x y 23)(g:Bool)(b:o.guard=some (j,true))(f:yielded ops a.tmps j=some g)(r:Rf)(e:g=true->a.eval x=.agg (Ad r).toArray)(d:g=true->a.eval y=.agg #[.string {data:=#[]},.int .i64 0])
 (h:wpList Try.prog ops Q rest (a.put o.dst (Ue g (.bool (Hs r)) undef)) w):wpList Try.prog ops Q (o::rest) a w:=
 Fi _ b f (fun _ c i=>Um x y k r (e c) (d c) i) h
theorem Fs{ty:TypeId}{x:Operand}(m:o.op=.load ty x)(g:Bool)(c:o.guard=some (j,true))(e:yielded ops a.tmps j=some g)(b off:Nat)(d:g=true->a.eval x=.pointer (some ⟨b,off,none⟩))(k:Int)
 (i:(loadVar ty ⟨b,off,none⟩).run Try.prog w=.ok (.int .i64 k) w)(h:wpList Try.prog ops Q rest (a.put o.dst (Ue g (.int .i64 k) undef)) w):wpList Try.prog ops Q (o::rest) a w:=
 Fi _ c e (fun K f l=>by
  unfold Oper.wp execOp
  simp only[m,d f,Instr.loadAt,Instr.sureAddr,qm,qb,xO,i]
  exact l) h
theorem GQ{op:BinOp}{T U:TypeId}{x y:Operand}(i:o.op=.binOp op T x y U)(g:Bool)(c:o.guard=some (j,true))(e:yielded ops a.tmps j=some g)(k l:Int)(z:Bool)(p:g=true->a.eval x=.int .i64 k)(n:g=true->a.eval y=.int .i64 l)
 (f:(eqGuard op T x y (.int .i64 k) (.int .i64 l)).run Try.prog w=.ok () w)(b:(binOp op T (.int .i64 k) (.int .i64 l)).run Try.prog w=.ok (.bool z) w)
 (h:wpList Try.prog ops Q rest (a.put o.dst (Ue g (.bool z) undef)) w):wpList Try.prog ops Q (o::rest) a w:=
 Fi _ c e (fun K d m=>by
  unfold Oper.wp execOp
  simp only[i,p d,n d,qm,qb,xO,f,b]
  exact m) h
end
theorem Ae{P:Program}{ops:Array Oper}{rest:List Oper}{o:Oper}{a:Act}{w:World}{Q:QT}{j:Nat}(g:Bool)(b:o.guard=some (j,true))(x:Operand)(c:o.op=.move x)(d:yielded ops a.tmps j=some g)
 (h:wpList P ops Q rest (a.put o.dst (Ue g (a.eval x) undef)) w):wpList P ops Q (o::rest) a w:=
 Ou b x c d h
theorem CL{W:World}{b o:Nat}{v:Value}(h:W.rangeAt b o [v]):W.cell? ⟨b,o,none⟩=some v:=h 0 v rfl
theorem OB{ops:Array Oper}{p:Oper->Bool}{i:Nat}{o:Oper}(h:ops.all p=true)(a:ops[i]?=some o):p o=true:=by
 rw[zt] at h
 exact h o (xt a)
theorem Al{l:Array Bool}{i j:Nat}(h:i≠j):(l.setIfInBounds i true).getD j false=l.getD j false:=xi false h
theorem Cj{l:Array Value}{i j:Nat}{v:Value}(h:i≠j):(l.setIfInBounds i v).getD j undef=l.getD j undef:=by simp[h]
def OC(lo hi:Nat)(d:Option Tmp):Bool:=match d with
 |some k=>decide (lo<=k)&&decide (k<=hi)
 |none=>true
theorem G7{lo hi:Nat}{ops:Array Oper}{e:Act}{c:Array Bool->Array Value->World->Prop}{g:Nat->Value->World->Prop}{b:Array Bool}{a:Act}{w':World}(d:ops.all (fun o=>OC lo hi o.dst)=true)(hM:KC ops e c g b a w'):
  ∀t,(t < lo∨hi < t)->a.tmps.getD t undef=e.tmps.getD t undef:=by
 intro t j
 refine hM.free t fun i h o f hd=>?_
 have hs:OC lo hi o.dst=true:=OB (p:=fun o=>OC lo hi o.dst) d f
 rw[hd] at hs
 simp only[OC,ym,yR] at hs
 exact (show ¬ (lo<=t∧t<=hi) from by omega) hs
def VN(B g rn rc mr i:Nat)(j:Nat)(v:Value)(_:World):Prop:=match j with
 |0=>v=.func (.func 49) #[] #[]
 |1=>v=.pointer (some ⟨B+1,21,none⟩)
 |2=>v=.slice (some ⟨g,0,none⟩) rn rc
 |3=>v=.int .i64 i
 |4=>v=.pointer (some ⟨g,i*51,none⟩)
 |5=>v=.pointer (some ⟨g,i*51+1,none⟩)
 |6=>v=.map (some mr)
 |7=>v=.int .i64 i
 |_=>True
structure Lv (R1 R2:World->Prop) (l:Array Bool) (_:Array Value) (w:World):Prop where
 one:l.getD 8 false=false->R1 w
 two:l.getD 8 false=true->R2 w
theorem Lv.quiet{R1 R2:World->Prop}{l:Array Bool}{tm a:Array Value}{w:World}{i:Nat}(h:Lv R1 R2 l tm w)(hi:i≠8):Lv R1 R2 (l.setIfInBounds i true) a w:=
 ⟨fun k=>h.one (by rw[Al hi] at k;exact k),fun k=>h.two (by rw[Al hi] at k;exact k)⟩
theorem VO{l:Act}{wr:World}{Q:QT}{B Bf g rn rc br mr i:Nat}{R1 R2 R3:World->Prop}(ops:Array Oper)(m:GS Try.f11 32=some ops)
 (h2:l.tmps.getD 2 undef=.pointer (some ⟨B+1,0,none⟩))(h6:l.tmps.getD 6 undef=.pointer (some ⟨br,0,none⟩))(D:l.tmps.getD 13 undef=.pointer (some ⟨Bf,0,none⟩))(r:l.tmps.getD 14 undef=.int .i64 i)(G:l.tmps.size=174)
 (hi:i < rn)(h0:R1 wr.drew)
 (E:∀W,R1 W->W.cell? ⟨Bf,0,none⟩=some (.func (.func 49) #[] #[])∧W.cell? ⟨B+1,21,none⟩=some (.slice (some ⟨g,0,none⟩) rn rc)∧W.cell? ⟨br,0,none⟩=some (.map (some mr)))
 (p:∀W,R1 W->Calls Try.prog 49 #[.pointer (some ⟨g,i*51+1,none⟩),.map (some mr),.int .i64 i] W fun e w'=>(e=.returned (.tuple #[])∧R2 w')∨(e=.panicked (Fx 170)∧R3 w'))
 (F:∀(a:Act) W,a.defers=l.defers->(∀t,(t < 105∨113 < t)->a.tmps.getD t undef=l.tmps.getD t undef)->R3 W->Q (.panic (Fx 170)) a W)
 (A:∀(a:Act) W,a.tmps.size=174->a.defers=l.defers->(∀t,(t < 105∨113 < t)->a.tmps.getD t undef=l.tmps.getD t undef)->R2 W->Q .normal a W):
  (Code.region 32 ops true).wp Try.prog Q l wr:=by
 obtain rfl:=yh ((rfl:GS Try.f11 32=some _).symm.trans m)
 clear m
 refine Ee (by kernel_rfl) (Lv R1 R2) (VN B g rn rc mr i) (fun _ _ _=>True) (by kernel_rfl) (by rw[G];kernel_rfl) (by kernel_rfl) (fun _ j v w w' _ _ _ h=>by unfold VN at h ⊢;exact h) ⟨fun _=>h0,fun h=>(by cases h)⟩ ?_ ?_
 ·intro N c a w' hM b o k
  have f:=ya hM.ext
  have x:=(yd.1 k).1
  have z:=hM.size
  have O:=ya hi
  have M:(i:Int) < (rn:Int):=by omega
  match N,x with
  |0,_=>
   have d:=hM.old b 13 (by kernel_rfl) _ D
   have s:c.getD 8 false=false:=by
    rw[yj];intro u
    have:=A3 hM.down 8 8 0 (by kernel_rfl) u
    rw[hM.Xj b] at this;cases this
   obtain ⟨x1,x2,x3⟩:=E _ (f.o.one s)
   clear hi
   obtain rfl:=yh k
   go_simp
   exact ⟨_,rfl,f.o.quiet (by decide),trivial,rfl⟩
  |1,_=>
   have d:=hM.old b 2 (by kernel_rfl) _ h2
   clear hi
   obtain rfl:=yh k
   go_simp
   exact ⟨_,rfl,f.o.quiet (by decide),trivial,rfl⟩
  |2,_=>
   have d:a.tmps[106]?.getD undef=pV (B+1) 21:=hM.Xk b 1 106 (by kernel_rfl) (by kernel_rfl)
   have s:c.getD 8 false=false:=by
    rw[yj];intro u
    have:=A3 hM.down 8 8 2 (by kernel_rfl) u
    rw[hM.Xj b] at this;cases this
   obtain ⟨x1,x2,x3⟩:=E _ (f.o.one s)
   clear hi
   obtain rfl:=yh k
   go_simp
   exact ⟨_,rfl,f.o.quiet (by decide),trivial,rfl⟩
  |3,_=>
   have d:=hM.old b 14 (by kernel_rfl) _ r
   clear hi
   obtain rfl:=yh k
   go_simp
   exact ⟨_,rfl,f.o.quiet (by decide),trivial,rfl⟩
  |4,_=>
   have J:a.tmps[107]?.getD undef=.slice (some (aV g 0)) rn rc:=hM.Xk b 2 107 (by kernel_rfl) (by kernel_rfl)
   have L:a.tmps[108]?.getD undef=iV i:=hM.Xk b 3 108 (by kernel_rfl) (by kernel_rfl)
   clear hi
   obtain rfl:=yh k
   go_simp
   exact ⟨_,rfl,f.o.quiet (by decide),trivial,rfl⟩
  |5,_=>
   have d:a.tmps[109]?.getD undef=pV g (i*51):=hM.Xk b 4 109 (by kernel_rfl) (by kernel_rfl)
   clear hi
   obtain rfl:=yh k
   go_simp
   exact ⟨_,rfl,f.o.quiet (by decide),trivial,rfl⟩
  |6,_=>
   have d:=hM.old b 6 (by kernel_rfl) _ h6
   have s:c.getD 8 false=false:=by
    rw[yj];intro u
    have:=A3 hM.down 8 8 6 (by kernel_rfl) u
    rw[hM.Xj b] at this;cases this
   obtain ⟨x1,x2,x3⟩:=E _ (f.o.one s)
   clear hi
   obtain rfl:=yh k
   go_simp
   exact ⟨_,rfl,f.o.quiet (by decide),trivial,rfl⟩
  |7,_=>
   have d:=hM.old b 14 (by kernel_rfl) _ r
   clear hi
   obtain rfl:=yh k
   go_simp
   exact ⟨_,rfl,f.o.quiet (by decide),trivial,rfl⟩
  |8,_=>
   have J:a.tmps[105]?.getD undef=.func (.func 49) #[] #[]:=hM.Xk b 0 105 (by kernel_rfl) (by kernel_rfl)
   have L:a.tmps[110]?.getD undef=pV g (i*51+1):=hM.Xk b 5 110 (by kernel_rfl) (by kernel_rfl)
   have P:a.tmps[111]?.getD undef=.map (some mr):=hM.Xk b 6 111 (by kernel_rfl) (by kernel_rfl)
   have R:a.tmps[112]?.getD undef=iV i:=hM.Xk b 7 112 (by kernel_rfl) (by kernel_rfl)
   have C:=f.o.one (hM.Xj b)
   have I:=ya (p _ C)
   have H:=ya (G7 (lo:=105) (hi:=113) (by kernel_rfl) hM)
   have y:=ya hM.defers
   have K:Hid (8 < c.size):=ya (by rw[z];show 8 < 9;omega)
   clear hi
   obtain rfl:=yh k
   go_simp
   refine I.o.mono ?_
   rintro e w2 (⟨rfl,n⟩|⟨rfl,n⟩)
   ·exact ⟨_,rfl,⟨fun h=>(by simp[K.o] at h),fun _=>n⟩,trivial,trivial⟩
   ·exact F _ _ y.o H.o n
 ·intro c a w' q hM
  exact A a w' (hM.tmps.trans G) hM.defers (G7 (lo:=105) (hi:=113) (by kernel_rfl) hM) (hM.ext.two (q 8 (show 8 < 9 by omega)))
def KX(n0:Nat)(w w':World):Prop:=w.heap.size<=w'.heap.size∧∀(b:Nat) (o:Obj),n0<=b->w.heap[b]?=some o->w'.heap[b]?=some o∨∃z a:Value,o=.cells #[z] 90 (0,0)∧w'.heap[b]?=some (.cells #[a] 90 (0,0))
theorem KX.refl(n0:Nat)(w:World):KX n0 w w:=⟨ye _,fun _ _ _ h=>.inl h⟩
theorem KX.below{n0:Nat}{w w':World}(h:Below w.heap.size w w'):KX n0 w w':=⟨h.size,fun b _ _ hb=>.inl ((h.block b (yd.1 hb).1).trans hb)⟩
theorem CH.XH{n0:Nat}{w w':World}{m:Nat}{b:LB}(h:CH w m b)(hl:KX n0 w w')(c:n0<=m):CH w' m b:=by
 obtain ⟨es,a,h1,h2⟩:=h
 rcases hl.2 m _ c h1 with h3|⟨z,d,h3,_⟩
 ·exact ⟨es,a,h3,h2⟩
 ·cases h3
def JG(n0:Nat)(v:Value)(w:World):Prop:=∃b z,v=.pointer (some ⟨b,0,none⟩)∧n0<=b∧w.heap[b]?=some (.cells #[z] 90 (0,0))
theorem JG.XH{n0:Nat}{v:Value}{w w':World}(h:JG n0 v w)(hl:KX n0 w w'):JG n0 v w':=by
 obtain ⟨b,z,h1,h2,h3⟩:=h
 rcases hl.2 b _ h2 h3 with h4|⟨_,a,_,h4⟩
 ·exact ⟨b,z,h1,h2,h4⟩
 ·exact ⟨b,a,h1,h2,h4⟩
def Gm(n0:Nat)(v:Value)(a:LB)(w:World):Prop:=∃m,v=.map (some m)∧n0<=m∧CH w m a∧a.Nodup
theorem Gm.XH{n0:Nat}{v:Value}{a:LB}{w w':World}(h:Gm n0 v a w)(hl:KX n0 w w'):Gm n0 v a w':=by
 obtain ⟨m,h1,h2,h3,h4⟩:=h
 exact ⟨m,h1,h2,h3.XH hl h2,h4⟩
def Vq(n0 B:Nat)(h0 h1 h2 h3:AF)(n0s n1s n2s n3s:LB)(j:Nat)(v:Value)(w:World):Prop:=match j with
 |0=>v=.pointer (some ⟨B,19,none⟩)
 |1=>v=.slice h0.a h0.n h0.c
 |2=>Gm n0 v n0s w
 |3=>v=.pointer (some ⟨B,20,none⟩)
 |4=>v=.slice h1.a h1.n h1.c
 |5=>Gm n0 v n1s w
 |6=>v=.pointer (some ⟨B,21,none⟩)
 |7=>v=.slice h2.a h2.n h2.c
 |8=>Gm n0 v n2s w
 |9=>v=.pointer (some ⟨B,22,none⟩)
 |10=>v=.slice h3.a h3.n h3.c
 |11=>Gm n0 v n3s w
 |12|13|14|15=>JG n0 v w
 |_=>True
theorem PY{n0 B:Nat}{h0 h1 h2 h3:AF}{n0s n1s n2s n3s:LB}(j:Nat)(v:Value)(w w':World)(hl:KX n0 w w')(h:Vq n0 B h0 h1 h2 h3 n0s n1s n2s n3s j v w):Vq n0 B h0 h1 h2 h3 n0s n1s n2s n3s j v w':=by
 unfold Vq at h ⊢
 split at h
 all_goals first|exact h|exact h.XH hl
def Wd(n0:Nat)(v:Value)(a:LB)(w:World):Prop:=∃b,v=.pointer (some ⟨b,0,none⟩)∧n0<=b∧b < w.heap.size∧BS w b a
def WJ(n0:Nat)(n0s n1s n2s n3s:LB)(l:Array Bool)(tm:Array Value)(w:World)(q:Nat):Prop:=l.getD (16+q) false=true->Wd n0 (tm.getD (4+q) undef) ((([n0s,n1s,n2s,n3s]:List LB))[q]?.getD []) w
structure H9 (n0:Nat) (V:World) (n0s n1s n2s n3s:List ByteArray) (l:Array Bool) (tm:Array Value) (w:World):Prop where
 below:Below n0 V w
 apart:∀p q,p < 4->q < 4->p≠q->l.getD (12+p) false=true->l.getD (12+q) false=true->tm.getD (4+p) undef≠tm.getD (4+q) undef
 full:∀q,q < 4->WJ n0 n0s n1s n2s n3s l tm w q
section
variable{n0:Nat}{V w w':World}{n0s n1s n2s n3s:LB}{l:Array Bool}{tm:Array Value}
theorem BS.below{b:Nat}{a:LB}(h:BS w b a)(hb:Below w.heap.size w w'):BS w' b a:=by
 obtain ⟨m,h1,h2⟩:=h
 exact ⟨m,(hb.block b (yd.1 h1).1).trans h1,h2.block (hb.block m h2.lt)⟩
theorem H9.quiet(h:H9 n0 V n0s n1s n2s n3s l tm w){i t:Nat}{v:Value}(hi:i < 12)(j:7 < t)(f:n0<=w.heap.size)(hb:Below w.heap.size w w'):H9 n0 V n0s n1s n2s n3s (l.setIfInBounds i true) (tm.setIfInBounds t v) w':=by
 refine ⟨h.below.trans (hb.mono f),fun p q g c a e d=>?_,fun q c k=>?_⟩
 ·rw[Al (by omega)] at e d
  rw[Cj (by omega),Cj (by omega)]
  exact h.apart p q g c a e d
 ·rw[Al (by omega)] at k
  rw[Cj (by omega)]
  obtain ⟨b,h1,h2,h3,h4⟩:=h.full q c k
  exact ⟨b,h1,h2,yk h3 hb.size,h4.below hb⟩
theorem H9.alloc(h:H9 n0 V n0s n1s n2s n3s l tm w){q:Nat}(t:q < 4)(s:n0<=w.heap.size)(n:tm.size=174)(g:∀p,p < 4->l.getD (12+p) false=true->JG n0 (tm.getD (4+p) undef) w)(j:l.getD (16+q) false=false)(z:Value):
  H9 n0 V n0s n1s n2s n3s (l.setIfInBounds (12+q) true) (tm.setIfInBounds (4+q) (.pointer (some ⟨w.heap.size,0,none⟩))) (w.alloc (.cells #[z] 90)):=by
 have hb:Below w.heap.size w (w.alloc (.cells #[z] 90)):=(yc _ _).alloc (ye _) _
 have a:(tm.setIfInBounds (4+q) (pV w.heap.size 0)).getD (4+q) undef=pV w.heap.size 0:=by simp[n,show 4+q < 174 by omega]
 have c:∀p,p < 4->p≠q->(l.setIfInBounds (12+q) true).getD (12+p) false=true->∃b,tm.getD (4+p) undef=pV b 0∧b < w.heap.size:=fun p f d k=>by
  rw[Al (by omega)] at k
  obtain ⟨b,z,h1,_,h3⟩:=g p f k
  exact ⟨b,h1,(yd.1 h3).1⟩
 refine ⟨h.below.trans (hb.mono s),fun p r f o d m i=>?_,fun p f k=>?_⟩
 ·by_cases e1:p=q
  ·subst e1
   obtain ⟨b,h1,h2⟩:=c r o (xr d) i
   rw[a,Cj (by omega),h1]
   intro e;simp at e<;>omega
  ·obtain ⟨b,h1,h2⟩:=c p f e1 m
   by_cases e2:r=q
   ·subst e2
    rw[a,Cj (by omega),h1]
    intro e;simp at e<;>omega
   ·rw[Cj (by omega),Cj (by omega)]
    rw[Al (by omega)] at m i
    exact h.apart p r f o d m i
 ·rw[Al (by omega)] at k
  by_cases e1:p=q
  ·subst e1;rw[j] at k;cases k
  ·rw[Cj (by omega)]
   obtain ⟨b,h1,h2,h3,h4⟩:=h.full p f k
   exact ⟨b,h1,h2,yk h3 hb.size,h4.below hb⟩
theorem H9.store(h:H9 n0 V n0s n1s n2s n3s l tm w){q b m:Nat}{z:Value}(E:q < 4)(D:n0<=b)(hb:w.heap[b]?=some (.cells #[z] 90 (0,0)))(s:tm.getD (4+q) undef=.pointer (some ⟨b,0,none⟩))
 (B:CH w m ((([n0s,n1s,n2s,n3s]:List LB))[q]?.getD []))(v:l.getD (12+q) false=true)(j:∀p,p < 4->l.getD (16+p) false=true->l.getD (12+p) false=true):
  H9 n0 V n0s n1s n2s n3s (l.setIfInBounds (16+q) true) tm (w.setCell ⟨b,0,none⟩ (.map (some m)))∧KX n0 w (w.setCell ⟨b,0,none⟩ (.map (some m))):=by
 have d:(w.setCell (aV b 0) (.map (some m))).heap[b]?=some (.cells #[.map (some m)] 90 (0,0)):=by
  have:=zk w b 0 #[z] 90 (.map (some m)) hb
  rw[this];rfl
 have a:∀c,c≠b->(w.setCell (aV b 0) (.map (some m))).heap[c]?=w.heap[c]?:=fun c hc=>zf w (aV b 0) c _ hc
 have f:∀n i,CH w n i->CH (w.setCell (aV b 0) (.map (some m))) n i:=fun n i h=>by
  obtain ⟨es,x,h1,_⟩:=h.size
  exact h.block (a n (fun e=>by rw[e,hb] at h1;cases h1))
 refine ⟨⟨?_,fun p r t C g A y=>?_,fun p t k=>?_⟩,by simp,fun c o hc u=>?_⟩
 ·exact h.below.trans ⟨rfl,rfl,rfl,by simp,fun c hc=>a c (by omega)⟩
 ·rw[Al (by omega)] at A y
  exact h.apart p r t C g A y
 ·by_cases e1:p=q
  ·subst e1
   exact ⟨b,s,D,by simpa using (yd.1 hb).1,m,d,f _ _ B⟩
  ·rw[Al (by omega)] at k
   obtain ⟨b',h1,h2,h3,n,h4,h5⟩:=h.full p t k
   have g:b'≠b:=fun e=>h.apart p q t E e1 (j p t k) v (by rw[h1,s,e])
   exact ⟨b',h1,h2,by simpa using h3,n,(a b' g).trans h4,f _ _ h5⟩
 ·by_cases e:c=b
  ·subst e
   rw[hb] at u
   exact .inr ⟨z,.map (some m),(yh u).symm,d⟩
  ·exact .inl ((a c e).trans u)
end
theorem WK{S:Act}{V:World}{Q:QT}{B:Nat}{h0 h1 h2 h3:AF}{n0s n1s n2s n3s:LB}(ops:Array Oper)(T:GS Try.f11 11=some ops)
 (P:S.tmps.getD 1 undef=.pointer (some ⟨B,0,none⟩))(hz:S.tmps.size=174)
 (hc:∀W,Below V.heap.size V W->W.cell? ⟨B,19,none⟩=some (.slice h0.a h0.n h0.c)∧W.cell? ⟨B,20,none⟩=some (.slice h1.a h1.n h1.c)∧W.cell? ⟨B,21,none⟩=some (.slice h2.a h2.n h2.c)∧W.cell? ⟨B,22,none⟩=some (.slice h3.a h3.n h3.c))
 (ac:∀W,Below V.heap.size V W->AZ W h0 7 0 n0s)(aa:∀W,Below V.heap.size V W->AZ W h1 7 0 n1s)(ae:∀W,Below V.heap.size V W->AZ W h2 51 0 n2s)(ad:∀W,Below V.heap.size V W->AZ W h3 12 0 n3s)
 (a2:n0s.length<=100000)(a6:n1s.length<=100000)(ab:n2s.length<=100000)(a8:n3s.length<=100000)
 (R:∀(a:Act) W,a.defers=S.defers->(∀t,(t < 4∨54 < t)->a.tmps.getD t undef=S.tmps.getD t undef)->Below V.heap.size V W->¬ (n0s.Nodup∧n1s.Nodup∧n2s.Nodup∧n3s.Nodup)->Q (.panic (Fx 171)) a W)
 (a1:∀(a:Act) W (bl bc br bf:Nat),a.tmps.size=174->a.defers=S.defers->(∀t,t∉[4,5,6,7,43,44,45,46,47,48,49,50,51,52,53,54]->a.tmps.getD t undef=S.tmps.getD t undef)->
   a.tmps.getD 4 undef=.pointer (some ⟨bl,0,none⟩)->a.tmps.getD 5 undef=.pointer (some ⟨bc,0,none⟩)->a.tmps.getD 6 undef=.pointer (some ⟨br,0,none⟩)->a.tmps.getD 7 undef=.pointer (some ⟨bf,0,none⟩)->
   BS W bl n0s->BS W bc n1s->BS W br n2s->BS W bf n3s->(V.heap.size<=bl∧bl < W.heap.size)->(V.heap.size<=bc∧bc < W.heap.size)->(V.heap.size<=br∧br < W.heap.size)->(V.heap.size<=bf∧bf < W.heap.size)->Below V.heap.size V W->(n0s.Nodup∧n1s.Nodup∧n2s.Nodup∧n3s.Nodup)->Q .normal a W):
  (Code.region 11 ops true).wp Try.prog Q S V:=by
 obtain rfl:=yh ((rfl:GS Try.f11 11=some _).symm.trans T)
 clear T
 have U:∀ {a0:Array Bool->Array Value->World->Prop} {Pp:Nat->Value->World->Prop} {f:Array Bool} {a:Act} {w':World},KC _ S a0 Pp f a w'->∀t,t∉[4,5,6,7,43,44,45,46,47,48,49,50,51,52,53,54]->a.tmps.getD t undef=S.tmps.getD t undef:=fun hM t ht=>by
  refine hM.free t fun mm af o A hd=>ht ?_
  have hs:=OB (ops:=(Try.f11.body.bind (Ez 11)).getD #[]) (p:=fun o=>match o.dst with|some k=>decide (k∈[4,5,6,7,43,44,45,46,47,48,49,50,51,52,53,54])|none=>true) (by kernel_rfl) A
  rw[hd] at hs
  exact yt hs
 refine Ee (by kernel_rfl) (H9 V.heap.size V n0s n1s n2s n3s) (Vq V.heap.size B h0 h1 h2 h3 n0s n1s n2s n3s) (fun _=>KX V.heap.size) (by kernel_rfl) (by rw[hz];kernel_rfl) (by kernel_rfl) (fun _ j v w w' _ _ hl h=>PY j v w w' hl h) ?_ ?_ ?_
 ·refine ⟨(yc _ _).drew,fun p q L hq ag k1 k2=>?_,fun q hq k=>?_⟩
  ·exfalso
   match p,L with
   |0,_=>cases k1
   |1,_=>cases k1
   |2,_=>cases k1
   |3,_=>cases k1
  ·exfalso
   match q,hq with
   |0,_=>cases k
   |1,_=>cases k
   |2,_=>cases k
   |3,_=>cases k
 ·intro ix f a w' hM l o A
  have r:=ya hM.ext
  have a7:=(yd.1 A).1
  have Z:V.heap.size<=w'.heap.size:=hM.ext.below.size
  have i:=ya Z
  have N:Hid (a.tmps.size=174):=ya (hM.tmps.trans hz)
  have HF:=ya (U hM)
  have O:=ya hM.defers
  have K:Hid (∀p,p < 4->f.getD (12+p) false=true->JG V.heap.size (a.tmps.getD (4+p) undef) w'):=ya (fun p L k=>by
   match p,L with
   |0,_=>exact hM.done 12 k _ 4 rfl rfl
   |1,_=>exact hM.done 13 k _ 5 rfl rfl
   |2,_=>exact hM.done 14 k _ 6 rfl rfl
   |3,_=>exact hM.done 15 k _ 7 rfl rfl)
  clear Z
  match ix,a7 with
  |0,_=>
   have d:=hM.old l 1 (by kernel_rfl) _ P
   obtain rfl:=yh A
   go_simp
   exact ⟨_,rfl,r.o.quiet (by decide) (by decide) i.o (yc _ _),KX.refl _ _,rfl⟩
  |1,_=>
   have d:a.tmps[43]?.getD undef=pV B 19:=hM.Xk l 0 43 (by kernel_rfl) (by kernel_rfl)
   obtain ⟨x0,x1,x2,x3⟩:=hc _ r.o.below
   obtain rfl:=yh A
   go_simp
   exact ⟨_,rfl,r.o.quiet (by decide) (by decide) i.o (yc _ _),KX.refl _ _,rfl⟩
  |2,_=>
   have d:a.tmps[44]?.getD undef=.slice h0.a h0.n h0.c:=hM.Xk l 1 44 (by kernel_rfl) (by kernel_rfl)
   have M:=ya (SW (ac _ r.o.below) a2)
   unfold AF.v at M
   obtain rfl:=yh A
   go_simp
   refine M.o.mono ?_
   rintro e w2 ⟨g,⟨s,m,rfl,J,I⟩|⟨s,rfl⟩⟩
   ·exact ⟨_,rfl,r.o.quiet (by decide) (by decide) i.o g,KX.below g,m,rfl,yo i.o J,I,s⟩
   ·exact R _ _ O.o (fun t ht=>HF.o t (by simp;omega)) (r.o.below.trans (g.mono i.o)) (fun h=>s h.1)
  |3,_=>
   have d:=hM.old l 1 (by kernel_rfl) _ P
   obtain rfl:=yh A
   go_simp
   exact ⟨_,rfl,r.o.quiet (by decide) (by decide) i.o (yc _ _),KX.refl _ _,rfl⟩
  |4,_=>
   have d:a.tmps[46]?.getD undef=pV B 20:=hM.Xk l 3 46 (by kernel_rfl) (by kernel_rfl)
   obtain ⟨x0,x1,x2,x3⟩:=hc _ r.o.below
   obtain rfl:=yh A
   go_simp
   exact ⟨_,rfl,r.o.quiet (by decide) (by decide) i.o (yc _ _),KX.refl _ _,rfl⟩
  |5,_=>
   have d:a.tmps[47]?.getD undef=.slice h1.a h1.n h1.c:=hM.Xk l 4 47 (by kernel_rfl) (by kernel_rfl)
   have M:=ya (QU (aa _ r.o.below) a6)
   unfold AF.v at M
   obtain rfl:=yh A
   go_simp
   refine M.o.mono ?_
   rintro e w2 ⟨g,⟨s,m,rfl,J,I⟩|⟨s,rfl⟩⟩
   ·exact ⟨_,rfl,r.o.quiet (by decide) (by decide) i.o g,KX.below g,m,rfl,yo i.o J,I,s⟩
   ·exact R _ _ O.o (fun t ht=>HF.o t (by simp;omega)) (r.o.below.trans (g.mono i.o)) (fun h=>s h.2.1)
  |6,_=>
   have d:=hM.old l 1 (by kernel_rfl) _ P
   obtain rfl:=yh A
   go_simp
   exact ⟨_,rfl,r.o.quiet (by decide) (by decide) i.o (yc _ _),KX.refl _ _,rfl⟩
  |7,_=>
   have d:a.tmps[49]?.getD undef=pV B 21:=hM.Xk l 6 49 (by kernel_rfl) (by kernel_rfl)
   obtain ⟨x0,x1,x2,x3⟩:=hc _ r.o.below
   obtain rfl:=yh A
   go_simp
   exact ⟨_,rfl,r.o.quiet (by decide) (by decide) i.o (yc _ _),KX.refl _ _,rfl⟩
  |8,_=>
   have d:a.tmps[50]?.getD undef=.slice h2.a h2.n h2.c:=hM.Xk l 7 50 (by kernel_rfl) (by kernel_rfl)
   have M:=ya (Pv (ae _ r.o.below) ab)
   unfold AF.v at M
   obtain rfl:=yh A
   go_simp
   refine M.o.mono ?_
   rintro e w2 ⟨g,⟨s,m,rfl,J,I⟩|⟨s,rfl⟩⟩
   ·exact ⟨_,rfl,r.o.quiet (by decide) (by decide) i.o g,KX.below g,m,rfl,yo i.o J,I,s⟩
   ·exact R _ _ O.o (fun t ht=>HF.o t (by simp;omega)) (r.o.below.trans (g.mono i.o)) (fun h=>s h.2.2.1)
  |9,_=>
   have d:=hM.old l 1 (by kernel_rfl) _ P
   obtain rfl:=yh A
   go_simp
   exact ⟨_,rfl,r.o.quiet (by decide) (by decide) i.o (yc _ _),KX.refl _ _,rfl⟩
  |10,_=>
   have d:a.tmps[52]?.getD undef=pV B 22:=hM.Xk l 9 52 (by kernel_rfl) (by kernel_rfl)
   obtain ⟨x0,x1,x2,x3⟩:=hc _ r.o.below
   obtain rfl:=yh A
   go_simp
   exact ⟨_,rfl,r.o.quiet (by decide) (by decide) i.o (yc _ _),KX.refl _ _,rfl⟩
  |11,_=>
   have d:a.tmps[53]?.getD undef=.slice h3.a h3.n h3.c:=hM.Xk l 10 53 (by kernel_rfl) (by kernel_rfl)
   have M:=ya (QV (ad _ r.o.below) a8)
   unfold AF.v at M
   obtain rfl:=yh A
   go_simp
   refine M.o.mono ?_
   rintro e w2 ⟨g,⟨s,m,rfl,J,I⟩|⟨s,rfl⟩⟩
   ·exact ⟨_,rfl,r.o.quiet (by decide) (by decide) i.o g,KX.below g,m,rfl,yo i.o J,I,s⟩
   ·exact R _ _ O.o (fun t ht=>HF.o t (by simp;omega)) (r.o.below.trans (g.mono i.o)) (fun h=>s h.2.2.2)
  |12,_=>
   have x:f.getD (16+0) false=false:=by
    rw[yj];intro Y
    have:=A3 hM.down 8 16 12 (by kernel_rfl) Y
    rw[hM.Xj l] at this;cases this
   have F:=ya x
   clear x
   obtain rfl:=yh A
   go_simp
   exact ⟨_,rfl,r.o.alloc (q:=0) (by decide) i.o N.o K.o F.o _,KX.below ((yc _ _).alloc (ye _) _),_,_,rfl,i.o,World.alloc_heap_new _ _⟩
  |13,_=>
   have x:f.getD (16+1) false=false:=by
    rw[yj];intro Y
    have:=A3 hM.down 8 17 13 (by kernel_rfl) Y
    rw[hM.Xj l] at this;cases this
   have F:=ya x
   clear x
   obtain rfl:=yh A
   go_simp
   exact ⟨_,rfl,r.o.alloc (q:=1) (by decide) i.o N.o K.o F.o _,KX.below ((yc _ _).alloc (ye _) _),_,_,rfl,i.o,World.alloc_heap_new _ _⟩
  |14,_=>
   have x:f.getD (16+2) false=false:=by
    rw[yj];intro Y
    have:=A3 hM.down 8 18 14 (by kernel_rfl) Y
    rw[hM.Xj l] at this;cases this
   have F:=ya x
   clear x
   obtain rfl:=yh A
   go_simp
   exact ⟨_,rfl,r.o.alloc (q:=2) (by decide) i.o N.o K.o F.o _,KX.below ((yc _ _).alloc (ye _) _),_,_,rfl,i.o,World.alloc_heap_new _ _⟩
  |15,_=>
   have x:f.getD (16+3) false=false:=by
    rw[yj];intro Y
    have:=A3 hM.down 8 19 15 (by kernel_rfl) Y
    rw[hM.Xj l] at this;cases this
   have F:=ya x
   clear x
   obtain rfl:=yh A
   go_simp
   exact ⟨_,rfl,r.o.alloc (q:=3) (by decide) i.o N.o K.o F.o _,KX.below ((yc _ _).alloc (ye _) _),_,_,rfl,i.o,World.alloc_heap_new _ _⟩
  |16,_=>
   have hb:JG V.heap.size (a.tmps[4]?.getD undef) w':=hM.Xk l 12 4 (by kernel_rfl) (by kernel_rfl)
   have J:Gm V.heap.size (a.tmps[45]?.getD undef) n0s w':=hM.Xk l 2 45 (by kernel_rfl) (by kernel_rfl)
   obtain ⟨b,z,X,D,g⟩:=hb
   obtain ⟨m,d2,H,C,G⟩:=J
   have E:∀p,p < 4->f.getD (16+p) false=true->f.getD (12+p) false=true:=fun p L k=>by
    match p,L with
    |0,_=>exact A3 hM.down 8 16 12 (by kernel_rfl) k
    |1,_=>exact A3 hM.down 8 17 13 (by kernel_rfl) k
    |2,_=>exact A3 hM.down 8 18 14 (by kernel_rfl) k
    |3,_=>exact A3 hM.down 8 19 15 (by kernel_rfl) k
   have y:=ya (r.o.store (q:=0) (m:=m) (by decide) D g (by rw[yH];exact X) C (hM.Xn l 12 (by kernel_rfl)) E)
   have c1:w'.cell? (aV b 0)=some z:=by simp[World.cell?,g]
   have c2:w'.frozen? (aV b 0)=false:=by simp[World.frozen?,g]
   clear D g H C G E
   obtain rfl:=yh A
   go_simp
   exact ⟨undef,rfl,y.o.1,y.o.2,trivial⟩
  |17,_=>
   have hb:JG V.heap.size (a.tmps[5]?.getD undef) w':=hM.Xk l 13 5 (by kernel_rfl) (by kernel_rfl)
   have J:Gm V.heap.size (a.tmps[48]?.getD undef) n1s w':=hM.Xk l 5 48 (by kernel_rfl) (by kernel_rfl)
   obtain ⟨b,z,X,D,g⟩:=hb
   obtain ⟨m,d2,H,C,G⟩:=J
   have E:∀p,p < 4->f.getD (16+p) false=true->f.getD (12+p) false=true:=fun p L k=>by
    match p,L with
    |0,_=>exact A3 hM.down 8 16 12 (by kernel_rfl) k
    |1,_=>exact A3 hM.down 8 17 13 (by kernel_rfl) k
    |2,_=>exact A3 hM.down 8 18 14 (by kernel_rfl) k
    |3,_=>exact A3 hM.down 8 19 15 (by kernel_rfl) k
   have y:=ya (r.o.store (q:=1) (m:=m) (by decide) D g (by rw[yH];exact X) C (hM.Xn l 13 (by kernel_rfl)) E)
   have c1:w'.cell? (aV b 0)=some z:=by simp[World.cell?,g]
   have c2:w'.frozen? (aV b 0)=false:=by simp[World.frozen?,g]
   clear D g H C G E
   obtain rfl:=yh A
   go_simp
   exact ⟨undef,rfl,y.o.1,y.o.2,trivial⟩
  |18,_=>
   have hb:JG V.heap.size (a.tmps[6]?.getD undef) w':=hM.Xk l 14 6 (by kernel_rfl) (by kernel_rfl)
   have J:Gm V.heap.size (a.tmps[51]?.getD undef) n2s w':=hM.Xk l 8 51 (by kernel_rfl) (by kernel_rfl)
   obtain ⟨b,z,X,D,g⟩:=hb
   obtain ⟨m,d2,H,C,G⟩:=J
   have E:∀p,p < 4->f.getD (16+p) false=true->f.getD (12+p) false=true:=fun p L k=>by
    match p,L with
    |0,_=>exact A3 hM.down 8 16 12 (by kernel_rfl) k
    |1,_=>exact A3 hM.down 8 17 13 (by kernel_rfl) k
    |2,_=>exact A3 hM.down 8 18 14 (by kernel_rfl) k
    |3,_=>exact A3 hM.down 8 19 15 (by kernel_rfl) k
   have y:=ya (r.o.store (q:=2) (m:=m) (by decide) D g (by rw[yH];exact X) C (hM.Xn l 14 (by kernel_rfl)) E)
   have c1:w'.cell? (aV b 0)=some z:=by simp[World.cell?,g]
   have c2:w'.frozen? (aV b 0)=false:=by simp[World.frozen?,g]
   clear D g H C G E
   obtain rfl:=yh A
   go_simp
   exact ⟨undef,rfl,y.o.1,y.o.2,trivial⟩
  |19,_=>
   have hb:JG V.heap.size (a.tmps[7]?.getD undef) w':=hM.Xk l 15 7 (by kernel_rfl) (by kernel_rfl)
   have J:Gm V.heap.size (a.tmps[54]?.getD undef) n3s w':=hM.Xk l 11 54 (by kernel_rfl) (by kernel_rfl)
   obtain ⟨b,z,X,D,g⟩:=hb
   obtain ⟨m,d2,H,C,G⟩:=J
   have E:∀p,p < 4->f.getD (16+p) false=true->f.getD (12+p) false=true:=fun p L k=>by
    match p,L with
    |0,_=>exact A3 hM.down 8 16 12 (by kernel_rfl) k
    |1,_=>exact A3 hM.down 8 17 13 (by kernel_rfl) k
    |2,_=>exact A3 hM.down 8 18 14 (by kernel_rfl) k
    |3,_=>exact A3 hM.down 8 19 15 (by kernel_rfl) k
   have y:=ya (r.o.store (q:=3) (m:=m) (by decide) D g (by rw[yH];exact X) C (hM.Xn l 15 (by kernel_rfl)) E)
   have c1:w'.cell? (aV b 0)=some z:=by simp[World.cell?,g]
   have c2:w'.frozen? (aV b 0)=false:=by simp[World.frozen?,g]
   clear D g H C G E
   obtain rfl:=yh A
   go_simp
   exact ⟨undef,rfl,y.o.1,y.o.2,trivial⟩
 ·intro f a w' u hM
  obtain ⟨bl,l1,l2,l3,l4⟩:=hM.ext.full 0 (by decide) (u 16 (show 16 < 20 by omega))
  obtain ⟨bc,c1,c2,c3,c4⟩:=hM.ext.full 1 (by decide) (u 17 (show 17 < 20 by omega))
  obtain ⟨br,r1,r2,r3,r4⟩:=hM.ext.full 2 (by decide) (u 18 (show 18 < 20 by omega))
  obtain ⟨bf,f1,f2,f3,f4⟩:=hM.ext.full 3 (by decide) (u 19 (show 19 < 20 by omega))
  obtain ⟨_,_,_,_,g0⟩:Gm V.heap.size _ n0s w':=hM.done 2 (u 2 (show 2 < 20 by omega)) _ 45 rfl rfl
  obtain ⟨_,_,_,_,g1⟩:Gm V.heap.size _ n1s w':=hM.done 5 (u 5 (show 5 < 20 by omega)) _ 48 rfl rfl
  obtain ⟨_,_,_,_,g2⟩:Gm V.heap.size _ n2s w':=hM.done 8 (u 8 (show 8 < 20 by omega)) _ 51 rfl rfl
  obtain ⟨_,_,_,_,g3⟩:Gm V.heap.size _ n3s w':=hM.done 11 (u 11 (show 11 < 20 by omega)) _ 54 rfl rfl
  exact a1 a w' bl bc br bf (hM.tmps.trans hz) hM.defers (U hM) l1 c1 r1 f1 l4 c4 r4 f4 ⟨l2,l3⟩ ⟨c2,c3⟩ ⟨r2,r3⟩ ⟨f2,f3⟩ hM.ext.below ⟨g0,g1,g2,g3⟩
end Go.Proofs.Ytghepahgkcigpaa
