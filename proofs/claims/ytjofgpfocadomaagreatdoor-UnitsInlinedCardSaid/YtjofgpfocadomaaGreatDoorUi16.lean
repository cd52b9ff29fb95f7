/- Parts of the proof, in short words: Gx Gy Gz Hg Hh -/
import Derived.Test.YtjofgpfocadomaaGreatDoorUi0
import Derived.Test.YtjofgpfocadomaaGreatDoorUi15
import Derived.Test.YtjofgpfocadomaaGreatDoorUi14
import Derived.Test.YtjofgpfocadomaaGreatDoorUi9
import Derived.Test.YtjofgpfocadomaaGreatDoorUi12
set_option maxHeartbeats 16000000
set_option maxRecDepth 100000
set_option linter.unusedSimpArgs false
namespace Go.Proofs.YtjofgpfocadomaaGreatDoor
open Go.RowKit
set_option linter.unusedSimpArgs false
def Ih(NB:NP)(w:World):List (Array Value)->List ND->Prop
 |[],[]=>True
 |i::is,p::ps=>(∃cs,i=DH p.dim p.there cs∧AG NB w p.x cs)∧Ih NB w is ps
 |[],_::_=>False
 |_::_,[]=>False
section
variable{NB:NP}{w:World}
theorem Ih.append:∀ {a:List (Array Value)} {p:List ND} {b:List (Array Value)} {q:List ND},Ih NB w a p->Ih NB w b q->Ih NB w (a++b) (p++q)
 |[],[],_,_,_,h2=>h2
 |_::_,_::_,_,_,h1,h2=>⟨h1.1,Ih.append h1.2 h2⟩
 |[],_::_,_,_,h1,_=>h1.elim
 |_::_,[],_,_,h1,_=>h1.elim
theorem Ih.one{d:Dm}{a:Bool}{cs:LV}{e:Ex}(h:AG NB w e cs):Ih NB w [DH d a cs] (FO d a [e]):=⟨⟨cs,rfl,h⟩,trivial⟩
theorem Ih.len:∀ {a:List (Array Value)} {p:List ND},Ih NB w a p->a.length=p.length
 |[],[],_=>rfl
 |_::_,_::_,h=>by simp[Ih.len h.2]
 |[],_::_,h=>h.elim
 |_::_,[],h=>h.elim
theorem Ih.get:∀ {a:List (Array Value)} {p:List ND},Ih NB w a p->∀(k:Nat) (h1:k < a.length) (h2:k < p.length),∃cs,a[k]=DH p[k].dim p[k].there cs∧AG NB w p[k].x cs
 |_::_,_::_,h,0,_,_=>h.1
 |_::_,_::_,h,k+1,h1,h2=>by simpa using Ih.get h.2 k (by simpa using h1) (by simpa using h2)
 |[],_::_,h,_,_,_=>h.elim
 |_::_,[],h,_,_,_=>h.elim
theorem Ih.flat{α β:Type}{f:α->List (Array Value)}{g:β->List ND}:∀ {ls:List α} {c:List β},ls.length=c.length->(∀i (h1:i < ls.length) (h2:i < c.length),Ih NB w (f ls[i]) (g c[i]))->Ih NB w (ls.flatMap f) (c.flatMap g)
 |[],[],_,_=>trivial
 |a::ls,b::c,hl,h=>by
  rw[yW,yW]
  exact (h 0 (by simp) (by simp)).append (Ih.flat (by simpa using hl) fun i h1 h2=>h (i+1) (by simpa using h1) (by simpa using h2))
 |[],_::_,hl,_=>by simp at hl
 |_::_,[],hl,_=>by simp at hl
theorem Lk{α β:Type}(f:α->β):∀l:List α,l.map f=l.flatMap fun a=> [f a]
 |[]=>rfl
 |a::l=>by rw[zv,yW,Lk f l];rfl
theorem FD{β γ:Type}:∀(l:List β) (P:Nat->β->γ->Prop),(∀i (hi:i < l.length),∃b,P i l[i] b)->∃bs:List γ,bs.length=l.length∧∀i (h1:i < bs.length) (h2:i < l.length),P i l[i] bs[i]
 |[],_,_=>⟨[],rfl,fun i h1 _=>absurd h1 (by simp)⟩
 |a::l,P,h=>by
  obtain ⟨b,hb⟩:=h 0 (by simp)
  obtain ⟨bs,h1,h2⟩:=FD l (fun i=>P (i+1)) (fun i hi=>h (i+1) (by simpa using hi))
  refine ⟨b::bs,by simp[h1],fun i g1 c=>?_⟩
  cases i with
  |zero=>exact hb
  |succ i=>exact h2 i (by simpa using g1) (by simpa using c)
end
theorem DF{W:World}{b o k:Nat}{cs:LV}(pre c post:LV)(h:W.rangeAt b o cs)(e:cs=pre++(c++post))(f:o+pre.length=k):W.rangeAt b k c:=by
 intro j v d
 have a:j < c.length:=(yA.1 d).1
 have:=h (pre.length+j) v (by rw[e,yU (by omega),zW,zn a];exact d)
 rw[<-f,zR];exact this
theorem TF{w:World}{NB:NP}{Bs:Nat}{L:Bt}{cs:LV}{x:Av}(hs:BH NB w L cs x)(B:w.rangeAt Bs 0 cs)(hg:GU w)(gb:∀b,b < 6->NB b)(bs:NB Bs)
 (S:x.rots=[])(R:x.rights=[])(Q:x.duties=[])(l1:x.crops.length<=100000)(l2:x.reaches.length<=100000)(l3:x.farms.length<=100000):
  ∃(c0 c1 c2:LV) (ccs:List LV) (rcs:List R8) (fcs:List (Bool × LV)),TE NB w Bs L c0 c1 c2 ccs rcs fcs∧Ih NB w (Dt c0 c1 c2 ccs rcs fcs) (Cm x):=by
 obtain ⟨c0,c1,c2,l,J,g1,H⟩:=hs.cells
 have t:=J.is6.len
 have z:=g1.is6.len
 have E:=H.is6.len
 have h:∀(j i:Nat) (v:Value),19+i=j-> [L.lets.v,L.crops.v,L.reaches.v,L.farms.v,L.rots.v,L.rights.v,L.duties.v][i]?=some v->w.cell? (aV Bs j)=some v:=fun j i v hj hv=>by
  have:=DF (k:=19) (.string x.name::(c0++(c1++c2))) [L.lets.v,L.crops.v,L.reaches.v,L.farms.v,L.rots.v,L.rights.v,L.duties.v] [] B (by rw[l];simp) (by simp[t,z,E])
  rw[<-hj];exact this i v hv
 obtain ⟨ccs,I,u⟩:=FD x.crops (fun i d (c:LV)=>∃b o g,L.crops.a=some (aV b o)∧NB b∧w.rangeAt b (o+i*7) (.string g::c)∧AG NB w d.need c) (fun i hi=>by
  obtain ⟨b,o,cs,h1,h2,h3,e,h5,c,rfl,h6⟩:=hs.crops.2.2 i hi
  exact ⟨c,b,o,_,h1,h2,e,h6⟩)
 obtain ⟨rcs,K,A⟩:=FD x.reaches (fun i d (r:R8)=>∃b o g q,L.reaches.a=some (aV b o)∧NB b∧w.rangeAt b (o+i*51) (.string g::(AU q++(r.c0++(r.c1++(r.c2++(r.c3++(r.c4++(r.c5++(r.c6++r.c7)))))))))∧r.s=!BA d.siphon∧
   AG NB w d.delay r.c0∧AG NB w d.cap r.c1∧AG NB w d.bank r.c2∧AG NB w d.siphon r.c3∧AG NB w d.evap0 r.c4∧AG NB w d.evap1 r.c5∧AG NB w d.seep0 r.c6∧AG NB w d.seep1 r.c7) (fun i hi=>by
  obtain ⟨b,o,cs,h1,h2,h3,e,h5,h6,X,k1,k2,k3,T,V,Z,U,rfl,m⟩:=hs.reaches.2.2 i hi
  exact ⟨⟨!BA (x.reaches[i]).siphon,X,k1,k2,k3,T,V,Z,U⟩,b,o,_,_,h1,h2,e,rfl,m⟩)
 obtain ⟨fcs,N,y⟩:=FD x.farms (fun i d (f:Bool × LV)=>∃b o g q n,L.farms.a=some (aV b o)∧NB b∧w.rangeAt b (o+i*12) (.string g::(AU q++(.bool d.river::(f.2++AU n))))∧f.1=!d.river∧AG NB w d.area f.2) (fun i hi=>by
  obtain ⟨b,o,cs,h1,h2,h3,e,h5,h6,h7,c,rfl,m⟩:=hs.farms.2.2 i hi
  exact ⟨(!(x.farms[i]).river,c),b,o,_,_,_,h1,h2,e,rfl,m⟩)
 refine ⟨c0,c1,c2,ccs,rcs,fcs,⟨hg,gb,bs,⟨J.is6,?_⟩,⟨g1.is6,?_⟩,⟨H.is6,?_⟩,?_,?_,?_,?_,?_,?_,⟨?_,?_,?_⟩,⟨by omega,by omega,by omega⟩,⟨by rw[hs.crops.1,I],fun i hi=>?_⟩,⟨by rw[hs.reaches.1,K],fun i hi=>?_⟩,⟨by rw[hs.farms.1,N],fun i hi=>?_⟩⟩,?_⟩
 ·exact DF [.string x.name] c0 (c1++(c2++[L.lets.v,L.crops.v,L.reaches.v,L.farms.v,L.rots.v,L.rights.v,L.duties.v])) B (by rw[l];rfl) (by rfl)
 ·exact DF (.string x.name::c0) c1 (c2++[L.lets.v,L.crops.v,L.reaches.v,L.farms.v,L.rots.v,L.rights.v,L.duties.v]) B (by rw[l];simp) (by simp[t])
 ·exact DF (.string x.name::(c0++c1)) c2 [L.lets.v,L.crops.v,L.reaches.v,L.farms.v,L.rots.v,L.rights.v,L.duties.v] B (by rw[l];simp) (by simp[t,z])
 ·exact h 20 1 _ rfl rfl
 ·exact h 21 2 _ rfl rfl
 ·exact h 22 3 _ rfl rfl
 ·exact h 23 4 _ rfl rfl
 ·exact h 24 5 _ rfl rfl
 ·exact h 25 6 _ rfl rfl
 ·rw[hs.rots.1,S];rfl
 ·rw[hs.rights.1,R];rfl
 ·rw[hs.duties.1,Q];rfl
 ·obtain ⟨b,o,g,h1,h2,h3,e⟩:=u i hi (by omega)
  exact ⟨b,o,g,h1,h2,h3,e.is6⟩
 ·obtain ⟨b,o,g,q,h1,h2,h3,e,F,m1,O,C,M,P,D,G⟩:=A i hi (by omega)
  exact ⟨b,o,g,q,h1,h2,h3,F.is6,m1.is6,O.is6,C.is6,M.is6,P.is6,D.is6,G.is6,_,e,fun W=>Lf C W⟩
 ·obtain ⟨b,o,g,q,n,h1,h2,h3,e,h5⟩:=y i hi (by omega)
  exact ⟨b,o,g,q,_,n,h1,h2,h3,h5.is6,e⟩
 ·have Y:Ih NB w (IU c0 c1 c2) (FO CT true [x.season]++FO AX true [x.cap,x.start]):=⟨⟨_,rfl,J⟩,⟨_,rfl,g1⟩,⟨_,rfl,H⟩,trivial⟩
  have hr:Ih NB w (ccs.map (DH GD true)++(rcs.flatMap D0++fcs.map fun p=>DH GC p.1 p.2)) (x.crops.flatMap TB++(x.reaches.flatMap Ni++x.farms.flatMap Q3)):=by
   rw[Lk (DH GD true),Lk (fun p:Bool × LV=>DH GC p.1 p.2)]
   refine (Ih.flat (by omega) fun i h1 h2=>?_).append ((Ih.flat (by omega) fun i h1 h2=>?_).append (Ih.flat (by omega) fun i h1 h2=>?_))
   ·obtain ⟨b,o,g, -, -, -,e⟩:=u i h1 h2
    exact Ih.one e
   ·obtain ⟨b,o,g,q, -, -, -,e,F,m1,O,C,M,P,D,G⟩:=A i h1 h2
    unfold D0 Ni
    rw[e]
    exact (Ih.one F).append ((Ih.one m1).append ((show Ih _ _ [_,_,_] (FO AX true [_,_,_]) from ⟨⟨_,rfl,O⟩,⟨_,rfl,M⟩,⟨_,rfl,P⟩,trivial⟩).append ((Ih.one C).append (show Ih _ _ [_,_] (FO On true [_,_]) from ⟨⟨_,rfl,D⟩,⟨_,rfl,G⟩,trivial⟩))))
   ·obtain ⟨b,o,g,q,n, -, -, -,e,h5⟩:=y i h1 h2
    unfold Q3
    rw[e]
    exact Ih.one h5
  have:=Y.append hr
  unfold Dt Cm
  rw[S,R,Q]
  simpa only[zt,yV,yL] using this
end Go.Proofs.YtjofgpfocadomaaGreatDoor
namespace Go.Proofs.YtjofgpfocadomaaGreatDoor
open Go.RowKit
attribute [local go_sem] Oper.semAt_some
set_option linter.unusedSimpArgs false
theorem MH{F:Fence}{n:Nat}{P:Program}{x y:Code}{Q:QT}{a:Act}{w:World}(h:∀K:Act->World->Prop,Hid (∀a w,Code.wpIn F n P y Q a w->K a w)->Code.wpIn F n P x (Exit.then K Q) a w):Code.wpIn F n P (x.seq y) Q a w:=wpIn_seq (h _ (yb fun _ _ h=>h))
theorem Q7{w W:World}{x:Av}{cs:LV}{L:Bt}{N:NP}(h:BH N w L cs x):Calls Tryz.prog 36 #[.agg cs.toArray] W fun e w'=>e=.returned (.func (.func 74) #[] #[.pointer (some ⟨W.heap.size,0,none⟩)])∧w'=W.alloc (.cells cs.toArray 35):=by
 have f:∀(fn:Fn) (first cap:Array Value) (w:World),(Instr.makeFunc fn first cap).run Tryz.prog w=.ok (.func fn first cap) w:=fun _ _ _ _=>rfl
 obtain ⟨c0,c1,c2,rfl,b,g1,a⟩:=h.cells
 obtain ⟨j,k,rfl,c⟩:=b.cells
 obtain ⟨a1,i,rfl,g⟩:=g1.cells
 obtain ⟨l,m,rfl,d⟩:=a.cells
 clear h b g1 a c g d
 unfold Au.v
 simp only[yP,yS]
 go_enter Tryz.func36,Tryz.ntmps36
 go_wp2
 first
 |exact ⟨rfl,rfl⟩
 |(go_ret;exact ⟨rfl,rfl⟩)
theorem Q8(n:Nat)(m:1<=n){Bs:Nat}{L:Bt}{NB:NP}{d:World}{c0 c1 c2:LV}{ccs:List LV}{rcs:List R8}{fcs:List (Bool × LV)}(p:TE NB d Bs L c0 c1 c2 ccs rcs fcs):
  U5 Fence.wide n Tryz.prog 74 #[.pointer (some ⟨Bs,0,none⟩)] (Vv NB d) (Dt c0 c1 c2 ccs rcs fcs) none:=by
 intro l J Jx Jp W k f j c b g a h0
 refine z6.2 ((OT n m l Bs L NB d c0 c1 c2 ccs rcs fcs p J Jx Jp W ⟨k,f,a⟩ c b h0).mono ?_)
 rintro e w' (⟨i,h⟩|⟨o,h1,h2⟩)
 ·exact .inl ⟨i,h.imp (fun h=>⟨rfl,h⟩) id⟩
 ·exact .inr ⟨o,h1,h2⟩
structure Ll (Q:Exit->Act->World->Prop) (w:World) (c:Int):Prop where
 early:∀(B2:Nat) tm W,tm.getD 2 undef=.pointer (some ⟨B2,0,none⟩)->W.cell? ⟨B2,0,none⟩=some (.int .i64 c)->Below w.heap.size w W->Q .ret {tmps:=tm,defers:=[]} W
 done:∀(B2 D:Nat) tm W,tm.getD 2 undef=.pointer (some ⟨B2,0,none⟩)->W.cell? ⟨B2,0,none⟩=some (.int .i64 c)->Below w.heap.size w W->w.heap.size<=D->D≠B2->W.heap[D]?=some (.deferred (some []))->Q .ret {tmps:=tm,defers:=[Jd D]} W
theorem S5(w:World)(c:Int):Ll (bodyPostM Fence.wide 10 Tryz.prog Tryz.f24 (fun e w'=>e=.returned (.int .i64 c)∧Below w.heap.size w w')) w c:=by
 have a:∀(B2:Nat) (tm:Array Value) (W:World),tm.getD 2 undef=pV B2 0->W.cell? (aV B2 0)=some (iV c)->(results Tryz.f24 tm).run Tryz.prog W=.ok (iV c) W:=fun B2 tm W h d=>FN rfl h (Eu Tryz.underlying40 rfl d)
 refine ⟨fun B2 tm W h2 d hb=>⟨_,a B2 tm W h2 d,rfl,hb⟩,fun B2 D tm W h2 d hb g f hd=>?_⟩
 refine ⟨by simp,.inl ⟨D,_,rfl,run_takeDeferred hd,⟨_,a B2 tm _ h2 ?_,rfl,hb.trans ⟨rfl,rfl,rfl,by simp,fun b hb=>World.putObj_heap_other (by omega)⟩⟩⟩⟩
 unfold World.cell? at d ⊢
 rw[World.putObj_heap_other (fun e=>f e.symm)]
 exact d
structure Vw (V5:World) (B2:Nat) (c:Int) (U:World):Prop where
 os:U.os=V5.os
 tape:U.tape=V5.tape
 output:U.output=V5.output
 size:V5.heap.size<=U.heap.size
 block:∀b,b < V5.heap.size->b≠B2->U.heap[b]?=V5.heap[b]?
 cell:U.heap[B2]?=some (.cells #[.int .i64 c] 40 (0,0))
theorem Vw.of{d U:World}{B2:Nat}{c c0:Int}(hb:Below d.heap.size d U)(h2:d.heap[B2]?=some (.cells #[.int .i64 c0] 40 (0,0))):Vw d B2 c (U.setCell ⟨B2,0,none⟩ (.int .i64 c)):=by
 have a:B2 < d.heap.size:=(yd.1 h2).1
 refine ⟨hb.os,hb.tape,hb.output,by simpa using hb.size,fun b a e=>(Ad _ _ e).trans (hb.block b a),?_⟩
 have h:=AZ (v:=iV c) ((hb.block _ a).trans h2)
 exact h
theorem S6{V n:World}{B2:Nat}{c:Int}{p:Prop}(s:n.heap.size=V.heap.size+1)(d:B2 < V.heap.size):Ca (fun (_:Unit) (O:NP) U=>p∧(∀b,O b->V.heap.size < b)∧Vw n B2 c U):=by
 intro k O W t W' q o f l e a g
 obtain ⟨r,i,h⟩:=q
 have hs:=h.size
 refine ⟨r,fun b hb=>(g b hb).elim (i b) (fun h=>by omega),f.trans h.os,l.trans h.tape,e.trans h.output,by omega,fun b d j=>(a b (fun m=>?_) (by omega)).trans (h.block b d j),(a B2 (fun m=>?_) (by omega)).trans h.cell⟩
 ·have:=i b m;omega
 ·have:=i B2 m;omega
theorem R6{W:World}{b:Nat}{t:TypeId}{fr:Nat × Nat}{f c j g i k l a e d:Value}(h:W.heap[b]?=some (.cells #[f,c,j,g,i,k,l,a,e,d] t fr)):W.cell? ⟨b,0,none⟩=some f∧W.cell? ⟨b,1,none⟩=some c∧W.cell? ⟨b,2,none⟩=some j∧W.cell? ⟨b,3,none⟩=some g∧W.cell? ⟨b,4,none⟩=some i∧W.cell? ⟨b,5,none⟩=some k∧W.cell? ⟨b,6,none⟩=some l∧W.cell? ⟨b,7,none⟩=some a∧W.cell? ⟨b,8,none⟩=some e∧W.cell? ⟨b,9,none⟩=some d:=by
 simp[World.cell?,h]
def Lm(x:Av)(k:Nat):Prop:=∀j (h:j < (Cm x).length),j < k->Jn (Ak [] (Am x)) (Cm x)[j]=true
theorem Q9{x:Av}(a:Bh x=0)(b:(Ak [] (Am x)).all (fun k=>k.ok)=true)(h:(Cm x).all (Jn (Ak [] (Am x)))=false):Ew x=180:=by
 unfold Ew;rw[yw a,yw b,h];rfl
theorem OU{x:Av}(c:Bh x=0)(d:(Ak [] (Am x)).all (fun k=>k.ok)=true)(h:Lm x (Cm x).length):Ew x=0:=by
 have:(Cm x).all (Jn (Ak [] (Am x)))=true:=yR.2 fun p b=>by
  obtain ⟨j,a,rfl⟩:=zh.1 b
  exact h j a a
 unfold Ew;rw[yw c,yw d,this];rfl
theorem Qa{x:Av}{k:Nat}{p:ND}(h:Lm x k)(b:(Cm x)[k]?=some p)(e:Jn (Ak [] (Am x)) p=true):Lm x (k+1):=by
 intro j c d
 rcases zU j k with a|a
 ·exact h j c a
 ·obtain rfl:j=k:=by omega
  rw[yk c] at b
  rw[yi b];exact e
theorem UD{x:Av}{k:Nat}{p:ND}(a:(Cm x)[k]?=some p)(b:Jn (Ak [] (Am x)) p=false):(Cm x).all (Jn (Ak [] (Am x)))=false:=by
 rw[xq]
 exact ⟨p,zX a,by simp[b]⟩
theorem TG{Q:QT}{w V:World}{x:Av}{cs:LV}{B2 B3:Nat}{kh:Au}(hQ:Ll Q w (Ew x))(hS:DT w cs x)
 (e1:x.rots=[])(e2:x.rights=[])(e3:x.duties=[])(l1:x.crops.length<=100000)(l2:x.reaches.length<=100000)(l3:x.farms.length<=100000)(hc:Bh x=0)(hk:(Ak [] (Am x)).all (fun k=>k.ok)=true)
 (hb:Below w.heap.size w V)(db:V.rangeAt w.heap.size 0 cs)(hB:w.heap.size < B2∧B2 < B3∧B3 < V.heap.size)
 (h2:V.heap[B2]?=some (.cells #[.int .i64 0] 40 (0,0)))(h3:V.heap[B3]?=some (.cells #[kh.v] 95 (0,0)))(bd:Ph V kh (Ak [] (Am x)))
 (u0 u4 u5 u6 u7 u8 u9 b0 bh bx bn cy d7 az bz d3 ck ce dc ax cm bp d4 dn dv dw d8 bg b7 ay cp cc ct cz b5 d6 bt cf bk b9 bu cd ba c9 b4 cq bj aq co:Value):
  FE 24 Tryz.prog (H4 4 (Tryz.f24.body.getD .skip)) Q {tmps:=#[u0,.pointer (some ⟨w.heap.size,0,none⟩),.pointer (some ⟨B2,0,none⟩),.pointer (some ⟨B3,0,none⟩),u4,u5,u6,u7,u8,u9,b0,bh,bx,bn,cy,d7,az,bz,d3,ck,ce,dc,ax,cm,bp,d4,dn,dv,dw,d8,bg,b7,ay,cp,cc,ct,cz,b5,d6,bt,cf,bk,b9,bu,cd,ba,c9,b4,cq,bj,aq,co],defers:=[]} V:=by
 obtain ⟨s,a7⟩:∃s,s=V.alloc (.cells cs.toArray 35):=⟨_,rfl⟩
 have I:Below V.heap.size V s:=by rw[a7];exact (yg _ _).alloc (yf _) _
 have bi:s.heap.size=V.heap.size+1:=by rw[a7];simp
 have ae:=hb.size
 obtain ⟨NB,a2⟩:∃NB:NP,NB=fun b=>b < w.heap.size∨b=V.heap.size:=⟨_,rfl⟩
 have af:∀b,NB b->b < s.heap.size∧b≠B2∧b≠B3:=fun b hb=>by rw[a2] at hb;rcases hb with hb|hb<;>omega
 obtain ⟨L,hv⟩:=hS.v
 have be:BH NB s L cs x:=hv.same (fun b h=>by rw[a2];exact .inl h) (fun b h=>(I.block b (by omega)).trans (hb.block b h))
 have Z:=hv
 have B:Below w.heap.size w s:=hb.trans (I.mono ae)
 obtain ⟨d0,d1,d2,ccs,rcs,fcs,cx,bw⟩:=TF (Bs:=V.heap.size) be (by rw[a7];exact AD (World.alloc_heap_new V (.cells cs.toArray 35))) (hS.gu.up B) (fun b e5=>by rw[a2];have:=hS.gu.size;exact .inl (by omega)) (by rw[a2];exact .inr rfl) e1 e2 e3 l1 l2 l3
 have d5:s.heap[B2]?=some (.cells jg 40 (0,0)):=(I.block _ (by omega)).trans h2
 have au:s.heap[B3]?=some (.cells #[kh.v] 95 (0,0)):=(I.block _ (by omega)).trans h3
 have bv:∀(U:World) (e:Ex) (c:LV),Below s.heap.size s U->AG NB s e c->Calls Tryz.prog 38 #[kh.v,.agg c.toArray,iV 8] U (Oy (DY (Ak [] (Am x)) 8 e) U):=fun U e c hU he=>
  OO x (hS.gu.up (B.trans (hU.mono B.size))) (bd.up (I.trans (hU.mono I.size))) (he.same (fun b h=>yv (af b h).1 hU.size) (fun b h=>hU.block b (af b h).1))
 have dq:=yb (Q7 (W:=V) Z)
 have dp:Hid ((Tryz.prog.info? 35).map (·.size)=some cs.length):=yb (Le Z)
 have dy:=yb cx;have R:=yb bw;have dr:=yb bv;have df:=yb db;have dx:=yb a7;have q:=yb bi
 have ak:=yb d5;have di:=yb au;have HQ:=yb hQ;have HB:=yb hB;have ah:=yb af;have HC:=yb (And.intro hc hk);have A:=yb B
 have ai:Hid (w.heap.size<=V.heap.size):=yb ae
 clear cx bw bv db a7 bi d5 au hQ hB af hc hk B ae be Z hv hb I h2 h3 bd hS e1 e2 e3 l1 l2 l3 a2
 refine A9 (A9 (A4 ?_))
 go_wp2_with (first
  |(with_reducible refine yj rfl 35 _ rfl w.heap.size 0 rfl cs _ df.o qV rfl dp.o ?_)
  |(go_at_call 36;with_reducible refine dq.o.mono ?_;rintro e w2 ⟨rfl,rfl⟩))
 rw[<-dx.o]
 refine D7 ?_
 obtain ⟨Ap,ch⟩:∃Ap:Nat->Act->NP->World->Prop,Ap=fun k a O U=>∃(vo vn vu:Int) (m:ByteArray) (r:Int) (vp:Option Addr) (vm vk:Nat) (Y:Bool) (H F M:Int) (g:Nat) (p:ND),(Cm x)[k]?=some p∧AG NB s p.x [iV vo,iV vn,iV vu,.string m,iV r,.slice vp vm vk]∧p.there=Y∧p.dim=⟨H,F,M⟩∧¬ O g∧V.heap.size < g∧g < U.heap.size∧U.heap[g]?=some (.cells #[iV vo,iV vn,iV vu,.string m,iV r,.slice vp vm vk,.bool Y,iV H,iV F,iV M] 103 (0,0))∧a={tmps:=#[u0,pV w.heap.size 0,pV B2 0,pV B3 0,u4,u5,pV g 0,u7,u8,u9,b0,bh,bx,bn,cy,d7,az,bz,d3,ck,ce,dc,ax,cm,bp,d4,.agg cs.toArray,.func (.func 74) #[] #[pV V.heap.size 0],.agg #[iV vo,iV vn,iV vu,.string m,iV r,.slice vp vm vk,.bool Y,iV H,iV F,iV M],d8,bg,b7,ay,cp,cc,ct,cz,b5,d6,bt,cf,bk,b9,bu,cd,ba,c9,b4,cq,bj,aq,co],defers:=[]}:=⟨_,rfl⟩
 have an:=yb ch
 clear ch
 refine CC (n:=10) Tryz.func24 rfl (fun _ _=>rfl) (Q8 9 (by omega) dy.o) (fun a ha=>by
   obtain ⟨k,hk,rfl⟩:=zh.1 ha
   obtain ⟨c,h, -⟩:=R.o.get k hk (by rw[<-R.o.len];exact hk)
   rw[h];rfl)
  (LJ V.heap.size s (Lm x)) (fun c O U=>(c=.ret∧(Cm x).all (Jn (Ak [] (Am x)))=false)∧(∀b,O b->V.heap.size < b)∧Vw s B2 180 U) (fun _ _ _=>False)
  (fun k a O U=>LJ V.heap.size s (Lm x) k O U∧Ap k a O U)
  (LJ.stays q.o) (fun c=>S6 q.o (by have:=HB.o;omega)) (fun _ _ _ _ _ _ h=>h.elim) ?_ ?_ ?_ (fun _ h=>by cases h) ⟨fun _ h=>h.elim,by rw[<-q.o];exact yg _ _,fun j _ hj=>absurd hj (by omega)⟩ ?_ ?_ ?_ ?_ (fun _ _ _ _ _ _ h=>h.elim)
 ·rintro a k O W O' W' ⟨h1,hA⟩ hz ho ht hu J P
  rw[an.o] at hA ⊢
  obtain ⟨vo,vn,vu,m,r,vp,vm,vk,Y,H,F,M,g,p,g1,g2,g3,g4,g5,g6,g7,g8,g9⟩:=hA
  exact ⟨LJ.stays q.o k O W O' W' h1 hz ho ht hu J P,vo,vn,vu,m,r,vp,vm,vk,Y,H,F,M,g,p,g1,g2,g3,g4,fun h=>(P g h).elim g5 (fun h=>by omega),g6,by omega,(J g g5 g7).trans g8,g9⟩
 ·rintro k O U ⟨-,hb, -⟩ b hN
  exact hb.block b (by rw[<-q.o];exact (ah.o b hN).1)
 ·rintro c O U ⟨-, -,h⟩ b hN
  exact h.block b (ah.o b hN).1 (ah.o b hN).2.1
 ·intro k hk O U lo hJ P hl T
  obtain ⟨c,hc,z⟩:=R.o.get k hk (by rw[<-R.o.len];exact hk)
  have J:k < (Cm x).length:=by rw[<-R.o.len];exact hk
  have am:(Cm x)[k]?=some ((Cm x)[k]'J):=yk J
  rw[hc]
  generalize (Cm x)[k]'J=p at am z ⊢
  obtain ⟨px,Y,H,F,M⟩:=p
  obtain ⟨vo,vn,vu,m,r,vp,vm,vk,rfl⟩:=z.is6
  have HJ:=yb hJ;have c8:=yb T;have dt:=yb am;have dk:=yb z
  clear hJ P hl T hk hc am z J
  unfold DH Dm.row
  simp only[yP,yS]
  gi_wp2
  have dg:AL O U (U.alloc (.cells #[iV vo,iV vn,iV vu,.string m,iV r,.slice vp vm vk,.bool Y,iV H,iV F,iV M] 103)):=⟨by simp,fun b hb=>yD _ _ _ (c8.o b hb)⟩
  have bq:LJ V.heap.size s (Lm x) k O (U.alloc (.cells #[iV vo,iV vn,iV vu,.string m,iV r,.slice vp vm vk,.bool Y,iV H,iV F,iV M] 103)):=⟨HJ.o.1,HJ.o.2.1.alloc (by have:=HJ.o.2.1.size;have:=q.o;omega) _,HJ.o.2.2⟩
  have cl:¬ O U.heap.size:=fun h=>qC _ (c8.o _ h)
  have cn:V.heap.size < U.heap.size:=by have:=HJ.o.2.1.size;have:=q.o;omega
  refine ⟨dg,bq,?_⟩
  rw[an.o]
  exact ⟨vo,vn,vu,m,r,vp,vm,vk,Y,H,F,M,U.heap.size,_,dt.o,dk.o,rfl,rfl,cl,cn,by simp,World.alloc_heap_new _ _,rfl⟩
 ·rintro k hk O U lo a1 hl cv T ⟨⟨P,l,u⟩,hA⟩
  rw[an.o] at hA
  obtain ⟨vo,vn,vu,m,r,vp,vm,vk,Y,H,F,M,g,p,hp,z,aw,av,du,dz,b8,X,rfl⟩:=hA
  have ac:=HB.o
  have hz:=q.o
  have dj:=l.size
  have y:U.heap[B2]?=some (.cells jg 40 (0,0)):=(l.block _ (by omega)).trans ak.o
  have cu:U.heap[B3]?=some (.cells #[kh.v] 95 (0,0)):=(l.block _ (by omega)).trans di.o
  have i:Hid (Jn (Ak [] (Am x)) p=true->∀U',Below U.heap.size U U'->AL O U U'∧LJ V.heap.size s (Lm x) (k+1) O U'):=yb (fun ho U' C=>⟨⟨C.size,fun b hb=>C.block b (T b hb)⟩,P,l.trans (C.mono (by omega)),Qa u hp ho⟩)
  have d:Hid (Jn (Ak [] (Am x)) p=false->∀U',Below U.heap.size U U'->AL O U (U'.setCell (aV B2 0) (iV 180))∧((Cm x).all (Jn (Ak [] (Am x)))=false∧(∀b,O b->V.heap.size < b)∧Vw s B2 180 (U'.setCell (aV B2 0) (iV 180)))):=yb (fun ho U' C=>⟨⟨by simpa using C.size,fun b hb=>(Ad _ _ (by have:=P b hb;omega)).trans (C.block b (T b hb))⟩,UD hp ho,P,Vw.of ((by rw[hz];exact l:Below s.heap.size s U).trans (C.mono (by omega))) ak.o⟩)
  have ab:=yb (Lf z U)
  have t:=yb (dr.o U p.x _ (by rw[hz];exact l) z)
  have dd:Jn (Ak [] (Am x)) p=if Y=true then (DY (Ak [] (Am x)) 8 p.x).2&&decide ((DY (Ak [] (Am x)) 8 p.x).1.dim=(⟨H,F,M⟩:Dm)) else BA p.x:=by unfold Jn;rw[aw,av]
  rw[dd] at i d
  have c2:U.cell? (aV B2 0)=some (iV 0):=by simp[World.cell?,y]
  have f2:U.frozen? (aV B2 0)=false:=by simp[World.frozen?,y]
  have c3:U.cell? (aV B3 0)=some kh.v:=by simp[World.cell?,cu]
  have d9:=yb y
  have de:=yb X
  have ap:Hid (g < U.heap.size∧B2 < U.heap.size):=yb ⟨b8,by omega⟩
  obtain ⟨x0,x1,x2,x3,x4,x5,x6,x7,x8,x9⟩:=R6 X
  generalize DY (Ak [] (Am x)) 8 p.x=qq at i d t
  generalize BA p.x=le at i d ab
  clear dd aw av z hp du dz b8 X y cu dj hz ac P l u hl cv T
  unfold Au.v at c3 t
  refine wpIn_block ?_
  cases Y with
  |false=>
   simp only[qd,Bool.false_eq_true] at i d
   clear t
   cases le with
   |true=>
    gi_wp2_with fail
    refine ⟨trivial,zm (CallsIn.inRound lo (z6.2 ab.o)) ?_⟩
    rintro e w3 ⟨rfl,E⟩
    have f:=i.o trivial w3 E
    clear i d
    gi_wp2_with fail
    exact f
   |false=>
    gi_wp2_with fail
    refine ⟨trivial,zm (CallsIn.inRound lo (z6.2 ab.o)) ?_⟩
    rintro e w3 ⟨rfl,E⟩
    have f:=d.o trivial w3 E
    have cr:=(E.block _ ap.o.2).trans d9.o
    have e7:w3.cell? (aV B2 0)=some (iV 0):=by simp[World.cell?,cr]
    have e8:w3.frozen? (aV B2 0)=false:=by simp[World.frozen?,cr]
    clear i d
    gi_wp2_with fail
    exact ⟨f.1,⟨rfl,f.2.1⟩,f.2.2⟩
  |true=>
   simp only[zD] at i d
   clear ab
   obtain ⟨⟨⟨ql,qh,qa⟩,⟨bo,cj⟩,er⟩,ok⟩:=qq
   unfold Oy Qn.val at t
   dsimp only at t i d
   refine MH fun K hK=>?_
   gi_wp2_with fail
   refine hK.o _ _ ?_
   clear hK K
   refine MH fun K hK=>?_
   gi_wp2_with fail
   refine ⟨trivial,zm (CallsIn.inRound lo (z6.2 t.o)) ?_⟩
   rintro e w3 ⟨rfl,E⟩
   have cw:=yb E
   clear E c2 f2 c3 x0 x1 x2 x3 x4 x5 x6 x7 x8 x9
   gi_wp2_with fail
   refine hK.o _ _ ?_
   clear hK K
   have a6:=cw.o.alloc cw.o.size (.cells #[iV ql,iV qh,iV qa,iV bo,iV cj,iV er] 70)
   have aa:=World.alloc_heap_new w3 (.cells #[iV ql,iV qh,iV qa,iV bo,iV cj,iV er] 70)
   generalize hG:w3.heap.size=G at aa ⊢
   clear hG
   generalize w3.alloc _=w4 at a6 aa ⊢
   have ao:=(a6.block _ ap.o.2).trans d9.o
   have X:=(a6.block _ ap.o.1).trans de.o
   have e4:w4.cell? (aV B2 0)=some (iV 0):=by simp[World.cell?,ao]
   have e9:w4.frozen? (aV B2 0)=false:=by simp[World.frozen?,ao]
   obtain ⟨x0,x1,x2,x3,x4,x5,x6,x7,x8,x9⟩:=R6 X
   obtain ⟨q0,q1,q2,q3,q4,q5⟩:=Ce aa
   have aj:=yb a6
   clear a6 X aa ao x0 x1 x2 x3 x4 x5 x6 q3 q4 q5
   have hq:=Ov ql qh qa H F M
   have e6:Tryz.prog.eqGuardType Tryz.prog.depth 68=false:=by kernel_rfl
   have ci:decide ((⟨ql,qh,qa⟩:Dm)=⟨H,F,M⟩)=(decide (ql=H)&&(decide (qh=F)&&decide (qa=M))):=by
    rw[xA];simp
   rw[ci] at i d
   generalize (decide (ql=H)&&(decide (qh=F)&&decide (qa=M)))=bb at i d hq
   clear ci
   cases ok with
   |false=>
    have f:=d.o rfl w4 aj.o
    clear i d
    gi_wp2_with fail
    exact ⟨f.1,⟨rfl,f.2.1⟩,f.2.2⟩
   |true=>
    cases bb with
    |true=>
     have f:=i.o rfl w4 aj.o
     clear i d
     gi_wp2_with fail
     exact f
    |false=>
     have f:=d.o rfl w4 aj.o
     clear i d
     gi_wp2_with fail
     exact ⟨f.1,⟨rfl,f.2.1⟩,f.2.2⟩
 ·rintro - D O U hD ad ⟨P,l,u⟩ a0
  rw[R.o.len] at u
  have a8:=OU HC.o.1 HC.o.2 u
  have hz:=q.o
  have ac:=HB.o
  have ar:=P D ad
  have y:U.heap[B2]?=some (.cells jg 40 (0,0)):=(l.block _ (by omega)).trans ak.o
  have ea:=yb a0
  have e0:=yb l
  have dm:Hid (Ll Q w 0):=yb (by rw[<-a8];exact HQ.o)
  have ag:=AZ (v:=iV 0) y
  have cg:=yb ag
  have c2:U.cell? (aV B2 0)=some (iV 0):=by simp[World.cell?,y]
  have f2:U.frozen? (aV B2 0)=false:=by simp[World.frozen?,y]
  have N:Hid (Below w.heap.size w (U.setCell (aV B2 0) (iV 0))∧(U.setCell (aV B2 0) (iV 0)).heap[D]?=some (.deferred (some []))∧w.heap.size<=D∧D≠B2):=yb (by
   refine ⟨?_,(Ad _ _ (by omega)).trans a0,by have:=ai.o;omega,by omega⟩
   have h1:Below w.heap.size w U:=A.o.trans (l.mono (by have:=ai.o;omega))
   exact h1.trans ⟨rfl,rfl,rfl,by simp,fun b hb=>Ad _ _ (by omega)⟩)
  clear ag a0 l u a8 hz ac ar y P hD ad
  refine A9 (A4 ?_)
  go_wp2_with fail
  refine A4 ?_
  go_wp2_with fail
  exact dm.o.done B2 D _ _ rfl (by simp[World.cell?,cg.o]) N.o.1 N.o.2.2.1 N.o.2.2.2 N.o.2.1
 ·rintro D c O U hD ad ⟨⟨rfl,bm⟩,P,S⟩ a0
  have a8:=Q9 HC.o.1 HC.o.2 bm
  have ac:=HB.o
  have ar:=P D ad
  have ae:=ai.o
  have hz:=q.o
  have hQ:=HQ.o
  rw[a8] at hQ
  refine (qc (n:=10)).2 ?_
  go_wp2
  refine hQ.done B2 D _ _ rfl (by simp[World.cell?,S.cell]) ⟨S.os.trans A.o.os,S.tape.trans A.o.tape,S.output.trans A.o.output,by have:=S.size;omega,fun b hb=>(S.block b (by omega) (by omega)).trans (A.o.block b hb)⟩ (by omega) (by omega) a0
end Go.Proofs.YtjofgpfocadomaaGreatDoor
namespace Go.Proofs.YtjofgpfocadomaaGreatDoor
open Go.RowKit
attribute [local go_sem] Oper.semAt_some
set_option linter.unusedSimpArgs false
theorem Nj{x:Av}(a:¬ Bh x=0):Ew x=Bh x:=by unfold Ew;rw[yt a]
theorem Nk{x:Av}(a:Bh x=0){k:Kn}(b:k∈Ak [] (Am x))(c:k.ok=false):Ew x=180:=by
 have:¬ (Ak [] (Am x)).all (fun k=>k.ok)=true:=fun h=>by
  have:=yR.1 h k b
  rw[c] at this;cases this
 unfold Ew;rw[yw a,yt this]
theorem Ln{w:World}{x:Av}{cs:LV}(hS:DT w cs x)(e1:x.rots=[])(e2:x.rights=[])(e3:x.duties=[])(l1:x.crops.length<=100000)(l2:x.reaches.length<=100000)(l3:x.farms.length<=100000):
  Calls Tryz.prog 24 #[.agg cs.toArray] w fun e w'=>e=.returned (.int .i64 (Ew x))∧Below w.heap.size w w':=by
 have HS:=yb hS
 have HE:=yb (And.intro e1 (And.intro e2 (And.intro e3 (And.intro l1 (And.intro l2 l3)))))
 obtain ⟨L,ah⟩:=hS.v
 have O:Hid ((Tryz.prog.info? 35).map (·.size)=some cs.length):=yb (Le ah)
 obtain ⟨W,hW⟩:∃W,W=(w.alloc (.cells cs.toArray 35)).alloc (.cells jg 40):=⟨_,rfl⟩
 have Z:Below w.heap.size w W:=by rw[hW];exact ((yg _ _).alloc (yf _) _).alloc (by simp) _
 have ap:W.heap.size=w.heap.size+2:=by rw[hW];simp
 have aw:W.heap[w.heap.size+1]?=some (.cells jg 40 (0,0)):=by
  rw[hW]
  have:=World.alloc_heap_new (w.alloc (.cells cs.toArray 35)) (.cells jg 40)
  rwa [z8] at this
 have ay:W.rangeAt w.heap.size 0 cs:=by
  rw[hW]
  exact AD ((yD _ _ _ (by simp)).trans (World.alloc_heap_new w (.cells cs.toArray 35)))
 have p:=yb ((hS.up Z).check)
 have A:=yb Z;have J:=yb ap;have a7:=yb aw;have u:=yb ay;have HW:=yb hW
 clear hS e1 e2 e3 l1 l2 l3 Z ap aw ay hW
 obtain ⟨ks,ad⟩:∃ks,ks=cs:=⟨_,rfl⟩
 rw[<-ad] at HS O p u
 have HK:=yb ad
 obtain ⟨c0,c1,c2,rfl,g0,g1,g2⟩:=ah.cells
 obtain ⟨a0,p0,rfl,e0⟩:=g0.cells
 obtain ⟨a1,p1,rfl,e1⟩:=g1.cells
 obtain ⟨a2,p2,rfl,e2⟩:=g2.cells
 clear ah g0 g1 g2 e0 e1 e2 ad
 unfold Au.v at*
 simp only[yP,yS] at HW HK ⊢
 refine Ba (n:=10) Tryz.func24 rfl ?_
 have hQ:=S5 w (Ew x)
 generalize bodyPostM Fence.wide 10 Tryz.prog Tryz.f24 _=Q at hQ ⊢
 have HQ:=yb hQ
 clear hQ
 simp only[Tryz.ntmps24,yq,yx,yH,Nat.reduceAdd,Nat.reduceSub,zy,zA,zQ,zJ,yS,yP]
 refine A9 (A4 ?_)
 go_wp2
 rw[<-HW.o]
 clear HW HK
 have bd:Bh x=0∨¬ Bh x=0:=Decidable.em _
 rcases bd with hc|hc
 rotate_left
 ·have M:Hid (Ll Q w (Bh x)):=yb (by rw[<-Nj hc];exact HQ.o)
  generalize Bh x=ck at p M hc
  have e1:(ck !=0)=true:=by simpa using hc
  clear HQ
  refine A9 (A4 ?_)
  go_upto_region 2 with (first
   |(with_reducible refine yj rfl 35 _ rfl w.heap.size 0 rfl ks _ u.o qV rfl O.o ?_)
   |(go_at_call 17;(with_reducible refine p.o.mono ?_);rintro e w2 ⟨rfl,f⟩;have E:=yb f;have c:w2.heap[w.heap.size+1]?=some (.cells jg 40 (0,0)):=(f.block _ (by have:=J.o;omega)).trans a7.o;have N:=yb c;have c2:w2.cell? (aV (w.heap.size+1) 0)=some (iV 0):=(by simp[World.cell?,c]);have f2:w2.frozen? (aV (w.heap.size+1) 0)=false:=(by simp[World.frozen?,c]);clear f c))
  have a:=AZ (v:=iV ck) N.o
  have C:Below w.heap.size w (w2.setCell (aV (w.heap.size+1) 0) (iV ck)):=(A.o.trans (E.o.mono A.o.size)).trans ⟨rfl,rfl,rfl,by simp,fun b hb=>Ad _ _ (by omega)⟩
  have d:=yb C
  clear C c2 f2
  generalize w2.setCell _ _=w3 at a d ⊢
  have B:=yb a
  have c3:w3.cell? (aV (w.heap.size+1) 0)=some (iV ck):=by simp[World.cell?,a]
  have f3:w3.frozen? (aV (w.heap.size+1) 0)=false:=by simp[World.frozen?,a]
  clear a
  go_wp2_with fail
  have ba:=AZ (v:=iV ck) B.o
  exact M.o.early (w.heap.size+1) _ _ rfl (by simp[World.cell?,ba]) (d.o.trans ⟨rfl,rfl,rfl,by simp,fun b hb=>Ad _ _ (by omega)⟩)
 ·rw[hc] at p
  have aj:=yb hc
  clear hc
  refine A9 (A4 ?_)
  go_upto_region 2 with (first
   |(with_reducible refine yj rfl 35 _ rfl w.heap.size 0 rfl ks _ u.o qV rfl O.o ?_)
   |(go_at_call 17;(with_reducible refine p.o.mono ?_);rintro e w2 ⟨rfl,f⟩;have E:=yb f;have c:w2.heap[w.heap.size+1]?=some (.cells jg 40 (0,0)):=(f.block _ (by have:=J.o;omega)).trans a7.o;have N:=yb c;have c2:w2.cell? (aV (w.heap.size+1) 0)=some (iV 0):=(by simp[World.cell?,c]);have f2:w2.frozen? (aV (w.heap.size+1) 0)=false:=(by simp[World.frozen?,c]);clear f c))
  have a:=AZ (v:=iV 0) N.o
  have C:Below w.heap.size w (w2.setCell (aV (w.heap.size+1) 0) (iV 0)):=(A.o.trans (E.o.mono A.o.size)).trans ⟨rfl,rfl,rfl,by simp,fun b hb=>Ad _ _ (by omega)⟩
  have ax:(w2.setCell (aV (w.heap.size+1) 0) (iV 0)).rangeAt w.heap.size 0 ks:=A0 u.o ((Ad _ _ (by omega)).trans (E.o.block _ (by have:=J.o;omega)))
  have d:=yb C
  have P:=yb ax
  clear C c2 f2 ax
  generalize w2.setCell _ _=w3 at a d P ⊢
  have B:=yb a
  have c3:w3.cell? (aV (w.heap.size+1) 0)=some (iV 0):=by simp[World.cell?,a]
  have av:=yb ((HS.o.up d.o).consts)
  clear a p u E N a7
  go_wp2_with fail
  refine A9 (A4 ?_)
  go_wp2_with (first
   |(with_reducible refine yj rfl 35 _ rfl w.heap.size 0 rfl ks _ P.o qV rfl O.o ?_)
   |(go_at_call 35;with_reducible refine av.o.mono ?_;rintro e w4 ⟨⟨ka,I,kc⟩,rfl,m,b9⟩;unfold Au.v;have au:=yb m;have t:=yb b9;clear m b9))
  have y:Below w4.heap.size w4 (w4.alloc (.cells #[.slice ka I kc] 95)):=(yg _ _).alloc (yf _) _
  have K:(w4.alloc (.cells #[.slice ka I kc] 95)).heap.size=w4.heap.size+1:=by simp
  have r:=World.alloc_heap_new w4 (.cells #[.slice ka I kc] 95)
  have X:=(yd.1 B.o).1
  have b7:=t.o.size
  have af:=(y.block (w.heap.size+1) (by omega)).trans ((t.o.block _ X).trans B.o)
  have ag:=A0 P.o ((y.block w.heap.size (by omega)).trans (t.o.block _ (by omega)))
  have D:=au.o.up y
  have F:=(d.o.trans (t.o.mono d.o.size)).trans (y.mono (by omega))
  have ae:Hid (w.heap.size+1 < w4.heap.size):=yb (by omega)
  generalize hG:w4.heap.size=G at K r ae ⊢
  generalize w4.alloc _=V at K r af ag D F ⊢
  have a6:=yb K;have bh:=yb r;have am:=yb af;have bi:=yb ag;have l:=yb D;have g:=yb F
  have bk:V.cell? (aV G 0)=some (.slice ka I kc):=by simp[World.cell?,r]
  clear hG y K r af ag D F X b7 d P B av au t c3 A J
  have b8:Hid ((Ak [] (Am x)).length<=100000):=yb (by rw[Hw];have:=HS.o.slim.lets;simpa[Am] using this)
  obtain ⟨q,m⟩:∃q,q=Ak [] (Am x):=⟨_,rfl⟩
  have a8:=yb m
  rw[<-m] at b8 l
  clear m
  have aa:Hid (I=q.length):=yb l.o.1
  refine A9 (A4 ?_)
  go_wp2_with fail
  go_loopw [18] (fun iv wr=>∃i:Nat,i<=I∧iv=iV i∧Hid (∀j (h:j < q.length),j < i->q[j].ok=true)∧Hid (Below V.heap.size V wr)) (fun iv _=>I - (intOf iv).toNat)
  case atStart=>exact ⟨0,yK _,rfl,yb (fun _ _ h=>absurd h (by omega)),yb (yg _ _)⟩
  case round=>
   obtain ⟨i,hi,rfl,U,s⟩:=hrel
   by_cases bo:i < I
   ·have Y:i < q.length:=by have:=aa.o;omega
    obtain ⟨b,o,az,ai,aq⟩:=l.o.get Y
    dsimp only at az
    subst az
    have S:q[i]∈q:=yM Y
    have H:=yb S
    have R:Hid (q[i].ok=true->∀j (h:j < q.length),j < i+1->q[j].ok=true):=yb (fun ho j hj bn=>by
     rcases zU j i with h9|h9
     ·exact U.o j hj h9
     ·obtain rfl:j=i:=by omega
      exact ho)
    obtain ⟨r0,r1,r2,r3,r4,r5,r6,r7⟩:=PV (A0 aq (s.o.block b ai))
    have bj:(i:Int) < (I:Int):=by omega
    have b0:wrap64 ((i:Int)+1)=((i+1:Nat):Int):=by
     rw[AP (by have:=b8.o;have:=aa.o;omega)];push_cast;rfl
    have be:=yb b0
    have an:=ae.o
    have ao:=(s.o.block (w.heap.size+1) (by have:=a6.o;omega)).trans am.o
    have ak:=s.o.size
    have b4:=yb ao
    clear b0 S aq ai ao
    generalize q[i]=kk at*
    clear Y
    obtain ⟨nm,⟨⟨dl,dh,da⟩,⟨vn,vd⟩,er⟩,ok⟩:=kk
    dsimp only at r0 r1 r2 r3 r4 r5 r6 r7 R
    have ab:Hid (Below V.heap.size V (wr.alloc (.cells #[.string nm,iV dl,iV dh,iV da,iV vn,iV vd,iV er,.bool ok] 98))):=yb (s.o.alloc ak _)
    have ac:Hid ((wr.alloc (.cells #[.string nm,iV dl,iV dh,iV da,iV vn,iV vd,iV er,.bool ok] 98)).heap[w.heap.size+1]?=some (.cells jg 40 (0,0))):=yb ((yD _ _ _ (by have:=a6.o;omega)).trans b4.o)
    clear b4 an ak s
    cases ok with
    |true=>
     have b5:=yb (R.o rfl)
     clear R H ac
     go_wp2_with fail
     rw[be.o]
     exact ⟨⟨i+1,by omega,rfl,b5,ab⟩,by simp[intOf];omega⟩
    |false=>
     have M:Hid (Ll Q w 180):=yb (by
      have h:=HQ.o
      rw[Nk aj.o (by rw[<-a8.o];exact H.o) rfl] at h
      exact h)
     clear R H
     go_upto_region 9 with fail
     have z:=ac.o
     generalize wr.alloc _=w6 at ab z ⊢
     have bp:w6.cell? (aV (w.heap.size+1) 0)=some (iV 0):=by simp[World.cell?,z]
     have bq:w6.frozen? (aV (w.heap.size+1) 0)=false:=by simp[World.frozen?,z]
     have ar:=AZ (v:=iV 180) z
     have bg:=yb ar
     clear z ar r0 r1 r2 r3 r4 r5 r6 r7 ac
     go_wp2_with fail
     refine M.o.early (w.heap.size+1) _ _ rfl (by simp[World.cell?,bg.o]) ?_
     exact (g.o.trans (ab.o.mono g.o.size)).trans ⟨rfl,rfl,rfl,by simp,fun b hb=>Ad _ _ (by omega)⟩
   ·obtain rfl:i=I:=by omega
    have bj:decide ((i:Int) < (i:Int))=false:=by simp
    have T:(Ak [] (Am x)).all (fun k=>k.ok)=true:=by
     rw[<-a8.o]
     refine yR.2 fun k hk=>?_
     obtain ⟨j,hj,rfl⟩:=zh.1 hk
     exact U.o j hj (by have:=aa.o;omega)
    have bb:=yb T
    clear T
    go_wp2_with fail
    obtain ⟨e1,e2,e3,l1,l2,l3⟩:=HE.o
    have an:=ae.o
    have hZ:=a6.o
    have bm:=s.o.size
    exact TG (kh:=⟨ka,i,kc⟩) HQ.o HS.o e1 e2 e3 l1 l2 l3 aj.o bb.o (g.o.trans (s.o.mono g.o.size)) (A0 bi.o (s.o.block _ (by omega))) ⟨by omega,by omega,by omega⟩
     ((s.o.block _ (by omega)).trans am.o) ((s.o.block _ (by omega)).trans bh.o) (by have h:=l.o.up s.o;rw[a8.o] at h;exact h) _ _ _ _ _ _ _ _ _ _ _ _ _ _ _ _ _ _ _ _ _ _ _ _ _ _ _ _ _ _ _ _ _ _ _ _ _ _ _ _ _ _ _ _ _ _ _ _ _
end Go.Proofs.YtjofgpfocadomaaGreatDoor
namespace Go.Proofs.YtjofgpfocadomaaGreatDoor
open Go.RowKit
set_option linter.unusedSimpArgs false
theorem Sk{N:NP}{w:World}{L:Bt}{cs:LV}{x:Av}(h:BH N w L cs x)(hN:∀b,N b->b < w.heap.size):
  Calls Tryz.prog 8 #[.agg cs.toArray] w fun e w'=>e=.returned (.bool (EX x))∧Below w.heap.size w w':=by
 have c:Hid ((Tryz.prog.info? 35).map (·.size)=some cs.length):=yb (Le h)
 have hb:=(yg w.heap.size w).alloc (yf _) (.cells cs.toArray 35)
 have hr:=World.alloc_heap_new w (.cells cs.toArray 35)
 have f:=yb (UL (h.same (fun b hb=>hb) (fun b h2=>hb.block b (hN b h2))) (fun b i=>yv (hN b i) hb.size))
 have l:=yb hb
 have d:Hid ((w.alloc (.cells cs.toArray 35)).rangeAt w.heap.size 0 cs):=yb (AD hr)
 clear hb hr hN
 obtain ⟨g,a⟩:∃g,g=cs:=⟨_,rfl⟩
 obtain ⟨W,k⟩:∃W,W=w.alloc (.cells cs.toArray 35):=⟨_,rfl⟩
 rw[<-k] at f l d
 rw[<-a] at c f d
 have j:=yb k
 obtain ⟨c0,c1,c2,rfl,p,g1,m⟩:=h.cells
 obtain ⟨y,z,rfl,q⟩:=p.cells
 obtain ⟨a1,u,rfl,s⟩:=g1.cells
 obtain ⟨A,B,rfl,r⟩:=m.cells
 clear h p g1 m q s r a k
 unfold Au.v at*
 simp only[yP,yS] at j ⊢
 go_enter Tryz.func8,Tryz.ntmps8
 refine Ae fun K n=>?_
 go_wp2
 refine n.o _ _ ?_
 clear n K
 rw[<-j.o]
 clear j
 go_wp2_with (first
  |(with_reducible refine yj rfl 35 _ rfl w.heap.size 0 rfl g _ d.o qV rfl c.o ?_)
  |(go_at_call 25;(with_reducible refine f.o.mono ?_);rintro e w2 ⟨rfl,h2⟩;have t:=yb h2;clear h2))
 go_ret
 exact ⟨rfl,l.o.trans (t.o.mono l.o.size)⟩
set_option linter.unusedSimpArgs false
end Go.Proofs.YtjofgpfocadomaaGreatDoor
