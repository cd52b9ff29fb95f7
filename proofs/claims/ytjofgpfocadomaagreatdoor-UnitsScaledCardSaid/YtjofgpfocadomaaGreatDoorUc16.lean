/- Parts of the proof, in short words: Gx Gy Gz Hg Hh -/
import Derived.Test.YtjofgpfocadomaaGreatDoorUc0
import Derived.Test.YtjofgpfocadomaaGreatDoorUc15
import Derived.Test.YtjofgpfocadomaaGreatDoorUc14
import Derived.Test.YtjofgpfocadomaaGreatDoorUc9
import Derived.Test.YtjofgpfocadomaaGreatDoorUc12
set_option maxHeartbeats 16000000
set_option maxRecDepth 100000
set_option linter.unusedSimpArgs false
namespace Go.Proofs.YtjofgpfocadomaaGreatDoor
open Go.RowKit
set_option linter.unusedSimpArgs false
def Iy(NB:NP)(w:World):List (Array Value)->List O8->Prop
 |[],[]=>True
 |i::is,p::ps=>(∃cs,i=DL p.dim p.there cs∧AI NB w p.x cs)∧Iy NB w is ps
 |[],_::_=>False
 |_::_,[]=>False
section
variable{NB:NP}{w:World}
theorem Iy.append:∀ {a:List (Array Value)} {p:List O8} {b:List (Array Value)} {q:List O8},Iy NB w a p->Iy NB w b q->Iy NB w (a++b) (p++q)
 |[],[],_,_,_,h2=>h2
 |_::_,_::_,_,_,h1,h2=>⟨h1.1,Iy.append h1.2 h2⟩
 |[],_::_,_,_,h1,_=>h1.elim
 |_::_,[],_,_,h1,_=>h1.elim
theorem Iy.one{d:Dm}{a:Bool}{cs:LV}{e:Ex}(h:AI NB w e cs):Iy NB w [DL d a cs] (G0 d a [e]):=⟨⟨cs,rfl,h⟩,trivial⟩
theorem Iy.len:∀ {a:List (Array Value)} {p:List O8},Iy NB w a p->a.length=p.length
 |[],[],_=>rfl
 |_::_,_::_,h=>by simp[Iy.len h.2]
 |[],_::_,h=>h.elim
 |_::_,[],h=>h.elim
theorem Iy.get:∀ {a:List (Array Value)} {p:List O8},Iy NB w a p->∀(k:Nat) (h1:k < a.length) (h2:k < p.length),∃cs,a[k]=DL p[k].dim p[k].there cs∧AI NB w p[k].x cs
 |_::_,_::_,h,0,_,_=>h.1
 |_::_,_::_,h,k+1,h1,h2=>by simpa using Iy.get h.2 k (by simpa using h1) (by simpa using h2)
 |[],_::_,h,_,_,_=>h.elim
 |_::_,[],h,_,_,_=>h.elim
theorem Iy.flat{α β:Type}{f:α->List (Array Value)}{g:β->List O8}:∀ {ls:List α} {c:List β},ls.length=c.length->(∀i (h1:i < ls.length) (h2:i < c.length),Iy NB w (f ls[i]) (g c[i]))->Iy NB w (ls.flatMap f) (c.flatMap g)
 |[],[],_,_=>trivial
 |a::ls,b::c,hl,h=>by
  rw[zh,zh]
  exact (h 0 (by simp) (by simp)).append (Iy.flat (by simpa using hl) fun i h1 h2=>h (i+1) (by simpa using h1) (by simpa using h2))
 |[],_::_,hl,_=>by simp at hl
 |_::_,[],hl,_=>by simp at hl
theorem LG{α β:Type}(f:α->β):∀l:List α,l.map f=l.flatMap fun a=> [f a]
 |[]=>rfl
 |a::l=>by rw[zu,zh,LG f l];rfl
theorem FN{β γ:Type}:∀(l:List β) (P:Nat->β->γ->Prop),(∀i (hi:i < l.length),∃b,P i l[i] b)->∃bs:List γ,bs.length=l.length∧∀i (h1:i < bs.length) (h2:i < l.length),P i l[i] bs[i]
 |[],_,_=>⟨[],rfl,fun i h1 _=>absurd h1 (by simp)⟩
 |a::l,P,h=>by
  obtain ⟨b,hb⟩:=h 0 (by simp)
  obtain ⟨bs,h1,h2⟩:=FN l (fun i=>P (i+1)) (fun i hi=>h (i+1) (by simpa using hi))
  refine ⟨b::bs,by simp[h1],fun i g1 c=>?_⟩
  cases i with
  |zero=>exact hb
  |succ i=>exact h2 i (by simpa using g1) (by simpa using c)
end
theorem DI{W:World}{b o k:Nat}{cs:LV}(pre c post:LV)(h:W.rangeAt b o cs)(e:cs=pre++(c++post))(f:o+pre.length=k):W.rangeAt b k c:=by
 intro j v d
 have a:j < c.length:=(yx.1 d).1
 have:=h (pre.length+j) v (by rw[e,yN (by omega),xt,zk a];exact d)
 rw[<-f,zS];exact this
theorem Ut{w:World}{NB:NP}{Bs:Nat}{L:Bt}{cs:LV}{x:Ar}(hs:BH NB w L cs x)(B:w.rangeAt Bs 0 cs)(hg:GU w)(gb:∀b,b < 6->NB b)(bs:NB Bs)
 (S:x.rots=[])(T:x.rights=[])(R:x.duties=[])(l1:x.crops.length<=100000)(l2:x.reaches.length<=100000)(l3:x.farms.length<=100000):
  ∃(c0 c1 c2:LV) (ccs:List LV) (rcs:List R8) (fcs:List (Bool × LV)),Ur NB w Bs L c0 c1 c2 ccs rcs fcs∧Iy NB w (DA c0 c1 c2 ccs rcs fcs) (Cq x):=by
 obtain ⟨c0,c1,c2,hcs,O,g1,N⟩:=hs.cells
 have q:=O.is6.len
 have A:=g1.is6.len
 have F:=N.is6.len
 have h:∀(j i:Nat) (v:Value),19+i=j-> [L.lets.v,L.crops.v,L.reaches.v,L.farms.v,L.rots.v,L.rights.v,L.duties.v][i]?=some v->w.cell? (aV Bs j)=some v:=fun j i v Z hv=>by
  have:=DI (k:=19) (.string x.name::(c0++(c1++c2))) [L.lets.v,L.crops.v,L.reaches.v,L.farms.v,L.rots.v,L.rights.v,L.duties.v] [] B (by rw[hcs];simp) (by simp[q,A,F])
  rw[<-Z];exact this i v hv
 obtain ⟨ccs,I,y⟩:=FN x.crops (fun i d (c:LV)=>∃b o g,L.crops.a=some (aV b o)∧NB b∧w.rangeAt b (o+i*7) (.string g::c)∧AI NB w d.need c) (fun i hi=>by
  obtain ⟨b,o,cs,h1,h2,h3,e,t,c,rfl,Q⟩:=hs.crops.2.2 i hi
  exact ⟨c,b,o,_,h1,h2,e,Q⟩)
 obtain ⟨rcs,H,z⟩:=FN x.reaches (fun i d (r:R8)=>∃b o g l,L.reaches.a=some (aV b o)∧NB b∧w.rangeAt b (o+i*51) (.string g::(AU l++(r.c0++(r.c1++(r.c2++(r.c3++(r.c4++(r.c5++(r.c6++r.c7)))))))))∧r.s=!Bv d.siphon∧
   AI NB w d.delay r.c0∧AI NB w d.cap r.c1∧AI NB w d.bank r.c2∧AI NB w d.siphon r.c3∧AI NB w d.evap0 r.c4∧AI NB w d.evap1 r.c5∧AI NB w d.seep0 r.c6∧AI NB w d.seep1 r.c7) (fun i hi=>by
  obtain ⟨b,o,cs,h1,h2,h3,e,t,Q,Y,U,k2,k3,k4,k5,k6,X,rfl,m⟩:=hs.reaches.2.2 i hi
  exact ⟨⟨!Bv (x.reaches[i]).siphon,Y,U,k2,k3,k4,k5,k6,X⟩,b,o,_,_,h1,h2,e,rfl,m⟩)
 obtain ⟨fcs,G,u⟩:=FN x.farms (fun i d (f:Bool × LV)=>∃b o g l n,L.farms.a=some (aV b o)∧NB b∧w.rangeAt b (o+i*12) (.string g::(AU l++(.bool d.river::(f.2++AU n))))∧f.1=!d.river∧AI NB w d.area f.2) (fun i hi=>by
  obtain ⟨b,o,cs,h1,h2,h3,e,t,Q,h7,c,rfl,m⟩:=hs.farms.2.2 i hi
  exact ⟨(!(x.farms[i]).river,c),b,o,_,_,_,h1,h2,e,rfl,m⟩)
 refine ⟨c0,c1,c2,ccs,rcs,fcs,⟨hg,gb,bs,⟨O.is6,?_⟩,⟨g1.is6,?_⟩,⟨N.is6,?_⟩,?_,?_,?_,?_,?_,?_,⟨?_,?_,?_⟩,⟨by omega,by omega,by omega⟩,⟨by rw[hs.crops.1,I],fun i hi=>?_⟩,⟨by rw[hs.reaches.1,H],fun i hi=>?_⟩,⟨by rw[hs.farms.1,G],fun i hi=>?_⟩⟩,?_⟩
 ·exact DI [.string x.name] c0 (c1++(c2++[L.lets.v,L.crops.v,L.reaches.v,L.farms.v,L.rots.v,L.rights.v,L.duties.v])) B (by rw[hcs];rfl) (by rfl)
 ·exact DI (.string x.name::c0) c1 (c2++[L.lets.v,L.crops.v,L.reaches.v,L.farms.v,L.rots.v,L.rights.v,L.duties.v]) B (by rw[hcs];simp) (by simp[q])
 ·exact DI (.string x.name::(c0++c1)) c2 [L.lets.v,L.crops.v,L.reaches.v,L.farms.v,L.rots.v,L.rights.v,L.duties.v] B (by rw[hcs];simp) (by simp[q,A])
 ·exact h 20 1 _ rfl rfl
 ·exact h 21 2 _ rfl rfl
 ·exact h 22 3 _ rfl rfl
 ·exact h 23 4 _ rfl rfl
 ·exact h 24 5 _ rfl rfl
 ·exact h 25 6 _ rfl rfl
 ·rw[hs.rots.1,S];rfl
 ·rw[hs.rights.1,T];rfl
 ·rw[hs.duties.1,R];rfl
 ·obtain ⟨b,o,g,h1,h2,h3,e⟩:=y i hi (by omega)
  exact ⟨b,o,g,h1,h2,h3,e.is6⟩
 ·obtain ⟨b,o,g,l,h1,h2,h3,e,K,m1,J,C,M,D,E,P⟩:=z i hi (by omega)
  exact ⟨b,o,g,l,h1,h2,h3,K.is6,m1.is6,J.is6,C.is6,M.is6,D.is6,E.is6,P.is6,_,e,fun W=>Lz C W⟩
 ·obtain ⟨b,o,g,l,n,h1,h2,h3,e,t⟩:=u i hi (by omega)
  exact ⟨b,o,g,l,_,n,h1,h2,h3,t.is6,e⟩
 ·have V:Iy NB w (Ja c0 c1 c2) (G0 CX true [x.season]++G0 AY true [x.cap,x.start]):=⟨⟨_,rfl,O⟩,⟨_,rfl,g1⟩,⟨_,rfl,N⟩,trivial⟩
  have hr:Iy NB w (ccs.map (DL GJ true)++(rcs.flatMap D8++fcs.map fun p=>DL GI p.1 p.2)) (x.crops.flatMap Uo++(x.reaches.flatMap NK++x.farms.flatMap QI)):=by
   rw[LG (DL GJ true),LG (fun p:Bool × LV=>DL GI p.1 p.2)]
   refine (Iy.flat (by omega) fun i h1 h2=>?_).append ((Iy.flat (by omega) fun i h1 h2=>?_).append (Iy.flat (by omega) fun i h1 h2=>?_))
   ·obtain ⟨b,o,g, -, -, -,e⟩:=y i h1 h2
    exact Iy.one e
   ·obtain ⟨b,o,g,l, -, -, -,e,K,m1,J,C,M,D,E,P⟩:=z i h1 h2
    unfold D8 NK
    rw[e]
    exact (Iy.one K).append ((Iy.one m1).append ((show Iy _ _ [_,_,_] (G0 AY true [_,_,_]) from ⟨⟨_,rfl,J⟩,⟨_,rfl,M⟩,⟨_,rfl,D⟩,trivial⟩).append ((Iy.one C).append (show Iy _ _ [_,_] (G0 O5 true [_,_]) from ⟨⟨_,rfl,E⟩,⟨_,rfl,P⟩,trivial⟩))))
   ·obtain ⟨b,o,g,l,n, -, -, -,e,t⟩:=u i h1 h2
    unfold QI
    rw[e]
    exact Iy.one t
  have:=V.append hr
  unfold DA Cq
  rw[S,T,R]
  simpa only[zx,yU,yG] using this
end Go.Proofs.YtjofgpfocadomaaGreatDoor
namespace Go.Proofs.YtjofgpfocadomaaGreatDoor
open Go.RowKit
attribute [local go_sem] Oper.semAt_some
set_option linter.unusedSimpArgs false
theorem Na{F:Fence}{n:Nat}{P:Program}{x y:Code}{Q:QT}{a:Act}{w:World}(h:∀K:Act->World->Prop,Hid (∀a w,Code.wpIn F n P y Q a w->K a w)->Code.wpIn F n P x (Exit.then K Q) a w):Code.wpIn F n P (x.seq y) Q a w:=wpIn_seq (h _ (yb fun _ _ h=>h))
theorem QM{w W:World}{x:Ar}{cs:LV}{L:Bt}{N:NP}(h:BH N w L cs x):Calls Tryz.prog 36 #[.agg cs.toArray] W fun e w'=>e=.returned (.func (.func 74) #[] #[.pointer (some ⟨W.heap.size,0,none⟩)])∧w'=W.alloc (.cells cs.toArray 35):=by
 have d:∀(fn:Fn) (first cap:Array Value) (w:World),(Instr.makeFunc fn first cap).run Tryz.prog w=.ok (.func fn first cap) w:=fun _ _ _ _=>rfl
 obtain ⟨c0,c1,c2,rfl,b,g1,a⟩:=h.cells
 obtain ⟨k,i,rfl,c⟩:=b.cells
 obtain ⟨a1,l,rfl,f⟩:=g1.cells
 obtain ⟨j,m,rfl,g⟩:=a.cells
 clear h b g1 a c f g
 unfold Aw.v
 simp only[yK,yQ]
 go_enter Tryz.func36,Tryz.ntmps36
 go_wp2
 first
 |exact ⟨rfl,rfl⟩
 |(go_ret;exact ⟨rfl,rfl⟩)
theorem QN(n:Nat)(o:1<=n){Bs:Nat}{L:Bt}{NB:NP}{f:World}{c0 c1 c2:LV}{ccs:List LV}{rcs:List R8}{fcs:List (Bool × LV)}(m:Ur NB f Bs L c0 c1 c2 ccs rcs fcs):
  V7 Fence.wide n Tryz.prog 74 #[.pointer (some ⟨Bs,0,none⟩)] (WQ NB f) (DA c0 c1 c2 ccs rcs fcs) none:=by
 intro l J Jx Jp W k c j d b g a h0
 refine yY.2 ((Pe n o l Bs L NB f c0 c1 c2 ccs rcs fcs m J Jx Jp W ⟨k,c,a⟩ d b h0).mono ?_)
 rintro e w' (⟨i,h⟩|⟨p,h1,h2⟩)
 ·exact .inl ⟨i,h.imp (fun h=>⟨rfl,h⟩) id⟩
 ·exact .inr ⟨p,h1,h2⟩
structure LH (Q:Exit->Act->World->Prop) (w:World) (c:Int):Prop where
 early:∀(B2:Nat) tm W,tm.getD 2 undef=.pointer (some ⟨B2,0,none⟩)->W.cell? ⟨B2,0,none⟩=some (.int .i64 c)->Below w.heap.size w W->Q .ret {tmps:=tm,defers:=[]} W
 done:∀(B2 D:Nat) tm W,tm.getD 2 undef=.pointer (some ⟨B2,0,none⟩)->W.cell? ⟨B2,0,none⟩=some (.int .i64 c)->Below w.heap.size w W->w.heap.size<=D->D≠B2->W.heap[D]?=some (.deferred (some []))->Q .ret {tmps:=tm,defers:=[Jw D]} W
theorem SP(w:World)(c:Int):LH (bodyPostM Fence.wide 10 Tryz.prog Tryz.f24 (fun e w'=>e=.returned (.int .i64 c)∧Below w.heap.size w w')) w c:=by
 have a:∀(B2:Nat) (tm:Array Value) (W:World),tm.getD 2 undef=pV B2 0->W.cell? (aV B2 0)=some (iV c)->(results Tryz.f24 tm).run Tryz.prog W=.ok (iV c) W:=fun B2 tm W h d=>FZ rfl h (Es Tryz.underlying40 rfl d)
 refine ⟨fun B2 tm W h2 d hb=>⟨_,a B2 tm W h2 d,rfl,hb⟩,fun B2 D tm W h2 d hb g f hd=>?_⟩
 refine ⟨by simp,.inl ⟨D,_,rfl,run_takeDeferred hd,⟨_,a B2 tm _ h2 ?_,rfl,hb.trans ⟨rfl,rfl,rfl,by simp,fun b hb=>World.putObj_heap_other (by omega)⟩⟩⟩⟩
 unfold World.cell? at d ⊢
 rw[World.putObj_heap_other (fun e=>f e.symm)]
 exact d
structure WR (V5:World) (B2:Nat) (c:Int) (U:World):Prop where
 os:U.os=V5.os
 tape:U.tape=V5.tape
 output:U.output=V5.output
 size:V5.heap.size<=U.heap.size
 block:∀b,b < V5.heap.size->b≠B2->U.heap[b]?=V5.heap[b]?
 cell:U.heap[B2]?=some (.cells #[.int .i64 c] 40 (0,0))
theorem WR.of{d U:World}{B2:Nat}{c c0:Int}(hb:Below d.heap.size d U)(h2:d.heap[B2]?=some (.cells #[.int .i64 c0] 40 (0,0))):WR d B2 c (U.setCell ⟨B2,0,none⟩ (.int .i64 c)):=by
 have a:B2 < d.heap.size:=(yd.1 h2).1
 refine ⟨hb.os,hb.tape,hb.output,by simpa using hb.size,fun b a e=>(Ae _ _ e).trans (hb.block b a),?_⟩
 have h:=B8 (v:=iV c) ((hb.block _ a).trans h2)
 exact h
theorem SQ{V n:World}{B2:Nat}{c:Int}{p:Prop}(s:n.heap.size=V.heap.size+1)(e:B2 < V.heap.size):Cd (fun (_:Unit) (O:NP) U=>p∧(∀b,O b->V.heap.size < b)∧WR n B2 c U):=by
 intro k O W t W' q r l g d a j
 obtain ⟨o,i,h⟩:=q
 have hs:=h.size
 refine ⟨o,fun b hb=>(j b hb).elim (i b) (fun h=>by omega),l.trans h.os,g.trans h.tape,d.trans h.output,by omega,fun b e m=>(a b (fun f=>?_) (by omega)).trans (h.block b e m),(a B2 (fun f=>?_) (by omega)).trans h.cell⟩
 ·have:=i b f;omega
 ·have:=i B2 f;omega
theorem RU{W:World}{b:Nat}{t:TypeId}{fr:Nat × Nat}{c k l i a j d e f g:Value}(h:W.heap[b]?=some (.cells #[c,k,l,i,a,j,d,e,f,g] t fr)):W.cell? ⟨b,0,none⟩=some c∧W.cell? ⟨b,1,none⟩=some k∧W.cell? ⟨b,2,none⟩=some l∧W.cell? ⟨b,3,none⟩=some i∧W.cell? ⟨b,4,none⟩=some a∧W.cell? ⟨b,5,none⟩=some j∧W.cell? ⟨b,6,none⟩=some d∧W.cell? ⟨b,7,none⟩=some e∧W.cell? ⟨b,8,none⟩=some f∧W.cell? ⟨b,9,none⟩=some g:=by
 simp[World.cell?,h]
def LI(x:Ar)(k:Nat):Prop:=∀j (h:j < (Cq x).length),j < k->JD (Am [] (Av x)) (Cq x)[j]=true
theorem QO{x:Ar}(a:Bq x=0)(b:(Am [] (Av x)).all (fun k=>k.ok)=true)(h:(Cq x).all (JD (Am [] (Av x)))=false):Eu x=180:=by
 unfold Eu;rw[yw a,yw b,h];rfl
theorem Pf{x:Ar}(c:Bq x=0)(d:(Am [] (Av x)).all (fun k=>k.ok)=true)(h:LI x (Cq x).length):Eu x=0:=by
 have:(Cq x).all (JD (Am [] (Av x)))=true:=yW.2 fun p b=>by
  obtain ⟨j,a,rfl⟩:=zc.1 b
  exact h j a a
 unfold Eu;rw[yw c,yw d,this];rfl
theorem QP{x:Ar}{k:Nat}{p:O8}(h:LI x k)(b:(Cq x)[k]?=some p)(d:JD (Am [] (Av x)) p=true):LI x (k+1):=by
 intro j c e
 rcases zO j k with a|a
 ·exact h j c a
 ·obtain rfl:j=k:=by omega
  rw[yk c] at b
  rw[yi b];exact d
theorem VC{x:Ar}{k:Nat}{p:O8}(b:(Cq x)[k]?=some p)(a:JD (Am [] (Av x)) p=false):(Cq x).all (JD (Am [] (Av x)))=false:=by
 rw[xu]
 exact ⟨p,zW b,by simp[a]⟩
theorem Uu{Q:QT}{w V:World}{x:Ar}{cs:LV}{B2 B3:Nat}{kh:Aw}(hQ:LH Q w (Eu x))(hS:Dv w cs x)
 (e1:x.rots=[])(e2:x.rights=[])(e3:x.duties=[])(l1:x.crops.length<=100000)(l2:x.reaches.length<=100000)(l3:x.farms.length<=100000)(hc:Bq x=0)(hk:(Am [] (Av x)).all (fun k=>k.ok)=true)
 (hb:Below w.heap.size w V)(ct:V.rangeAt w.heap.size 0 cs)(hB:w.heap.size < B2∧B2 < B3∧B3 < V.heap.size)
 (h2:V.heap[B2]?=some (.cells #[.int .i64 0] 40 (0,0)))(h3:V.heap[B3]?=some (.cells #[kh.v] 95 (0,0)))(bx:PT V kh (Am [] (Av x)))
 (u0 u4 u5 u6 u7 u8 u9 ap d8 d9 ck bt b9 b4 cd bm db d4 bv bp b8 cy cz dt dy dk cm bq cg cq aw cw ce cu cc cl dc d6 az d5 aq d7 ba bz av c8 ci bg bh:Value):
  FQ 24 Tryz.prog (Gf 4 (Tryz.f24.body.getD .skip)) Q {tmps:=#[u0,.pointer (some ⟨w.heap.size,0,none⟩),.pointer (some ⟨B2,0,none⟩),.pointer (some ⟨B3,0,none⟩),u4,u5,u6,u7,u8,u9,ap,d8,d9,ck,bt,b9,b4,cd,bm,db,d4,bv,bp,b8,cy,cz,dt,dy,dk,cm,bq,cg,cq,aw,cw,ce,cu,cc,cl,dc,d6,az,d5,aq,d7,ba,bz,av,c8,ci,bg,bh],defers:=[]} V:=by
 obtain ⟨m,a7⟩:∃m,m=V.alloc (.cells cs.toArray 35):=⟨_,rfl⟩
 have E:Below V.heap.size V m:=by rw[a7];exact (yg _ _).alloc (yf _) _
 have b7:m.heap.size=V.heap.size+1:=by rw[a7];simp
 have ad:=hb.size
 obtain ⟨NB,a0⟩:∃NB:NP,NB=fun b=>b < w.heap.size∨b=V.heap.size:=⟨_,rfl⟩
 have aa:∀b,NB b->b < m.heap.size∧b≠B2∧b≠B3:=fun b hb=>by rw[a0] at hb;rcases hb with hb|hb<;>omega
 obtain ⟨L,hv⟩:=hS.v
 have cn:BH NB m L cs x:=hv.same (fun b h=>by rw[a0];exact .inl h) (fun b h=>(E.block b (by omega)).trans (hb.block b h))
 have a2:=hv
 have B:Below w.heap.size w m:=hb.trans (E.mono ad)
 obtain ⟨d0,d1,d2,ccs,rcs,fcs,bj,cj⟩:=Ut (Bs:=V.heap.size) cn (by rw[a7];exact Ax (World.alloc_heap_new V (.cells cs.toArray 35))) (hS.gu.up B) (fun b e5=>by rw[a0];have:=hS.gu.size;exact .inl (by omega)) (by rw[a0];exact .inr rfl) e1 e2 e3 l1 l2 l3
 have ch:m.heap[B2]?=some (.cells jk 40 (0,0)):=(E.block _ (by omega)).trans h2
 have ay:m.heap[B3]?=some (.cells #[kh.v] 95 (0,0)):=(E.block _ (by omega)).trans h3
 have cr:∀(U:World) (e:Ex) (c:LV),Below m.heap.size m U->AI NB m e c->Calls Tryz.prog 38 #[kh.v,.agg c.toArray,iV 8] U (OW (F0 (Am [] (Av x)) 8 e) U):=fun U e c hU he=>
  P8 x (hS.gu.up (B.trans (hU.mono B.size))) (bx.up (E.trans (hU.mono E.size))) (he.same (fun b h=>yt (aa b h).1 hU.size) (fun b h=>hU.block b (aa b h).1))
 have dn:=yb (QM (W:=V) a2)
 have dw:Hid ((Tryz.prog.info? 35).map (·.size)=some cs.length):=yb (Ly a2)
 have dj:=yb bj;have R:=yb cj;have dv:=yb cr;have dm:=yb ct;have dd:=yb a7;have s:=yb b7
 have ai:=yb ch;have dq:=yb ay;have HQ:=yb hQ;have HB:=yb hB;have ak:=yb aa;have HC:=yb (And.intro hc hk);have z:=yb B
 have aj:Hid (w.heap.size<=V.heap.size):=yb ad
 clear bj cj cr ct a7 b7 ch ay hQ hB aa hc hk B ad cn a2 hv hb E h2 h3 bx hS e1 e2 e3 l1 l2 l3 a0
 refine A9 (A9 (A4 ?_))
 go_wp2_with (first
  |(with_reducible refine yj rfl 35 _ rfl w.heap.size 0 rfl cs _ dm.o qY rfl dw.o ?_)
  |(go_at_call 36;with_reducible refine dn.o.mono ?_;rintro e w2 ⟨rfl,rfl⟩))
 rw[<-dd.o]
 refine De ?_
 obtain ⟨Ap,co⟩:∃Ap:Nat->Act->NP->World->Prop,Ap=fun k a O U=>∃(vo vn vu:Int) (q:ByteArray) (r:Int) (vp:Option Addr) (vm vk:Nat) (Y:Bool) (I H F:Int) (g:Nat) (p:O8),(Cq x)[k]?=some p∧AI NB m p.x [iV vo,iV vn,iV vu,.string q,iV r,.slice vp vm vk]∧p.there=Y∧p.dim=⟨I,H,F⟩∧¬ O g∧V.heap.size < g∧g < U.heap.size∧U.heap[g]?=some (.cells #[iV vo,iV vn,iV vu,.string q,iV r,.slice vp vm vk,.bool Y,iV I,iV H,iV F] 103 (0,0))∧a={tmps:=#[u0,pV w.heap.size 0,pV B2 0,pV B3 0,u4,u5,pV g 0,u7,u8,u9,ap,d8,d9,ck,bt,b9,b4,cd,bm,db,d4,bv,bp,b8,cy,cz,.agg cs.toArray,.func (.func 74) #[] #[pV V.heap.size 0],.agg #[iV vo,iV vn,iV vu,.string q,iV r,.slice vp vm vk,.bool Y,iV I,iV H,iV F],cm,bq,cg,cq,aw,cw,ce,cu,cc,cl,dc,d6,az,d5,aq,d7,ba,bz,av,c8,ci,bg,bh],defers:=[]}:=⟨_,rfl⟩
 have am:=yb co
 clear co
 refine CK (n:=10) Tryz.func24 rfl (fun _ _=>rfl) (QN 9 (by omega) dj.o) (fun a ha=>by
   obtain ⟨k,hk,rfl⟩:=zc.1 ha
   obtain ⟨c,h, -⟩:=R.o.get k hk (by rw[<-R.o.len];exact hk)
   rw[h];rfl)
  (LJ V.heap.size m (LI x)) (fun c O U=>(c=.ret∧(Cq x).all (JD (Am [] (Av x)))=false)∧(∀b,O b->V.heap.size < b)∧WR m B2 180 U) (fun _ _ _=>False)
  (fun k a O U=>LJ V.heap.size m (LI x) k O U∧Ap k a O U)
  (LJ.stays s.o) (fun c=>SQ s.o (by have:=HB.o;omega)) (fun _ _ _ _ _ _ h=>h.elim) ?_ ?_ ?_ (fun _ h=>by cases h) ⟨fun _ h=>h.elim,by rw[<-s.o];exact yg _ _,fun j _ hj=>absurd hj (by omega)⟩ ?_ ?_ ?_ ?_ (fun _ _ _ _ _ _ h=>h.elim)
 ·rintro a k O W O' W' ⟨h1,hA⟩ hz ho ht hu C N
  rw[am.o] at hA ⊢
  obtain ⟨vo,vn,vu,q,r,vp,vm,vk,Y,I,H,F,g,p,g1,g2,g3,g4,g5,g6,g7,g8,g9⟩:=hA
  exact ⟨LJ.stays s.o k O W O' W' h1 hz ho ht hu C N,vo,vn,vu,q,r,vp,vm,vk,Y,I,H,F,g,p,g1,g2,g3,g4,fun h=>(N g h).elim g5 (fun h=>by omega),g6,by omega,(C g g5 g7).trans g8,g9⟩
 ·rintro k O U ⟨-,hb, -⟩ b hN
  exact hb.block b (by rw[<-s.o];exact (ak.o b hN).1)
 ·rintro c O U ⟨-, -,h⟩ b hN
  exact h.block b (ak.o b hN).1 (ak.o b hN).2.1
 ·intro k hk O U lo hJ N hl X
  obtain ⟨c,hc,A⟩:=R.o.get k hk (by rw[<-R.o.len];exact hk)
  have C:k < (Cq x).length:=by rw[<-R.o.len];exact hk
  have ao:(Cq x)[k]?=some ((Cq x)[k]'C):=yk C
  rw[hc]
  generalize (Cq x)[k]'C=p at ao A ⊢
  obtain ⟨px,Y,I,H,F⟩:=p
  obtain ⟨vo,vn,vu,q,r,vp,vm,vk,rfl⟩:=A.is6
  have HJ:=yb hJ;have b0:=yb X;have dg:=yb ao;have du:=yb A
  clear hJ N hl X hk hc ao A C
  unfold DL Dm.row
  simp only[yK,yQ]
  gi_wp2
  have dx:AN O U (U.alloc (.cells #[iV vo,iV vn,iV vu,.string q,iV r,.slice vp vm vk,.bool Y,iV I,iV H,iV F] 103)):=⟨by simp,fun b hb=>yA _ _ _ (b0.o b hb)⟩
  have b5:LJ V.heap.size m (LI x) k O (U.alloc (.cells #[iV vo,iV vn,iV vu,.string q,iV r,.slice vp vm vk,.bool Y,iV I,iV H,iV F] 103)):=⟨HJ.o.1,HJ.o.2.1.alloc (by have:=HJ.o.2.1.size;have:=s.o;omega) _,HJ.o.2.2⟩
  have bu:¬ O U.heap.size:=fun h=>qF _ (b0.o _ h)
  have cx:V.heap.size < U.heap.size:=by have:=HJ.o.2.1.size;have:=s.o;omega
  refine ⟨dx,b5,?_⟩
  rw[am.o]
  exact ⟨vo,vn,vu,q,r,vp,vm,vk,Y,I,H,F,U.heap.size,_,dg.o,du.o,rfl,rfl,bu,cx,by simp,World.alloc_heap_new _ _,rfl⟩
 ·rintro k hk O U lo a1 hl bd X ⟨⟨N,l,u⟩,hA⟩
  rw[am.o] at hA
  obtain ⟨vo,vn,vu,q,r,vp,vm,vk,Y,I,H,F,g,p,hp,A,cp,cf,de,dp,ar,T,rfl⟩:=hA
  have ae:=HB.o
  have hz:=s.o
  have di:=l.size
  have y:U.heap[B2]?=some (.cells jk 40 (0,0)):=(l.block _ (by omega)).trans ai.o
  have bw:U.heap[B3]?=some (.cells #[kh.v] 95 (0,0)):=(l.block _ (by omega)).trans dq.o
  have i:Hid (JD (Am [] (Av x)) p=true->∀U',Below U.heap.size U U'->AN O U U'∧LJ V.heap.size m (LI x) (k+1) O U'):=yb (fun ho U' J=>⟨⟨J.size,fun b hb=>J.block b (X b hb)⟩,N,l.trans (J.mono (by omega)),QP u hp ho⟩)
  have d:Hid (JD (Am [] (Av x)) p=false->∀U',Below U.heap.size U U'->AN O U (U'.setCell (aV B2 0) (iV 180))∧((Cq x).all (JD (Am [] (Av x)))=false∧(∀b,O b->V.heap.size < b)∧WR m B2 180 (U'.setCell (aV B2 0) (iV 180)))):=yb (fun ho U' J=>⟨⟨by simpa using J.size,fun b hb=>(Ae _ _ (by have:=N b hb;omega)).trans (J.block b (X b hb))⟩,VC hp ho,N,WR.of ((by rw[hz];exact l:Below m.heap.size m U).trans (J.mono (by omega))) ai.o⟩)
  have ab:=yb (Lz A U)
  have t:=yb (dv.o U p.x _ (by rw[hz];exact l) A)
  have bn:JD (Am [] (Av x)) p=if Y=true then (F0 (Am [] (Av x)) 8 p.x).2&&decide ((F0 (Am [] (Av x)) 8 p.x).1.dim=(⟨I,H,F⟩:Dm)) else Bv p.x:=by unfold JD;rw[cp,cf]
  rw[bn] at i d
  have c2:U.cell? (aV B2 0)=some (iV 0):=by simp[World.cell?,y]
  have f2:U.frozen? (aV B2 0)=false:=by simp[World.frozen?,y]
  have c3:U.cell? (aV B3 0)=some kh.v:=by simp[World.cell?,bw]
  have be:=yb y
  have df:=yb T
  have ah:Hid (g < U.heap.size∧B2 < U.heap.size):=yb ⟨ar,by omega⟩
  obtain ⟨x0,x1,x2,x3,x4,x5,x6,x7,x8,x9⟩:=RU T
  generalize F0 (Am [] (Av x)) 8 p.x=qq at i d t
  generalize Bv p.x=le at i d ab
  clear bn cp cf A hp de dp ar T y bw di hz ae N l u hl bd X
  unfold Aw.v at c3 t
  refine wpIn_block ?_
  cases Y with
  |false=>
   simp only[if_false,Bool.false_eq_true] at i d
   clear t
   cases le with
   |true=>
    gi_wp2_with fail
    refine ⟨trivial,zm (CallsIn.inRound lo (yY.2 ab.o)) ?_⟩
    rintro e w3 ⟨rfl,M⟩
    have f:=i.o trivial w3 M
    clear i d
    gi_wp2_with fail
    exact f
   |false=>
    gi_wp2_with fail
    refine ⟨trivial,zm (CallsIn.inRound lo (yY.2 ab.o)) ?_⟩
    rintro e w3 ⟨rfl,M⟩
    have f:=d.o trivial w3 M
    have c9:=(M.block _ ah.o.2).trans be.o
    have e0:w3.cell? (aV B2 0)=some (iV 0):=by simp[World.cell?,c9]
    have dz:w3.frozen? (aV B2 0)=false:=by simp[World.frozen?,c9]
    clear i d
    gi_wp2_with fail
    exact ⟨f.1,⟨rfl,f.2.1⟩,f.2.2⟩
  |true=>
   simp only[zU] at i d
   clear ab
   obtain ⟨⟨⟨ql,qh,qa⟩,⟨cv,bk⟩,er⟩,ok⟩:=qq
   unfold OW Qn.val at t
   dsimp only at t i d
   refine Na fun K hK=>?_
   gi_wp2_with fail
   refine hK.o _ _ ?_
   clear hK K
   refine Na fun K hK=>?_
   gi_wp2_with fail
   refine ⟨trivial,zm (CallsIn.inRound lo (yY.2 t.o)) ?_⟩
   rintro e w3 ⟨rfl,M⟩
   have bi:=yb M
   clear M c2 f2 c3 x0 x1 x2 x3 x4 x5 x6 x7 x8 x9
   gi_wp2_with fail
   refine hK.o _ _ ?_
   clear hK K
   have Z:=bi.o.alloc bi.o.size (.cells #[iV ql,iV qh,iV qa,iV cv,iV bk,iV er] 70)
   have ac:=World.alloc_heap_new w3 (.cells #[iV ql,iV qh,iV qa,iV cv,iV bk,iV er] 70)
   generalize hG:w3.heap.size=G at ac ⊢
   clear hG
   generalize w3.alloc _=w4 at Z ac ⊢
   have an:=(Z.block _ ah.o.2).trans be.o
   have T:=(Z.block _ ah.o.1).trans df.o
   have e6:w4.cell? (aV B2 0)=some (iV 0):=by simp[World.cell?,an]
   have e8:w4.frozen? (aV B2 0)=false:=by simp[World.frozen?,an]
   obtain ⟨x0,x1,x2,x3,x4,x5,x6,x7,x8,x9⟩:=RU T
   obtain ⟨q0,q1,q2,q3,q4,q5⟩:=Cg ac
   have al:=yb Z
   clear Z T ac an x0 x1 x2 x3 x4 x5 x6 q3 q4 q5
   have hq:=OT ql qh qa I H F
   have e4:Tryz.prog.eqGuardType Tryz.prog.depth 68=false:=by kernel_rfl
   have au:decide ((⟨ql,qh,qa⟩:Dm)=⟨I,H,F⟩)=(decide (ql=I)&&(decide (qh=H)&&decide (qa=F))):=by
    rw[xZ];simp
   rw[au] at i d
   generalize (decide (ql=I)&&(decide (qh=H)&&decide (qa=F)))=bb at i d hq
   clear au
   cases ok with
   |false=>
    have f:=d.o rfl w4 al.o
    clear i d
    gi_wp2_with fail
    exact ⟨f.1,⟨rfl,f.2.1⟩,f.2.2⟩
   |true=>
    cases bb with
    |true=>
     have f:=i.o rfl w4 al.o
     clear i d
     gi_wp2_with fail
     exact f
    |false=>
     have f:=d.o rfl w4 al.o
     clear i d
     gi_wp2_with fail
     exact ⟨f.1,⟨rfl,f.2.1⟩,f.2.2⟩
 ·rintro - D O U hD a8 ⟨N,l,u⟩ a6
  rw[R.o.len] at u
  have af:=Pf HC.o.1 HC.o.2 u
  have hz:=s.o
  have ae:=HB.o
  have ax:=N D a8
  have y:U.heap[B2]?=some (.cells jk 40 (0,0)):=(l.block _ (by omega)).trans ai.o
  have e7:=yb a6
  have e9:=yb l
  have dr:Hid (LH Q w 0):=yb (by rw[<-af];exact HQ.o)
  have ag:=B8 (v:=iV 0) y
  have bo:=yb ag
  have c2:U.cell? (aV B2 0)=some (iV 0):=by simp[World.cell?,y]
  have f2:U.frozen? (aV B2 0)=false:=by simp[World.frozen?,y]
  have P:Hid (Below w.heap.size w (U.setCell (aV B2 0) (iV 0))∧(U.setCell (aV B2 0) (iV 0)).heap[D]?=some (.deferred (some []))∧w.heap.size<=D∧D≠B2):=yb (by
   refine ⟨?_,(Ae _ _ (by omega)).trans a6,by have:=aj.o;omega,by omega⟩
   have h1:Below w.heap.size w U:=z.o.trans (l.mono (by have:=aj.o;omega))
   exact h1.trans ⟨rfl,rfl,rfl,by simp,fun b hb=>Ae _ _ (by omega)⟩)
  clear ag a6 l u af hz ae ax y N hD a8
  refine A9 (A4 ?_)
  go_wp2_with fail
  refine A4 ?_
  go_wp2_with fail
  exact dr.o.done B2 D _ _ rfl (by simp[World.cell?,bo.o]) P.o.1 P.o.2.2.1 P.o.2.2.2 P.o.2.1
 ·rintro D c O U hD a8 ⟨⟨rfl,d3⟩,N,S⟩ a6
  have af:=QO HC.o.1 HC.o.2 d3
  have ae:=HB.o
  have ax:=N D a8
  have ad:=aj.o
  have hz:=s.o
  have hQ:=HQ.o
  rw[af] at hQ
  refine (qm (n:=10)).2 ?_
  go_wp2
  refine hQ.done B2 D _ _ rfl (by simp[World.cell?,S.cell]) ⟨S.os.trans z.o.os,S.tape.trans z.o.tape,S.output.trans z.o.output,by have:=S.size;omega,fun b hb=>(S.block b (by omega) (by omega)).trans (z.o.block b hb)⟩ (by omega) (by omega) a6
end Go.Proofs.YtjofgpfocadomaaGreatDoor
namespace Go.Proofs.YtjofgpfocadomaaGreatDoor
open Go.RowKit
attribute [local go_sem] Oper.semAt_some
set_option linter.unusedSimpArgs false
theorem NL{x:Ar}(a:¬ Bq x=0):Eu x=Bq x:=by unfold Eu;rw[yq a]
theorem NM{x:Ar}(b:Bq x=0){k:Kn}(c:k∈Am [] (Av x))(a:k.ok=false):Eu x=180:=by
 have:¬ (Am [] (Av x)).all (fun k=>k.ok)=true:=fun h=>by
  have:=yW.1 h k c
  rw[a] at this;cases this
 unfold Eu;rw[yw b,yq this]
theorem LK{w:World}{x:Ar}{cs:LV}(hS:Dv w cs x)(e1:x.rots=[])(e2:x.rights=[])(e3:x.duties=[])(l1:x.crops.length<=100000)(l2:x.reaches.length<=100000)(l3:x.farms.length<=100000):
  Calls Tryz.prog 24 #[.agg cs.toArray] w fun e w'=>e=.returned (.int .i64 (Eu x))∧Below w.heap.size w w':=by
 have HS:=yb hS
 have HE:=yb (And.intro e1 (And.intro e2 (And.intro e3 (And.intro l1 (And.intro l2 l3)))))
 obtain ⟨L,ag⟩:=hS.v
 have P:Hid ((Tryz.prog.info? 35).map (·.size)=some cs.length):=yb (Ly ag)
 obtain ⟨W,hW⟩:∃W,W=(w.alloc (.cells cs.toArray 35)).alloc (.cells jk 40):=⟨_,rfl⟩
 have ac:Below w.heap.size w W:=by rw[hW];exact ((yg _ _).alloc (yf _) _).alloc (by simp) _
 have av:W.heap.size=w.heap.size+2:=by rw[hW];simp
 have ar:W.heap[w.heap.size+1]?=some (.cells jk 40 (0,0)):=by
  rw[hW]
  have:=World.alloc_heap_new (w.alloc (.cells cs.toArray 35)) (.cells jk 40)
  rwa [z6] at this
 have ai:W.rangeAt w.heap.size 0 cs:=by
  rw[hW]
  exact Ax ((yA _ _ _ (by simp)).trans (World.alloc_heap_new w (.cells cs.toArray 35)))
 have m:=yb ((hS.up ac).check)
 have E:=yb ac;have M:=yb av;have ab:=yb ar;have B:=yb ai;have HW:=yb hW
 clear hS e1 e2 e3 l1 l2 l3 ac av ar ai hW
 obtain ⟨ks,ad⟩:∃ks,ks=cs:=⟨_,rfl⟩
 rw[<-ad] at HS P m B
 have HK:=yb ad
 obtain ⟨c0,c1,c2,rfl,g0,g1,g2⟩:=ag.cells
 obtain ⟨a0,p0,rfl,e0⟩:=g0.cells
 obtain ⟨a1,p1,rfl,e1⟩:=g1.cells
 obtain ⟨a2,p2,rfl,e2⟩:=g2.cells
 clear ag g0 g1 g2 e0 e1 e2 ad
 unfold Aw.v at*
 simp only[yK,yQ] at HW HK ⊢
 refine Bg (n:=10) Tryz.func24 rfl ?_
 have hQ:=SP w (Eu x)
 generalize bodyPostM Fence.wide 10 Tryz.prog Tryz.f24 _=Q at hQ ⊢
 have HQ:=yb hQ
 clear hQ
 simp only[Tryz.ntmps24,yM,yz,yH,Nat.reduceAdd,Nat.reduceSub,zD,zE,zR,zK,yQ,yK]
 refine A9 (A4 ?_)
 go_wp2
 rw[<-HW.o]
 clear HW HK
 have ba:Bq x=0∨¬ Bq x=0:=Decidable.em _
 rcases ba with hc|hc
 rotate_left
 ·have K:Hid (LH Q w (Bq x)):=yb (by rw[<-NL hc];exact HQ.o)
  generalize Bq x=ck at m K hc
  have e1:(ck !=0)=true:=by simpa using hc
  clear HQ
  refine A9 (A4 ?_)
  go_upto_region 2 with (first
   |(with_reducible refine yj rfl 35 _ rfl w.heap.size 0 rfl ks _ B.o qY rfl P.o ?_)
   |(go_at_call 17;(with_reducible refine m.o.mono ?_);rintro e w2 ⟨rfl,f⟩;have u:=yb f;have c:w2.heap[w.heap.size+1]?=some (.cells jk 40 (0,0)):=(f.block _ (by have:=M.o;omega)).trans ab.o;have N:=yb c;have c2:w2.cell? (aV (w.heap.size+1) 0)=some (iV 0):=(by simp[World.cell?,c]);have f2:w2.frozen? (aV (w.heap.size+1) 0)=false:=(by simp[World.frozen?,c]);clear f c))
  have a:=B8 (v:=iV ck) N.o
  have A:Below w.heap.size w (w2.setCell (aV (w.heap.size+1) 0) (iV ck)):=(E.o.trans (u.o.mono E.o.size)).trans ⟨rfl,rfl,rfl,by simp,fun b hb=>Ae _ _ (by omega)⟩
  have d:=yb A
  clear A c2 f2
  generalize w2.setCell _ _=w3 at a d ⊢
  have y:=yb a
  have c3:w3.cell? (aV (w.heap.size+1) 0)=some (iV ck):=by simp[World.cell?,a]
  have f3:w3.frozen? (aV (w.heap.size+1) 0)=false:=by simp[World.frozen?,a]
  clear a
  go_wp2_with fail
  have bi:=B8 (v:=iV ck) y.o
  exact K.o.early (w.heap.size+1) _ _ rfl (by simp[World.cell?,bi]) (d.o.trans ⟨rfl,rfl,rfl,by simp,fun b hb=>Ae _ _ (by omega)⟩)
 ·rw[hc] at m
  have aw:=yb hc
  clear hc
  refine A9 (A4 ?_)
  go_upto_region 2 with (first
   |(with_reducible refine yj rfl 35 _ rfl w.heap.size 0 rfl ks _ B.o qY rfl P.o ?_)
   |(go_at_call 17;(with_reducible refine m.o.mono ?_);rintro e w2 ⟨rfl,f⟩;have u:=yb f;have c:w2.heap[w.heap.size+1]?=some (.cells jk 40 (0,0)):=(f.block _ (by have:=M.o;omega)).trans ab.o;have N:=yb c;have c2:w2.cell? (aV (w.heap.size+1) 0)=some (iV 0):=(by simp[World.cell?,c]);have f2:w2.frozen? (aV (w.heap.size+1) 0)=false:=(by simp[World.frozen?,c]);clear f c))
  have a:=B8 (v:=iV 0) N.o
  have A:Below w.heap.size w (w2.setCell (aV (w.heap.size+1) 0) (iV 0)):=(E.o.trans (u.o.mono E.o.size)).trans ⟨rfl,rfl,rfl,by simp,fun b hb=>Ae _ _ (by omega)⟩
  have au:(w2.setCell (aV (w.heap.size+1) 0) (iV 0)).rangeAt w.heap.size 0 ks:=A0 B.o ((Ae _ _ (by omega)).trans (u.o.block _ (by have:=M.o;omega)))
  have d:=yb A
  have O:=yb au
  clear A c2 f2 au
  generalize w2.setCell _ _=w3 at a d O ⊢
  have y:=yb a
  have c3:w3.cell? (aV (w.heap.size+1) 0)=some (iV 0):=by simp[World.cell?,a]
  have ap:=yb ((HS.o.up d.o).consts)
  clear a m B u N ab
  go_wp2_with fail
  refine A9 (A4 ?_)
  go_wp2_with (first
   |(with_reducible refine yj rfl 35 _ rfl w.heap.size 0 rfl ks _ O.o qY rfl P.o ?_)
   |(go_at_call 35;with_reducible refine ap.o.mono ?_;rintro e w4 ⟨⟨ka,I,kc⟩,rfl,p,b4⟩;unfold Aw.v;have ak:=yb p;have D:=yb b4;clear p b4))
  have t:Below w4.heap.size w4 (w4.alloc (.cells #[.slice ka I kc] 95)):=(yg _ _).alloc (yf _) _
  have J:(w4.alloc (.cells #[.slice ka I kc] 95)).heap.size=w4.heap.size+1:=by simp
  have s:=World.alloc_heap_new w4 (.cells #[.slice ka I kc] 95)
  have T:=(yd.1 y.o).1
  have aq:=D.o.size
  have aa:=(t.block (w.heap.size+1) (by omega)).trans ((D.o.block _ T).trans y.o)
  have a6:=A0 O.o ((t.block w.heap.size (by omega)).trans (D.o.block _ (by omega)))
  have r:=ak.o.up t
  have C:=(d.o.trans (D.o.mono d.o.size)).trans (t.mono (by omega))
  have af:Hid (w.heap.size+1 < w4.heap.size):=yb (by omega)
  generalize hG:w4.heap.size=G at J s af ⊢
  generalize w4.alloc _=V at J s aa a6 r C ⊢
  have ah:=yb J;have bg:=yb s;have am:=yb aa;have b9:=yb a6;have l:=yb r;have g:=yb C
  have bp:V.cell? (aV G 0)=some (.slice ka I kc):=by simp[World.cell?,s]
  clear hG t J s aa a6 r C T aq d O y ap ak D c3 E M
  have aj:Hid ((Am [] (Av x)).length<=100000):=yb (by rw[Ia];have:=HS.o.slim.lets;simpa[Av] using this)
  obtain ⟨q,p⟩:∃q,q=Am [] (Av x):=⟨_,rfl⟩
  have a8:=yb p
  rw[<-p] at aj l
  clear p
  have ae:Hid (I=q.length):=yb l.o.1
  refine A9 (A4 ?_)
  go_wp2_with fail
  go_loopw [18] (fun iv wr=>∃i:Nat,i<=I∧iv=iV i∧Hid (∀j (h:j < q.length),j < i->q[j].ok=true)∧Hid (Below V.heap.size V wr)) (fun iv _=>I - (intOf iv).toNat)
  case atStart=>exact ⟨0,yI _,rfl,yb (fun _ _ h=>absurd h (by omega)),yb (yg _ _)⟩
  case round=>
   obtain ⟨i,hi,rfl,S,H⟩:=hrel
   by_cases bj:i < I
   ·have Z:i < q.length:=by have:=ae.o;omega
    obtain ⟨b,o,ao,b0,b7⟩:=l.o.get Z
    dsimp only at ao
    subst ao
    have U:q[i]∈q:=yJ Z
    have F:=yb U
    have R:Hid (q[i].ok=true->∀j (h:j < q.length),j < i+1->q[j].ok=true):=yb (fun ho j hj bm=>by
     rcases zO j i with h9|h9
     ·exact S.o j hj h9
     ·obtain rfl:j=i:=by omega
      exact ho)
    obtain ⟨r0,r1,r2,r3,r4,r5,r6,r7⟩:=Qz (A0 b7 (H.o.block b b0))
    have bd:(i:Int) < (I:Int):=by omega
    have an:wrap64 ((i:Int)+1)=((i+1:Nat):Int):=by
     rw[AH (by have:=aj.o;have:=ae.o;omega)];push_cast;rfl
    have bb:=yb an
    have ay:=af.o
    have b5:=(H.o.block (w.heap.size+1) (by have:=ah.o;omega)).trans am.o
    have b8:=H.o.size
    have ax:=yb b5
    clear an U b7 b0 b5
    generalize q[i]=kk at*
    clear Z
    obtain ⟨nm,⟨⟨dl,dh,da⟩,⟨vn,vd⟩,er⟩,ok⟩:=kk
    dsimp only at r0 r1 r2 r3 r4 r5 r6 r7 R
    have a7:Hid (Below V.heap.size V (wr.alloc (.cells #[.string nm,iV dl,iV dh,iV da,iV vn,iV vd,iV er,.bool ok] 98))):=yb (H.o.alloc b8 _)
    have Y:Hid ((wr.alloc (.cells #[.string nm,iV dl,iV dh,iV da,iV vn,iV vd,iV er,.bool ok] 98)).heap[w.heap.size+1]?=some (.cells jk 40 (0,0))):=yb ((yA _ _ _ (by have:=ah.o;omega)).trans ax.o)
    clear ax ay b8 H
    cases ok with
    |true=>
     have az:=yb (R.o rfl)
     clear R F Y
     go_wp2_with fail
     rw[bb.o]
     exact ⟨⟨i+1,by omega,rfl,az,a7⟩,by simp[intOf];omega⟩
    |false=>
     have K:Hid (LH Q w 180):=yb (by
      have h:=HQ.o
      rw[NM aw.o (by rw[<-a8.o];exact F.o) rfl] at h
      exact h)
     clear R F
     go_upto_region 9 with fail
     have z:=Y.o
     generalize wr.alloc _=w6 at a7 z ⊢
     have bn:w6.cell? (aV (w.heap.size+1) 0)=some (iV 0):=by simp[World.cell?,z]
     have bk:w6.frozen? (aV (w.heap.size+1) 0)=false:=by simp[World.frozen?,z]
     have al:=B8 (v:=iV 180) z
     have bh:=yb al
     clear z al r0 r1 r2 r3 r4 r5 r6 r7 Y
     go_wp2_with fail
     refine K.o.early (w.heap.size+1) _ _ rfl (by simp[World.cell?,bh.o]) ?_
     exact (g.o.trans (a7.o.mono g.o.size)).trans ⟨rfl,rfl,rfl,by simp,fun b hb=>Ae _ _ (by omega)⟩
   ·obtain rfl:i=I:=by omega
    have bd:decide ((i:Int) < (i:Int))=false:=by simp
    have X:(Am [] (Av x)).all (fun k=>k.ok)=true:=by
     rw[<-a8.o]
     refine yW.2 fun k hk=>?_
     obtain ⟨j,hj,rfl⟩:=zc.1 hk
     exact S.o j hj (by have:=ae.o;omega)
    have be:=yb X
    clear X
    go_wp2_with fail
    obtain ⟨e1,e2,e3,l1,l2,l3⟩:=HE.o
    have ay:=af.o
    have hZ:=ah.o
    have bo:=H.o.size
    exact Uu (kh:=⟨ka,i,kc⟩) HQ.o HS.o e1 e2 e3 l1 l2 l3 aw.o be.o (g.o.trans (H.o.mono g.o.size)) (A0 b9.o (H.o.block _ (by omega))) ⟨by omega,by omega,by omega⟩
     ((H.o.block _ (by omega)).trans am.o) ((H.o.block _ (by omega)).trans bg.o) (by have h:=l.o.up H.o;rw[a8.o] at h;exact h) _ _ _ _ _ _ _ _ _ _ _ _ _ _ _ _ _ _ _ _ _ _ _ _ _ _ _ _ _ _ _ _ _ _ _ _ _ _ _ _ _ _ _ _ _ _ _ _ _
end Go.Proofs.YtjofgpfocadomaaGreatDoor
namespace Go.Proofs.YtjofgpfocadomaaGreatDoor
open Go.RowKit
set_option linter.unusedSimpArgs false
theorem T6{N:NP}{w:World}{L:Bt}{cs:LV}{x:Ar}(h:BH N w L cs x)(hN:∀b,N b->b < w.heap.size):
  Calls Tryz.prog 8 #[.agg cs.toArray] w fun e w'=>e=.returned (.bool (Ey x))∧Below w.heap.size w w':=by
 have c:Hid ((Tryz.prog.info? 35).map (·.size)=some cs.length):=yb (Ly h)
 have hb:=(yg w.heap.size w).alloc (yf _) (.cells cs.toArray 35)
 have hr:=World.alloc_heap_new w (.cells cs.toArray 35)
 have j:=yb (VK (h.same (fun b hb=>hb) (fun b h2=>hb.block b (hN b h2))) (fun b i=>yt (hN b i) hb.size))
 have k:=yb hb
 have g:Hid ((w.alloc (.cells cs.toArray 35)).rangeAt w.heap.size 0 cs):=yb (Ax hr)
 clear hb hr hN
 obtain ⟨f,a⟩:∃f,f=cs:=⟨_,rfl⟩
 obtain ⟨W,d⟩:∃W,W=w.alloc (.cells cs.toArray 35):=⟨_,rfl⟩
 rw[<-d] at j k g
 rw[<-a] at c j g
 have l:=yb d
 obtain ⟨c0,c1,c2,rfl,p,g1,n⟩:=h.cells
 obtain ⟨z,u,rfl,q⟩:=p.cells
 obtain ⟨a1,A,rfl,s⟩:=g1.cells
 obtain ⟨y,B,rfl,t⟩:=n.cells
 clear h p g1 n q s t a d
 unfold Aw.v at*
 simp only[yK,yQ] at l ⊢
 go_enter Tryz.func8,Tryz.ntmps8
 refine Ab fun K m=>?_
 go_wp2
 refine m.o _ _ ?_
 clear m K
 rw[<-l.o]
 clear l
 go_wp2_with (first
  |(with_reducible refine yj rfl 35 _ rfl w.heap.size 0 rfl f _ g.o qY rfl c.o ?_)
  |(go_at_call 25;(with_reducible refine j.o.mono ?_);rintro e w2 ⟨rfl,h2⟩;have r:=yb h2;clear h2))
 go_ret
 exact ⟨rfl,k.o.trans (r.o.mono k.o.size)⟩
set_option linter.unusedSimpArgs false
theorem KH{x:Int}(h0:0<=x)(h:x<=1000000000):wrap64 x=x:=by
 obtain ⟨n,rfl⟩:=Int.eq_ofNat_of_zero_le h0
 exact AH (by omega)
theorem JK(n d f e:Int)(a:1<=n∧n<=6561)(hd:1<=d∧d<=6561)(b:1<=f∧f<=3)(g: -4<=e∧e<=4)(w:World):
  Calls Tryz.prog 13 #[.int .i64 n,.int .i64 d,.int .i64 f,.int .i64 e] w fun j w'=>j=.returned (.tuple #[.int .i64 (n*Bz f e),.int .i64 (d*Bz f (-e))])∧w=w':=by
 have F:∀m:Int,1<=m->m<=6561->wrap64 (m*f)=m*f∧wrap64 (m*f*f)=m*f*f∧wrap64 (m*f*f*f)=m*f*f*f∧wrap64 (m*f*f*f*f)=m*f*f*f*f:=by
  intro m h1 h2
  have h:f=1∨f=2∨f=3:=by omega
  rcases h with rfl|rfl|rfl<;>exact ⟨KH (by omega) (by omega),KH (by omega) (by omega),KH (by omega) (by omega),KH (by omega) (by omega)⟩
 obtain ⟨n1,n2,o,i⟩:=F n a.1 a.2
 obtain ⟨k,p,c,q⟩:=F d hd.1 hd.2
 clear F a hd b
 have l:e= -4∨e= -3∨e= -2∨e= -1∨e=0∨e=1∨e=2∨e=3∨e=4:=by omega
 clear g
 rcases l with rfl|rfl|rfl|rfl|rfl|rfl|rfl|rfl|rfl
 all_goals
  go_enter Tryz.func13,Tryz.ntmps13
  go_wp2
  refine qC 5 ?_
  repeat (rw[qg];go_wp2)
  refine zw (results_tmp2 rfl _ _ _) rfl ⟨?_,rfl⟩
  try simp only[n1,n2,o,i,k,p,c,q]
  simp[Bz,Int.pow_succ,Int.mul_assoc]
end Go.Proofs.YtjofgpfocadomaaGreatDoor
