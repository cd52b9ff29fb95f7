/- Parts of the proof, in short words: Gx Gy Gz Hg Hh -/
import Derived.Test.YtjofgpfocadomaaGreatDoorUs0
import Derived.Test.YtjofgpfocadomaaGreatDoorUs16
import Derived.Test.YtjofgpfocadomaaGreatDoorUs15
import Derived.Test.YtjofgpfocadomaaGreatDoorUs10
import Derived.Test.YtjofgpfocadomaaGreatDoorUs13
set_option maxHeartbeats 16000000
set_option maxRecDepth 100000
set_option linter.unusedSimpArgs false
namespace Go.Proofs.YtjofgpfocadomaaGreatDoor
open Go.RowKit
set_option linter.unusedSimpArgs false
def I6(NB:NP)(w:World):List (Array Value)->List Ni->Prop
 |[],[]=>True
 |i::is,p::ps=>(∃cs,i=Dz p.dim p.there cs∧AH NB w p.x cs)∧I6 NB w is ps
 |[],_::_=>False
 |_::_,[]=>False
section
variable{NB:NP}{w:World}
theorem I6.append:∀ {a:List (Array Value)} {p:List Ni} {b:List (Array Value)} {q:List Ni},I6 NB w a p->I6 NB w b q->I6 NB w (a++b) (p++q)
 |[],[],_,_,_,h2=>h2
 |_::_,_::_,_,_,h1,h2=>⟨h1.1,I6.append h1.2 h2⟩
 |[],_::_,_,_,h1,_=>h1.elim
 |_::_,[],_,_,h1,_=>h1.elim
theorem I6.one{d:Dm}{a:Bool}{cs:LV}{e:Ex}(h:AH NB w e cs):I6 NB w [Dz d a cs] (FI d a [e]):=⟨⟨cs,rfl,h⟩,trivial⟩
theorem I6.len:∀ {a:List (Array Value)} {p:List Ni},I6 NB w a p->a.length=p.length
 |[],[],_=>rfl
 |_::_,_::_,h=>by simp[I6.len h.2]
 |[],_::_,h=>h.elim
 |_::_,[],h=>h.elim
theorem I6.get:∀ {a:List (Array Value)} {p:List Ni},I6 NB w a p->∀(k:Nat) (h1:k < a.length) (h2:k < p.length),∃cs,a[k]=Dz p[k].dim p[k].there cs∧AH NB w p[k].x cs
 |_::_,_::_,h,0,_,_=>h.1
 |_::_,_::_,h,k+1,h1,h2=>by simpa using I6.get h.2 k (by simpa using h1) (by simpa using h2)
 |[],_::_,h,_,_,_=>h.elim
 |_::_,[],h,_,_,_=>h.elim
theorem I6.flat{α β:Type}{f:α->List (Array Value)}{g:β->List Ni}:∀ {ls:List α} {c:List β},ls.length=c.length->(∀i (h1:i < ls.length) (h2:i < c.length),I6 NB w (f ls[i]) (g c[i]))->I6 NB w (ls.flatMap f) (c.flatMap g)
 |[],[],_,_=>trivial
 |a::ls,b::c,hl,h=>by
  rw[zc,zc]
  exact (h 0 (by simp) (by simp)).append (I6.flat (by simpa using hl) fun i h1 h2=>h (i+1) (by simpa using h1) (by simpa using h2))
 |[],_::_,hl,_=>by simp at hl
 |_::_,[],hl,_=>by simp at hl
theorem L6{α β:Type}(f:α->β):∀l:List α,l.map f=l.flatMap fun a=> [f a]
 |[]=>rfl
 |a::l=>by rw[zu,zc,L6 f l];rfl
theorem Fy{β γ:Type}:∀(l:List β) (P:Nat->β->γ->Prop),(∀i (hi:i < l.length),∃b,P i l[i] b)->∃bs:List γ,bs.length=l.length∧∀i (h1:i < bs.length) (h2:i < l.length),P i l[i] bs[i]
 |[],_,_=>⟨[],rfl,fun i h1 _=>absurd h1 (by simp)⟩
 |a::l,P,h=>by
  obtain ⟨b,hb⟩:=h 0 (by simp)
  obtain ⟨bs,h1,h2⟩:=Fy l (fun i=>P (i+1)) (fun i hi=>h (i+1) (by simpa using hi))
  refine ⟨b::bs,by simp[h1],fun i g1 c=>?_⟩
  cases i with
  |zero=>exact hb
  |succ i=>exact h2 i (by simpa using g1) (by simpa using c)
end
theorem Dx{W:World}{b o k:Nat}{cs:LV}(pre c post:LV)(h:W.rangeAt b o cs)(e:cs=pre++(c++post))(f:o+pre.length=k):W.rangeAt b k c:=by
 intro j v d
 have a:j < c.length:=(yx.1 d).1
 have:=h (pre.length+j) v (by rw[e,yV (by omega),xi,zo a];exact d)
 rw[<-f,zN];exact this
theorem To{w:World}{NB:NP}{Bs:Nat}{L:Bq}{cs:LV}{x:Ax}(hs:BP NB w L cs x)(C:w.rangeAt Bs 0 cs)(hg:GU w)(gb:∀b,b < 6->NB b)(bs:NB Bs)
 (T:x.rots=[])(U:x.rights=[])(S:x.duties=[])(l1:x.crops.length<=100000)(l2:x.reaches.length<=100000)(l3:x.farms.length<=100000):
  ∃(c0 c1 c2:LV) (ccs:List LV) (rcs:List R8) (fcs:List (Bool × LV)),Tn NB w Bs L c0 c1 c2 ccs rcs fcs∧I6 NB w (Dq c0 c1 c2 ccs rcs fcs) (Cl x):=by
 obtain ⟨c0,c1,c2,n,Q,g1,K⟩:=hs.cells
 have t:=Q.is6.len
 have y:=g1.is6.len
 have H:=K.is6.len
 have h:∀(j i:Nat) (v:Value),19+i=j-> [L.lets.v,L.crops.v,L.reaches.v,L.farms.v,L.rots.v,L.rights.v,L.duties.v][i]?=some v->w.cell? (aV Bs j)=some v:=fun j i v V hv=>by
  have:=Dx (k:=19) (.string x.name::(c0++(c1++c2))) [L.lets.v,L.crops.v,L.reaches.v,L.farms.v,L.rots.v,L.rights.v,L.duties.v] [] C (by rw[n];simp) (by simp[t,y,H])
  rw[<-V];exact this i v hv
 obtain ⟨ccs,R,z⟩:=Fy x.crops (fun i d (c:LV)=>∃b o g,L.crops.a=some (aV b o)∧NB b∧w.rangeAt b (o+i*7) (.string g::c)∧AH NB w d.need c) (fun i hi=>by
  obtain ⟨b,o,cs,h1,h2,h3,e,u,c,rfl,G⟩:=hs.crops.2.2 i hi
  exact ⟨c,b,o,_,h1,h2,e,G⟩)
 obtain ⟨rcs,J,A⟩:=Fy x.reaches (fun i d (r:R8)=>∃b o g l,L.reaches.a=some (aV b o)∧NB b∧w.rangeAt b (o+i*51) (.string g::(AU l++(r.c0++(r.c1++(r.c2++(r.c3++(r.c4++(r.c5++(r.c6++r.c7)))))))))∧r.s=!BJ d.siphon∧
   AH NB w d.delay r.c0∧AH NB w d.cap r.c1∧AH NB w d.bank r.c2∧AH NB w d.siphon r.c3∧AH NB w d.evap0 r.c4∧AH NB w d.evap1 r.c5∧AH NB w d.seep0 r.c6∧AH NB w d.seep1 r.c7) (fun i hi=>by
  obtain ⟨b,o,cs,h1,h2,h3,e,u,G,k0,X,Y,Z,k4,k5,k6,k7,rfl,m⟩:=hs.reaches.2.2 i hi
  exact ⟨⟨!BJ (x.reaches[i]).siphon,k0,X,Y,Z,k4,k5,k6,k7⟩,b,o,_,_,h1,h2,e,rfl,m⟩)
 obtain ⟨fcs,P,B⟩:=Fy x.farms (fun i d (f:Bool × LV)=>∃b o g l q,L.farms.a=some (aV b o)∧NB b∧w.rangeAt b (o+i*12) (.string g::(AU l++(.bool d.river::(f.2++AU q))))∧f.1=!d.river∧AH NB w d.area f.2) (fun i hi=>by
  obtain ⟨b,o,cs,h1,h2,h3,e,u,G,h7,c,rfl,m⟩:=hs.farms.2.2 i hi
  exact ⟨(!(x.farms[i]).river,c),b,o,_,_,_,h1,h2,e,rfl,m⟩)
 refine ⟨c0,c1,c2,ccs,rcs,fcs,⟨hg,gb,bs,⟨Q.is6,?_⟩,⟨g1.is6,?_⟩,⟨K.is6,?_⟩,?_,?_,?_,?_,?_,?_,⟨?_,?_,?_⟩,⟨by omega,by omega,by omega⟩,⟨by rw[hs.crops.1,R],fun i hi=>?_⟩,⟨by rw[hs.reaches.1,J],fun i hi=>?_⟩,⟨by rw[hs.farms.1,P],fun i hi=>?_⟩⟩,?_⟩
 ·exact Dx [.string x.name] c0 (c1++(c2++[L.lets.v,L.crops.v,L.reaches.v,L.farms.v,L.rots.v,L.rights.v,L.duties.v])) C (by rw[n];rfl) (by rfl)
 ·exact Dx (.string x.name::c0) c1 (c2++[L.lets.v,L.crops.v,L.reaches.v,L.farms.v,L.rots.v,L.rights.v,L.duties.v]) C (by rw[n];simp) (by simp[t])
 ·exact Dx (.string x.name::(c0++c1)) c2 [L.lets.v,L.crops.v,L.reaches.v,L.farms.v,L.rots.v,L.rights.v,L.duties.v] C (by rw[n];simp) (by simp[t,y])
 ·exact h 20 1 _ rfl rfl
 ·exact h 21 2 _ rfl rfl
 ·exact h 22 3 _ rfl rfl
 ·exact h 23 4 _ rfl rfl
 ·exact h 24 5 _ rfl rfl
 ·exact h 25 6 _ rfl rfl
 ·rw[hs.rots.1,T];rfl
 ·rw[hs.rights.1,U];rfl
 ·rw[hs.duties.1,S];rfl
 ·obtain ⟨b,o,g,h1,h2,h3,e⟩:=z i hi (by omega)
  exact ⟨b,o,g,h1,h2,h3,e.is6⟩
 ·obtain ⟨b,o,g,l,h1,h2,h3,e,I,m1,F,D,O,M,E,N⟩:=A i hi (by omega)
  exact ⟨b,o,g,l,h1,h2,h3,I.is6,m1.is6,F.is6,D.is6,O.is6,M.is6,E.is6,N.is6,_,e,fun W=>KY D W⟩
 ·obtain ⟨b,o,g,l,q,h1,h2,h3,e,u⟩:=B i hi (by omega)
  exact ⟨b,o,g,l,_,q,h1,h2,h3,u.is6,e⟩
 ·have hh:I6 NB w (IF c0 c1 c2) (FI CN true [x.season]++FI AW true [x.cap,x.start]):=⟨⟨_,rfl,Q⟩,⟨_,rfl,g1⟩,⟨_,rfl,K⟩,trivial⟩
  have hr:I6 NB w (ccs.map (Dz Gv true)++(rcs.flatMap CU++fcs.map fun p=>Dz Gu p.1 p.2)) (x.crops.flatMap Tk++(x.reaches.flatMap MZ++x.farms.flatMap PK)):=by
   rw[L6 (Dz Gv true),L6 (fun p:Bool × LV=>Dz Gu p.1 p.2)]
   refine (I6.flat (by omega) fun i h1 h2=>?_).append ((I6.flat (by omega) fun i h1 h2=>?_).append (I6.flat (by omega) fun i h1 h2=>?_))
   ·obtain ⟨b,o,g, -, -, -,e⟩:=z i h1 h2
    exact I6.one e
   ·obtain ⟨b,o,g,l, -, -, -,e,I,m1,F,D,O,M,E,N⟩:=A i h1 h2
    unfold CU MZ
    rw[e]
    exact (I6.one I).append ((I6.one m1).append ((show I6 _ _ [_,_,_] (FI AW true [_,_,_]) from ⟨⟨_,rfl,F⟩,⟨_,rfl,O⟩,⟨_,rfl,M⟩,trivial⟩).append ((I6.one D).append (show I6 _ _ [_,_] (FI O4 true [_,_]) from ⟨⟨_,rfl,E⟩,⟨_,rfl,N⟩,trivial⟩))))
   ·obtain ⟨b,o,g,l,q, -, -, -,e,u⟩:=B i h1 h2
    unfold PK
    rw[e]
    exact I6.one u
  have:=hh.append hr
  unfold Dq Cl
  rw[T,U,S]
  simpa only[zs,yS,yI] using this
end Go.Proofs.YtjofgpfocadomaaGreatDoor
namespace Go.Proofs.YtjofgpfocadomaaGreatDoor
open Go.RowKit
attribute [local go_sem] Oper.semAt_some
set_option linter.unusedSimpArgs false
theorem Ms{F:Fence}{n:Nat}{P:Program}{x y:Code}{Q:QT}{a:Act}{w:World}(h:∀K:Act->World->Prop,Hid (∀a w,Code.wpIn F n P y Q a w->K a w)->Code.wpIn F n P x (Exit.then K Q) a w):Code.wpIn F n P (x.seq y) Q a w:=wpIn_seq (h _ (yb fun _ _ h=>h))
theorem PO{w W:World}{x:Ax}{cs:LV}{L:Bq}{N:NP}(h:BP N w L cs x):Calls Tryz.prog 36 #[.agg cs.toArray] W fun e w'=>e=.returned (.func (.func 74) #[] #[.pointer (some ⟨W.heap.size,0,none⟩)])∧w'=W.alloc (.cells cs.toArray 35):=by
 have c:∀(fn:Fn) (first cap:Array Value) (w:World),(Instr.makeFunc fn first cap).run Tryz.prog w=.ok (.func fn first cap) w:=fun _ _ _ _=>rfl
 obtain ⟨c0,c1,c2,rfl,b,g1,a⟩:=h.cells
 obtain ⟨l,j,rfl,d⟩:=b.cells
 obtain ⟨a1,k,rfl,g⟩:=g1.cells
 obtain ⟨i,m,rfl,f⟩:=a.cells
 clear h b g1 a d g f
 unfold As.v
 simp only[yK,yP]
 go_enter Tryz.func36,Tryz.ntmps36
 go_wp2
 first
 |exact ⟨rfl,rfl⟩
 |(go_ret;exact ⟨rfl,rfl⟩)
theorem PQ(n:Nat)(p:1<=n){Bs:Nat}{L:Bq}{NB:NP}{d:World}{c0 c1 c2:LV}{ccs:List LV}{rcs:List R8}{fcs:List (Bool × LV)}(m:Tn NB d Bs L c0 c1 c2 ccs rcs fcs):
  TQ Fence.wide n Tryz.prog 74 #[.pointer (some ⟨Bs,0,none⟩)] (Ve NB d) (Dq c0 c1 c2 ccs rcs fcs) none:=by
 intro l J Jx Jp W j f o c b g a h0
 refine yX.2 ((Ov n p l Bs L NB d c0 c1 c2 ccs rcs fcs m J Jx Jp W ⟨j,f,a⟩ c b h0).mono ?_)
 rintro e w' (⟨k,h⟩|⟨i,h1,h2⟩)
 ·exact .inl ⟨k,h.imp (fun h=>⟨rfl,h⟩) id⟩
 ·exact .inr ⟨i,h1,h2⟩
structure L7 (Q:Exit->Act->World->Prop) (w:World) (c:Int):Prop where
 early:∀(B2:Nat) tm W,tm.getD 2 undef=.pointer (some ⟨B2,0,none⟩)->W.cell? ⟨B2,0,none⟩=some (.int .i64 c)->Below w.heap.size w W->Q .ret {tmps:=tm,defers:=[]} W
 done:∀(B2 D:Nat) tm W,tm.getD 2 undef=.pointer (some ⟨B2,0,none⟩)->W.cell? ⟨B2,0,none⟩=some (.int .i64 c)->Below w.heap.size w W->w.heap.size<=D->D≠B2->W.heap[D]?=some (.deferred (some []))->Q .ret {tmps:=tm,defers:=[J3 D]} W
theorem RO(w:World)(c:Int):L7 (bodyPostM Fence.wide 10 Tryz.prog Tryz.f24 (fun e w'=>e=.returned (.int .i64 c)∧Below w.heap.size w w')) w c:=by
 have a:∀(B2:Nat) (tm:Array Value) (W:World),tm.getD 2 undef=pV B2 0->W.cell? (aV B2 0)=some (iV c)->(results Tryz.f24 tm).run Tryz.prog W=.ok (iV c) W:=fun B2 tm W h d=>FH rfl h (Ei Tryz.underlying40 rfl d)
 refine ⟨fun B2 tm W h2 d hb=>⟨_,a B2 tm W h2 d,rfl,hb⟩,fun B2 D tm W h2 d hb g f hd=>?_⟩
 refine ⟨by simp,.inl ⟨D,_,rfl,run_takeDeferred hd,⟨_,a B2 tm _ h2 ?_,rfl,hb.trans ⟨rfl,rfl,rfl,by simp,fun b hb=>World.putObj_heap_other (by omega)⟩⟩⟩⟩
 unfold World.cell? at d ⊢
 rw[World.putObj_heap_other (fun e=>f e.symm)]
 exact d
structure Vf (V5:World) (B2:Nat) (c:Int) (U:World):Prop where
 os:U.os=V5.os
 tape:U.tape=V5.tape
 output:U.output=V5.output
 size:V5.heap.size<=U.heap.size
 block:∀b,b < V5.heap.size->b≠B2->U.heap[b]?=V5.heap[b]?
 cell:U.heap[B2]?=some (.cells #[.int .i64 c] 40 (0,0))
theorem Vf.of{d U:World}{B2:Nat}{c c0:Int}(hb:Below d.heap.size d U)(h2:d.heap[B2]?=some (.cells #[.int .i64 c0] 40 (0,0))):Vf d B2 c (U.setCell ⟨B2,0,none⟩ (.int .i64 c)):=by
 have a:B2 < d.heap.size:=(yd.1 h2).1
 refine ⟨hb.os,hb.tape,hb.output,by simpa using hb.size,fun b a e=>(Ad _ _ e).trans (hb.block b a),?_⟩
 have h:=AZ (v:=iV c) ((hb.block _ a).trans h2)
 exact h
theorem RP{V n:World}{B2:Nat}{c:Int}{p:Prop}(s:n.heap.size=V.heap.size+1)(e:B2 < V.heap.size):Ca (fun (_:Unit) (O:NP) U=>p∧(∀b,O b->V.heap.size < b)∧Vf n B2 c U):=by
 intro k O W t W' q o i j d a f
 obtain ⟨r,g,h⟩:=q
 have hs:=h.size
 refine ⟨r,fun b hb=>(f b hb).elim (g b) (fun h=>by omega),i.trans h.os,j.trans h.tape,d.trans h.output,by omega,fun b e l=>(a b (fun m=>?_) (by omega)).trans (h.block b e l),(a B2 (fun m=>?_) (by omega)).trans h.cell⟩
 ·have:=g b m;omega
 ·have:=g B2 m;omega
theorem QN{W:World}{b:Nat}{t:TypeId}{fr:Nat × Nat}{e g l f i a k j c d:Value}(h:W.heap[b]?=some (.cells #[e,g,l,f,i,a,k,j,c,d] t fr)):W.cell? ⟨b,0,none⟩=some e∧W.cell? ⟨b,1,none⟩=some g∧W.cell? ⟨b,2,none⟩=some l∧W.cell? ⟨b,3,none⟩=some f∧W.cell? ⟨b,4,none⟩=some i∧W.cell? ⟨b,5,none⟩=some a∧W.cell? ⟨b,6,none⟩=some k∧W.cell? ⟨b,7,none⟩=some j∧W.cell? ⟨b,8,none⟩=some c∧W.cell? ⟨b,9,none⟩=some d:=by
 simp[World.cell?,h]
def L8(x:Ax)(k:Nat):Prop:=∀j (h:j < (Cl x).length),j < k->Ja (Aq [] (Av x)) (Cl x)[j]=true
theorem PR{x:Ax}(a:BE x=0)(b:(Aq [] (Av x)).all (fun k=>k.ok)=true)(h:(Cl x).all (Ja (Aq [] (Av x)))=false):Ek x=180:=by
 unfold Ek;rw[yD a,yD b,h];rfl
theorem Ow{x:Ax}(c:BE x=0)(d:(Aq [] (Av x)).all (fun k=>k.ok)=true)(h:L8 x (Cl x).length):Ek x=0:=by
 have:(Cl x).all (Ja (Aq [] (Av x)))=true:=yU.2 fun p b=>by
  obtain ⟨j,a,rfl⟩:=zg.1 b
  exact h j a a
 unfold Ek;rw[yD c,yD d,this];rfl
theorem PS{x:Ax}{k:Nat}{p:Ni}(h:L8 x k)(b:(Cl x)[k]?=some p)(d:Ja (Aq [] (Av x)) p=true):L8 x (k+1):=by
 intro j c e
 rcases zQ j k with a|a
 ·exact h j c a
 ·obtain rfl:j=k:=by omega
  rw[yk c] at b
  rw[yi b];exact d
theorem Um{x:Ax}{k:Nat}{p:Ni}(a:(Cl x)[k]?=some p)(b:Ja (Aq [] (Av x)) p=false):(Cl x).all (Ja (Aq [] (Av x)))=false:=by
 rw[xj]
 exact ⟨p,zR a,by simp[b]⟩
theorem Tp{Q:QT}{w V:World}{x:Ax}{cs:LV}{B2 B3:Nat}{kh:As}(hQ:L7 Q w (Ek x))(hS:DI w cs x)
 (e1:x.rots=[])(e2:x.rights=[])(e3:x.duties=[])(l1:x.crops.length<=100000)(l2:x.reaches.length<=100000)(l3:x.farms.length<=100000)(hc:BE x=0)(hk:(Aq [] (Av x)).all (fun k=>k.ok)=true)
 (hb:Below w.heap.size w V)(d8:V.rangeAt w.heap.size 0 cs)(hB:w.heap.size < B2∧B2 < B3∧B3 < V.heap.size)
 (h2:V.heap[B2]?=some (.cells #[.int .i64 0] 40 (0,0)))(h3:V.heap[B3]?=some (.cells #[kh.v] 95 (0,0)))(bq:OY V kh (Aq [] (Av x)))
 (u0 u4 u5 u6 u7 u8 u9 bn bp b5 cm bw cg cr d9 bv ax cl db b9 ap ce cz di dm dk cn be cv cw c8 bo bk cx b7 bu d6 d3 cp ba bg cc aw bh cu av co d7 b4:Value):
  Fz 24 Tryz.prog (GR 4 (Tryz.f24.body.getD .skip)) Q {tmps:=#[u0,.pointer (some ⟨w.heap.size,0,none⟩),.pointer (some ⟨B2,0,none⟩),.pointer (some ⟨B3,0,none⟩),u4,u5,u6,u7,u8,u9,bn,bp,b5,cm,bw,cg,cr,d9,bv,ax,cl,db,b9,ap,ce,cz,di,dm,dk,cn,be,cv,cw,c8,bo,bk,cx,b7,bu,d6,d3,cp,ba,bg,cc,aw,bh,cu,av,co,d7,b4],defers:=[]} V:=by
 obtain ⟨s,a7⟩:∃s,s=V.alloc (.cells cs.toArray 35):=⟨_,rfl⟩
 have C:Below V.heap.size V s:=by rw[a7];exact (yg _ _).alloc (yf _) _
 have c9:s.heap.size=V.heap.size+1:=by rw[a7];simp
 have a8:=hb.size
 obtain ⟨NB,a0⟩:∃NB:NP,NB=fun b=>b < w.heap.size∨b=V.heap.size:=⟨_,rfl⟩
 have aa:∀b,NB b->b < s.heap.size∧b≠B2∧b≠B3:=fun b hb=>by rw[a0] at hb;rcases hb with hb|hb<;>omega
 obtain ⟨L,hv⟩:=hS.v
 have ay:BP NB s L cs x:=hv.same (fun b h=>by rw[a0];exact .inl h) (fun b h=>(C.block b (by omega)).trans (hb.block b h))
 have a6:=hv
 have B:Below w.heap.size w s:=hb.trans (C.mono a8)
 obtain ⟨d0,d1,d2,ccs,rcs,fcs,bx,b8⟩:=To (Bs:=V.heap.size) ay (by rw[a7];exact AA (World.alloc_heap_new V (.cells cs.toArray 35))) (hS.gu.up B) (fun b e7=>by rw[a0];have:=hS.gu.size;exact .inl (by omega)) (by rw[a0];exact .inr rfl) e1 e2 e3 l1 l2 l3
 have bj:s.heap[B2]?=some (.cells j8 40 (0,0)):=(C.block _ (by omega)).trans h2
 have bd:s.heap[B3]?=some (.cells #[kh.v] 95 (0,0)):=(C.block _ (by omega)).trans h3
 have d4:∀(U:World) (e:Ex) (c:LV),Below s.heap.size s U->AH NB s e c->Calls Tryz.prog 38 #[kh.v,.agg c.toArray,iV 8] U (Ob (DV (Aq [] (Av x)) 8 e) U):=fun U e c hU he=>
  On x (hS.gu.up (B.trans (hU.mono B.size))) (bq.up (C.trans (hU.mono C.size))) (he.same (fun b h=>yu (aa b h).1 hU.size) (fun b h=>hU.block b (aa b h).1))
 have dr:=yb (PO (W:=V) a6)
 have dv:Hid ((Tryz.prog.info? 35).map (·.size)=some cs.length):=yb (KX a6)
 have dt:=yb bx;have S:=yb b8;have dp:=yb d4;have dj:=yb d8;have df:=yb a7;have r:=yb c9
 have al:=yb bj;have dq:=yb bd;have HQ:=yb hQ;have HB:=yb hB;have ak:=yb aa;have HC:=yb (And.intro hc hk);have A:=yb B
 have ai:Hid (w.heap.size<=V.heap.size):=yb a8
 clear bx b8 d4 d8 a7 c9 bj bd hQ hB aa hc hk B a8 ay a6 hv hb C h2 h3 bq hS e1 e2 e3 l1 l2 l3 a0
 refine A9 (A9 (A4 ?_))
 go_wp2_with (first
  |(with_reducible refine yj rfl 35 _ rfl w.heap.size 0 rfl cs _ dj.o qP rfl dv.o ?_)
  |(go_at_call 36;with_reducible refine dr.o.mono ?_;rintro e w2 ⟨rfl,rfl⟩))
 rw[<-df.o]
 refine D4 ?_
 obtain ⟨Ap,ch⟩:∃Ap:Nat->Act->NP->World->Prop,Ap=fun k a O U=>∃(vo vn vu:Int) (m:ByteArray) (q:Int) (vp:Option Addr) (vm vk:Nat) (Y:Bool) (M H I:Int) (g:Nat) (p:Ni),(Cl x)[k]?=some p∧AH NB s p.x [iV vo,iV vn,iV vu,.string m,iV q,.slice vp vm vk]∧p.there=Y∧p.dim=⟨M,H,I⟩∧¬ O g∧V.heap.size < g∧g < U.heap.size∧U.heap[g]?=some (.cells #[iV vo,iV vn,iV vu,.string m,iV q,.slice vp vm vk,.bool Y,iV M,iV H,iV I] 103 (0,0))∧a={tmps:=#[u0,pV w.heap.size 0,pV B2 0,pV B3 0,u4,u5,pV g 0,u7,u8,u9,bn,bp,b5,cm,bw,cg,cr,d9,bv,ax,cl,db,b9,ap,ce,cz,.agg cs.toArray,.func (.func 74) #[] #[pV V.heap.size 0],.agg #[iV vo,iV vn,iV vu,.string m,iV q,.slice vp vm vk,.bool Y,iV M,iV H,iV I],cn,be,cv,cw,c8,bo,bk,cx,b7,bu,d6,d3,cp,ba,bg,cc,aw,bh,cu,av,co,d7,b4],defers:=[]}:=⟨_,rfl⟩
 have ao:=yb ch
 clear ch
 refine CA (n:=10) Tryz.func24 rfl (fun _ _=>rfl) (PQ 9 (by omega) dt.o) (fun a ha=>by
   obtain ⟨k,hk,rfl⟩:=zg.1 ha
   obtain ⟨c,h, -⟩:=S.o.get k hk (by rw[<-S.o.len];exact hk)
   rw[h];rfl)
  (LJ V.heap.size s (L8 x)) (fun c O U=>(c=.ret∧(Cl x).all (Ja (Aq [] (Av x)))=false)∧(∀b,O b->V.heap.size < b)∧Vf s B2 180 U) (fun _ _ _=>False)
  (fun k a O U=>LJ V.heap.size s (L8 x) k O U∧Ap k a O U)
  (LJ.stays r.o) (fun c=>RP r.o (by have:=HB.o;omega)) (fun _ _ _ _ _ _ h=>h.elim) ?_ ?_ ?_ (fun _ h=>by cases h) ⟨fun _ h=>h.elim,by rw[<-r.o];exact yg _ _,fun j _ hj=>absurd hj (by omega)⟩ ?_ ?_ ?_ ?_ (fun _ _ _ _ _ _ h=>h.elim)
 ·rintro a k O W O' W' ⟨h1,hA⟩ hz ho ht hu J P
  rw[ao.o] at hA ⊢
  obtain ⟨vo,vn,vu,m,q,vp,vm,vk,Y,M,H,I,g,p,g1,g2,g3,g4,g5,g6,g7,g8,g9⟩:=hA
  exact ⟨LJ.stays r.o k O W O' W' h1 hz ho ht hu J P,vo,vn,vu,m,q,vp,vm,vk,Y,M,H,I,g,p,g1,g2,g3,g4,fun h=>(P g h).elim g5 (fun h=>by omega),g6,by omega,(J g g5 g7).trans g8,g9⟩
 ·rintro k O U ⟨-,hb, -⟩ b hN
  exact hb.block b (by rw[<-r.o];exact (ak.o b hN).1)
 ·rintro c O U ⟨-, -,h⟩ b hN
  exact h.block b (ak.o b hN).1 (ak.o b hN).2.1
 ·intro k hk O U lo hJ P hl T
  obtain ⟨c,hc,z⟩:=S.o.get k hk (by rw[<-S.o.len];exact hk)
  have J:k < (Cl x).length:=by rw[<-S.o.len];exact hk
  have am:(Cl x)[k]?=some ((Cl x)[k]'J):=yk J
  rw[hc]
  generalize (Cl x)[k]'J=p at am z ⊢
  obtain ⟨px,Y,M,H,I⟩:=p
  obtain ⟨vo,vn,vu,m,q,vp,vm,vk,rfl⟩:=z.is6
  have HJ:=yb hJ;have ci:=yb T;have dg:=yb am;have dx:=yb z
  clear hJ P hl T hk hc am z J
  unfold Dz Dm.row
  simp only[yK,yP]
  gi_wp2
  have dd:AO O U (U.alloc (.cells #[iV vo,iV vn,iV vu,.string m,iV q,.slice vp vm vk,.bool Y,iV M,iV H,iV I] 103)):=⟨by simp,fun b hb=>yA _ _ _ (ci.o b hb)⟩
  have ck:LJ V.heap.size s (L8 x) k O (U.alloc (.cells #[iV vo,iV vn,iV vu,.string m,iV q,.slice vp vm vk,.bool Y,iV M,iV H,iV I] 103)):=⟨HJ.o.1,HJ.o.2.1.alloc (by have:=HJ.o.2.1.size;have:=r.o;omega) _,HJ.o.2.2⟩
  have cd:¬ O U.heap.size:=fun h=>qu _ (ci.o _ h)
  have cj:V.heap.size < U.heap.size:=by have:=HJ.o.2.1.size;have:=r.o;omega
  refine ⟨dd,ck,?_⟩
  rw[ao.o]
  exact ⟨vo,vn,vu,m,q,vp,vm,vk,Y,M,H,I,U.heap.size,_,dg.o,dx.o,rfl,rfl,cd,cj,by simp,World.alloc_heap_new _ _,rfl⟩
 ·rintro k hk O U lo a1 hl d5 T ⟨⟨P,l,u⟩,hA⟩
  rw[ao.o] at hA
  obtain ⟨vo,vn,vu,m,q,vp,vm,vk,Y,M,H,I,g,p,hp,z,bt,aq,dy,dw,dc,X,rfl⟩:=hA
  have ac:=HB.o
  have hz:=r.o
  have de:=l.size
  have y:U.heap[B2]?=some (.cells j8 40 (0,0)):=(l.block _ (by omega)).trans al.o
  have cy:U.heap[B3]?=some (.cells #[kh.v] 95 (0,0)):=(l.block _ (by omega)).trans dq.o
  have i:Hid (Ja (Aq [] (Av x)) p=true->∀U',Below U.heap.size U U'->AO O U U'∧LJ V.heap.size s (L8 x) (k+1) O U'):=yb (fun ho U' F=>⟨⟨F.size,fun b hb=>F.block b (T b hb)⟩,P,l.trans (F.mono (by omega)),PS u hp ho⟩)
  have d:Hid (Ja (Aq [] (Av x)) p=false->∀U',Below U.heap.size U U'->AO O U (U'.setCell (aV B2 0) (iV 180))∧((Cl x).all (Ja (Aq [] (Av x)))=false∧(∀b,O b->V.heap.size < b)∧Vf s B2 180 (U'.setCell (aV B2 0) (iV 180)))):=yb (fun ho U' F=>⟨⟨by simpa using F.size,fun b hb=>(Ad _ _ (by have:=P b hb;omega)).trans (F.block b (T b hb))⟩,Um hp ho,P,Vf.of ((by rw[hz];exact l:Below s.heap.size s U).trans (F.mono (by omega))) al.o⟩)
  have ae:=yb (KY z U)
  have t:=yb (dp.o U p.x _ (by rw[hz];exact l) z)
  have au:Ja (Aq [] (Av x)) p=if Y=true then (DV (Aq [] (Av x)) 8 p.x).2&&decide ((DV (Aq [] (Av x)) 8 p.x).1.dim=(⟨M,H,I⟩:Dm)) else BJ p.x:=by unfold Ja;rw[bt,aq]
  rw[au] at i d
  have c2:U.cell? (aV B2 0)=some (iV 0):=by simp[World.cell?,y]
  have f2:U.frozen? (aV B2 0)=false:=by simp[World.frozen?,y]
  have c3:U.cell? (aV B3 0)=some kh.v:=by simp[World.cell?,cy]
  have cq:=yb y
  have dn:=yb X
  have ah:Hid (g < U.heap.size∧B2 < U.heap.size):=yb ⟨dc,by omega⟩
  obtain ⟨x0,x1,x2,x3,x4,x5,x6,x7,x8,x9⟩:=QN X
  generalize DV (Aq [] (Av x)) 8 p.x=qq at i d t
  generalize BJ p.x=le at i d ae
  clear au bt aq z hp dy dw dc X y cy de hz ac P l u hl d5 T
  unfold As.v at c3 t
  refine wpIn_block ?_
  cases Y with
  |false=>
   simp only[if_false,Bool.false_eq_true] at i d
   clear t
   cases le with
   |true=>
    gi_wp2_with fail
    refine ⟨trivial,zj (CallsIn.inRound lo (yX.2 ae.o)) ?_⟩
    rintro e w3 ⟨rfl,E⟩
    have f:=i.o trivial w3 E
    clear i d
    gi_wp2_with fail
    exact f
   |false=>
    gi_wp2_with fail
    refine ⟨trivial,zj (CallsIn.inRound lo (yX.2 ae.o)) ?_⟩
    rintro e w3 ⟨rfl,E⟩
    have f:=d.o trivial w3 E
    have ar:=(E.block _ ah.o.2).trans cq.o
    have e8:w3.cell? (aV B2 0)=some (iV 0):=by simp[World.cell?,ar]
    have e4:w3.frozen? (aV B2 0)=false:=by simp[World.frozen?,ar]
    clear i d
    gi_wp2_with fail
    exact ⟨f.1,⟨rfl,f.2.1⟩,f.2.2⟩
  |true=>
   simp only[xm] at i d
   clear ae
   obtain ⟨⟨⟨ql,qh,qa⟩,⟨az,b0⟩,er⟩,ok⟩:=qq
   unfold Ob Qn.val at t
   dsimp only at t i d
   refine Ms fun K hK=>?_
   gi_wp2_with fail
   refine hK.o _ _ ?_
   clear hK K
   refine Ms fun K hK=>?_
   gi_wp2_with fail
   refine ⟨trivial,zj (CallsIn.inRound lo (yX.2 t.o)) ?_⟩
   rintro e w3 ⟨rfl,E⟩
   have bm:=yb E
   clear E c2 f2 c3 x0 x1 x2 x3 x4 x5 x6 x7 x8 x9
   gi_wp2_with fail
   refine hK.o _ _ ?_
   clear hK K
   have Z:=bm.o.alloc bm.o.size (.cells #[iV ql,iV qh,iV qa,iV az,iV b0,iV er] 70)
   have af:=World.alloc_heap_new w3 (.cells #[iV ql,iV qh,iV qa,iV az,iV b0,iV er] 70)
   generalize hG:w3.heap.size=G at af ⊢
   clear hG
   generalize w3.alloc _=w4 at Z af ⊢
   have aj:=(Z.block _ ah.o.2).trans cq.o
   have X:=(Z.block _ ah.o.1).trans dn.o
   have e0:w4.cell? (aV B2 0)=some (iV 0):=by simp[World.cell?,aj]
   have dz:w4.frozen? (aV B2 0)=false:=by simp[World.frozen?,aj]
   obtain ⟨x0,x1,x2,x3,x4,x5,x6,x7,x8,x9⟩:=QN X
   obtain ⟨q0,q1,q2,q3,q4,q5⟩:=Cg af
   have an:=yb Z
   clear Z X af aj x0 x1 x2 x3 x4 x5 x6 q3 q4 q5
   have hq:=O8 ql qh qa M H I
   have e6:Tryz.prog.eqGuardType Tryz.prog.depth 68=false:=by kernel_rfl
   have cf:decide ((⟨ql,qh,qa⟩:Dm)=⟨M,H,I⟩)=(decide (ql=M)&&(decide (qh=H)&&decide (qa=I))):=by
    rw[xS];simp
   rw[cf] at i d
   generalize (decide (ql=M)&&(decide (qh=H)&&decide (qa=I)))=bb at i d hq
   clear cf
   cases ok with
   |false=>
    have f:=d.o rfl w4 an.o
    clear i d
    gi_wp2_with fail
    exact ⟨f.1,⟨rfl,f.2.1⟩,f.2.2⟩
   |true=>
    cases bb with
    |true=>
     have f:=i.o rfl w4 an.o
     clear i d
     gi_wp2_with fail
     exact f
    |false=>
     have f:=d.o rfl w4 an.o
     clear i d
     gi_wp2_with fail
     exact ⟨f.1,⟨rfl,f.2.1⟩,f.2.2⟩
 ·rintro - D O U hD ab ⟨P,l,u⟩ a2
  rw[S.o.len] at u
  have ad:=Ow HC.o.1 HC.o.2 u
  have hz:=r.o
  have ac:=HB.o
  have bi:=P D ab
  have y:U.heap[B2]?=some (.cells j8 40 (0,0)):=(l.block _ (by omega)).trans al.o
  have e5:=yb a2
  have e9:=yb l
  have du:Hid (L7 Q w 0):=yb (by rw[<-ad];exact HQ.o)
  have ag:=AZ (v:=iV 0) y
  have ct:=yb ag
  have c2:U.cell? (aV B2 0)=some (iV 0):=by simp[World.cell?,y]
  have f2:U.frozen? (aV B2 0)=false:=by simp[World.frozen?,y]
  have N:Hid (Below w.heap.size w (U.setCell (aV B2 0) (iV 0))∧(U.setCell (aV B2 0) (iV 0)).heap[D]?=some (.deferred (some []))∧w.heap.size<=D∧D≠B2):=yb (by
   refine ⟨?_,(Ad _ _ (by omega)).trans a2,by have:=ai.o;omega,by omega⟩
   have h1:Below w.heap.size w U:=A.o.trans (l.mono (by have:=ai.o;omega))
   exact h1.trans ⟨rfl,rfl,rfl,by simp,fun b hb=>Ad _ _ (by omega)⟩)
  clear ag a2 l u ad hz ac bi y P hD ab
  refine A9 (A4 ?_)
  go_wp2_with fail
  refine A4 ?_
  go_wp2_with fail
  exact du.o.done B2 D _ _ rfl (by simp[World.cell?,ct.o]) N.o.1 N.o.2.2.1 N.o.2.2.2 N.o.2.1
 ·rintro D c O U hD ab ⟨⟨rfl,bz⟩,P,R⟩ a2
  have ad:=PR HC.o.1 HC.o.2 bz
  have ac:=HB.o
  have bi:=P D ab
  have a8:=ai.o
  have hz:=r.o
  have hQ:=HQ.o
  rw[ad] at hQ
  refine (xZ (n:=10)).2 ?_
  go_wp2
  refine hQ.done B2 D _ _ rfl (by simp[World.cell?,R.cell]) ⟨R.os.trans A.o.os,R.tape.trans A.o.tape,R.output.trans A.o.output,by have:=R.size;omega,fun b hb=>(R.block b (by omega) (by omega)).trans (A.o.block b hb)⟩ (by omega) (by omega) a2
end Go.Proofs.YtjofgpfocadomaaGreatDoor
namespace Go.Proofs.YtjofgpfocadomaaGreatDoor
open Go.RowKit
attribute [local go_sem] Oper.semAt_some
set_option linter.unusedSimpArgs false
theorem N0{x:Ax}(a:¬ BE x=0):Ek x=BE x:=by unfold Ek;rw[yq a]
theorem N3{x:Ax}(b:BE x=0){k:Kn}(c:k∈Aq [] (Av x))(a:k.ok=false):Ek x=180:=by
 have:¬ (Aq [] (Av x)).all (fun k=>k.ok)=true:=fun h=>by
  have:=yU.1 h k c
  rw[a] at this;cases this
 unfold Ek;rw[yD b,yq this]
theorem L9{w:World}{x:Ax}{cs:LV}(hS:DI w cs x)(e1:x.rots=[])(e2:x.rights=[])(e3:x.duties=[])(l1:x.crops.length<=100000)(l2:x.reaches.length<=100000)(l3:x.farms.length<=100000):
  Calls Tryz.prog 24 #[.agg cs.toArray] w fun e w'=>e=.returned (.int .i64 (Ek x))∧Below w.heap.size w w':=by
 have HS:=yb hS
 have HE:=yb (And.intro e1 (And.intro e2 (And.intro e3 (And.intro l1 (And.intro l2 l3)))))
 obtain ⟨L,ad⟩:=hS.v
 have N:Hid ((Tryz.prog.info? 35).map (·.size)=some cs.length):=yb (KX ad)
 obtain ⟨W,hW⟩:∃W,W=(w.alloc (.cells cs.toArray 35)).alloc (.cells j8 40):=⟨_,rfl⟩
 have Y:Below w.heap.size w W:=by rw[hW];exact ((yg _ _).alloc (yf _) _).alloc (by simp) _
 have ar:W.heap.size=w.heap.size+2:=by rw[hW];simp
 have aj:W.heap[w.heap.size+1]?=some (.cells j8 40 (0,0)):=by
  rw[hW]
  have:=World.alloc_heap_new (w.alloc (.cells cs.toArray 35)) (.cells j8 40)
  rwa [yY] at this
 have ap:W.rangeAt w.heap.size 0 cs:=by
  rw[hW]
  exact AA ((yA _ _ _ (by simp)).trans (World.alloc_heap_new w (.cells cs.toArray 35)))
 have m:=yb ((hS.up Y).check)
 have z:=yb Y;have P:=yb ar;have ag:=yb aj;have E:=yb ap;have HW:=yb hW
 clear hS e1 e2 e3 l1 l2 l3 Y ar aj ap hW
 obtain ⟨ks,a6⟩:∃ks,ks=cs:=⟨_,rfl⟩
 rw[<-a6] at HS N m E
 have HK:=yb a6
 obtain ⟨c0,c1,c2,rfl,g0,g1,g2⟩:=ad.cells
 obtain ⟨a0,p0,rfl,e0⟩:=g0.cells
 obtain ⟨a1,p1,rfl,e1⟩:=g1.cells
 obtain ⟨a2,p2,rfl,e2⟩:=g2.cells
 clear ad g0 g1 g2 e0 e1 e2 a6
 unfold As.v at*
 simp only[yK,yP] at HW HK ⊢
 refine Bb (n:=10) Tryz.func24 rfl ?_
 have hQ:=RO w (Ek x)
 generalize bodyPostM Fence.wide 10 Tryz.prog Tryz.f24 _=Q at hQ ⊢
 have HQ:=yb hQ
 clear hQ
 simp only[Tryz.ntmps24,yM,yv,yE,Nat.reduceAdd,Nat.reduceSub,zx,zy,zM,zG,yP,yK]
 refine A9 (A4 ?_)
 go_wp2
 rw[<-HW.o]
 clear HW HK
 have b9:BE x=0∨¬ BE x=0:=Decidable.em _
 rcases b9 with hc|hc
 rotate_left
 ·have J:Hid (L7 Q w (BE x)):=yb (by rw[<-N0 hc];exact HQ.o)
  generalize BE x=ck at m J hc
  have e1:(ck !=0)=true:=by simpa using hc
  clear HQ
  refine A9 (A4 ?_)
  go_upto_region 2 with (first
   |(with_reducible refine yj rfl 35 _ rfl w.heap.size 0 rfl ks _ E.o qP rfl N.o ?_)
   |(go_at_call 17;(with_reducible refine m.o.mono ?_);rintro e w2 ⟨rfl,f⟩;have H:=yb f;have c:w2.heap[w.heap.size+1]?=some (.cells j8 40 (0,0)):=(f.block _ (by have:=P.o;omega)).trans ag.o;have O:=yb c;have c2:w2.cell? (aV (w.heap.size+1) 0)=some (iV 0):=(by simp[World.cell?,c]);have f2:w2.frozen? (aV (w.heap.size+1) 0)=false:=(by simp[World.frozen?,c]);clear f c))
  have a:=AZ (v:=iV ck) O.o
  have C:Below w.heap.size w (w2.setCell (aV (w.heap.size+1) 0) (iV ck)):=(z.o.trans (H.o.mono z.o.size)).trans ⟨rfl,rfl,rfl,by simp,fun b hb=>Ad _ _ (by omega)⟩
  have d:=yb C
  clear C c2 f2
  generalize w2.setCell _ _=w3 at a d ⊢
  have D:=yb a
  have c3:w3.cell? (aV (w.heap.size+1) 0)=some (iV ck):=by simp[World.cell?,a]
  have f3:w3.frozen? (aV (w.heap.size+1) 0)=false:=by simp[World.frozen?,a]
  clear a
  go_wp2_with fail
  have bg:=AZ (v:=iV ck) D.o
  exact J.o.early (w.heap.size+1) _ _ rfl (by simp[World.cell?,bg]) (d.o.trans ⟨rfl,rfl,rfl,by simp,fun b hb=>Ad _ _ (by omega)⟩)
 ·rw[hc] at m
  have ak:=yb hc
  clear hc
  refine A9 (A4 ?_)
  go_upto_region 2 with (first
   |(with_reducible refine yj rfl 35 _ rfl w.heap.size 0 rfl ks _ E.o qP rfl N.o ?_)
   |(go_at_call 17;(with_reducible refine m.o.mono ?_);rintro e w2 ⟨rfl,f⟩;have H:=yb f;have c:w2.heap[w.heap.size+1]?=some (.cells j8 40 (0,0)):=(f.block _ (by have:=P.o;omega)).trans ag.o;have O:=yb c;have c2:w2.cell? (aV (w.heap.size+1) 0)=some (iV 0):=(by simp[World.cell?,c]);have f2:w2.frozen? (aV (w.heap.size+1) 0)=false:=(by simp[World.frozen?,c]);clear f c))
  have a:=AZ (v:=iV 0) O.o
  have C:Below w.heap.size w (w2.setCell (aV (w.heap.size+1) 0) (iV 0)):=(z.o.trans (H.o.mono z.o.size)).trans ⟨rfl,rfl,rfl,by simp,fun b hb=>Ad _ _ (by omega)⟩
  have az:(w2.setCell (aV (w.heap.size+1) 0) (iV 0)).rangeAt w.heap.size 0 ks:=A0 E.o ((Ad _ _ (by omega)).trans (H.o.block _ (by have:=P.o;omega)))
  have d:=yb C
  have R:=yb az
  clear C c2 f2 az
  generalize w2.setCell _ _=w3 at a d R ⊢
  have D:=yb a
  have c3:w3.cell? (aV (w.heap.size+1) 0)=some (iV 0):=by simp[World.cell?,a]
  have am:=yb ((HS.o.up d.o).consts)
  clear a m E H O ag
  go_wp2_with fail
  refine A9 (A4 ?_)
  go_wp2_with (first
   |(with_reducible refine yj rfl 35 _ rfl w.heap.size 0 rfl ks _ R.o qP rfl N.o ?_)
   |(go_at_call 35;with_reducible refine am.o.mono ?_;rintro e w4 ⟨⟨ka,I,kc⟩,rfl,p,aq⟩;unfold As.v;have an:=yb p;have F:=yb aq;clear p aq))
  have s:Below w4.heap.size w4 (w4.alloc (.cells #[.slice ka I kc] 95)):=(yg _ _).alloc (yf _) _
  have M:(w4.alloc (.cells #[.slice ka I kc] 95)).heap.size=w4.heap.size+1:=by simp
  have A:=World.alloc_heap_new w4 (.cells #[.slice ka I kc] 95)
  have X:=(yd.1 D.o).1
  have b0:=F.o.size
  have a8:=(s.block (w.heap.size+1) (by omega)).trans ((F.o.block _ X).trans D.o)
  have af:=A0 R.o ((s.block w.heap.size (by omega)).trans (F.o.block _ (by omega)))
  have t:=an.o.up s
  have u:=(d.o.trans (F.o.mono d.o.size)).trans (s.mono (by omega))
  have aa:Hid (w.heap.size+1 < w4.heap.size):=yb (by omega)
  generalize hG:w4.heap.size=G at M A aa ⊢
  generalize w4.alloc _=V at M A a8 af t u ⊢
  have Z:=yb M;have be:=yb A;have ay:=yb a8;have bd:=yb af;have g:=yb t;have l:=yb u
  have bo:V.cell? (aV G 0)=some (.slice ka I kc):=by simp[World.cell?,A]
  clear hG s M A a8 af t u X b0 d R D am an F c3 z P
  have al:Hid ((Aq [] (Av x)).length<=100000):=yb (by rw[Hn];have:=HS.o.slim.lets;simpa[Av] using this)
  obtain ⟨q,p⟩:∃q,q=Aq [] (Av x):=⟨_,rfl⟩
  have ac:=yb p
  rw[<-p] at al g
  clear p
  have a7:Hid (I=q.length):=yb g.o.1
  refine A9 (A4 ?_)
  go_wp2_with fail
  go_loopw [18] (fun iv wr=>∃i:Nat,i<=I∧iv=iV i∧Hid (∀j (h:j < q.length),j < i->q[j].ok=true)∧Hid (Below V.heap.size V wr)) (fun iv _=>I - (intOf iv).toNat)
  case atStart=>exact ⟨0,yH _,rfl,yb (fun _ _ h=>absurd h (by omega)),yb (yg _ _)⟩
  case round=>
   obtain ⟨i,hi,rfl,T,y⟩:=hrel
   by_cases bm:i < I
   ·have ae:i < q.length:=by have:=a7.o;omega
    obtain ⟨b,o,aw,b7,b8⟩:=g.o.get ae
    dsimp only at aw
    subst aw
    have S:q[i]∈q:=yJ ae
    have r:=yb S
    have K:Hid (q[i].ok=true->∀j (h:j < q.length),j < i+1->q[j].ok=true):=yb (fun ho j hj bp=>by
     rcases zQ j i with h9|h9
     ·exact T.o j hj h9
     ·obtain rfl:j=i:=by omega
      exact ho)
    obtain ⟨r0,r1,r2,r3,r4,r5,r6,r7⟩:=PC (A0 b8 (y.o.block b b7))
    have ba:(i:Int) < (I:Int):=by omega
    have au:wrap64 ((i:Int)+1)=((i+1:Nat):Int):=by
     rw[AL (by have:=al.o;have:=a7.o;omega)];push_cast;rfl
    have bh:=yb au
    have ax:=aa.o
    have ao:=(y.o.block (w.heap.size+1) (by have:=Z.o;omega)).trans ay.o
    have av:=y.o.size
    have ai:=yb ao
    clear au S b8 b7 ao
    generalize q[i]=kk at*
    clear ae
    obtain ⟨nm,⟨⟨dl,dh,da⟩,⟨vn,vd⟩,er⟩,ok⟩:=kk
    dsimp only at r0 r1 r2 r3 r4 r5 r6 r7 K
    have ah:Hid (Below V.heap.size V (wr.alloc (.cells #[.string nm,iV dl,iV dh,iV da,iV vn,iV vd,iV er,.bool ok] 98))):=yb (y.o.alloc av _)
    have ab:Hid ((wr.alloc (.cells #[.string nm,iV dl,iV dh,iV da,iV vn,iV vd,iV er,.bool ok] 98)).heap[w.heap.size+1]?=some (.cells j8 40 (0,0))):=yb ((yA _ _ _ (by have:=Z.o;omega)).trans ai.o)
    clear ai ax av y
    cases ok with
    |true=>
     have b5:=yb (K.o rfl)
     clear K r ab
     go_wp2_with fail
     rw[bh.o]
     exact ⟨⟨i+1,by omega,rfl,b5,ah⟩,by simp[intOf];omega⟩
    |false=>
     have J:Hid (L7 Q w 180):=yb (by
      have h:=HQ.o
      rw[N3 ak.o (by rw[<-ac.o];exact r.o) rfl] at h
      exact h)
     clear K r
     go_upto_region 9 with fail
     have B:=ab.o
     generalize wr.alloc _=w6 at ah B ⊢
     have bj:w6.cell? (aV (w.heap.size+1) 0)=some (iV 0):=by simp[World.cell?,B]
     have bk:w6.frozen? (aV (w.heap.size+1) 0)=false:=by simp[World.frozen?,B]
     have b4:=AZ (v:=iV 180) B
     have bb:=yb b4
     clear B b4 r0 r1 r2 r3 r4 r5 r6 r7 ab
     go_wp2_with fail
     refine J.o.early (w.heap.size+1) _ _ rfl (by simp[World.cell?,bb.o]) ?_
     exact (l.o.trans (ah.o.mono l.o.size)).trans ⟨rfl,rfl,rfl,by simp,fun b hb=>Ad _ _ (by omega)⟩
   ·obtain rfl:i=I:=by omega
    have ba:decide ((i:Int) < (i:Int))=false:=by simp
    have U:(Aq [] (Av x)).all (fun k=>k.ok)=true:=by
     rw[<-ac.o]
     refine yU.2 fun k hk=>?_
     obtain ⟨j,hj,rfl⟩:=zg.1 hk
     exact T.o j hj (by have:=a7.o;omega)
    have bi:=yb U
    clear U
    go_wp2_with fail
    obtain ⟨e1,e2,e3,l1,l2,l3⟩:=HE.o
    have ax:=aa.o
    have hZ:=Z.o
    have bn:=y.o.size
    exact Tp (kh:=⟨ka,i,kc⟩) HQ.o HS.o e1 e2 e3 l1 l2 l3 ak.o bi.o (l.o.trans (y.o.mono l.o.size)) (A0 bd.o (y.o.block _ (by omega))) ⟨by omega,by omega,by omega⟩
     ((y.o.block _ (by omega)).trans ay.o) ((y.o.block _ (by omega)).trans be.o) (by have h:=g.o.up y.o;rw[ac.o] at h;exact h) _ _ _ _ _ _ _ _ _ _ _ _ _ _ _ _ _ _ _ _ _ _ _ _ _ _ _ _ _ _ _ _ _ _ _ _ _ _ _ _ _ _ _ _ _ _ _ _ _
end Go.Proofs.YtjofgpfocadomaaGreatDoor
namespace Go.Proofs.YtjofgpfocadomaaGreatDoor
open Go.RowKit
set_option linter.unusedSimpArgs false
theorem S4{N:NP}{w:World}{L:Bq}{cs:LV}{x:Ax}(h:BP N w L cs x)(hN:∀b,N b->b < w.heap.size):
  Calls Tryz.prog 8 #[.agg cs.toArray] w fun e w'=>e=.returned (.bool (EK x))∧Below w.heap.size w w':=by
 have a:Hid ((Tryz.prog.info? 35).map (·.size)=some cs.length):=yb (KX h)
 have hb:=(yg w.heap.size w).alloc (yf _) (.cells cs.toArray 35)
 have hr:=World.alloc_heap_new w (.cells cs.toArray 35)
 have l:=yb (Uv (h.same (fun b hb=>hb) (fun b h2=>hb.block b (hN b h2))) (fun b d=>yu (hN b d) hb.size))
 have k:=yb hb
 have j:Hid ((w.alloc (.cells cs.toArray 35)).rangeAt w.heap.size 0 cs):=yb (AA hr)
 clear hb hr hN
 obtain ⟨g,c⟩:∃g,g=cs:=⟨_,rfl⟩
 obtain ⟨W,f⟩:∃W,W=w.alloc (.cells cs.toArray 35):=⟨_,rfl⟩
 rw[<-f] at l k j
 rw[<-c] at a l j
 have i:=yb f
 obtain ⟨c0,c1,c2,rfl,n,g1,m⟩:=h.cells
 obtain ⟨A,y,rfl,q⟩:=n.cells
 obtain ⟨a1,z,rfl,t⟩:=g1.cells
 obtain ⟨u,B,rfl,r⟩:=m.cells
 clear h n g1 m q t r c f
 unfold As.v at*
 simp only[yK,yP] at i ⊢
 go_enter Tryz.func8,Tryz.ntmps8
 refine Ae fun K p=>?_
 go_wp2
 refine p.o _ _ ?_
 clear p K
 rw[<-i.o]
 clear i
 go_wp2_with (first
  |(with_reducible refine yj rfl 35 _ rfl w.heap.size 0 rfl g _ j.o qP rfl a.o ?_)
  |(go_at_call 25;(with_reducible refine l.o.mono ?_);rintro e w2 ⟨rfl,h2⟩;have s:=yb h2;clear h2))
 go_ret
 exact ⟨rfl,k.o.trans (s.o.mono k.o.size)⟩
set_option linter.unusedSimpArgs false
end Go.Proofs.YtjofgpfocadomaaGreatDoor
