/- The program's cloned: the walk. -/
import Derived.Test.YtghepahgkcigpaaQ0
import Derived.Test.YtghepahgkcigpaaQ4
import Derived.BigFrameIn
import Derived.Test.YtghepahgkcigpaaQ3
set_option maxRecDepth 100000
set_option maxHeartbeats 16000000
set_option linter.unusedSimpArgs false
namespace Go.Proofs.Ytghepahgkcigpaa
open Go.RowKit
attribute [local go_sem] Oper.semAt_some
def ET(B:NP)(w:World)(_:Int)(e:Ex)(b o:Nat):Prop:=∃c,w.rangeAt b o c∧Jr w B e c
theorem If{fn:Func}{t:Tmp}{ty:TypeId}{tmps:Array Value}{P:Program}{w:World}{p:Addr}{v:Value}(h:fn.results=#[.cell t ty])(a:tmps.getD t undef=.pointer (some p))(hl:(loadVar ty p).run P w=.ok v w):(results fn tmps).run P w=.ok v w:=by
 rw[yH] at a
 simp[results,h,a,asAddr,hl]
def Nv(w:World)(x:AA)(e:Ending)(w':World):Prop:=
 ∃(L:BL) (cs:LV),e=.returned (.agg cs.toArray)∧cs.length=26∧(∀v∈cs,v.oneCell'=true)∧Below w.heap.size w w'∧L.s=w.heap.size∧w'.rangeAt L.s 0 cs∧CT (fun g=>w.heap.size<=g∧g≠w.heap.size+1) (ET (fun g=>w.heap.size+2<=g) w') (RV w') w' L x
theorem M4(W:World)(r:Option Nat):W.grownBy W r:=⟨rfl,rfl,rfl,ye _,fun _ _ _=>rfl⟩
theorem M5{W V:World}{r:Option Nat}(h:W.grownBy V r):W.grownBy V.drew r:=⟨h.os,h.tape,h.output,h.size,h.block⟩
theorem BF{W V U:World}{r:Option Nat}(h:W.grownBy V r)(k:V.grownBy U r):W.grownBy U r:=
 ⟨k.os.trans h.os,k.tape.trans h.tape,k.output.trans h.output,yo h.size k.size,fun b hb a=>(k.block b (yk hb h.size) a).trans (h.block b hb a)⟩
theorem CA{V U:World}{r:Option Nat}(h:Below V.heap.size V U):V.grownBy U r:=⟨h.os,h.tape,h.output,h.size,fun b hb _=>h.block b hb⟩
def Nw{α:Type}:List α->Option Addr->Option Nat
 |[],_=>none
 |_::_,a=>a.map (·.block)
theorem Gh{α:Type}{l:List α}{i g:Nat}(h:i < l.length):Nw l (some ⟨g,0,none⟩)=some g:=by
 cases l with
 |nil=>simp at h
 |cons x r=>rfl
structure WC (U:World) (a:Option Addr) (N:Nat->Prop) (w:World) (l:List AS) (hs:List AF) (wr:World):Prop where
 grown:U.grownBy wr (Nw l a)
 len:hs.length<=l.length
 ty:∀g,a=some ⟨g,0,none⟩->∀t,Ty U g t->Ty wr g t
 cells:∀g,a=some ⟨g,0,none⟩->∀q,(∀j,j < hs.length->q≠j*23+22)->wr.cell? ⟨g,q,none⟩=U.cell? ⟨g,q,none⟩
 done:∀j (_:j < hs.length) (_:j < l.length),IB U.heap.size wr 66 8 (Fv N w) hs[j] l[j].turns∧∀g,a=some ⟨g,0,none⟩->wr.cell? ⟨g,j*23+22,none⟩=some hs[j].v
theorem Nx{α:Type}{l:List α}{a:Option Addr}{b:Nat}(h:some b=Nw l a):0 < l.length:=by
 cases l with
 |nil=>cases h
 |cons x r=>simp
theorem WC.next{U:World}{a:Option Addr}{N:NP}{w:World}{l:List AS}{hs:List AF}{wr V B:World}{g:Nat}{p:AF}{u:Value}(o:WC U a N w l hs wr)(hi:hs.length < l.length)(h:a=some ⟨g,0,none⟩)(L:g < U.heap.size)(hb:Below wr.heap.size wr V)
 (hc:V.cell? ⟨g,hs.length*23+22,none⟩=some u)(A:IB wr.heap.size V 66 8 (Fv N w) p l[hs.length].turns)(G:B=V.setCell ⟨g,hs.length*23+22,none⟩ p.v):WC U a N w l (hs++[p]) B:=by
 obtain ⟨k,s,C,z⟩:=Ar p.v hc
 rw[<-G] at k s C z
 have J:=o.grown.size
 have F:=hb.size
 have i:V.heap[g]?=wr.heap[g]?:=hb.block g (by omega)
 have f:∀q,V.cell? (aV g q)=wr.cell? (aV g q):=fun q=>by unfold World.cell?;rw[i]
 have m:Nw l a=some g:=by rw[h];exact Gh hi
 refine ⟨?_,by simp;omega,fun x c t H=>?_,fun x c q D=>?_,fun j E hl=>?_⟩
 ·rw[m]
  have h0:=o.grown
  rw[m] at h0
  exact BF (BF h0 (CA hb)) k
 ·rw[h] at c;cases c
  exact C t ((o.ty g h t H).same i)
 ·rw[h] at c;cases c
  rw[s q (D hs.length (by simp)),f,o.cells g h q (fun j E=>D j (by simp;omega))]
 ·by_cases r:j=hs.length
  ·subst r
   rw[qg (ye _)]
   simp only[Nat.sub_self,List.getElem_cons_zero]
   exact ⟨IB.of (A.up (fun b y d=>k.block b d (fun e=>by cases e;omega))).1 J (A.up (fun b y d=>k.block b d (fun e=>by cases e;omega))).2,fun x c=>by rw[h] at c;cases c;exact z⟩
  ·have n:j < hs.length:=by simp at E;omega
   rw[qh n]
   obtain ⟨I,K⟩:=o.done j n hl
   refine ⟨I.up (fun b y d=>(k.block b (by omega) (fun e=>by cases e;omega)).trans (hb.block b d)),fun x c=>?_⟩
   rw[h] at c;cases c
   rw[s _ (by omega),f,K g h]
theorem U1{N:NP}{w:World}{t:AF}{cs:LV}{d:AS}(h:I6 N w t cs d):B7 N w 8 (Fv N w) t d.turns:=by
 obtain ⟨_,_,_,_,_,_,_,_,_,h⟩:=h
 exact h
theorem U2{N:NP}{w:World}{L:BL}(cs:LV)(d:AS × Nat)(h:I6 N w (A5 L d.2) cs d.1):∀v∈cs,v.oneCell'=true:=K4 h
theorem U3{N:NP}{w W:World}{L:BL}{l:List AS}(h:L.rots.n=l.length∧l.length<=140737488355328∧∀i (hi:i < l.length),∃b o cs,L.rots.a=some ⟨b,o,none⟩∧N b∧cs.length=23∧w.rangeAt b (o+i*23) cs∧I6 N w (A5 L i) cs l[i])(hb:∀b,N b->W.heap[b]?=w.heap[b]?):
  B7 N W 23 (fun cs (d:AS × Nat)=>I6 N w (A5 L d.2) cs d.1) L.rots l.zipIdx:=by
 obtain ⟨h1,h2,h3⟩:=h
 refine ⟨by rw[zy];exact h1,by rw[zy];exact h2,fun i hi=>?_⟩
 rw[zy] at hi
 obtain ⟨b,o,cs,g1,c,e,f,g⟩:=h3 i hi
 refine ⟨b,o,cs,g1,c,e,A1 f (hb b c),?_⟩
 rw[xB]
 simpa using g
theorem R5{N:NP}{w:World}{L:BL}{cs:LV}{x:AA}(h:Ba N w L cs x)(hN:∀b,N b->b < w.heap.size)(ez:MU x):
  Calls Try.prog 48 #[.agg cs.toArray] w (Nv w x):=by
 obtain ⟨c0,c1,c2,rfl,g0,g1,g2⟩:=h.cells
 obtain ⟨a0,p0,rfl,e0⟩:=g0.cells
 obtain ⟨a1,p1,rfl,e1⟩:=g1.cells
 obtain ⟨a2,p2,rfl,e2⟩:=g2.cells
 have HV:=ya h
 have HN:=ya hN
 have b4:=ya ez
 have gd:=ya g0;have g5:=ya g1;have gl:=ya g2
 clear h hN ez g0 g1 g2 e0 e1 e2
 unfold AF.v
 simp only[yL,yE]
 refine CM (n:=10) Try.func48 rfl ?_
 simp only[Try.ntmps48,yp,yC,yK,Nat.reduceAdd,Nat.reduceSub,zQ,zR,xl,xd,yE,yL]
 refine Aq (Af ?_)
 go_wp2
 have ej:Below w.heap.size w ((w.alloc (.cells #[.string x.name,iV x.season.op,iV x.season.n,iV x.season.u,.string x.season.rn,iV x.season.ri,.slice a0 x.season.args.length p0,iV x.cap.op,iV x.cap.n,iV x.cap.u,.string x.cap.rn,iV x.cap.ri,.slice a1 x.cap.args.length p1,iV x.start.op,iV x.start.n,iV x.start.u,.string x.start.rn,iV x.start.ri,.slice a2 x.start.args.length p2,.slice L.lets.a L.lets.n L.lets.c,.slice L.crops.a L.crops.n L.crops.c,.slice L.reaches.a L.reaches.n L.reaches.c,.slice L.farms.a L.farms.n L.farms.c,.slice L.rots.a L.rots.n L.rots.c,.slice L.rights.a L.rights.n L.rights.c,.slice L.duties.a L.duties.n L.duties.c] 35)).alloc (.cells #[.string ⟨#[]⟩,iV 0,iV 0,iV 0,.string ⟨#[]⟩,iV 0,.slice none 0 0,iV 0,iV 0,iV 0,.string ⟨#[]⟩,iV 0,.slice none 0 0,iV 0,iV 0,iV 0,.string ⟨#[]⟩,iV 0,.slice none 0 0,.slice none 0 0,.slice none 0 0,.slice none 0 0,.slice none 0 0,.slice none 0 0,.slice none 0 0,.slice none 0 0] 35)):=((yc _ _).alloc (ye _) _).alloc (by simp) _
 have fm:((w.alloc (.cells #[.string x.name,iV x.season.op,iV x.season.n,iV x.season.u,.string x.season.rn,iV x.season.ri,.slice a0 x.season.args.length p0,iV x.cap.op,iV x.cap.n,iV x.cap.u,.string x.cap.rn,iV x.cap.ri,.slice a1 x.cap.args.length p1,iV x.start.op,iV x.start.n,iV x.start.u,.string x.start.rn,iV x.start.ri,.slice a2 x.start.args.length p2,.slice L.lets.a L.lets.n L.lets.c,.slice L.crops.a L.crops.n L.crops.c,.slice L.reaches.a L.reaches.n L.reaches.c,.slice L.farms.a L.farms.n L.farms.c,.slice L.rots.a L.rots.n L.rots.c,.slice L.rights.a L.rights.n L.rights.c,.slice L.duties.a L.duties.n L.duties.c] 35)).alloc (.cells #[.string ⟨#[]⟩,iV 0,iV 0,iV 0,.string ⟨#[]⟩,iV 0,.slice none 0 0,iV 0,iV 0,iV 0,.string ⟨#[]⟩,iV 0,.slice none 0 0,iV 0,iV 0,iV 0,.string ⟨#[]⟩,iV 0,.slice none 0 0,.slice none 0 0,.slice none 0 0,.slice none 0 0,.slice none 0 0,.slice none 0 0,.slice none 0 0,.slice none 0 0] 35)).heap[w.heap.size]?=some (.cells #[.string x.name,iV x.season.op,iV x.season.n,iV x.season.u,.string x.season.rn,iV x.season.ri,.slice a0 x.season.args.length p0,iV x.cap.op,iV x.cap.n,iV x.cap.u,.string x.cap.rn,iV x.cap.ri,.slice a1 x.cap.args.length p1,iV x.start.op,iV x.start.n,iV x.start.u,.string x.start.rn,iV x.start.ri,.slice a2 x.start.args.length p2,.slice L.lets.a L.lets.n L.lets.c,.slice L.crops.a L.crops.n L.crops.c,.slice L.reaches.a L.reaches.n L.reaches.c,.slice L.farms.a L.farms.n L.farms.c,.slice L.rots.a L.rots.n L.rots.c,.slice L.rights.a L.rights.n L.rights.c,.slice L.duties.a L.duties.n L.duties.c] 35 (0,0)):=(yT _ _ _ (by simp)).trans (World.alloc_heap_new w _)
 have ff:((w.alloc (.cells #[.string x.name,iV x.season.op,iV x.season.n,iV x.season.u,.string x.season.rn,iV x.season.ri,.slice a0 x.season.args.length p0,iV x.cap.op,iV x.cap.n,iV x.cap.u,.string x.cap.rn,iV x.cap.ri,.slice a1 x.cap.args.length p1,iV x.start.op,iV x.start.n,iV x.start.u,.string x.start.rn,iV x.start.ri,.slice a2 x.start.args.length p2,.slice L.lets.a L.lets.n L.lets.c,.slice L.crops.a L.crops.n L.crops.c,.slice L.reaches.a L.reaches.n L.reaches.c,.slice L.farms.a L.farms.n L.farms.c,.slice L.rots.a L.rots.n L.rots.c,.slice L.rights.a L.rights.n L.rights.c,.slice L.duties.a L.duties.n L.duties.c] 35)).alloc (.cells #[.string ⟨#[]⟩,iV 0,iV 0,iV 0,.string ⟨#[]⟩,iV 0,.slice none 0 0,iV 0,iV 0,iV 0,.string ⟨#[]⟩,iV 0,.slice none 0 0,iV 0,iV 0,iV 0,.string ⟨#[]⟩,iV 0,.slice none 0 0,.slice none 0 0,.slice none 0 0,.slice none 0 0,.slice none 0 0,.slice none 0 0,.slice none 0 0,.slice none 0 0] 35)).heap[w.heap.size+1]?=some (.cells #[.string ⟨#[]⟩,iV 0,iV 0,iV 0,.string ⟨#[]⟩,iV 0,.slice none 0 0,iV 0,iV 0,iV 0,.string ⟨#[]⟩,iV 0,.slice none 0 0,iV 0,iV 0,iV 0,.string ⟨#[]⟩,iV 0,.slice none 0 0,.slice none 0 0,.slice none 0 0,.slice none 0 0,.slice none 0 0,.slice none 0 0,.slice none 0 0,.slice none 0 0] 35 (0,0)):=by
  have:=World.alloc_heap_new (w.alloc (.cells #[.string x.name,iV x.season.op,iV x.season.n,iV x.season.u,.string x.season.rn,iV x.season.ri,.slice a0 x.season.args.length p0,iV x.cap.op,iV x.cap.n,iV x.cap.u,.string x.cap.rn,iV x.cap.ri,.slice a1 x.cap.args.length p1,iV x.start.op,iV x.start.n,iV x.start.u,.string x.start.rn,iV x.start.ri,.slice a2 x.start.args.length p2,.slice L.lets.a L.lets.n L.lets.c,.slice L.crops.a L.crops.n L.crops.c,.slice L.reaches.a L.reaches.n L.reaches.c,.slice L.farms.a L.farms.n L.farms.c,.slice L.rots.a L.rots.n L.rots.c,.slice L.rights.a L.rights.n L.rights.c,.slice L.duties.a L.duties.n L.duties.c] 35)) (.cells #[.string ⟨#[]⟩,iV 0,iV 0,iV 0,.string ⟨#[]⟩,iV 0,.slice none 0 0,iV 0,iV 0,iV 0,.string ⟨#[]⟩,iV 0,.slice none 0 0,iV 0,iV 0,iV 0,.string ⟨#[]⟩,iV 0,.slice none 0 0,.slice none 0 0,.slice none 0 0,.slice none 0 0,.slice none 0 0,.slice none 0 0,.slice none 0 0,.slice none 0 0] 35)
  rwa [zv] at this
 have eq:((w.alloc (.cells #[.string x.name,iV x.season.op,iV x.season.n,iV x.season.u,.string x.season.rn,iV x.season.ri,.slice a0 x.season.args.length p0,iV x.cap.op,iV x.cap.n,iV x.cap.u,.string x.cap.rn,iV x.cap.ri,.slice a1 x.cap.args.length p1,iV x.start.op,iV x.start.n,iV x.start.u,.string x.start.rn,iV x.start.ri,.slice a2 x.start.args.length p2,.slice L.lets.a L.lets.n L.lets.c,.slice L.crops.a L.crops.n L.crops.c,.slice L.reaches.a L.reaches.n L.reaches.c,.slice L.farms.a L.farms.n L.farms.c,.slice L.rots.a L.rots.n L.rots.c,.slice L.rights.a L.rights.n L.rights.c,.slice L.duties.a L.duties.n L.duties.c] 35)).alloc (.cells #[.string ⟨#[]⟩,iV 0,iV 0,iV 0,.string ⟨#[]⟩,iV 0,.slice none 0 0,iV 0,iV 0,iV 0,.string ⟨#[]⟩,iV 0,.slice none 0 0,iV 0,iV 0,iV 0,.string ⟨#[]⟩,iV 0,.slice none 0 0,.slice none 0 0,.slice none 0 0,.slice none 0 0,.slice none 0 0,.slice none 0 0,.slice none 0 0,.slice none 0 0] 35)).heap.size=w.heap.size+2:=by simp
 generalize (w.alloc (.cells #[.string x.name,iV x.season.op,iV x.season.n,iV x.season.u,.string x.season.rn,iV x.season.ri,.slice a0 x.season.args.length p0,iV x.cap.op,iV x.cap.n,iV x.cap.u,.string x.cap.rn,iV x.cap.ri,.slice a1 x.cap.args.length p1,iV x.start.op,iV x.start.n,iV x.start.u,.string x.start.rn,iV x.start.ri,.slice a2 x.start.args.length p2,.slice L.lets.a L.lets.n L.lets.c,.slice L.crops.a L.crops.n L.crops.c,.slice L.reaches.a L.reaches.n L.reaches.c,.slice L.farms.a L.farms.n L.farms.c,.slice L.rots.a L.rots.n L.rots.c,.slice L.rights.a L.rights.n L.rights.c,.slice L.duties.a L.duties.n L.duties.c] 35)).alloc (.cells #[.string ⟨#[]⟩,iV 0,iV 0,iV 0,.string ⟨#[]⟩,iV 0,.slice none 0 0,iV 0,iV 0,iV 0,.string ⟨#[]⟩,iV 0,.slice none 0 0,iV 0,iV 0,iV 0,.string ⟨#[]⟩,iV 0,.slice none 0 0,.slice none 0 0,.slice none 0 0,.slice none 0 0,.slice none 0 0,.slice none 0 0,.slice none 0 0,.slice none 0 0] 35)=W1 at*
 have cy:=ya ej;have g6:=ya fm;have gh:=ya ff;have aa:=ya eq
 clear ej fm ff eq
 have bs:Hid (∀W,W1.grownBy W (some w.heap.size)->∀b,N b->W.heap[b]?=w.heap[b]?):=ya (fun W hW b hb=>(hW.block b (by have:=HN.o b hb;have:=aa.o;omega) (fun e=>by cases e;have:=HN.o _ hb;omega)).trans (cy.o.block b (HN.o b hb)))
 have bk:Hid (∀W,W1.grownBy W (some w.heap.size)->∀b,N b->b < W.heap.size):=ya (fun W hW b hb=>by have:=HN.o b hb;have:=aa.o;have:=hW.size;omega)
 have f2:Hid (W1.grownBy W1 (some w.heap.size)):=ya (M4 _ _)
 refine Aq (Af ?_)
 refine wp_region_noPanic ?_
 have f7:W1.drew.heap[w.heap.size]?=some (.cells #[.string x.name,iV x.season.op,iV x.season.n,iV x.season.u,.string x.season.rn,iV x.season.ri,.slice a0 x.season.args.length p0,iV x.cap.op,iV x.cap.n,iV x.cap.u,.string x.cap.rn,iV x.cap.ri,.slice a1 x.cap.args.length p1,iV x.start.op,iV x.start.n,iV x.start.u,.string x.start.rn,iV x.start.ri,.slice a2 x.start.args.length p2,.slice L.lets.a L.lets.n L.lets.c,.slice L.crops.a L.crops.n L.crops.c,.slice L.reaches.a L.reaches.n L.reaches.c,.slice L.farms.a L.farms.n L.farms.c,.slice L.rots.a L.rots.n L.rots.c,.slice L.rights.a L.rights.n L.rights.c,.slice L.duties.a L.duties.n L.duties.c] 35 (0,0)):=g6.o
 have bp:=ya f7
 clear f7
 refine Bz (by kernel_rfl) (fun W=>W.heap[w.heap.size]?=some (.cells #[.string x.name,iV x.season.op,iV x.season.n,iV x.season.u,.string x.season.rn,iV x.season.ri,.slice a0 x.season.args.length p0,iV x.cap.op,iV x.cap.n,iV x.cap.u,.string x.cap.rn,iV x.cap.ri,.slice a1 x.cap.args.length p1,iV x.start.op,iV x.start.n,iV x.start.u,.string x.start.rn,iV x.start.ri,.slice a2 x.start.args.length p2,.slice L.lets.a L.lets.n L.lets.c,.slice L.crops.a L.crops.n L.crops.c,.slice L.reaches.a L.reaches.n L.reaches.c,.slice L.farms.a L.farms.n L.farms.c,.slice L.rots.a L.rots.n L.rots.c,.slice L.rights.a L.rights.n L.rights.c,.slice L.duties.a L.duties.n L.duties.c] 35 (0,0))) 13 ?_
 refine A0 (i:=0) (v:=pV w.heap.size 19) rfl (by kernel_rfl) (by kernel_rfl) (by kernel_rfl) (fun _ _ _ h=>h) (by kernel_rfl) (Or.inl ⟨by rfl,?_⟩) (fun _=>bp.o) ?_
 ·intro w _;go_simp
 refine Ag (i:=1) (v:=.slice L.lets.a L.lets.n L.lets.c) rfl (by kernel_rfl) (by kernel_rfl) (by kernel_rfl) (fun _ _ _ h=>h) (by kernel_rfl) (Or.inl ⟨by rfl,?_⟩) bp.o ?_
 ·intro W hW
  have hc:W.cell? (aV w.heap.size 19)=some (.slice L.lets.a L.lets.n L.lets.c):=by simp only[World.cell?,hW];rfl
  clear hW
  go_simp
 refine A0 (i:=3) (v:=pV w.heap.size 20) rfl (by kernel_rfl) (by kernel_rfl) (by kernel_rfl) (fun _ _ _ h=>h) (by kernel_rfl) (Or.inl ⟨by rfl,?_⟩) (fun _=>bp.o) ?_
 ·intro w _;go_simp
 refine Ag (i:=4) (v:=.slice L.crops.a L.crops.n L.crops.c) rfl (by kernel_rfl) (by kernel_rfl) (by kernel_rfl) (fun _ _ _ h=>h) (by kernel_rfl) (Or.inl ⟨by rfl,?_⟩) bp.o ?_
 ·intro W hW
  have hc:W.cell? (aV w.heap.size 20)=some (.slice L.crops.a L.crops.n L.crops.c):=by simp only[World.cell?,hW];rfl
  clear hW
  go_simp
 refine A0 (i:=6) (v:=pV w.heap.size 21) rfl (by kernel_rfl) (by kernel_rfl) (by kernel_rfl) (fun _ _ _ h=>h) (by kernel_rfl) (Or.inl ⟨by rfl,?_⟩) (fun _=>bp.o) ?_
 ·intro w _;go_simp
 refine Ag (i:=7) (v:=.slice L.reaches.a L.reaches.n L.reaches.c) rfl (by kernel_rfl) (by kernel_rfl) (by kernel_rfl) (fun _ _ _ h=>h) (by kernel_rfl) (Or.inl ⟨by rfl,?_⟩) bp.o ?_
 ·intro W hW
  have hc:W.cell? (aV w.heap.size 21)=some (.slice L.reaches.a L.reaches.n L.reaches.c):=by simp only[World.cell?,hW];rfl
  clear hW
  go_simp
 refine A0 (i:=9) (v:=pV w.heap.size 22) rfl (by kernel_rfl) (by kernel_rfl) (by kernel_rfl) (fun _ _ _ h=>h) (by kernel_rfl) (Or.inl ⟨by rfl,?_⟩) (fun _=>bp.o) ?_
 ·intro w _;go_simp
 refine Ag (i:=10) (v:=.slice L.farms.a L.farms.n L.farms.c) rfl (by kernel_rfl) (by kernel_rfl) (by kernel_rfl) (fun _ _ _ h=>h) (by kernel_rfl) (Or.inl ⟨by rfl,?_⟩) bp.o ?_
 ·intro W hW
  have hc:W.cell? (aV w.heap.size 22)=some (.slice L.farms.a L.farms.n L.farms.c):=by simp only[World.cell?,hW];rfl
  clear hW
  go_simp
 have bb:Hid (W1.grownBy W1.drew (some w.heap.size)):=ya (M5 f2.o)
 refine A4 (i:=2) (by kernel_rfl) rfl (fun K hK=>?_)
 go_simp
 refine (SO (HV.o.lets.same (fun _ h=>h) (bs.o _ bb.o) (fun _ _ h=>h)) (bk.o _ bb.o) S1 b4.o.lets).mono ?_
 rintro e di ⟨⟨a6,Z,a7⟩,rfl,bq,bo,az⟩
 rw[show AF.v ⟨a6,Z,a7⟩=Value.slice a6 Z a7 from rfl]
 simp only at bq az
 have b9:Hid (W1.grownBy di (some w.heap.size)):=ya (BF bb.o (CA bo))
 have cq:Hid (di.heap[w.heap.size]?=some (.cells #[.string x.name,iV x.season.op,iV x.season.n,iV x.season.u,.string x.season.rn,iV x.season.ri,.slice a0 x.season.args.length p0,iV x.cap.op,iV x.cap.n,iV x.cap.u,.string x.cap.rn,iV x.cap.ri,.slice a1 x.cap.args.length p1,iV x.start.op,iV x.start.n,iV x.start.u,.string x.start.rn,iV x.start.ri,.slice a2 x.start.args.length p2,.slice L.lets.a L.lets.n L.lets.c,.slice L.crops.a L.crops.n L.crops.c,.slice L.reaches.a L.reaches.n L.reaches.c,.slice L.farms.a L.farms.n L.farms.c,.slice L.rots.a L.rots.n L.rots.c,.slice L.rights.a L.rights.n L.rights.c,.slice L.duties.a L.duties.n L.duties.c] 35 (0,0))):=ya ((bo.block _ (by have:=bb.o.size;have:=aa.o;omega)).trans bp.o)
 have E:Hid (IB W1.heap.size di 55 7 (Hf N w) ⟨a6,Z,a7⟩ x.lets):=ya (IB.of bq (by exact bb.o.size) az)
 clear bq bo az
 refine hK.o _ _ (fun _=>cq.o) ?_
 clear hK K
 refine A4 (i:=5) (by kernel_rfl) rfl (fun K hK=>?_)
 go_simp
 refine (QL (HV.o.crops.same (fun _ h=>h) (bs.o _ b9.o) (fun _ _ h=>h)) (bk.o _ b9.o) Pf b4.o.crops).mono ?_
 rintro e e5 ⟨⟨F,H,G⟩,rfl,bh,ar,an⟩
 rw[show AF.v ⟨F,H,G⟩=Value.slice F H G from rfl]
 simp only at bh an
 have bg:Hid (W1.grownBy e5 (some w.heap.size)):=ya (BF b9.o (CA ar))
 have cl:Hid (e5.heap[w.heap.size]?=some (.cells #[.string x.name,iV x.season.op,iV x.season.n,iV x.season.u,.string x.season.rn,iV x.season.ri,.slice a0 x.season.args.length p0,iV x.cap.op,iV x.cap.n,iV x.cap.u,.string x.cap.rn,iV x.cap.ri,.slice a1 x.cap.args.length p1,iV x.start.op,iV x.start.n,iV x.start.u,.string x.start.rn,iV x.start.ri,.slice a2 x.start.args.length p2,.slice L.lets.a L.lets.n L.lets.c,.slice L.crops.a L.crops.n L.crops.c,.slice L.reaches.a L.reaches.n L.reaches.c,.slice L.farms.a L.farms.n L.farms.c,.slice L.rots.a L.rots.n L.rots.c,.slice L.rights.a L.rights.n L.rights.c,.slice L.duties.a L.duties.n L.duties.c] 35 (0,0))):=ya ((ar.block _ (by have:=b9.o.size;have:=aa.o;omega)).trans cq.o)
 replace E:=ya (E.o.up (fun b _ f=>ar.block b f))
 have C:Hid (IB W1.heap.size e5 57 7 (F6 N w) ⟨F,H,G⟩ x.crops):=ya (IB.of bh (by exact b9.o.size) an)
 clear bh ar an
 refine hK.o _ _ (fun _=>cl.o) ?_
 clear hK K
 refine A4 (i:=8) (by kernel_rfl) rfl (fun K hK=>?_)
 go_simp
 refine (Pj (HV.o.reaches.same (fun _ h=>h) (bs.o _ bg.o) (fun _ _ h=>h)) (bk.o _ bg.o) Ks b4.o.reaches).mono ?_
 rintro e dy ⟨⟨m,l,y⟩,rfl,aq,ah,aj⟩
 rw[show AF.v ⟨m,l,y⟩=Value.slice m l y from rfl]
 simp only at aq aj
 have bj:Hid (W1.grownBy dy (some w.heap.size)):=ya (BF bg.o (CA ah))
 have cv:Hid (dy.heap[w.heap.size]?=some (.cells #[.string x.name,iV x.season.op,iV x.season.n,iV x.season.u,.string x.season.rn,iV x.season.ri,.slice a0 x.season.args.length p0,iV x.cap.op,iV x.cap.n,iV x.cap.u,.string x.cap.rn,iV x.cap.ri,.slice a1 x.cap.args.length p1,iV x.start.op,iV x.start.n,iV x.start.u,.string x.start.rn,iV x.start.ri,.slice a2 x.start.args.length p2,.slice L.lets.a L.lets.n L.lets.c,.slice L.crops.a L.crops.n L.crops.c,.slice L.reaches.a L.reaches.n L.reaches.c,.slice L.farms.a L.farms.n L.farms.c,.slice L.rots.a L.rots.n L.rots.c,.slice L.rights.a L.rights.n L.rights.c,.slice L.duties.a L.duties.n L.duties.c] 35 (0,0))):=ya ((ah.block _ (by have:=bg.o.size;have:=aa.o;omega)).trans cl.o)
 replace E:=ya (E.o.up (fun b _ f=>ah.block b f))
 replace C:=ya (C.o.up (fun b _ f=>ah.block b f))
 have A:Hid (IB W1.heap.size dy 51 51 (CY N w) ⟨m,l,y⟩ x.reaches):=ya (IB.of aq (by exact bg.o.size) aj)
 clear aq ah aj
 refine hK.o _ _ (fun _=>cv.o) ?_
 clear hK K
 refine A4 (i:=11) (by kernel_rfl) rfl (fun K hK=>?_)
 go_simp
 refine (QM (HV.o.farms.same (fun _ h=>h) (bs.o _ bj.o) (fun _ _ h=>h)) (bk.o _ bj.o) Pg b4.o.farms).mono ?_
 rintro e bu ⟨⟨S,nfarms,T⟩,rfl,bd,ai,ap⟩
 rw[show AF.v ⟨S,nfarms,T⟩=Value.slice S nfarms T from rfl]
 simp only at bd ap
 have dj:Hid (W1.grownBy bu (some w.heap.size)):=ya (BF bj.o (CA ai))
 have b3:Hid (bu.heap[w.heap.size]?=some (.cells #[.string x.name,iV x.season.op,iV x.season.n,iV x.season.u,.string x.season.rn,iV x.season.ri,.slice a0 x.season.args.length p0,iV x.cap.op,iV x.cap.n,iV x.cap.u,.string x.cap.rn,iV x.cap.ri,.slice a1 x.cap.args.length p1,iV x.start.op,iV x.start.n,iV x.start.u,.string x.start.rn,iV x.start.ri,.slice a2 x.start.args.length p2,.slice L.lets.a L.lets.n L.lets.c,.slice L.crops.a L.crops.n L.crops.c,.slice L.reaches.a L.reaches.n L.reaches.c,.slice L.farms.a L.farms.n L.farms.c,.slice L.rots.a L.rots.n L.rots.c,.slice L.rights.a L.rights.n L.rights.c,.slice L.duties.a L.duties.n L.duties.c] 35 (0,0))):=ya ((ai.block _ (by have:=bj.o.size;have:=aa.o;omega)).trans cv.o)
 replace E:=ya (E.o.up (fun b _ f=>ai.block b f))
 replace C:=ya (C.o.up (fun b _ f=>ai.block b f))
 replace A:=ya (A.o.up (fun b _ f=>ai.block b f))
 have X:Hid (IB W1.heap.size bu 59 12 (E9 N w) ⟨S,nfarms,T⟩ x.farms):=ya (IB.of bd (by exact bj.o.size) ap)
 clear bd ai ap
 refine hK.o _ _ (fun _=>b3.o) ?_
 clear hK K
 refine A0 (i:=12) (v:=pV w.heap.size 19) rfl (by kernel_rfl) (by kernel_rfl) (by kernel_rfl) (fun _ _ _ h=>h) (by kernel_rfl) (Or.inl ⟨by rfl,?_⟩) (by first|exact fun _=>b3.o|(intro h;cases h)) ?_
 ·intro w _;go_simp
 refine A4 (i:=13) (by kernel_rfl) rfl (fun K hK=>?_)
 have hc:bu.cell? (aV w.heap.size 19)=some (.slice L.lets.a L.lets.n L.lets.c):=by simp only[World.cell?,b3.o];rfl
 have hf:bu.frozen? (aV w.heap.size 19)=false:=by simp[World.frozen?,b3.o]
 go_simp
 have bv:Hid ((bu.setCell (aV w.heap.size 19) (.slice a6 Z a7)).heap[w.heap.size]?=some (.cells #[.string x.name,iV x.season.op,iV x.season.n,iV x.season.u,.string x.season.rn,iV x.season.ri,.slice a0 x.season.args.length p0,iV x.cap.op,iV x.cap.n,iV x.cap.u,.string x.cap.rn,iV x.cap.ri,.slice a1 x.cap.args.length p1,iV x.start.op,iV x.start.n,iV x.start.u,.string x.start.rn,iV x.start.ri,.slice a2 x.start.args.length p2,.slice a6 Z a7,.slice L.crops.a L.crops.n L.crops.c,.slice L.reaches.a L.reaches.n L.reaches.c,.slice L.farms.a L.farms.n L.farms.c,.slice L.rots.a L.rots.n L.rots.c,.slice L.rights.a L.rights.n L.rights.c,.slice L.duties.a L.duties.n L.duties.c] 35 (0,0))):=ya (by
  have:=zk bu w.heap.size 19 _ _ (.slice a6 Z a7) b3.o
  rw[this];rfl)
 replace E:=ya (E.o.up (fun b hB f=>(Ar (.slice a6 Z a7) hc).1.block b f (fun e=>by cases e;have:=aa.o;omega)))
 replace C:=ya (C.o.up (fun b hB f=>(Ar (.slice a6 Z a7) hc).1.block b f (fun e=>by cases e;have:=aa.o;omega)))
 replace A:=ya (A.o.up (fun b hB f=>(Ar (.slice a6 Z a7) hc).1.block b f (fun e=>by cases e;have:=aa.o;omega)))
 replace X:=ya (X.o.up (fun b hB f=>(Ar (.slice a6 Z a7) hc).1.block b f (fun e=>by cases e;have:=aa.o;omega)))
 have fe:=ya (BF dj.o (Ar (.slice a6 Z a7) hc).1)
 clear hc hf
 generalize bu.setCell (aV w.heap.size 19) (.slice a6 Z a7)=cp at*
 refine hK.o _ _ (by first|(intro h;cases h;done)|exact fun _=>b3.o) ?_
 clear hK K
 refine A0 (i:=14) (v:=pV w.heap.size 20) rfl (by kernel_rfl) (by kernel_rfl) (by kernel_rfl) (fun _ _ _ h=>h) (by kernel_rfl) (Or.inl ⟨by rfl,?_⟩) (by first|exact fun _=>bv.o|(intro h;cases h)) ?_
 ·intro w _;go_simp
 refine A4 (i:=15) (by kernel_rfl) rfl (fun K hK=>?_)
 have hc:cp.cell? (aV w.heap.size 20)=some (.slice L.crops.a L.crops.n L.crops.c):=by simp only[World.cell?,bv.o];rfl
 have hf:cp.frozen? (aV w.heap.size 20)=false:=by simp[World.frozen?,bv.o]
 go_simp
 have c3:Hid ((cp.setCell (aV w.heap.size 20) (.slice F H G)).heap[w.heap.size]?=some (.cells #[.string x.name,iV x.season.op,iV x.season.n,iV x.season.u,.string x.season.rn,iV x.season.ri,.slice a0 x.season.args.length p0,iV x.cap.op,iV x.cap.n,iV x.cap.u,.string x.cap.rn,iV x.cap.ri,.slice a1 x.cap.args.length p1,iV x.start.op,iV x.start.n,iV x.start.u,.string x.start.rn,iV x.start.ri,.slice a2 x.start.args.length p2,.slice a6 Z a7,.slice F H G,.slice L.reaches.a L.reaches.n L.reaches.c,.slice L.farms.a L.farms.n L.farms.c,.slice L.rots.a L.rots.n L.rots.c,.slice L.rights.a L.rights.n L.rights.c,.slice L.duties.a L.duties.n L.duties.c] 35 (0,0))):=ya (by
  have:=zk cp w.heap.size 20 _ _ (.slice F H G) bv.o
  rw[this];rfl)
 replace E:=ya (E.o.up (fun b hB f=>(Ar (.slice F H G) hc).1.block b f (fun e=>by cases e;have:=aa.o;omega)))
 replace C:=ya (C.o.up (fun b hB f=>(Ar (.slice F H G) hc).1.block b f (fun e=>by cases e;have:=aa.o;omega)))
 replace A:=ya (A.o.up (fun b hB f=>(Ar (.slice F H G) hc).1.block b f (fun e=>by cases e;have:=aa.o;omega)))
 replace X:=ya (X.o.up (fun b hB f=>(Ar (.slice F H G) hc).1.block b f (fun e=>by cases e;have:=aa.o;omega)))
 have f0:=ya (BF fe.o (Ar (.slice F H G) hc).1)
 clear hc hf
 generalize cp.setCell (aV w.heap.size 20) (.slice F H G)=cg at*
 refine hK.o _ _ (by first|(intro h;cases h;done)|exact fun _=>bv.o) ?_
 clear hK K
 refine A0 (i:=16) (v:=pV w.heap.size 21) rfl (by kernel_rfl) (by kernel_rfl) (by kernel_rfl) (fun _ _ _ h=>h) (by kernel_rfl) (Or.inl ⟨by rfl,?_⟩) (by first|exact fun _=>c3.o|(intro h;cases h)) ?_
 ·intro w _;go_simp
 refine A4 (i:=17) (by kernel_rfl) rfl (fun K hK=>?_)
 have hc:cg.cell? (aV w.heap.size 21)=some (.slice L.reaches.a L.reaches.n L.reaches.c):=by simp only[World.cell?,c3.o];rfl
 have hf:cg.frozen? (aV w.heap.size 21)=false:=by simp[World.frozen?,c3.o]
 go_simp
 have bz:Hid ((cg.setCell (aV w.heap.size 21) (.slice m l y)).heap[w.heap.size]?=some (.cells #[.string x.name,iV x.season.op,iV x.season.n,iV x.season.u,.string x.season.rn,iV x.season.ri,.slice a0 x.season.args.length p0,iV x.cap.op,iV x.cap.n,iV x.cap.u,.string x.cap.rn,iV x.cap.ri,.slice a1 x.cap.args.length p1,iV x.start.op,iV x.start.n,iV x.start.u,.string x.start.rn,iV x.start.ri,.slice a2 x.start.args.length p2,.slice a6 Z a7,.slice F H G,.slice m l y,.slice L.farms.a L.farms.n L.farms.c,.slice L.rots.a L.rots.n L.rots.c,.slice L.rights.a L.rights.n L.rights.c,.slice L.duties.a L.duties.n L.duties.c] 35 (0,0))):=ya (by
  have:=zk cg w.heap.size 21 _ _ (.slice m l y) c3.o
  rw[this];rfl)
 replace E:=ya (E.o.up (fun b hB f=>(Ar (.slice m l y) hc).1.block b f (fun e=>by cases e;have:=aa.o;omega)))
 replace C:=ya (C.o.up (fun b hB f=>(Ar (.slice m l y) hc).1.block b f (fun e=>by cases e;have:=aa.o;omega)))
 replace A:=ya (A.o.up (fun b hB f=>(Ar (.slice m l y) hc).1.block b f (fun e=>by cases e;have:=aa.o;omega)))
 replace X:=ya (X.o.up (fun b hB f=>(Ar (.slice m l y) hc).1.block b f (fun e=>by cases e;have:=aa.o;omega)))
 have f4:=ya (BF f0.o (Ar (.slice m l y) hc).1)
 clear hc hf
 generalize cg.setCell (aV w.heap.size 21) (.slice m l y)=ch at*
 refine hK.o _ _ (by first|(intro h;cases h;done)|exact fun _=>c3.o) ?_
 clear hK K
 refine A0 (i:=18) (v:=pV w.heap.size 22) rfl (by kernel_rfl) (by kernel_rfl) (by kernel_rfl) (fun _ _ _ h=>h) (by kernel_rfl) (Or.inl ⟨by rfl,?_⟩) (by first|exact fun _=>bz.o|(intro h;cases h)) ?_
 ·intro w _;go_simp
 refine A4 (i:=19) (by kernel_rfl) rfl (fun K hK=>?_)
 have hc:ch.cell? (aV w.heap.size 22)=some (.slice L.farms.a L.farms.n L.farms.c):=by simp only[World.cell?,bz.o];rfl
 have hf:ch.frozen? (aV w.heap.size 22)=false:=by simp[World.frozen?,bz.o]
 go_simp
 have ft:Hid ((ch.setCell (aV w.heap.size 22) (.slice S nfarms T)).heap[w.heap.size]?=some (.cells #[.string x.name,iV x.season.op,iV x.season.n,iV x.season.u,.string x.season.rn,iV x.season.ri,.slice a0 x.season.args.length p0,iV x.cap.op,iV x.cap.n,iV x.cap.u,.string x.cap.rn,iV x.cap.ri,.slice a1 x.cap.args.length p1,iV x.start.op,iV x.start.n,iV x.start.u,.string x.start.rn,iV x.start.ri,.slice a2 x.start.args.length p2,.slice a6 Z a7,.slice F H G,.slice m l y,.slice S nfarms T,.slice L.rots.a L.rots.n L.rots.c,.slice L.rights.a L.rights.n L.rights.c,.slice L.duties.a L.duties.n L.duties.c] 35 (0,0))):=ya (by
  have:=zk ch w.heap.size 22 _ _ (.slice S nfarms T) bz.o
  rw[this];rfl)
 replace E:=ya (E.o.up (fun b hB f=>(Ar (.slice S nfarms T) hc).1.block b f (fun e=>by cases e;have:=aa.o;omega)))
 replace C:=ya (C.o.up (fun b hB f=>(Ar (.slice S nfarms T) hc).1.block b f (fun e=>by cases e;have:=aa.o;omega)))
 replace A:=ya (A.o.up (fun b hB f=>(Ar (.slice S nfarms T) hc).1.block b f (fun e=>by cases e;have:=aa.o;omega)))
 replace X:=ya (X.o.up (fun b hB f=>(Ar (.slice S nfarms T) hc).1.block b f (fun e=>by cases e;have:=aa.o;omega)))
 have eg:=ya (BF f4.o (Ar (.slice S nfarms T) hc).1)
 clear hc hf
 generalize ch.setCell (aV w.heap.size 22) (.slice S nfarms T)=f5 at*
 refine hK.o _ _ (by first|(intro h;cases h;done)|exact fun _=>bz.o) ?_
 clear hK K
 refine AG (by kernel_rfl) ?_
 refine NoPanic.normal ?_
 simp only[Exit.then]
 refine Aq (Af ?_)
 refine wp_region_noPanic ?_
 have f3:f5.drew.heap[w.heap.size]?=some (.cells #[.string x.name,iV x.season.op,iV x.season.n,iV x.season.u,.string x.season.rn,iV x.season.ri,.slice a0 x.season.args.length p0,iV x.cap.op,iV x.cap.n,iV x.cap.u,.string x.cap.rn,iV x.cap.ri,.slice a1 x.cap.args.length p1,iV x.start.op,iV x.start.n,iV x.start.u,.string x.start.rn,iV x.start.ri,.slice a2 x.start.args.length p2,.slice a6 Z a7,.slice F H G,.slice m l y,.slice S nfarms T,.slice L.rots.a L.rots.n L.rots.c,.slice L.rights.a L.rights.n L.rights.c,.slice L.duties.a L.duties.n L.duties.c] 35 (0,0)):=ft.o
 have c8:=ya f3
 clear f3
 refine Bz (by kernel_rfl) (fun W=>W.heap[w.heap.size]?=some (.cells #[.string x.name,iV x.season.op,iV x.season.n,iV x.season.u,.string x.season.rn,iV x.season.ri,.slice a0 x.season.args.length p0,iV x.cap.op,iV x.cap.n,iV x.cap.u,.string x.cap.rn,iV x.cap.ri,.slice a1 x.cap.args.length p1,iV x.start.op,iV x.start.n,iV x.start.u,.string x.start.rn,iV x.start.ri,.slice a2 x.start.args.length p2,.slice a6 Z a7,.slice F H G,.slice m l y,.slice S nfarms T,.slice L.rots.a L.rots.n L.rots.c,.slice L.rights.a L.rights.n L.rights.c,.slice L.duties.a L.duties.n L.duties.c] 35 (0,0))) 10 ?_
 refine A0 (i:=0) (v:=pV w.heap.size 23) rfl (by kernel_rfl) (by kernel_rfl) (by kernel_rfl) (fun _ _ _ h=>h) (by kernel_rfl) (Or.inl ⟨by rfl,?_⟩) (fun _=>c8.o) ?_
 ·intro w _;go_simp
 refine Ag (i:=1) (v:=.slice L.rots.a L.rots.n L.rots.c) rfl (by kernel_rfl) (by kernel_rfl) (by kernel_rfl) (fun _ _ _ h=>h) (by kernel_rfl) (Or.inl ⟨by rfl,?_⟩) c8.o ?_
 ·intro W hW
  have hc:W.cell? (aV w.heap.size 23)=some (.slice L.rots.a L.rots.n L.rots.c):=by simp only[World.cell?,hW];rfl
  clear hW
  go_simp
 refine A0 (i:=3) (v:=pV w.heap.size 24) rfl (by kernel_rfl) (by kernel_rfl) (by kernel_rfl) (fun _ _ _ h=>h) (by kernel_rfl) (Or.inl ⟨by rfl,?_⟩) (fun _=>c8.o) ?_
 ·intro w _;go_simp
 refine Ag (i:=4) (v:=.slice L.rights.a L.rights.n L.rights.c) rfl (by kernel_rfl) (by kernel_rfl) (by kernel_rfl) (fun _ _ _ h=>h) (by kernel_rfl) (Or.inl ⟨by rfl,?_⟩) c8.o ?_
 ·intro W hW
  have hc:W.cell? (aV w.heap.size 24)=some (.slice L.rights.a L.rights.n L.rights.c):=by simp only[World.cell?,hW];rfl
  clear hW
  go_simp
 refine A0 (i:=6) (v:=pV w.heap.size 25) rfl (by kernel_rfl) (by kernel_rfl) (by kernel_rfl) (fun _ _ _ h=>h) (by kernel_rfl) (Or.inl ⟨by rfl,?_⟩) (fun _=>c8.o) ?_
 ·intro w _;go_simp
 refine Ag (i:=7) (v:=.slice L.duties.a L.duties.n L.duties.c) rfl (by kernel_rfl) (by kernel_rfl) (by kernel_rfl) (fun _ _ _ h=>h) (by kernel_rfl) (Or.inl ⟨by rfl,?_⟩) c8.o ?_
 ·intro W hW
  have hc:W.cell? (aV w.heap.size 25)=some (.slice L.duties.a L.duties.n L.duties.c):=by simp only[World.cell?,hW];rfl
  clear hW
  go_simp
 have b7:Hid (W1.grownBy f5.drew (some w.heap.size)):=ya (M5 eg.o)
 refine A4 (i:=2) (by kernel_rfl) rfl (fun K hK=>?_)
 go_simp
 refine (SP (Q:=(fun cs (d:AS × Nat)=>I6 N w (A5 L d.2) cs d.1)) (U3 (HV.o.rots) (bs.o _ b7.o)) (bk.o _ b7.o) U2 (by rw[zy];exact b4.o.rots)).mono ?_
 rintro e dl ⟨⟨a8,nrots,Y⟩,rfl,bn,ak,aw⟩
 rw[show AF.v ⟨a8,nrots,Y⟩=Value.slice a8 nrots Y from rfl]
 simp only at bn aw
 have ba:Hid (W1.grownBy dl (some w.heap.size)):=ya (BF b7.o (CA ak))
 have co:Hid (dl.heap[w.heap.size]?=some (.cells #[.string x.name,iV x.season.op,iV x.season.n,iV x.season.u,.string x.season.rn,iV x.season.ri,.slice a0 x.season.args.length p0,iV x.cap.op,iV x.cap.n,iV x.cap.u,.string x.cap.rn,iV x.cap.ri,.slice a1 x.cap.args.length p1,iV x.start.op,iV x.start.n,iV x.start.u,.string x.start.rn,iV x.start.ri,.slice a2 x.start.args.length p2,.slice a6 Z a7,.slice F H G,.slice m l y,.slice S nfarms T,.slice L.rots.a L.rots.n L.rots.c,.slice L.rights.a L.rights.n L.rights.c,.slice L.duties.a L.duties.n L.duties.c] 35 (0,0))):=ya ((ak.block _ (by have:=b7.o.size;have:=aa.o;omega)).trans c8.o)
 replace E:=ya (E.o.up (fun b _ f=>ak.block b f))
 replace C:=ya (C.o.up (fun b _ f=>ak.block b f))
 replace A:=ya (A.o.up (fun b _ f=>ak.block b f))
 replace X:=ya (X.o.up (fun b _ f=>ak.block b f))
 have ab:Hid (IB W1.heap.size dl 64 23 (fun cs (d:AS × Nat)=>I6 N w (A5 L d.2) cs d.1) ⟨a8,nrots,Y⟩ x.rots.zipIdx):=ya (IB.of bn (by exact b7.o.size) aw)
 clear bn ak aw
 refine hK.o _ _ (fun _=>co.o) ?_
 clear hK K
 refine A4 (i:=5) (by kernel_rfl) rfl (fun K hK=>?_)
 go_simp
 refine (Pk (HV.o.rights.same (fun _ h=>h) (bs.o _ ba.o) (fun _ _ h=>h)) (bk.o _ ba.o) Kt b4.o.rights).mono ?_
 rintro e du ⟨⟨J,nrights,I⟩,rfl,ax,af,am⟩
 rw[show AF.v ⟨J,nrights,I⟩=Value.slice J nrights I from rfl]
 simp only at ax am
 have be:Hid (W1.grownBy du (some w.heap.size)):=ya (BF ba.o (CA af))
 have d1:Hid (du.heap[w.heap.size]?=some (.cells #[.string x.name,iV x.season.op,iV x.season.n,iV x.season.u,.string x.season.rn,iV x.season.ri,.slice a0 x.season.args.length p0,iV x.cap.op,iV x.cap.n,iV x.cap.u,.string x.cap.rn,iV x.cap.ri,.slice a1 x.cap.args.length p1,iV x.start.op,iV x.start.n,iV x.start.u,.string x.start.rn,iV x.start.ri,.slice a2 x.start.args.length p2,.slice a6 Z a7,.slice F H G,.slice m l y,.slice S nfarms T,.slice L.rots.a L.rots.n L.rots.c,.slice L.rights.a L.rights.n L.rights.c,.slice L.duties.a L.duties.n L.duties.c] 35 (0,0))):=ya ((af.block _ (by have:=ba.o.size;have:=aa.o;omega)).trans co.o)
 replace E:=ya (E.o.up (fun b _ f=>af.block b f))
 replace C:=ya (C.o.up (fun b _ f=>af.block b f))
 replace A:=ya (A.o.up (fun b _ f=>af.block b f))
 replace X:=ya (X.o.up (fun b _ f=>af.block b f))
 replace ab:=ya (ab.o.up (fun b _ f=>af.block b f))
 have ac:Hid (IB W1.heap.size du 68 37 (CQ N w) ⟨J,nrights,I⟩ x.rights):=ya (IB.of ax (by exact ba.o.size) am)
 clear ax af am
 refine hK.o _ _ (fun _=>d1.o) ?_
 clear hK K
 refine A4 (i:=8) (by kernel_rfl) rfl (fun K hK=>?_)
 go_simp
 refine (QN (HV.o.duties.same (fun _ h=>h) (bs.o _ be.o) (fun _ _ h=>h)) (bk.o _ be.o) Ph b4.o.duties).mono ?_
 rintro e bt ⟨⟨R,nduties,P⟩,rfl,av,ad,al⟩
 rw[show AF.v ⟨R,nduties,P⟩=Value.slice R nduties P from rfl]
 simp only at av al
 have de:Hid (W1.grownBy bt (some w.heap.size)):=ya (BF be.o (CA ad))
 have au:Hid (bt.heap[w.heap.size]?=some (.cells #[.string x.name,iV x.season.op,iV x.season.n,iV x.season.u,.string x.season.rn,iV x.season.ri,.slice a0 x.season.args.length p0,iV x.cap.op,iV x.cap.n,iV x.cap.u,.string x.cap.rn,iV x.cap.ri,.slice a1 x.cap.args.length p1,iV x.start.op,iV x.start.n,iV x.start.u,.string x.start.rn,iV x.start.ri,.slice a2 x.start.args.length p2,.slice a6 Z a7,.slice F H G,.slice m l y,.slice S nfarms T,.slice L.rots.a L.rots.n L.rots.c,.slice L.rights.a L.rights.n L.rights.c,.slice L.duties.a L.duties.n L.duties.c] 35 (0,0))):=ya ((ad.block _ (by have:=be.o.size;have:=aa.o;omega)).trans d1.o)
 replace E:=ya (E.o.up (fun b _ f=>ad.block b f))
 replace C:=ya (C.o.up (fun b _ f=>ad.block b f))
 replace A:=ya (A.o.up (fun b _ f=>ad.block b f))
 replace X:=ya (X.o.up (fun b _ f=>ad.block b f))
 replace ab:=ya (ab.o.up (fun b _ f=>ad.block b f))
 replace ac:=ya (ac.o.up (fun b _ f=>ad.block b f))
 have ae:Hid (IB W1.heap.size bt 70 11 (Er N w) ⟨R,nduties,P⟩ x.duties):=ya (IB.of av (by exact be.o.size) al)
 clear av ad al
 refine hK.o _ _ (fun _=>au.o) ?_
 clear hK K
 refine A0 (i:=9) (v:=pV w.heap.size 23) rfl (by kernel_rfl) (by kernel_rfl) (by kernel_rfl) (fun _ _ _ h=>h) (by kernel_rfl) (Or.inl ⟨by rfl,?_⟩) (by first|exact fun _=>au.o|(intro h;cases h)) ?_
 ·intro w _;go_simp
 refine A4 (i:=10) (by kernel_rfl) rfl (fun K hK=>?_)
 have hc:bt.cell? (aV w.heap.size 23)=some (.slice L.rots.a L.rots.n L.rots.c):=by simp only[World.cell?,au.o];rfl
 have hf:bt.frozen? (aV w.heap.size 23)=false:=by simp[World.frozen?,au.o]
 go_simp
 have bw:Hid ((bt.setCell (aV w.heap.size 23) (.slice a8 nrots Y)).heap[w.heap.size]?=some (.cells #[.string x.name,iV x.season.op,iV x.season.n,iV x.season.u,.string x.season.rn,iV x.season.ri,.slice a0 x.season.args.length p0,iV x.cap.op,iV x.cap.n,iV x.cap.u,.string x.cap.rn,iV x.cap.ri,.slice a1 x.cap.args.length p1,iV x.start.op,iV x.start.n,iV x.start.u,.string x.start.rn,iV x.start.ri,.slice a2 x.start.args.length p2,.slice a6 Z a7,.slice F H G,.slice m l y,.slice S nfarms T,.slice a8 nrots Y,.slice L.rights.a L.rights.n L.rights.c,.slice L.duties.a L.duties.n L.duties.c] 35 (0,0))):=ya (by
  have:=zk bt w.heap.size 23 _ _ (.slice a8 nrots Y) au.o
  rw[this];rfl)
 replace E:=ya (E.o.up (fun b hB f=>(Ar (.slice a8 nrots Y) hc).1.block b f (fun e=>by cases e;have:=aa.o;omega)))
 replace C:=ya (C.o.up (fun b hB f=>(Ar (.slice a8 nrots Y) hc).1.block b f (fun e=>by cases e;have:=aa.o;omega)))
 replace A:=ya (A.o.up (fun b hB f=>(Ar (.slice a8 nrots Y) hc).1.block b f (fun e=>by cases e;have:=aa.o;omega)))
 replace X:=ya (X.o.up (fun b hB f=>(Ar (.slice a8 nrots Y) hc).1.block b f (fun e=>by cases e;have:=aa.o;omega)))
 replace ab:=ya (ab.o.up (fun b hB f=>(Ar (.slice a8 nrots Y) hc).1.block b f (fun e=>by cases e;have:=aa.o;omega)))
 replace ac:=ya (ac.o.up (fun b hB f=>(Ar (.slice a8 nrots Y) hc).1.block b f (fun e=>by cases e;have:=aa.o;omega)))
 replace ae:=ya (ae.o.up (fun b hB f=>(Ar (.slice a8 nrots Y) hc).1.block b f (fun e=>by cases e;have:=aa.o;omega)))
 have f8:=ya (BF de.o (Ar (.slice a8 nrots Y) hc).1)
 clear hc hf
 generalize bt.setCell (aV w.heap.size 23) (.slice a8 nrots Y)=cw at*
 refine hK.o _ _ (by first|(intro h;cases h;done)|exact fun _=>au.o) ?_
 clear hK K
 refine A0 (i:=11) (v:=pV w.heap.size 24) rfl (by kernel_rfl) (by kernel_rfl) (by kernel_rfl) (fun _ _ _ h=>h) (by kernel_rfl) (Or.inl ⟨by rfl,?_⟩) (by first|exact fun _=>bw.o|(intro h;cases h)) ?_
 ·intro w _;go_simp
 refine A4 (i:=12) (by kernel_rfl) rfl (fun K hK=>?_)
 have hc:cw.cell? (aV w.heap.size 24)=some (.slice L.rights.a L.rights.n L.rights.c):=by simp only[World.cell?,bw.o];rfl
 have hf:cw.frozen? (aV w.heap.size 24)=false:=by simp[World.frozen?,bw.o]
 go_simp
 have c4:Hid ((cw.setCell (aV w.heap.size 24) (.slice J nrights I)).heap[w.heap.size]?=some (.cells #[.string x.name,iV x.season.op,iV x.season.n,iV x.season.u,.string x.season.rn,iV x.season.ri,.slice a0 x.season.args.length p0,iV x.cap.op,iV x.cap.n,iV x.cap.u,.string x.cap.rn,iV x.cap.ri,.slice a1 x.cap.args.length p1,iV x.start.op,iV x.start.n,iV x.start.u,.string x.start.rn,iV x.start.ri,.slice a2 x.start.args.length p2,.slice a6 Z a7,.slice F H G,.slice m l y,.slice S nfarms T,.slice a8 nrots Y,.slice J nrights I,.slice L.duties.a L.duties.n L.duties.c] 35 (0,0))):=ya (by
  have:=zk cw w.heap.size 24 _ _ (.slice J nrights I) bw.o
  rw[this];rfl)
 replace E:=ya (E.o.up (fun b hB f=>(Ar (.slice J nrights I) hc).1.block b f (fun e=>by cases e;have:=aa.o;omega)))
 replace C:=ya (C.o.up (fun b hB f=>(Ar (.slice J nrights I) hc).1.block b f (fun e=>by cases e;have:=aa.o;omega)))
 replace A:=ya (A.o.up (fun b hB f=>(Ar (.slice J nrights I) hc).1.block b f (fun e=>by cases e;have:=aa.o;omega)))
 replace X:=ya (X.o.up (fun b hB f=>(Ar (.slice J nrights I) hc).1.block b f (fun e=>by cases e;have:=aa.o;omega)))
 replace ab:=ya (ab.o.up (fun b hB f=>(Ar (.slice J nrights I) hc).1.block b f (fun e=>by cases e;have:=aa.o;omega)))
 replace ac:=ya (ac.o.up (fun b hB f=>(Ar (.slice J nrights I) hc).1.block b f (fun e=>by cases e;have:=aa.o;omega)))
 replace ae:=ya (ae.o.up (fun b hB f=>(Ar (.slice J nrights I) hc).1.block b f (fun e=>by cases e;have:=aa.o;omega)))
 have fh:=ya (BF f8.o (Ar (.slice J nrights I) hc).1)
 clear hc hf
 generalize cw.setCell (aV w.heap.size 24) (.slice J nrights I)=cm at*
 refine hK.o _ _ (by first|(intro h;cases h;done)|exact fun _=>bw.o) ?_
 clear hK K
 refine A0 (i:=13) (v:=pV w.heap.size 25) rfl (by kernel_rfl) (by kernel_rfl) (by kernel_rfl) (fun _ _ _ h=>h) (by kernel_rfl) (Or.inl ⟨by rfl,?_⟩) (by first|exact fun _=>c4.o|(intro h;cases h)) ?_
 ·intro w _;go_simp
 refine A4 (i:=14) (by kernel_rfl) rfl (fun K hK=>?_)
 have hc:cm.cell? (aV w.heap.size 25)=some (.slice L.duties.a L.duties.n L.duties.c):=by simp only[World.cell?,c4.o];rfl
 have hf:cm.frozen? (aV w.heap.size 25)=false:=by simp[World.frozen?,c4.o]
 go_simp
 have fp:Hid ((cm.setCell (aV w.heap.size 25) (.slice R nduties P)).heap[w.heap.size]?=some (.cells #[.string x.name,iV x.season.op,iV x.season.n,iV x.season.u,.string x.season.rn,iV x.season.ri,.slice a0 x.season.args.length p0,iV x.cap.op,iV x.cap.n,iV x.cap.u,.string x.cap.rn,iV x.cap.ri,.slice a1 x.cap.args.length p1,iV x.start.op,iV x.start.n,iV x.start.u,.string x.start.rn,iV x.start.ri,.slice a2 x.start.args.length p2,.slice a6 Z a7,.slice F H G,.slice m l y,.slice S nfarms T,.slice a8 nrots Y,.slice J nrights I,.slice R nduties P] 35 (0,0))):=ya (by
  have:=zk cm w.heap.size 25 _ _ (.slice R nduties P) c4.o
  rw[this];rfl)
 replace E:=ya (E.o.up (fun b hB f=>(Ar (.slice R nduties P) hc).1.block b f (fun e=>by cases e;have:=aa.o;omega)))
 replace C:=ya (C.o.up (fun b hB f=>(Ar (.slice R nduties P) hc).1.block b f (fun e=>by cases e;have:=aa.o;omega)))
 replace A:=ya (A.o.up (fun b hB f=>(Ar (.slice R nduties P) hc).1.block b f (fun e=>by cases e;have:=aa.o;omega)))
 replace X:=ya (X.o.up (fun b hB f=>(Ar (.slice R nduties P) hc).1.block b f (fun e=>by cases e;have:=aa.o;omega)))
 replace ab:=ya (ab.o.up (fun b hB f=>(Ar (.slice R nduties P) hc).1.block b f (fun e=>by cases e;have:=aa.o;omega)))
 replace ac:=ya (ac.o.up (fun b hB f=>(Ar (.slice R nduties P) hc).1.block b f (fun e=>by cases e;have:=aa.o;omega)))
 replace ae:=ya (ae.o.up (fun b hB f=>(Ar (.slice R nduties P) hc).1.block b f (fun e=>by cases e;have:=aa.o;omega)))
 have fq:=ya (BF fh.o (Ar (.slice R nduties P) hc).1)
 clear hc hf
 generalize cm.setCell (aV w.heap.size 25) (.slice R nduties P)=gc at*
 refine hK.o _ _ (by first|(intro h;cases h;done)|exact fun _=>c4.o) ?_
 clear hK K
 refine AG (by kernel_rfl) ?_
 refine NoPanic.normal ?_
 simp only[Exit.then]
 obtain ⟨U,rfl⟩:∃z:World,z=gc:=⟨_,rfl⟩
 have HQ:=ya fp.o
 have HP:=ya fq.o
 have dn:nrots=x.rots.length:=by have:=ab.o.1;simp only[zy] at this;exact this
 have g4:nrots<=100000:=by rw[dn];exact b4.o.rots
 have d8:=ya dn
 clear dn
 have ck:U.cell? (aV w.heap.size 23)=some (.slice a8 nrots Y):=by simp only[World.cell?,HQ.o];rfl
 refine Aq (Af ?_)
 go_wp2
 clear ck
 go_loopw [37] (fun iv wr=>∃hs:List AF,hs.length<=nrots∧iv=iV (hs.length:Int)∧Hid (WC U a8 N w x.rots hs wr)) (fun iv _=>nrots - (intOf iv).toNat)
 case atStart=>exact ⟨[],yv _,rfl,ya ⟨M4 _ _,yv _,fun _ _ _ h=>h,fun _ _ _ _=>rfl,fun j hj=>by simp at hj⟩⟩
 case round=>
  obtain ⟨hs,hi,rfl,ag⟩:=hrel
  obtain ⟨i,cc⟩:∃i,i=hs.length:=⟨_,rfl⟩
  rw[<-cc] at hi ⊢
  by_cases f:i < nrots
  ·have g3:i < x.rots.zipIdx.length:=by rw[zy,<-d8.o];exact f
   have cb:i < x.rots.length:=by rw[<-d8.o];exact f
   obtain ⟨g,cs,ha,ei,c5,ay,el,cn⟩:=ab.o.2 i g3
   simp only at ha
   subst ha
   rw[xB] at cn
   simp only[yD] at cn
   have ci:=Np cn ay
   have hz:=aa.o
   have ec:wr.cell? (aV g (i*23+22))=some (.slice (A5 L i).a (A5 L i).n (A5 L i).c):=(ag.o.cells g rfl _ (fun j hj=>by omega)).trans (el 22 _ ci)
   have f6:wr.heap[w.heap.size]?=some (.cells #[.string x.name,iV x.season.op,iV x.season.n,iV x.season.u,.string x.season.rn,iV x.season.ri,.slice a0 x.season.args.length p0,iV x.cap.op,iV x.cap.n,iV x.cap.u,.string x.cap.rn,iV x.cap.ri,.slice a1 x.cap.args.length p1,iV x.start.op,iV x.start.n,iV x.start.u,.string x.start.rn,iV x.start.ri,.slice a2 x.start.args.length p2,.slice a6 Z a7,.slice F H G,.slice m l y,.slice S nfarms T,.slice (some (aV g 0)) nrots Y,.slice J nrights I,.slice R nduties P] 35 (0,0)):=(ag.o.grown.block _ (by have:=HP.o.size;omega) (fun e=>by rw[Gh cb] at e;cases e;omega)).trans HQ.o
   have ee:∀V:World,Below wr.heap.size wr V->V.frozen? (aV g (i*23+22))=false:=fun V hV=>(Ty.same (ag.o.ty g rfl _ c5) (hV.block g (yk c5.lt ag.o.grown.size))).frozen
   have cz:=U1 cn
   have er:∀b,N b->wr.heap[b]?=w.heap[b]?:=fun b hb=>(ag.o.grown.block b (bk.o _ HP.o b hb) (fun e=>by rw[Gh cb] at e;cases e;have:=HN.o _ hb;omega)).trans (bs.o _ HP.o b hb)
   have ew:∀b,N b->b < wr.drew.heap.size:=fun b hb=>yk (bk.o _ HP.o b hb) ag.o.grown.size
   have d5:=ya (QO (w:=wr.drew) (cz.same (fun _ h=>h) er (fun _ _ h=>h)) ew TP (b4.o.turns _ (yw cb)))
   have bi:Hid (wr.drew.heap[w.heap.size]?=some (.cells #[.string x.name,iV x.season.op,iV x.season.n,iV x.season.u,.string x.season.rn,iV x.season.ri,.slice a0 x.season.args.length p0,iV x.cap.op,iV x.cap.n,iV x.cap.u,.string x.cap.rn,iV x.cap.ri,.slice a1 x.cap.args.length p1,iV x.start.op,iV x.start.n,iV x.start.u,.string x.start.rn,iV x.start.ri,.slice a2 x.start.args.length p2,.slice a6 Z a7,.slice F H G,.slice m l y,.slice S nfarms T,.slice (some (aV g 0)) nrots Y,.slice J nrights I,.slice R nduties P] 35 (0,0))∧wr.drew.cell? (aV g (i*23+22))=some (.slice (A5 L i).a (A5 L i).n (A5 L i).c)):=ya ⟨f6,ec⟩
   have fx:=ya ee
   have fz:Hid (g < U.heap.size):=ya c5.lt
   have en:Hid (g < wr.heap.size∧w.heap.size < wr.heap.size):=ya ⟨yk c5.lt ag.o.grown.size,by have:=HP.o.size;have:=ag.o.grown.size;omega⟩
   have dx:=ya cc
   have et:=ya cb
   have gi:(i:Int) < (nrots:Int):=by omega
   clear ei c5 ay el cn ci f6 ee cz er ew cc hz ec
   go_upto_region 6 with fail
   refine wp_region_noPanic ?_
   refine Bz (by kernel_rfl) (fun W=>W.heap[w.heap.size]?=some (.cells #[.string x.name,iV x.season.op,iV x.season.n,iV x.season.u,.string x.season.rn,iV x.season.ri,.slice a0 x.season.args.length p0,iV x.cap.op,iV x.cap.n,iV x.cap.u,.string x.cap.rn,iV x.cap.ri,.slice a1 x.cap.args.length p1,iV x.start.op,iV x.start.n,iV x.start.u,.string x.start.rn,iV x.start.ri,.slice a2 x.start.args.length p2,.slice a6 Z a7,.slice F H G,.slice m l y,.slice S nfarms T,.slice (some (aV g 0)) nrots Y,.slice J nrights I,.slice R nduties P] 35 (0,0))∧W.cell? (aV g (i*23+22))=some (.slice (A5 L i).a (A5 L i).n (A5 L i).c)) 12 ?_
   refine A0 (i:=0) (v:=pV w.heap.size 23) rfl (by kernel_rfl) (by kernel_rfl) (by kernel_rfl) (fun _ _ _ h=>h) (by kernel_rfl) (Or.inl ⟨by rfl,?_⟩) (fun _=>bi.o) ?_
   ·intro w _;go_simp
   refine Ag (i:=1) (v:=.slice (some (aV g 0)) nrots Y) rfl (by kernel_rfl) (by kernel_rfl) (by kernel_rfl) (fun _ _ _ h=>h) (by kernel_rfl) (Or.inl ⟨by rfl,?_⟩) bi.o ?_
   ·rintro W ⟨hW,ey⟩
    have hc:W.cell? (aV w.heap.size 23)=some (.slice (some (aV g 0)) nrots Y):=by simp only[World.cell?,hW];rfl
    clear hW
    go_simp
   refine A0 (i:=2) (v:=iV (i:Int)) rfl (by kernel_rfl) (by kernel_rfl) (by kernel_rfl) (fun _ _ _ h=>h) (by kernel_rfl) (Or.inl ⟨by rfl,?_⟩) (fun _=>bi.o) ?_
   ·intro w _;go_simp
   refine A0 (i:=3) (v:=pV w.heap.size 23) rfl (by kernel_rfl) (by kernel_rfl) (by kernel_rfl) (fun _ _ _ h=>h) (by kernel_rfl) (Or.inl ⟨by rfl,?_⟩) (fun _=>bi.o) ?_
   ·intro w _;go_simp
   refine Ag (i:=4) (v:=.slice (some (aV g 0)) nrots Y) rfl (by kernel_rfl) (by kernel_rfl) (by kernel_rfl) (fun _ _ _ h=>h) (by kernel_rfl) (Or.inl ⟨by rfl,?_⟩) bi.o ?_
   ·rintro W ⟨hW,ey⟩
    have hc:W.cell? (aV w.heap.size 23)=some (.slice (some (aV g 0)) nrots Y):=by simp only[World.cell?,hW];rfl
    clear hW
    go_simp
   refine A0 (i:=5) (v:=iV (i:Int)) rfl (by kernel_rfl) (by kernel_rfl) (by kernel_rfl) (fun _ _ _ h=>h) (by kernel_rfl) (Or.inl ⟨by rfl,?_⟩) (fun _=>bi.o) ?_
   ·intro w _;go_simp
   refine A0 (i:=6) (v:=pV g (i*23)) rfl (by kernel_rfl) (by kernel_rfl) (by kernel_rfl) (fun _ _ _ h=>h) (by kernel_rfl) (Or.inl ⟨by rfl,?_⟩) (fun _=>bi.o) ?_
   ·intro w _;go_simp
   refine A0 (i:=7) (v:=pV g (i*23+22)) rfl (by kernel_rfl) (by kernel_rfl) (by kernel_rfl) (fun _ _ _ h=>h) (by kernel_rfl) (Or.inl ⟨by rfl,?_⟩) (fun _=>bi.o) ?_
   ·intro w _;go_simp
   refine Ag (i:=8) (v:=.slice (A5 L i).a (A5 L i).n (A5 L i).c) rfl (by kernel_rfl) (by kernel_rfl) (by kernel_rfl) (fun _ _ _ h=>h) (by kernel_rfl) (Or.inl ⟨by rfl,?_⟩) bi.o ?_
   ·rintro W ⟨hW,ey⟩
    have hc:W.cell? (aV w.heap.size 23)=some (.slice (some (aV g 0)) nrots Y):=by simp only[World.cell?,hW];rfl
    clear hW
    go_simp
   refine A4 (i:=9) (by kernel_rfl) rfl (fun K hK=>?_)
   go_simp
   refine d5.o.mono ?_
   rintro e V ⟨⟨ta,tn,tc⟩,rfl,e6,d7,c6⟩
   rw[show AF.v ⟨ta,tn,tc⟩=Value.slice ta tn tc from rfl]
   simp only at e6 c6
   have gf:Hid (IB wr.heap.size V 66 8 (Fv N w) ⟨ta,tn,tc⟩ (x.rots[i]'et.o).turns):=ya (IB.of e6 (ye _) c6)
   have fs:Hid (Below wr.heap.size wr V):=ya ((yc _ _).drew.trans d7)
   have d2:Hid (V.heap[w.heap.size]?=some (.cells #[.string x.name,iV x.season.op,iV x.season.n,iV x.season.u,.string x.season.rn,iV x.season.ri,.slice a0 x.season.args.length p0,iV x.cap.op,iV x.cap.n,iV x.cap.u,.string x.cap.rn,iV x.cap.ri,.slice a1 x.cap.args.length p1,iV x.start.op,iV x.start.n,iV x.start.u,.string x.start.rn,iV x.start.ri,.slice a2 x.start.args.length p2,.slice a6 Z a7,.slice F H G,.slice m l y,.slice S nfarms T,.slice (some (aV g 0)) nrots Y,.slice J nrights I,.slice R nduties P] 35 (0,0))∧V.cell? (aV g (i*23+22))=some (.slice (A5 L i).a (A5 L i).n (A5 L i).c)):=ya ⟨(d7.block _ en.o.2).trans bi.o.1,(d7.cell (p:=(aV g (i*23+22))) en.o.1).trans bi.o.2⟩
   clear e6 d7 c6
   refine hK.o _ _ (fun _=>d2.o) ?_
   clear hK K
   refine A0 (i:=10) (v:=pV g (i*23)) rfl (by kernel_rfl) (by kernel_rfl) (by kernel_rfl) (fun _ _ _ h=>h) (by kernel_rfl) (Or.inl ⟨by rfl,?_⟩) (fun _=>d2.o) ?_
   ·intro w _;go_simp
   refine A0 (i:=11) (v:=pV g (i*23+22)) rfl (by kernel_rfl) (by kernel_rfl) (by kernel_rfl) (fun _ _ _ h=>h) (by kernel_rfl) (Or.inl ⟨by rfl,?_⟩) (fun _=>d2.o) ?_
   ·intro w _;go_simp
   refine A4 (i:=12) (by kernel_rfl) rfl (fun K hK=>?_)
   have hc:=d2.o.2
   have hf:=fx.o V fs.o
   go_simp
   have dt:Hid (WC U (some (aV g 0)) N w x.rots (hs++[⟨ta,tn,tc⟩]) (V.setCell (aV g (i*23+22)) (.slice ta tn tc))):=ya (by
    obtain rfl:=dx.o
    exact ag.o.next et.o rfl fz.o fs.o hc gf.o rfl)
   clear hc hf
   generalize V.setCell (aV g (i*23+22)) (.slice ta tn tc)=V2 at*
   refine hK.o _ _ (by intro h;cases h) ?_
   clear hK K
   refine AG (by kernel_rfl) ?_
   refine NoPanic.normal ?_
   go_wp2
   exact ⟨⟨hs++[⟨ta,tn,tc⟩],by simp;have:=dx.o;omega,by simp;have:=dx.o;omega,dt⟩,by simp[intOf];omega⟩
  ·have dd:i=nrots:=by omega
   have gi:decide ((i:Int) < (nrots:Int))=false:=by simp;omega
   have hz:=aa.o
   have ef:=HP.o.size
   have b8:∀b,b < W1.heap.size->some b≠Nw x.rots a8:=fun b hb e=>by
    have h0:=Nx e
    obtain ⟨g,cs,ha,ei,_⟩:=ab.o.2 0 (by rw[zy];exact h0)
    simp only at ha
    rw[ha,Gh h0] at e
    cases e;omega
   have cx:∀b t,Ty U b t->t≠64->some b≠Nw x.rots a8:=fun b t ht ce e=>by
    have h0:=Nx e
    obtain ⟨g,cs,ha,_,c5,_⟩:=ab.o.2 0 (by rw[zy];exact h0)
    simp only at ha
    rw[ha,Gh h0] at e
    cases e
    exact ce (ht.inj c5)
   have dk:∀b,N b->wr.heap[b]?=w.heap[b]?:=fun b hb=>(ag.o.grown.block b (bk.o _ HP.o b hb) (b8 b (by have:=HN.o b hb;omega))).trans (bs.o _ HP.o b hb)
   have e9:wr.heap[w.heap.size]?=some (.cells #[.string x.name,iV x.season.op,iV x.season.n,iV x.season.u,.string x.season.rn,iV x.season.ri,.slice a0 x.season.args.length p0,iV x.cap.op,iV x.cap.n,iV x.cap.u,.string x.cap.rn,iV x.cap.ri,.slice a1 x.cap.args.length p1,iV x.start.op,iV x.start.n,iV x.start.u,.string x.start.rn,iV x.start.ri,.slice a2 x.start.args.length p2,.slice a6 Z a7,.slice F H G,.slice m l y,.slice S nfarms T,.slice a8 nrots Y,.slice J nrights I,.slice R nduties P] 35 (0,0)):=(ag.o.grown.block _ (by omega) (b8 _ (by omega))).trans HQ.o
   have fu:wr.heap[w.heap.size+1]?=some (.cells #[.string ⟨#[]⟩,iV 0,iV 0,iV 0,.string ⟨#[]⟩,iV 0,.slice none 0 0,iV 0,iV 0,iV 0,.string ⟨#[]⟩,iV 0,.slice none 0 0,iV 0,iV 0,iV 0,.string ⟨#[]⟩,iV 0,.slice none 0 0,.slice none 0 0,.slice none 0 0,.slice none 0 0,.slice none 0 0,.slice none 0 0,.slice none 0 0,.slice none 0 0] 35 (0,0)):=(ag.o.grown.block _ (by omega) (b8 _ (by omega))).trans ((HP.o.block _ (by omega) (fun e=>by simp at e)).trans gh.o)
   have ao:∀b t,Ty U b t->t≠64->wr.heap[b]?=U.heap[b]?:=fun b t ht ce=>ag.o.grown.block b ht.lt (cx b t ht ce)
   have d4:∀i (h:i < hs.length),A5 (⟨w.heap.size,⟨a6,Z,a7⟩,⟨F,H,G⟩,⟨m,l,y⟩,⟨S,nfarms,T⟩,⟨a8,nrots,Y⟩,⟨J,nrights,I⟩,⟨R,nduties,P⟩,hs⟩:BL) i=hs[i]:=fun i h=>by unfold A5;simp[h]
   have e3:CT (fun g=>w.heap.size<=g∧g≠w.heap.size+1) (EV N wr) (RV wr) wr (⟨w.heap.size,⟨a6,Z,a7⟩,⟨F,H,G⟩,⟨m,l,y⟩,⟨S,nfarms,T⟩,⟨a8,nrots,Y⟩,⟨J,nrights,I⟩,⟨R,nduties,P⟩,hs⟩:BL) x:=by
    refine R4 (B:=W1.heap.size) dk (fun g hg=>by omega) b4.o e9 HV.o.name gd.o g5.o gl.o (E.o.Xz fun b _ ht=>ao b _ ht (by decide)) (C.o.Xz fun b _ ht=>ao b _ ht (by decide)) (A.o.Xz fun b _ ht=>ao b _ ht (by decide)) (X.o.Xz fun b _ ht=>ao b _ ht (by decide)) ?_ (ac.o.Xz fun b _ ht=>ao b _ ht (by decide)) (ae.o.Xz fun b _ ht=>ao b _ ht (by decide))
    refine TX (L:=L) (L':=(⟨w.heap.size,⟨a6,Z,a7⟩,⟨F,H,G⟩,⟨m,l,y⟩,⟨S,nfarms,T⟩,⟨a8,nrots,Y⟩,⟨J,nrights,I⟩,⟨R,nduties,P⟩,hs⟩:BL)) dk ab.o (fun g hg=>by omega) b4.o.rots b4.o.turns (fun g hg ht=>ag.o.ty g hg _ ht) (fun g hg i q hq=>ag.o.cells g hg _ (fun j _=>by omega)) (fun k hk g hg=>?_) (fun k hk=>?_)
    ·have cd:k < hs.length:=by rw[<-cc,dd,d8.o];exact hk
     rw[d4 k cd]
     exact (ag.o.done k cd hk).2 g hg
    ·have cd:k < hs.length:=by rw[<-cc,dd,d8.o];exact hk
     rw[d4 k cd]
     exact IB.of (ag.o.done k cd hk).1.1 ef (ag.o.done k cd hk).1.2
   have ea:Below w.heap.size w wr:=⟨ag.o.grown.os.trans (HP.o.os.trans cy.o.os),ag.o.grown.tape.trans (HP.o.tape.trans cy.o.tape),ag.o.grown.output.trans (HP.o.output.trans cy.o.output),by have:=ag.o.grown.size;omega,fun b hb=>(ag.o.grown.block b (by omega) (b8 b (by omega))).trans ((HP.o.block b (by omega) (fun e=>by cases e;omega)).trans (cy.o.block b hb))⟩
   have fi:∀b,N b->b < w.heap.size∧b < wr.heap.size:=fun b hb=>⟨HN.o b hb,by have:=HN.o b hb;have:=ea.size;omega⟩
   generalize f1:(⟨w.heap.size,⟨a6,Z,a7⟩,⟨F,H,G⟩,⟨m,l,y⟩,⟨S,nfarms,T⟩,⟨a8,nrots,Y⟩,⟨J,nrights,I⟩,⟨R,nduties,P⟩,hs⟩:BL)=Lc at e3 d4
   have fo:Lc.s=w.heap.size:=by rw[<-f1]
   have dv:=ya e3;have ct:=ya ea;have d6:=ya fi;have gm:=ya e9;have fb:=ya fu;have bm:=ya fo
   have fy:=ya b4.o.exprs
   clear e3 ea fi e9 fu fo f1 d4 ao dk b8 cx hz ef dd cc
   iterate 2
    go_wp2
    refine Aq (Af ?_)
   have ga:∀(fn:Fn) (first cap:Array Value) (w:World),(Instr.makeFunc fn first cap).run Try.prog w=.ok (.func fn first cap) w:=fun _ _ _ _=>rfl
   go_wp2
   refine Aq (Aq (Af ?_))
   go_wp2_with (first|(go_at_call 67;refine (G0 _ _).mono ?_;rintro e w2 ⟨rfl,rfl⟩))
   have dq:Below wr.heap.size wr ((wr.alloc (.cells #[.func (.func 79) #[] #[pV wr.heap.size 0]] 146)).alloc (.cells #[pV w.heap.size 0] 52)):=((yc _ _).alloc (ye _) _).alloc (by simp) _
   have fk:((wr.alloc (.cells #[.func (.func 79) #[] #[pV wr.heap.size 0]] 146)).alloc (.cells #[pV w.heap.size 0] 52)).cell? (aV wr.heap.size 0)=some (.func (.func 79) #[] #[pV wr.heap.size 0]):=by
    refine qe _ ?_
    have:=World.alloc_heap_new wr (.cells #[.func (.func 79) #[] #[pV wr.heap.size 0]] 146)
    simp only[World.cell?,this];simp
   have fc:((wr.alloc (.cells #[.func (.func 79) #[] #[pV wr.heap.size 0]] 146)).alloc (.cells #[pV w.heap.size 0] 52)).cell? (aV (wr.heap.size+1) 0)=some (pV w.heap.size 0):=by
    have:=World.alloc_heap_new (wr.alloc (.cells #[.func (.func 79) #[] #[pV wr.heap.size 0]] 146)) (.cells #[pV w.heap.size 0] 52)
    rw[zv] at this
    simp only[World.cell?,this];simp
   have c9:((wr.alloc (.cells #[.func (.func 79) #[] #[pV wr.heap.size 0]] 146)).alloc (.cells #[pV w.heap.size 0] 52)).heap.size=wr.heap.size+2:=by simp
   generalize (wr.alloc (.cells #[.func (.func 79) #[] #[pV wr.heap.size 0]] 146)).alloc (.cells #[pV w.heap.size 0] 52)=W4 at*
   have cr:=ya dq;have fw:=ya fk;have ge:=ya fc;have cf:=ya c9
   have dh:=dv.o.up (fun b hb=>(d6.o b hb).2) dq
   have g8:=ct.o.size
   have d0:w.heap.size+2<=wr.heap.size:=by
    have h1:=(yd.1 fb.o).1
    omega
   have hA:=dh.Xq (by rw[bm.o];exact ⟨ye _,by omega⟩)
   have dm:=dv.o.Xq (by rw[bm.o];exact ⟨ye _,by omega⟩)
   have db:Py N W4 Lc x:=⟨fun j b o lt hp=>(Jf hA hp).2.1,fun b hb=>⟨by have:=(d6.o b hb).2;omega,fun j o lt hp=>by have h1:=(Jf hA hp).1.1;have h2:=(d6.o b hb).1;omega⟩,fun j b o lt hp hj=>(Jf hA hp).2.2 hj⟩
   have da:∀j b o lt,Hn Lc j b o lt->w.heap.size<=b∧b < wr.heap.size:=fun j b o lt hp=>⟨(Jf dm hp).1.1,(Jf dm hp).2.1.lt⟩
   have fv:=ya dh;have HA:=ya hA;have b5:=ya db;have ca:=ya da;have eb:=ya d0
   clear dq fk fc c9 dh hA dm db da g8 d0 ga
   refine F9 ?_
   refine EF (n:=10) Try.func48 rfl (fun _ _=>rfl) (LN 9 (by omega) (wr.heap.size+1) Lc dv.o.ok) (fun a ha=>by
     obtain ⟨i,hi,rfl⟩:=zc.1 ha
     obtain ⟨b,o,h1,_⟩:=HA.o.get i hi (by rw[<-HA.o.length];exact hi)
     rw[h1];rfl)
    (Pz W4 Lc x) (fun _ _ _=>False) (fun _ _ _=>False)
    (fun k a O W=>Pz W4 Lc x k O W∧∃(b o:Nat) (lt:Int),Hn Lc k b o lt∧a={tmps:=#[.agg #[.string x.name,iV x.season.op,iV x.season.n,iV x.season.u,.string x.season.rn,iV x.season.ri,.slice a0 x.season.args.length p0,iV x.cap.op,iV x.cap.n,iV x.cap.u,.string x.cap.rn,iV x.cap.ri,.slice a1 x.cap.args.length p1,iV x.start.op,iV x.start.n,iV x.start.u,.string x.start.rn,iV x.start.ri,.slice a2 x.start.args.length p2,.slice L.lets.a L.lets.n L.lets.c,.slice L.crops.a L.crops.n L.crops.c,.slice L.reaches.a L.reaches.n L.reaches.c,.slice L.farms.a L.farms.n L.farms.c,.slice L.rots.a L.rots.n L.rots.c,.slice L.rights.a L.rights.n L.rights.c,.slice L.duties.a L.duties.n L.duties.c],pV w.heap.size 0,pV (w.heap.size+1) 0,u3,pV wr.heap.size 0,pV b o,pV w.heap.size 19,.slice L.lets.a L.lets.n L.lets.c,.slice a6 Z a7,pV w.heap.size 20,.slice L.crops.a L.crops.n L.crops.c,.slice F H G,pV w.heap.size 21,.slice L.reaches.a L.reaches.n L.reaches.c,.slice m l y,pV w.heap.size 22,.slice L.farms.a L.farms.n L.farms.c,.slice S nfarms T,pV w.heap.size 19,pV w.heap.size 20,pV w.heap.size 21,pV w.heap.size 22,pV w.heap.size 23,.slice L.rots.a L.rots.n L.rots.c,.slice a8 nrots Y,pV w.heap.size 24,.slice L.rights.a L.rights.n L.rights.c,.slice J nrights I,pV w.heap.size 25,.slice L.duties.a L.duties.n L.duties.c,.slice R nduties P,pV w.heap.size 23,pV w.heap.size 24,pV w.heap.size 25,pV w.heap.size 23,.slice a8 nrots Y,iV (nrots:Int),iV (i:Int),.bool false,u39,u40,u41,u42,u43,u44,u45,u46,u47,u48,u49,u50,u51,u52,.func (.func 79) #[] #[pV wr.heap.size 0],.func (.func 89) #[] #[pV (wr.heap.size+1) 0],pV b o,iV lt,undef,undef,undef,undef],defers:=[]})
    Pz.stays (fun _ _ _ _ _ _ h=>h.elim) (fun _ _ _ _ _ _ h=>h.elim) ?_ ?_ (fun _ _ _ h=>h.elim) (fun _ h=>by cases h) (Pz.start W4 Lc x) ?_ ?_ ?_ (fun _ _ _ _ _ _ h=>h.elim) (fun _ _ _ _ _ _ h=>h.elim)
   ·exact fun a k O W O' W' h hz ho ht hu hk hO=>⟨Pz.stays k O W O' W' h.1 hz ho ht hu hk hO,h.2⟩
   ·intro k O W hJ
    refine fv.o.heads (fun b q hq=>by obtain ⟨t,ty,ay⟩:=hq;exact Jg b5.o hJ ty (by rw[ay];decide)) ?_
    rw[bm.o,Ap (hJ.old _ (by have:=cf.o;omega) (fun j o lt _ hp=>by have:=(ca.o j _ o lt hp).2;omega))]
    exact ge.o
   ·intro k hk O W lo hJ hO hl _
    obtain ⟨b,o,lt,hp⟩:=TZ HA.o hk
    have he:(Cw Lc)[k]=#[pV b o,iV lt]:=by
     unfold Hn at hp
     rw[yl hk] at hp
     exact yh hp
    rw[he]
    have e7:=ya hJ;have df:=ya hp
    clear hJ hO hl hp he
    gi_wp2
    first
    |exact ⟨Cd.refl _ _,e7.o,b,o,lt,df.o,rfl⟩
    |(rename_i hK;exact hK _ _ ⟨Cd.refl _ _,e7.o,b,o,lt,df.o,rfl⟩)
    |(rename_i hK _;exact hK _ _ ⟨Cd.refl _ _,e7.o,b,o,lt,df.o,rfl⟩)
   ·rintro k hk O W lo a1 hl em fa ⟨hJ,b,o,lt,hp,rfl⟩
    have dg:k < (Bb x).length:=by rw[<-HA.o.length];exact hk
    obtain ⟨M,hM,cs,hr,hv⟩:=hJ.read b5.o hp dg
    obtain ⟨t,ht,_⟩:=b5.o.epos k b o lt hp
    have hf:=ca.o k b o lt hp
    have c9:=cf.o
    have bx:W.cell? (aV wr.heap.size 0)=some (.func (.func 79) #[] #[pV wr.heap.size 0]):=(Ap (hJ.old _ (by omega) (fun j o lt _ hp=>by have:=(ca.o j _ o lt hp).2;omega))).trans fw.o
    have fd:=TQ M wr.heap.size (Bb x)[k].1 b o t cs W hv hr (hJ.ty b t ht) (fy.o _ (yw dg)) (fun c hc=>by
     rcases hM c hc with h1|h1
     ·have h2:=(d6.o c h1);have h3:=hJ.size;omega
     ·omega) (by omega) bx
    have gj:=ya fd
    have dt:=ya (fun w3=>Pz.next (w':=w3) b5.o hJ hp dg fa)
    clear hM hr hv ht hf c9 fd hJ hp fa hl em
    gi_wp2_with fail
    refine ⟨trivial,zm (CallsIn.inRound lo (za.2 gj.o)) ?_⟩
    rintro e w3 ⟨rfl,ay⟩
    have ek:=ya (dt.o w3 ay)
    clear ay
    gi_wp2_with fail
    first
    |exact ⟨ek.o.2,ek.o.1⟩
    |fail
   ·rintro - D O W hD ep hJ ed
    simp only[Exit.inBlock,Exit.then]
    have c9:=cf.o
    have d0:=eb.o
    have gk:=hJ.size
    have fg:CT (fun g=>w.heap.size<=g∧g≠w.heap.size+1) (fun _ _ _ _=>True) (RV W) W Lc x:=fv.o.imp (fun b t _ ht=>hJ.ty b t ht) (fun b q _ hq=>by obtain ⟨t,ty,ay⟩:=hq;exact Jg b5.o hJ ty (by rw[ay];decide)) (fun _ _ _ _ _ _ _=>trivial) (fun to r b q _ hq hr=>by
     obtain ⟨t,ty,h1,h2⟩:=hq
     exact ⟨hr.1,(Jg b5.o hJ ty (by rw[h1];decide)).trans hr.2.1,(Jg b5.o hJ ty (by rw[h2];decide)).trans hr.2.2⟩)
    have dp:=fg.told (Va (B:=fun b=>w.heap.size+2<=b∧b≠D) HA.o b5.o hJ (fun b hb hO=>⟨by omega,fun e=>hO (e▸ep)⟩))
    have eo:CT (fun g=>w.heap.size<=g∧g≠w.heap.size+1) (EV (fun g=>w.heap.size<=g∧g≠w.heap.size+1) W) (RV W) W Lc x:=dp.imp (fun _ _ _ h=>h) (fun _ _ _ _=>rfl) (fun lt e b o _ _ hE=>by obtain ⟨c,h1,h2⟩:=hE;exact ⟨c,h1,h2.XB (fun b hb _=>by have h3:=hb.1;exact ⟨by omega,by omega⟩)⟩) (fun _ _ _ _ _ _ h=>h)
    obtain ⟨cs,ay,e4,fj⟩:=eo.XA
    rw[bm.o] at e4
    have d9:=Om fj
    have cj:∀j o lt,¬ Hn Lc j (w.heap.size+1) o lt:=fun j o lt hp=>(Jf HA.o hp).1.2 rfl
    have ev:W.heap[w.heap.size+1]?=some (.cells #[.string ⟨#[]⟩,iV 0,iV 0,iV 0,.string ⟨#[]⟩,iV 0,.slice none 0 0,iV 0,iV 0,iV 0,.string ⟨#[]⟩,iV 0,.slice none 0 0,iV 0,iV 0,iV 0,.string ⟨#[]⟩,iV 0,.slice none 0 0,.slice none 0 0,.slice none 0 0,.slice none 0 0,.slice none 0 0,.slice none 0 0,.slice none 0 0,.slice none 0 0] 35 (0,0)):=(hJ.old _ (by omega) (fun j o lt _=>cj j o lt)).trans ((cr.o.block _ (by omega)).trans fb.o)
    have dw:Hid ((Try.prog.info? 35).map (·.size)=some cs.length):=ya (by rw[ay];kernel_rfl)
    have eu:Hid ((Try.prog.info? 35).map (·.size)=some cs.toArray.size):=ya (by rw[yp];exact dw.o)
    have d5:=ya ay;have fl:=ya e4;have dc:=ya d9;have f9:=ya ev;have g7:=ya dp;have eh:=ya ed;have HD:=ya hD;have cu:=ya hJ
    clear fg dp eo ay e4 fj d9 cj ev ed hD hJ ep c9 d0 gk
    refine Aq (Af ?_)
    go_wp2_with (first|(refine yf rfl 35 _ rfl w.heap.size 0 rfl cs _ fl.o qO rfl dw.o ?_)|(refine z6 rfl 35 _ _ rfl (w.heap.size+1) cs.toArray rfl rfl 35 _ f9.o eu.o (by simp[d5.o]) (yy dc.o) ?_))
    refine Af ?_
    go_wp2
    have ce:D≠w.heap.size+1:=by have:=HD.o;have:=cf.o;have:=eb.o;omega
    have g9:(W.setRow (w.heap.size+1) cs.toArray).heap[D]?=some (.deferred (some [])):=by
     simp only[World.setRow,yU,yq (xr ce)]
     exact eh.o
    have c7:∀ob b,b≠w.heap.size+1->b≠D->((W.setRow (w.heap.size+1) cs.toArray).putObj D ob).heap[b]?=W.heap[b]?:=fun ob b h1 h2=>by
     rw[World.putObj_heap_other h2]
     simp only[World.setRow,yU,yq (xr h1)]
    have gb:∀ob,((W.setRow (w.heap.size+1) cs.toArray).putObj D ob).heap[w.heap.size+1]?=some (.cells cs.toArray 35 (0,0)):=fun ob=>by
     rw[World.putObj_heap_other (xr ce)]
     simp[World.setRow,yU,f9.o]
    have gg:∀ob,((W.setRow (w.heap.size+1) cs.toArray).putObj D ob).rangeAt (w.heap.size+1) 0 cs:=fun ob=>by
     have:=yV (gb ob) 0 cs.length
     simpa using this
    have e8:∀ob,Nv w x (.returned (.agg cs.toArray)) ((W.setRow (w.heap.size+1) cs.toArray).putObj D ob):=fun ob=>by
     have gn:=HD.o
     have c9:=cf.o
     have d0:=eb.o
     have d3:∀b t,b≠w.heap.size+1->Ty W b t->b≠D:=fun b t _ ht e=>by
      obtain ⟨c,hc⟩:=ht
      rw[e,eh.o] at hc
      cases hc
     refine ⟨Lc,cs,rfl,d5.o,dc.o,⟨cu.o.os.trans (cr.o.os.trans ct.o.os),cu.o.tape.trans (cr.o.tape.trans ct.o.tape),cu.o.output.trans (cr.o.output.trans ct.o.output),?_,fun b hb=>?_⟩,bm.o,?_,?_⟩
     ·have h1:=cu.o.size
      have h2:((W.setRow (w.heap.size+1) cs.toArray).putObj D ob).heap.size=W.heap.size:=by simp[World.setRow]
      omega
     ·rw[c7 ob b (by omega) (by omega),cu.o.old b (by omega) (fun j o lt _ hp=>by have:=(ca.o j b o lt hp).1;omega),cr.o.block b (by omega)]
      exact ct.o.block b hb
     ·rw[bm.o]
      exact A1 fl.o (c7 ob _ (by omega) (by omega))
     ·refine g7.o.imp (fun b t hq ht=>?_) (fun b q hq hp=>?_) (fun lt e b o hq hp hE=>?_) (fun to r b o hq hp hr=>?_)
      ·have h1:b≠w.heap.size+1:=by rcases hq with hq|hq;exact hq.2;have:=bm.o;omega
       exact ht.same (c7 ob b h1 (d3 b t h1 ht))
      ·have h1:b≠w.heap.size+1:=by rcases hq with hq|hq;exact hq.2;have:=bm.o;omega
       obtain ⟨t,ty,_⟩:=hp
       exact Ap (c7 ob b h1 (d3 b t h1 ty))
      ·have h1:b≠w.heap.size+1:=by rcases hq with hq|hq;exact hq.2;have:=bm.o;omega
       obtain ⟨t,ty,_⟩:=hp
       obtain ⟨c,c1,c2⟩:=hE
       exact ⟨c,A1 c1 (c7 ob b h1 (d3 b t h1 ty)),c2.same (fun b hb _=>hb.1) (fun b hb _=>c7 ob b (by have:=hb.1;omega) hb.2)⟩
      ·have h1:b≠w.heap.size+1:=by rcases hq with hq|hq;exact hq.2;have:=bm.o;omega
       obtain ⟨t,ty,_⟩:=hp
       have h2:=c7 ob b h1 (d3 b t h1 ty)
       exact ⟨hr.1,(Ap h2).trans hr.2.1,(Ap h2).trans hr.2.2⟩
    exact ⟨by simp,.inl ⟨_,_,rfl,run_takeDeferred g9,⟨_,If rfl rfl (xL _ (w.heap.size+1) 0 35 cs _ (gg _) qO rfl dw.o),e8 _⟩⟩⟩
end Go.Proofs.Ytghepahgkcigpaa
