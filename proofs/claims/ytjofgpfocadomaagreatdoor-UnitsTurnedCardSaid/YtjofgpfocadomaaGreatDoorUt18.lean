/- Parts of the proof, in short words: Hb Hc Hd He Hf Hm Ia Ho Hp Ic -/
import Derived.Test.YtjofgpfocadomaaGreatDoorUt0
import Derived.Test.YtjofgpfocadomaaGreatDoorUt17
import Derived.Test.YtjofgpfocadomaaGreatDoorUt9
import Derived.Test.YtjofgpfocadomaaGreatDoorUt16
import Derived.Test.YtjofgpfocadomaaGreatDoorUt14
import Derived.Test.YtjofgpfocadomaaGreatDoorUt12
import Derived.Test.YtjofgpfocadomaaGreatDoorTie
import Derived.ProofKit
import Derived.LaidMore
import Derived.LaidLaws
import Derived.Stop.LaidErr
import Derived.Lib.LaidTab
import Derived.HandedShaped
import Derived.Test.YtjofgpfocadomaaGreatDoorCards
import Derived.SevenTiedAt
import Derived.Carry
set_option maxRecDepth 100000
set_option maxHeartbeats 64000000
set_option linter.unusedSimpArgs false
namespace Go.Proofs.YtjofgpfocadomaaGreatDoor
open Go.RowKit
set_option linter.unusedSimpArgs false
theorem Oy(w:World):Calls Tryz.prog 21 #[] w fun e w'=>∃(B gf:Nat) (cells:Array Value),e=.returned (.agg cells)∧cells.size=26∧CG B gf 30 (.agg cells) w'∧w'.heap[gf]?=some (.cells #[.int .i64 1,.int .i64 40,.int .i64 1,.string ⟨#[]⟩,.int .i64 0,.slice none 0 0,.int .i64 1,.int .i64 1,.int .i64 3,.string ⟨#[]⟩,.int .i64 0,.slice none 0 0] 26 (0,0))∧w.heap.size<=B∧w.heap.size<=gf∧Below w.heap.size w w':=by
 go_enter Tryz.func21,Tryz.ntmps21
 refine Ah fun K r=>?_
 go_wp2
 refine r.o _ _ ?_
 clear r K
 have h0:=World.alloc_heap_new w (.cells #[.string ⟨#[]⟩,iV 0,iV 0,iV 0,.string ⟨#[]⟩,iV 0,.slice none 0 0,iV 0,iV 0,iV 0,.string ⟨#[]⟩,iV 0,.slice none 0 0,iV 0,iV 0,iV 0,.string ⟨#[]⟩,iV 0,.slice none 0 0,.slice none 0 0,.slice none 0 0,.slice none 0 0,.slice none 0 0,.slice none 0 0,.slice none 0 0,.slice none 0 0] 35)
 have z:=(yg w.heap.size w).alloc (yf _) (.cells #[.string ⟨#[]⟩,iV 0,iV 0,iV 0,.string ⟨#[]⟩,iV 0,.slice none 0 0,iV 0,iV 0,iV 0,.string ⟨#[]⟩,iV 0,.slice none 0 0,iV 0,iV 0,iV 0,.string ⟨#[]⟩,iV 0,.slice none 0 0,.slice none 0 0,.slice none 0 0,.slice none 0 0,.slice none 0 0,.slice none 0 0,.slice none 0 0,.slice none 0 0] 35)
 generalize w.alloc _=W at h0 z ⊢
 have V:=yb (And.intro h0 z)
 clear h0 z
 refine Ah fun K r=>?_
 go_wp2_with (first
  |(go_at_call 23;with_reducible refine (Bp 40 1 _).mono ?_;rintro e w2 ⟨rfl,h2⟩;have n:=yb h2;clear h2)
  |(go_at_call 23;with_reducible refine (Bp 1 3 _).mono ?_;rintro e w3 ⟨rfl,h3⟩;have U:=yb h3;clear h3)
  |(go_at_call 22;with_reducible refine (Im 6 _ _ _ _ _ _ _ _ _ _ _ _ _ _ _ _ _).mono ?_;rintro e w4 ⟨gf,rfl,hg,d,S⟩;have O:=yb (And.intro hg (And.intro d S));clear hg d S))
 refine r.o _ _ ?_
 clear r K
 have q:Below W.heap.size W w4:=(n.o.trans (U.o.mono n.o.size)).trans (O.o.2.2.mono (by have:=n.o.size;have:=U.o.size;omega))
 have i:=(yg w4.heap.size w4).alloc (yf _) (.cells #[iV 6,iV 0,iV 0,.string ⟨#[]⟩,iV 0,.slice (some (aV gf 0)) 2 2] 26)
 have b:=World.alloc_heap_new w4 (.cells #[iV 6,iV 0,iV 0,.string ⟨#[]⟩,iV 0,.slice (some (aV gf 0)) 2 2] 26)
 have R:=(yd.1 O.o.2.1).1
 have h:=(i.block gf R).trans O.o.2.1
 have T:W.heap.size<=gf:=by have:=n.o.size;have:=U.o.size;have:=O.o.1;omega
 have G:=q.trans (i.mono q.size)
 have s:=q.size
 have HZ:Hid (W.heap.size<=w4.heap.size):=yb s
 generalize J:w4.heap.size=B1 at b ⊢
 rw[J] at HZ
 clear J
 generalize w4.alloc _=W5 at b h G ⊢
 have C:=yb (And.intro b (And.intro h (And.intro T G)))
 clear q i b R h T G s n U O
 refine Ah fun K r=>?_
 go_wp2_with (first
  |(go_at_call 23;with_reducible refine (Bp 0 0 _).mono ?_;rintro e H ⟨rfl,h2⟩;have n:=yb h2;clear h2))
 refine r.o _ _ ?_
 clear r K
 have i:=(yg H.heap.size H).alloc (yf _) (.cells #[iV 1,iV 0,iV 0,.string ⟨#[]⟩,iV 0,.slice none 0 0] 26)
 have b:=World.alloc_heap_new H (.cells #[iV 1,iV 0,iV 0,.string ⟨#[]⟩,iV 0,.slice none 0 0] 26)
 have m:=n.o.trans (i.mono n.o.size)
 have L:Hid (W5.heap.size<=H.heap.size):=yb n.o.size
 generalize a0:H.heap.size=B2 at b L ⊢
 clear a0
 generalize H.alloc _=A at b m ⊢
 have HN:=yb b
 have g:=yb m
 clear i b m n
 have E:=(yd.1 C.o.1).1
 have D:=(yd.1 V.o.1).1
 have j:=C.o.2.2.2
 have f:Hid (w.heap.size < W.heap.size∧W.heap.size<=W5.heap.size∧W5.heap.size<=A.heap.size∧B1 < W5.heap.size∧B2 < A.heap.size):=yb ⟨D,j.size,g.o.size,E,(yd.1 HN.o).1⟩
 have l:Hid (A.heap[w.heap.size]?=some (.cells #[.string ⟨#[]⟩,iV 0,iV 0,iV 0,.string ⟨#[]⟩,iV 0,.slice none 0 0,iV 0,iV 0,iV 0,.string ⟨#[]⟩,iV 0,.slice none 0 0,iV 0,iV 0,iV 0,.string ⟨#[]⟩,iV 0,.slice none 0 0,.slice none 0 0,.slice none 0 0,.slice none 0 0,.slice none 0 0,.slice none 0 0,.slice none 0 0,.slice none 0 0] 35 (0,0))):=yb ((g.o.block _ (by have:=f.o;omega)).trans ((j.block _ D).trans V.o.1))
 have I:Hid (A.heap[gf]?=some (.cells #[iV 1,iV 40,iV 1,.string ⟨#[]⟩,iV 0,.slice none 0 0,iV 1,iV 1,iV 3,.string ⟨#[]⟩,iV 0,.slice none 0 0] 26 (0,0))):=yb ((g.o.block _ (yd.1 C.o.2.1).1).trans C.o.2.1)
 have Q:Hid (Below w.heap.size w A):=yb (V.o.2.trans ((j.trans (g.o.mono j.size)).mono (by have:=f.o;omega)))
 have Y:Hid (A.rangeAt B1 0 [iV 6,iV 0,iV 0,.string ⟨#[]⟩,iV 0,.slice (some (aV gf 0)) 2 2]):=yb (Ar (t:=26) ((g.o.block _ E).trans C.o.1))
 have a6:Hid (A.rangeAt B2 0 [iV 1,iV 0,iV 0,.string ⟨#[]⟩,iV 0,.slice none 0 0]):=yb (Ar (t:=26) HN.o)
 have N:Hid (w.heap.size < gf):=yb (by have:=C.o.2.2.1;have:=f.o;omega)
 clear E D j C g HN L V HZ
 refine wp_seq ?_
 refine Ud (B:=w.heap.size) (B1:=B1) (B2:=B2) (gf:=gf) (row0:=#[.string ⟨#[]⟩,iV 0,iV 0,iV 0,.string ⟨#[]⟩,iV 0,.slice none 0 0,iV 0,iV 0,iV 0,.string ⟨#[]⟩,iV 0,.slice none 0 0,iV 0,iV 0,iV 0,.string ⟨#[]⟩,iV 0,.slice none 0 0,.slice none 0 0,.slice none 0 0,.slice none 0 0,.slice none 0 0,.slice none 0 0,.slice none 0 0,.slice none 0 0]) _ ?_ ?_ ?_ ?_ ?_ ?_ ?_ ?_ ?_ ?_ ?_ ?_ ?_
 ·rfl
 ·rfl
 ·rfl
 ·rfl
 ·rfl
 ·have:=f.o;omega
 ·have:=f.o;omega
 ·have:=f.o;omega
 ·exact l.o
 ·rfl
 ·exact Y.o
 ·exact a6.o
 ·intro a w1 cells Z a2 M hp p
  obtain ⟨tm,df⟩:=a
  obtain rfl:df=[]:=a2
  have h0:tm.getD 0 undef=pV w.heap.size 0:=(M 0 (by omega)).trans rfl
  have F:cells.size=26:=by
   have y:=hp
   unfold CG at y
   simp only at y
   obtain ⟨ab,ac,ad,a8,a7,aa,hq,_⟩:=y
   cases hq;rfl
  have X:=f.o
  have d:w1.heap[w.heap.size]?=some (.cells #[.string ⟨#[]⟩,iV 0,iV 0,iV 0,.string ⟨#[]⟩,iV 0,.slice none 0 0,iV 0,iV 0,iV 0,.string ⟨#[]⟩,iV 0,.slice none 0 0,iV 0,iV 0,iV 0,.string ⟨#[]⟩,iV 0,.slice none 0 0,.slice none 0 0,.slice none 0 0,.slice none 0 0,.slice none 0 0,.slice none 0 0,.slice none 0 0,.slice none 0 0] 35 (0,0)):=(p.block _ (by omega)).trans l.o
  have v:=qz w1 w.heap.size _ cells _ _ d
  have u:Below w.heap.size w (w1.setRow w.heap.size cells):=CO (Q.o.trans (p.mono Q.o.size)) (yf _) cells
  have P:CG w.heap.size gf 30 (.agg cells) (w1.setRow w.heap.size cells):=QE _ _ _ _ (fun k o hk ho=>by rw[Cw _ _ (by omega)];exact ho) hp
  have h:(w1.setRow w.heap.size cells).heap[gf]?=some (.cells #[iV 1,iV 40,iV 1,.string ⟨#[]⟩,iV 0,.slice none 0 0,iV 1,iV 1,iV 3,.string ⟨#[]⟩,iV 0,.slice none 0 0] 26 (0,0)):=by
   have:=N.o
   rw[Cw _ _ (by omega)]
   exact (p.block _ (yd.1 I.o).1).trans I.o
  have x:Hid (bodyPost Tryz.prog Tryz.f21 (fun e w'=>∃(B gf:Nat) (cells:Array Value),e=.returned (.agg cells)∧cells.size=26∧CG B gf 30 (.agg cells) w'∧w'.heap[gf]?=some (.cells #[iV 1,iV 40,iV 1,.string ⟨#[]⟩,iV 0,.slice none 0 0,iV 1,iV 1,iV 3,.string ⟨#[]⟩,iV 0,.slice none 0 0] 26 (0,0))∧w.heap.size<=B∧w.heap.size<=gf∧Below w.heap.size w w') .ret {tmps:=tm,defers:=[]} (w1.setRow w.heap.size cells)):=yb (by
   refine Ck (c:=cells.toList) rfl h0 (by rw[Array.toArray_toList];exact v) qV rfl (by rw[Array.length_toList,F];kernel_rfl) ⟨w.heap.size,gf,cells,by rw[Array.toArray_toList],F,P,h,yf _,by have:=N.o;omega,u⟩)
  clear h0 F X d v u P h hp p Z M
  first
  |exact x.o
  |(go_wp2;exact x.o)
set_option linter.unusedSimpArgs false
theorem J9{w:World}{g:Nat}{row:Array Value}{ty:TypeId}(c:w.heap[g]?=some (.cells row ty (0,0)))(o:Nat){cs:LV}(h:(row.toList.drop o).take cs.length=cs):w.rangeAt g o cs:=fun j v a=>by
 have b:=(yA.1 a).1
 rw[<-h,zN,yw b,List.getElem?_drop] at a
 simp only[World.cell?,c]
 simpa using a
def xC(op n u:Int)(rn:ByteArray)(ri:Int):LV:=[.int .i64 op,.int .i64 n,.int .i64 u,.string rn,.int .i64 ri,.slice none 0 0]
def tC(op:Int)(g:Nat):LV:=[.int .i64 op,.int .i64 0,.int .i64 0,.string Gd,.int .i64 0,.slice (some ⟨g,0,none⟩) 2 2]
theorem TE(s:ByteArray)(h:s.size<=1000):s.size<=maxLen:=yu h (by unfold maxLen;omega)
section
variable{N:NP}{w:World}
theorem JY(op n u:Int)(rn:ByteArray)(ri:Int)(h:rn.size<=1000):AH N w (.mk op n u rn ri []) (xC op n u rn ri):=by
 rw[AH];exact ⟨none,0,rfl,by simp,TE _ h,by rw[CL];trivial⟩
theorem C8(n u:Int):AH N w (Bt n u) (xC 1 n u Gd 0):=JY 1 n u Gd 0 (by decide)
theorem VB:AH N w L7 (xC 0 0 0 Gd 0):=JY 0 0 0 Gd 0 (by decide)
theorem Io{g:Nat}{a b:Ex}{ca cb:LV}{ty:TypeId}(o:Int)(hN:N g)(hr:w.heap[g]?=some (.cells (ca++cb).toArray ty (0,0)))(d:AH N w a ca)(hb:AH N w b cb):AH N w (Ln o a b) (tC o g):=by
 have c:=d.is6.len
 have e:=hb.is6.len
 unfold Ln
 rw[AH]
 refine ⟨some (aV g 0),2,rfl,by simp,TE _ (by decide),?_⟩
 rw[CL,CL,CL]
 exact ⟨⟨g,0,ca,rfl,hN,J9 hr _ (by simp),d⟩,⟨g,0,cb,rfl,hN,J9 hr _ (by simp[c]),hb⟩,trivial⟩
theorem Tm{α:Type}{sz:Nat}{P:LV->α->Prop}:BL N w sz P ⟨none,0,0⟩ []:=⟨rfl,by simp,fun i hi=>absurd hi (by simp)⟩
theorem N4{α:Type}{sz g:Nat}{P:LV->α->Prop}{d:α}{cs:LV}{ty:TypeId}(hN:N g)(hr:w.heap[g]?=some (.cells cs.toArray ty (0,0)))(b:cs.length=sz)(a:P cs d):BL N w sz P ⟨some ⟨g,0,none⟩,1,1⟩ [d]:=by
 refine ⟨rfl,by simp,fun i hi=>?_⟩
 obtain rfl:i=0:=by simpa using hi
 exact ⟨g,0,cs,rfl,hN,b,J9 hr _ (by simp),a⟩
end
def L8:LV:=[.string ⟨#[114]⟩,.string ⟨#[]⟩,.int .i64 0,.int .i64 1,.int .i64 1,.int .i64 3,.string ⟨#[]⟩,.int .i64 0,.slice none 0 0]
def L9(a:Nat):LV:=[.int .i64 1,.int .i64 90,.int .i64 1,.string ⟨#[]⟩,.int .i64 0,.slice none 0 0,.int .i64 0,.int .i64 0,.int .i64 0,.string ⟨#[]⟩,.int .i64 0,.slice none 0 0,.int .i64 1,.int .i64 0,.int .i64 1,.string ⟨#[]⟩,.int .i64 0,.slice none 0 0,.int .i64 1,.int .i64 2,.int .i64 1,.string ⟨#[]⟩,.int .i64 0,.slice none 0 0,.int .i64 1,.int .i64 0,.int .i64 0,.string ⟨#[]⟩,.int .i64 0,.slice none 0 0,.int .i64 6,.int .i64 0,.int .i64 0,.string ⟨#[]⟩,.int .i64 0,.slice (some ⟨a,0,none⟩) 2 2]
def VP(d b a c:Nat):Bz:={s:=0,lets:=⟨some ⟨d,0,none⟩,1,1⟩,crops:=⟨some ⟨b,0,none⟩,1,1⟩,reaches:=⟨some ⟨a,0,none⟩,1,1⟩,farms:=⟨some ⟨c,0,none⟩,1,1⟩,rots:=⟨none,0,0⟩,rights:=⟨none,0,0⟩,duties:=⟨none,0,0⟩,turns:=[]}
def La(d b a c:Nat):LV:=[.string ⟨#[119]⟩,.int .i64 1,.int .i64 1,.int .i64 4,.string ⟨#[]⟩,.int .i64 0,.slice none 0 0,.int .i64 1,.int .i64 5,.int .i64 2,.string ⟨#[]⟩,.int .i64 0,.slice none 0 0,.int .i64 2,.int .i64 0,.int .i64 0,.string ⟨#[107]⟩,.int .i64 0,.slice none 0 0,.slice (some ⟨d,0,none⟩) 1 1,.slice (some ⟨b,0,none⟩) 1 1,.slice (some ⟨a,0,none⟩) 1 1,.slice (some ⟨c,0,none⟩) 1 1,.slice none 0 0,.slice none 0 0,.slice none 0 0]
theorem Uh{N:NP}{w:World}{d f g e c b:Nat}{a:LV}{cap:Ex}(h:AH N w cap a)
 (n:N d)(j:N f)(l:N g)(k:N e)(o:N c)(m:N b)
 (b13:w.heap[d]?=some (.cells #[.string ⟨#[107]⟩,.int .i64 1,.int .i64 3,.int .i64 2,.string ⟨#[]⟩,.int .i64 0,.slice none 0 0] 50 (0,0)))(b16:w.heap[f]?=some (.cells #[.int .i64 1,.int .i64 7,.int .i64 1,.string ⟨#[]⟩,.int .i64 0,.slice none 0 0,.int .i64 1,.int .i64 1,.int .i64 5,.string ⟨#[]⟩,.int .i64 0,.slice none 0 0] 26 (0,0)))(b18:w.heap[g]?=some (.cells #[.string ⟨#[99]⟩,.int .i64 6,.int .i64 0,.int .i64 0,.string ⟨#[]⟩,.int .i64 0,.slice (some ⟨f,0,none⟩) 2 2] 92 (0,0)))(b28:w.heap[e]?=some (.cells #[.int .i64 1,.int .i64 1,.int .i64 0,.string ⟨#[]⟩,.int .i64 0,.slice none 0 0,.int .i64 1,.int .i64 8,.int .i64 0,.string ⟨#[]⟩,.int .i64 0,.slice none 0 0] 26 (0,0)))(b31:w.heap[c]?=some (.cells (L8++(a++L9 e)).toArray 66 (0,0)))(b36:w.heap[b]?=some (.cells #[.string ⟨#[102]⟩,.string ⟨#[114]⟩,.int .i64 0,.bool false,.int .i64 1,.int .i64 20,.int .i64 5,.string ⟨#[]⟩,.int .i64 0,.slice none 0 0,.string ⟨#[99]⟩,.int .i64 0] 94 (0,0))):BT N w (VP d g c b) (La d g c b) (DU cap):=by
 have p:=h.is6.len
 refine ⟨TE sW (by decide),⟨xC 1 1 4 Gd 0,xC 1 5 2 Gd 0,xC 2 0 0 sK 0,rfl,C8 1 4,C8 5 2,JY 2 0 0 sK 0 (by decide)⟩,
  N4 n (cs:=.string sK::xC 1 3 2 Gd 0) b13 rfl ⟨TE _ (by decide),_,rfl,C8 3 2⟩,
  N4 l (cs:=.string sC::tC 6 f) b18 rfl ⟨TE _ (by decide),_,rfl,Io 6 j (ca:=xC 1 7 1 Gd 0) (cb:=xC 1 1 5 Gd 0) b16 (C8 7 1) (C8 1 5)⟩,
  N4 o (cs:=.string sR::(AX ⟨Gd,0⟩++(xC 1 1 3 Gd 0++(a++(xC 1 90 1 Gd 0++(xC 0 0 0 Gd 0++(xC 1 0 1 Gd 0++(xC 1 2 1 Gd 0++(xC 1 0 0 Gd 0++tC 6 e))))))))) b31 (by simp[AX,xC,tC,p]) ⟨TE sR (by decide),TE Gd (by decide),_,_,_,_,_,_,_,_,rfl,C8 1 3,h,C8 90 1,VB,C8 0 1,C8 2 1,C8 0 0,Io 6 k (ca:=xC 1 1 0 Gd 0) (cb:=xC 1 8 0 Gd 0) b28 (C8 1 0) (C8 8 0)⟩,
  N4 m (cs:=.string sF::(AX ⟨sR,0⟩++(.bool false::(xC 1 20 5 Gd 0++AX ⟨sC,0⟩)))) b36 rfl ⟨TE _ (by decide),TE _ (by decide),TE _ (by decide),_,rfl,C8 20 5⟩,
  ⟨rfl,yK _,fun i hi=>absurd hi (by simp[DU])⟩,Tm,Tm⟩
set_option linter.unusedSimpArgs false
set_option linter.unusedVariables false
def EU(w w':World):Prop:=∀(b:Nat) (row:Array Value),w.heap[b]?=some (.cells row 26 (0,0))->w'.heap[b]?=some (.cells row 26 (0,0))
theorem EU.below{w w':World}(h:Below w.heap.size w w'):EU w w':=fun b _ hb=>(h.block b (yd.1 hb).1).trans hb
theorem EU.refl(w:World):EU w w:=fun _ _ h=>h
structure UW (W:World) (ia ist slot:Nat) (z v:Array Value) (ty:TypeId) (l:Array Bool) (tm:Array Value) (w:World):Prop where
 below:Below W.heap.size W w
 one:l.getD ist false=false->l.getD ia false=true->∃b,tm.getD slot undef=.pointer (some ⟨b,0,none⟩)∧W.heap.size<=b∧w.heap[b]?=some (.cells z ty (0,0))
 two:l.getD ist false=true->∃b,tm.getD slot undef=.pointer (some ⟨b,0,none⟩)∧W.heap.size<=b∧w.heap[b]?=some (.cells v ty (0,0))
theorem UW.quiet{W:World}{f c a:Nat}{z v:Array Value}{ty:TypeId}{l:Array Bool}{tm:Array Value}{w w2:World}{i t:Nat}{x:Value}(h:UW W f c a z v ty l tm w)(hi:i≠c∧i≠f)(j:t≠a)(hb:Below w.heap.size w w2):UW W f c a z v ty (l.setIfInBounds i true) (tm.setIfInBounds t x) w2:=by
 refine ⟨h.below.trans (hb.mono h.below.size),fun h1 h2=>?_,fun h1=>?_⟩
 ·rw[A9 hi.1] at h1;rw[A9 hi.2] at h2
  obtain ⟨b,g,e,d⟩:=h.one h1 h2
  exact ⟨b,by rw[Bq j];exact g,e,(hb.block b (yd.1 d).1).trans d⟩
 ·rw[A9 hi.1] at h1
  obtain ⟨b,g,e,d⟩:=h.two h1
  exact ⟨b,by rw[Bq j];exact g,e,(hb.block b (yd.1 d).1).trans d⟩
def G8(W:World)(cs:LV)(m1 a b er:Int)(j:Nat)(v:Value)(w:World):Prop:=match j with
 |0=>v=.agg cs.toArray
 |1=>v=.agg #[.int .i64 1,.int .i64 3,.int .i64 1,.string ⟨#[]⟩,.int .i64 0,.slice none 0 0]
 |2=>v=.agg #[.int .i64 1,.int .i64 4,.int .i64 3,.string ⟨#[]⟩,.int .i64 0,.slice none 0 0]
 |3=>∃g:Nat,v=.agg #[.int .i64 3,.int .i64 0,.int .i64 0,.string ⟨#[]⟩,.int .i64 0,.slice (some ⟨g,0,none⟩) 2 2]∧w.heap[g]?=some (.cells #[.int .i64 1,.int .i64 3,.int .i64 1,.string ⟨#[]⟩,.int .i64 0,.slice none 0 0,.int .i64 1,.int .i64 4,.int .i64 3,.string ⟨#[]⟩,.int .i64 0,.slice none 0 0] 26 (0,0))
 |4=>v=.tuple #[.agg #[.int .i64 m1,.int .i64 a,.int .i64 b],.int .i64 er]
 |5=>v=.tuple #[.agg #[.int .i64 m1,.int .i64 a,.int .i64 b],.int .i64 er]
 |6=>v=.agg #[.int .i64 m1,.int .i64 a,.int .i64 b]
 |7=>v=.int .i64 er
 |10=>v=.int .i64 er
 |_=>True
theorem Tn(W:World)(cs:LV)(m1 a b er:Int)(j:Nat)(v:Value)(w w':World)(c:EU w w')(h:G8 W cs m1 a b er j v w):G8 W cs m1 a b er j v w':=by
 match j,h with
 |0,h=>exact h
 |1,h=>exact h
 |2,h=>exact h
 |3,h=>
  obtain ⟨g,h0,h1⟩:=h
  exact ⟨g,h0,c _ _ h1⟩
 |4,h=>exact h
 |5,h=>exact h
 |6,h=>exact h
 |7,h=>exact h
 |8,h=>exact h
 |9,h=>exact h
 |10,h=>exact h
 |_+11,h=>exact h
theorem RD{M:Act}{W0:World}{Q:QT}{B1:Nat}{cs:LV}{x:AB}{m1 N J er:Int}(ops:Array Oper)(u:DN Tryz.f7 5=some ops)
 (a2:M.tmps.getD 1 undef=.pointer (some ⟨B1,0,none⟩))(W:M.tmps.size=141)(L:B1 < W0.heap.size)(l:W0.rangeAt B1 0 cs)(H:(Tryz.prog.info? 35).map (·.size)=some cs.length)(hS:DO W0 cs x)(hm:Fi x (Ln 3 (Bt 3 1) (Bt 4 3))=(⟨⟨m1,N,J⟩,er⟩:Dm × Int))
 (hQ:∀(a:Act) w1 b,a.tmps.size=141->a.defers=M.defers->(∀t,t∉[36,37,38,39,40,35,41,42,7,8]->a.tmps.getD t undef=M.tmps.getD t undef)->a.tmps.getD 7 undef=.pointer (some ⟨b,0,none⟩)->a.tmps.getD 8 undef=.int .i64 er->Below W0.heap.size W0 w1->W0.heap.size<=b->w1.heap[b]?=some (.cells #[.int .i64 m1,.int .i64 N,.int .i64 J] 39 (0,0))->Q .normal a w1):
  (Code.region 5 ops true).wp Tryz.prog Q M W0:=by
 obtain rfl:=yi ((rfl:DN Tryz.f7 5=some _).symm.trans u)
 clear u
 have HM:=yb hm
 have HS:=yb hS
 have S:=yb H
 clear hm hS H
 refine BR (by kernel_rfl) (UW W0 8 9 7 jd #[iV m1,iV N,iV J] 39) (G8 W0 cs m1 N J er) (fun _=>EU) (by kernel_rfl) (by rw[W];kernel_rfl) (by kernel_rfl) (fun _ j v w w' _ _ hl h=>Tn _ _ _ _ _ _ j v w w' hl h) ⟨(yg _ _).drew,fun _ h=>(by cases h),fun h=>(by cases h)⟩ ?_ ?_
 ·intro ix f a w' hM c o n
  have m:=yb hM.ext
  have a0:=(yd.1 n).1
  have Y:=hM.size
  have X:Hid (a.tmps.size=141):=yb (hM.tmps.trans W)
  match ix,a0 with
  |0,_=>
   have d:=hM.old c 1 (by kernel_rfl) _ a2
   have T:=yb (A0 l (m.o.below.block _ L))
   clear l
   obtain rfl:=yi n
   refine xO 35 _ rfl B1 0 (by simpa[Act.eval] using d) cs _ T.o qV rfl S.o ?_
   exact ⟨_,rfl,m.o.quiet (by decide) (by decide) (yg _ _),EU.refl _,rfl⟩
  |1,_=>
   clear l
   obtain rfl:=yi n
   go_simp
   refine (Bp 3 1 _).mono ?_
   rintro e w2 ⟨rfl,i⟩
   exact ⟨_,rfl,m.o.quiet (by decide) (by decide) i,EU.below i,rfl⟩
  |2,_=>
   clear l
   obtain rfl:=yi n
   go_simp
   refine (Bp 4 3 _).mono ?_
   rintro e w2 ⟨rfl,i⟩
   exact ⟨_,rfl,m.o.quiet (by decide) (by decide) i,EU.below i,rfl⟩
  |3,_=>
   have E:=hM.dep c 1 37 (by kernel_rfl) (by kernel_rfl)
   unfold G8 at E
   simp only at E
   have G:=hM.dep c 2 38 (by kernel_rfl) (by kernel_rfl)
   unfold G8 at G
   simp only at G
   clear l
   obtain rfl:=yi n
   go_simp
   refine (Im 3 _ _ _ _ _ _ _ _ _ _ _ _ _ _ _ _ _).mono ?_
   rintro e w2 ⟨g,rfl,R,K,i⟩
   exact ⟨_,rfl,m.o.quiet (by decide) (by decide) i,EU.below i,g,rfl,K⟩
  |4,_=>
   have F:=hM.dep c 0 36 (by kernel_rfl) (by kernel_rfl)
   unfold G8 at F
   simp only at F
   have s:=hM.dep c 3 39 (by kernel_rfl) (by kernel_rfl)
   unfold G8 at s
   simp only at s
   obtain ⟨g,s,z⟩:=s
   have q:=IF (HS.o.up m.o.below) (Io 3 (yd.1 z).1 (ca:=xC 1 3 1 Gd 0) (cb:=xC 1 4 3 Gd 0) z (C8 3 1) (C8 4 3):AH (fun b=>b < w'.heap.size) w' (Ln 3 (Bt 3 1) (Bt 4 3)) (tC 3 g))
   rw[HM.o] at q
   clear z l
   obtain rfl:=yi n
   go_simp
   refine q.mono ?_
   rintro e w2 ⟨rfl,i⟩
   exact ⟨_,rfl,m.o.quiet (by decide) (by decide) i,EU.below i,rfl⟩
  |5,_=>
   have D:=hM.dep c 4 40 (by kernel_rfl) (by kernel_rfl)
   unfold G8 at D
   simp only at D
   clear l
   obtain rfl:=yi n
   go_simp
   exact ⟨_,rfl,m.o.quiet (by decide) (by decide) (yg _ _),EU.refl _,rfl⟩
  |6,_=>
   have r:=hM.dep c 5 35 (by kernel_rfl) (by kernel_rfl)
   unfold G8 at r
   simp only at r
   clear l
   obtain rfl:=yi n
   go_simp
   exact ⟨_,rfl,m.o.quiet (by decide) (by decide) (yg _ _),EU.refl _,rfl⟩
  |7,_=>
   have r:=hM.dep c 5 35 (by kernel_rfl) (by kernel_rfl)
   unfold G8 at r
   simp only at r
   clear l
   obtain rfl:=yi n
   go_simp
   exact ⟨_,rfl,m.o.quiet (by decide) (by decide) (yg _ _),EU.refl _,rfl⟩
  |8,_=>
   have P:f.getD 9 false=false:=by
    rw[yn];intro h6
    have:=A1 hM.down 12 9 8 (by kernel_rfl) h6
    rw[hM.not_yet c] at this;cases this
   have HN:=yb P
   have HT:Hid (7 < a.tmps.size):=yb (by rw[X.o];decide)
   clear l P
   obtain rfl:=yi n
   go_simp
   have C:Below w'.heap.size w' (w'.alloc (.cells jd 39)):=(yg _ _).alloc (yf _) _
   refine ⟨_,rfl,⟨m.o.below.trans (C.mono m.o.below.size),fun _ _=>⟨w'.heap.size,?_,m.o.below.size,World.alloc_heap_new _ _⟩,fun h4=>?_⟩,EU.below C,trivial⟩
   ·show (a.put (some 7) (pV w'.heap.size 0)).tmps.getD 7 undef=_
    exact Ax _ HT.o
   ·rw[A9 (by decide),HN.o] at h4;cases h4
  |9,_=>
   have P:=hM.not_yet c
   have lA:f.getD 8 false=true:=hM.came c 8 (by kernel_rfl)
   obtain ⟨b,V,O,A⟩:=m.o.one P lA
   have B:=hM.dep c 6 41 (by kernel_rfl) (by kernel_rfl)
   unfold G8 at B
   simp only at B
   have HL:Hid (9 < f.size):=yb (by rw[Y];show 9 < 11;omega)
   have Z:=V
   rw[yE] at V
   refine wp_store_row 39 (.tmp 7) (.tmp 41) (by obtain rfl:=yi n;rfl) b #[iV m1,iV N,iV J] (by simpa[Act.eval] using V) (by simpa[Act.eval] using B) 39 jd A (by kernel_rfl) (by kernel_rfl) (by simp[Value.oneCell']) ?_
   obtain rfl:=yi n
   refine ⟨undef,rfl,⟨CO m.o.below O _,fun h6=>?_,fun _=>⟨b,Z,O,qz _ _ _ _ _ _ A⟩⟩,fun g row R=>?_,trivial⟩
   ·simp[HL.o] at h6
   ·rw[Cw _ _ (fun e=>by rw[e,A] at R;cases R)];exact R
  |10,_=>
   have I:=hM.dep c 7 42 (by kernel_rfl) (by kernel_rfl)
   unfold G8 at I
   simp only at I
   clear l
   obtain rfl:=yi n
   go_simp
   exact ⟨_,rfl,m.o.quiet (by decide) (by decide) (yg _ _),EU.refl _,rfl⟩
 ·intro f a w' y hM
  obtain ⟨b,k1,k2,k3⟩:=hM.ext.two (y 9 (show 9 < 11 by omega))
  have U:=hM.done 10 (y 10 (show 10 < 11 by omega)) _ 8 rfl rfl
  unfold G8 at U
  simp only at U
  refine hQ a w' b (hM.tmps.trans W) hM.defers (fun t ht=>hM.free t fun mm a6 o n hd=>ht ?_) k1 U hM.ext.below k2 k3
  have hs:=Ho (ops:=(Tryz.f7.body.bind (CS 5)).getD #[]) (p:=fun o=>match o.dst with|some k=>decide (k∈[36,37,38,39,40,35,41,42,7,8])|none=>true) (by kernel_rfl) n
  rw[hd] at hs
  exact yO hs
def G9(W:World)(cs:LV)(m1 a er:Int)(j:Nat)(v:Value)(w:World):Prop:=match j with
 |0=>v=.agg cs.toArray
 |1=>v=.agg #[.int .i64 1,.int .i64 1,.int .i64 4,.string ⟨#[]⟩,.int .i64 0,.slice none 0 0]
 |2=>v=.agg #[.int .i64 1,.int .i64 30,.int .i64 3,.string ⟨#[]⟩,.int .i64 0,.slice none 0 0]
 |3=>∃g:Nat,v=.agg #[.int .i64 4,.int .i64 0,.int .i64 0,.string ⟨#[]⟩,.int .i64 0,.slice (some ⟨g,0,none⟩) 2 2]∧w.heap[g]?=some (.cells #[.int .i64 1,.int .i64 1,.int .i64 4,.string ⟨#[]⟩,.int .i64 0,.slice none 0 0,.int .i64 1,.int .i64 30,.int .i64 3,.string ⟨#[]⟩,.int .i64 0,.slice none 0 0] 26 (0,0))
 |4=>v=.tuple #[.agg #[.int .i64 m1,.int .i64 a],.int .i64 er]
 |5=>v=.tuple #[.agg #[.int .i64 m1,.int .i64 a],.int .i64 er]
 |6=>v=.agg #[.int .i64 m1,.int .i64 a]
 |7=>v=.int .i64 er
 |10=>v=.int .i64 er
 |_=>True
theorem To(W:World)(cs:LV)(m1 a er:Int)(j:Nat)(v:Value)(w w':World)(b:EU w w')(h:G9 W cs m1 a er j v w):G9 W cs m1 a er j v w':=by
 match j,h with
 |0,h=>exact h
 |1,h=>exact h
 |2,h=>exact h
 |3,h=>
  obtain ⟨g,h0,h1⟩:=h
  exact ⟨g,h0,b _ _ h1⟩
 |4,h=>exact h
 |5,h=>exact h
 |6,h=>exact h
 |7,h=>exact h
 |8,h=>exact h
 |9,h=>exact h
 |10,h=>exact h
 |_+11,h=>exact h
theorem RE{J:Act}{W0:World}{Q:QT}{B1:Nat}{cs:LV}{x:AB}{m1 K er:Int}(ops:Array Oper)(u:DN Tryz.f7 6=some ops)
 (a0:J.tmps.getD 1 undef=.pointer (some ⟨B1,0,none⟩))(V:J.tmps.size=141)(I:B1 < W0.heap.size)(l:W0.rangeAt B1 0 cs)(F:(Tryz.prog.info? 35).map (·.size)=some cs.length)(hS:DO W0 cs x)(hm:Bv x (Ln 4 (Bt 1 4) (Bt 30 3))=(⟨⟨m1,K⟩,er⟩:Rt × Int))
 (hQ:∀(a:Act) w1 b,a.tmps.size=141->a.defers=J.defers->(∀t,t∉[44,45,46,47,48,43,49,50,9,10]->a.tmps.getD t undef=J.tmps.getD t undef)->a.tmps.getD 9 undef=.pointer (some ⟨b,0,none⟩)->a.tmps.getD 10 undef=.int .i64 er->Below W0.heap.size W0 w1->W0.heap.size<=b->w1.heap[b]?=some (.cells #[.int .i64 m1,.int .i64 K] 44 (0,0))->Q .normal a w1):
  (Code.region 6 ops true).wp Tryz.prog Q J W0:=by
 obtain rfl:=yi ((rfl:DN Tryz.f7 6=some _).symm.trans u)
 clear u
 have HM:=yb hm
 have HS:=yb hS
 have R:=yb F
 clear hm hS F
 refine BR (by kernel_rfl) (UW W0 8 9 9 jc #[iV m1,iV K] 44) (G9 W0 cs m1 K er) (fun _=>EU) (by kernel_rfl) (by rw[V];kernel_rfl) (by kernel_rfl) (fun _ j v w w' _ _ hl h=>To _ _ _ _ _ j v w w' hl h) ⟨(yg _ _).drew,fun _ h=>(by cases h),fun h=>(by cases h)⟩ ?_ ?_
 ·intro ix f a w' hM c o n
  have m:=yb hM.ext
  have Z:=(yd.1 n).1
  have X:=hM.size
  have W:Hid (a.tmps.size=141):=yb (hM.tmps.trans V)
  match ix,Z with
  |0,_=>
   have d:=hM.old c 1 (by kernel_rfl) _ a0
   have S:=yb (A0 l (m.o.below.block _ I))
   clear l
   obtain rfl:=yi n
   refine xO 35 _ rfl B1 0 (by simpa[Act.eval] using d) cs _ S.o qV rfl R.o ?_
   exact ⟨_,rfl,m.o.quiet (by decide) (by decide) (yg _ _),EU.refl _,rfl⟩
  |1,_=>
   clear l
   obtain rfl:=yi n
   go_simp
   refine (Bp 1 4 _).mono ?_
   rintro e w2 ⟨rfl,i⟩
   exact ⟨_,rfl,m.o.quiet (by decide) (by decide) i,EU.below i,rfl⟩
  |2,_=>
   clear l
   obtain rfl:=yi n
   go_simp
   refine (Bp 30 3 _).mono ?_
   rintro e w2 ⟨rfl,i⟩
   exact ⟨_,rfl,m.o.quiet (by decide) (by decide) i,EU.below i,rfl⟩
  |3,_=>
   have D:=hM.dep c 1 45 (by kernel_rfl) (by kernel_rfl)
   unfold G9 at D
   simp only at D
   have L:=hM.dep c 2 46 (by kernel_rfl) (by kernel_rfl)
   unfold G9 at L
   simp only at L
   clear l
   obtain rfl:=yi n
   go_simp
   refine (Im 4 _ _ _ _ _ _ _ _ _ _ _ _ _ _ _ _ _).mono ?_
   rintro e w2 ⟨g,rfl,P,H,i⟩
   exact ⟨_,rfl,m.o.quiet (by decide) (by decide) i,EU.below i,g,rfl,H⟩
  |4,_=>
   have G:=hM.dep c 0 44 (by kernel_rfl) (by kernel_rfl)
   unfold G9 at G
   simp only at G
   have s:=hM.dep c 3 47 (by kernel_rfl) (by kernel_rfl)
   unfold G9 at s
   simp only at s
   obtain ⟨g,s,z⟩:=s
   have q:=DP (HS.o.up m.o.below) (Io 4 (yd.1 z).1 (ca:=xC 1 1 4 Gd 0) (cb:=xC 1 30 3 Gd 0) z (C8 1 4) (C8 30 3):AH (fun b=>b < w'.heap.size) w' (Ln 4 (Bt 1 4) (Bt 30 3)) (tC 4 g))
   rw[HM.o] at q
   clear z l
   obtain rfl:=yi n
   go_simp
   refine q.mono ?_
   rintro e w2 ⟨rfl,i⟩
   exact ⟨_,rfl,m.o.quiet (by decide) (by decide) i,EU.below i,rfl⟩
  |5,_=>
   have E:=hM.dep c 4 48 (by kernel_rfl) (by kernel_rfl)
   unfold G9 at E
   simp only at E
   clear l
   obtain rfl:=yi n
   go_simp
   exact ⟨_,rfl,m.o.quiet (by decide) (by decide) (yg _ _),EU.refl _,rfl⟩
  |6,_=>
   have r:=hM.dep c 5 43 (by kernel_rfl) (by kernel_rfl)
   unfold G9 at r
   simp only at r
   clear l
   obtain rfl:=yi n
   go_simp
   exact ⟨_,rfl,m.o.quiet (by decide) (by decide) (yg _ _),EU.refl _,rfl⟩
  |7,_=>
   have r:=hM.dep c 5 43 (by kernel_rfl) (by kernel_rfl)
   unfold G9 at r
   simp only at r
   clear l
   obtain rfl:=yi n
   go_simp
   exact ⟨_,rfl,m.o.quiet (by decide) (by decide) (yg _ _),EU.refl _,rfl⟩
  |8,_=>
   have O:f.getD 9 false=false:=by
    rw[yn];intro h6
    have:=A1 hM.down 12 9 8 (by kernel_rfl) h6
    rw[hM.not_yet c] at this;cases this
   have HN:=yb O
   have HT:Hid (9 < a.tmps.size):=yb (by rw[W.o];decide)
   clear l O
   obtain rfl:=yi n
   go_simp
   have C:Below w'.heap.size w' (w'.alloc (.cells jc 44)):=(yg _ _).alloc (yf _) _
   refine ⟨_,rfl,⟨m.o.below.trans (C.mono m.o.below.size),fun _ _=>⟨w'.heap.size,?_,m.o.below.size,World.alloc_heap_new _ _⟩,fun h4=>?_⟩,EU.below C,trivial⟩
   ·show (a.put (some 9) (pV w'.heap.size 0)).tmps.getD 9 undef=_
    exact Ax _ HT.o
   ·rw[A9 (by decide),HN.o] at h4;cases h4
  |9,_=>
   have O:=hM.not_yet c
   have lA:f.getD 8 false=true:=hM.came c 8 (by kernel_rfl)
   obtain ⟨b,U,M,A⟩:=m.o.one O lA
   have B:=hM.dep c 6 49 (by kernel_rfl) (by kernel_rfl)
   unfold G9 at B
   simp only at B
   have HL:Hid (9 < f.size):=yb (by rw[X];show 9 < 11;omega)
   have Y:=U
   rw[yE] at U
   refine wp_store_row 44 (.tmp 9) (.tmp 49) (by obtain rfl:=yi n;rfl) b #[iV m1,iV K] (by simpa[Act.eval] using U) (by simpa[Act.eval] using B) 44 jc A (by kernel_rfl) (by kernel_rfl) (by simp[Value.oneCell']) ?_
   obtain rfl:=yi n
   refine ⟨undef,rfl,⟨CO m.o.below M _,fun h6=>?_,fun _=>⟨b,Y,M,qz _ _ _ _ _ _ A⟩⟩,fun g row P=>?_,trivial⟩
   ·simp[HL.o] at h6
   ·rw[Cw _ _ (fun e=>by rw[e,A] at P;cases P)];exact P
  |10,_=>
   have N:=hM.dep c 7 50 (by kernel_rfl) (by kernel_rfl)
   unfold G9 at N
   simp only at N
   clear l
   obtain rfl:=yi n
   go_simp
   exact ⟨_,rfl,m.o.quiet (by decide) (by decide) (yg _ _),EU.refl _,rfl⟩
 ·intro f a w' y hM
  obtain ⟨b,k1,k2,k3⟩:=hM.ext.two (y 9 (show 9 < 11 by omega))
  have T:=hM.done 10 (y 10 (show 10 < 11 by omega)) _ 10 rfl rfl
  unfold G9 at T
  simp only at T
  refine hQ a w' b (hM.tmps.trans V) hM.defers (fun t ht=>hM.free t fun mm a2 o n hd=>ht ?_) k1 T hM.ext.below k2 k3
  have hs:=Ho (ops:=(Tryz.f7.body.bind (CS 6)).getD #[]) (p:=fun o=>match o.dst with|some k=>decide (k∈[44,45,46,47,48,43,49,50,9,10])|none=>true) (by kernel_rfl) n
  rw[hd] at hs
  exact yO hs
def Ga(W:World)(cs:LV)(m1 a er:Int)(j:Nat)(v:Value)(w:World):Prop:=match j with
 |0=>v=.agg cs.toArray
 |1=>v=.agg #[.int .i64 1,.int .i64 1,.int .i64 0,.string ⟨#[]⟩,.int .i64 0,.slice none 0 0]
 |2=>v=.agg #[.int .i64 1,.int .i64 0,.int .i64 0,.string ⟨#[]⟩,.int .i64 0,.slice none 0 0]
 |3=>∃g:Nat,v=.agg #[.int .i64 6,.int .i64 0,.int .i64 0,.string ⟨#[]⟩,.int .i64 0,.slice (some ⟨g,0,none⟩) 2 2]∧w.heap[g]?=some (.cells #[.int .i64 1,.int .i64 1,.int .i64 0,.string ⟨#[]⟩,.int .i64 0,.slice none 0 0,.int .i64 1,.int .i64 0,.int .i64 0,.string ⟨#[]⟩,.int .i64 0,.slice none 0 0] 26 (0,0))
 |4=>v=.tuple #[.agg #[.int .i64 m1,.int .i64 a],.int .i64 er]
 |5=>v=.tuple #[.agg #[.int .i64 m1,.int .i64 a],.int .i64 er]
 |6=>v=.agg #[.int .i64 m1,.int .i64 a]
 |7=>v=.int .i64 er
 |10=>v=.int .i64 er
 |_=>True
theorem Tp(W:World)(cs:LV)(m1 a er:Int)(j:Nat)(v:Value)(w w':World)(b:EU w w')(h:Ga W cs m1 a er j v w):Ga W cs m1 a er j v w':=by
 match j,h with
 |0,h=>exact h
 |1,h=>exact h
 |2,h=>exact h
 |3,h=>
  obtain ⟨g,h0,h1⟩:=h
  exact ⟨g,h0,b _ _ h1⟩
 |4,h=>exact h
 |5,h=>exact h
 |6,h=>exact h
 |7,h=>exact h
 |8,h=>exact h
 |9,h=>exact h
 |10,h=>exact h
 |_+11,h=>exact h
theorem RF{L:Act}{W0:World}{Q:QT}{B1:Nat}{cs:LV}{x:AB}{m1 M er:Int}(ops:Array Oper)(u:DN Tryz.f7 7=some ops)
 (a0:L.tmps.getD 1 undef=.pointer (some ⟨B1,0,none⟩))(V:L.tmps.size=141)(K:B1 < W0.heap.size)(l:W0.rangeAt B1 0 cs)(G:(Tryz.prog.info? 35).map (·.size)=some cs.length)(hS:DO W0 cs x)(hm:Bv x (Ln 6 (Bt 1 0) (Bt 0 0))=(⟨⟨m1,M⟩,er⟩:Rt × Int))
 (hQ:∀(a:Act) w1 b,a.tmps.size=141->a.defers=L.defers->(∀t,t∉[52,53,54,55,56,51,57,58,11,12]->a.tmps.getD t undef=L.tmps.getD t undef)->a.tmps.getD 11 undef=.pointer (some ⟨b,0,none⟩)->a.tmps.getD 12 undef=.int .i64 er->Below W0.heap.size W0 w1->W0.heap.size<=b->w1.heap[b]?=some (.cells #[.int .i64 m1,.int .i64 M] 44 (0,0))->Q .normal a w1):
  (Code.region 7 ops true).wp Tryz.prog Q L W0:=by
 obtain rfl:=yi ((rfl:DN Tryz.f7 7=some _).symm.trans u)
 clear u
 have HM:=yb hm
 have HS:=yb hS
 have R:=yb G
 clear hm hS G
 refine BR (by kernel_rfl) (UW W0 8 9 11 jc #[iV m1,iV M] 44) (Ga W0 cs m1 M er) (fun _=>EU) (by kernel_rfl) (by rw[V];kernel_rfl) (by kernel_rfl) (fun _ j v w w' _ _ hl h=>Tp _ _ _ _ _ j v w w' hl h) ⟨(yg _ _).drew,fun _ h=>(by cases h),fun h=>(by cases h)⟩ ?_ ?_
 ·intro ix f a w' hM c o n
  have m:=yb hM.ext
  have Z:=(yd.1 n).1
  have X:=hM.size
  have W:Hid (a.tmps.size=141):=yb (hM.tmps.trans V)
  match ix,Z with
  |0,_=>
   have d:=hM.old c 1 (by kernel_rfl) _ a0
   have S:=yb (A0 l (m.o.below.block _ K))
   clear l
   obtain rfl:=yi n
   refine xO 35 _ rfl B1 0 (by simpa[Act.eval] using d) cs _ S.o qV rfl R.o ?_
   exact ⟨_,rfl,m.o.quiet (by decide) (by decide) (yg _ _),EU.refl _,rfl⟩
  |1,_=>
   clear l
   obtain rfl:=yi n
   go_simp
   refine (Bp 1 0 _).mono ?_
   rintro e w2 ⟨rfl,i⟩
   exact ⟨_,rfl,m.o.quiet (by decide) (by decide) i,EU.below i,rfl⟩
  |2,_=>
   clear l
   obtain rfl:=yi n
   go_simp
   refine (Bp 0 0 _).mono ?_
   rintro e w2 ⟨rfl,i⟩
   exact ⟨_,rfl,m.o.quiet (by decide) (by decide) i,EU.below i,rfl⟩
  |3,_=>
   have F:=hM.dep c 1 53 (by kernel_rfl) (by kernel_rfl)
   unfold Ga at F
   simp only at F
   have H:=hM.dep c 2 54 (by kernel_rfl) (by kernel_rfl)
   unfold Ga at H
   simp only at H
   clear l
   obtain rfl:=yi n
   go_simp
   refine (Im 6 _ _ _ _ _ _ _ _ _ _ _ _ _ _ _ _ _).mono ?_
   rintro e w2 ⟨g,rfl,P,J,i⟩
   exact ⟨_,rfl,m.o.quiet (by decide) (by decide) i,EU.below i,g,rfl,J⟩
  |4,_=>
   have I:=hM.dep c 0 52 (by kernel_rfl) (by kernel_rfl)
   unfold Ga at I
   simp only at I
   have s:=hM.dep c 3 55 (by kernel_rfl) (by kernel_rfl)
   unfold Ga at s
   simp only at s
   obtain ⟨g,s,z⟩:=s
   have q:=DP (HS.o.up m.o.below) (Io 6 (yd.1 z).1 (ca:=xC 1 1 0 Gd 0) (cb:=xC 1 0 0 Gd 0) z (C8 1 0) (C8 0 0):AH (fun b=>b < w'.heap.size) w' (Ln 6 (Bt 1 0) (Bt 0 0)) (tC 6 g))
   rw[HM.o] at q
   clear z l
   obtain rfl:=yi n
   go_simp
   refine q.mono ?_
   rintro e w2 ⟨rfl,i⟩
   exact ⟨_,rfl,m.o.quiet (by decide) (by decide) i,EU.below i,rfl⟩
  |5,_=>
   have C:=hM.dep c 4 56 (by kernel_rfl) (by kernel_rfl)
   unfold Ga at C
   simp only at C
   clear l
   obtain rfl:=yi n
   go_simp
   exact ⟨_,rfl,m.o.quiet (by decide) (by decide) (yg _ _),EU.refl _,rfl⟩
  |6,_=>
   have r:=hM.dep c 5 51 (by kernel_rfl) (by kernel_rfl)
   unfold Ga at r
   simp only at r
   clear l
   obtain rfl:=yi n
   go_simp
   exact ⟨_,rfl,m.o.quiet (by decide) (by decide) (yg _ _),EU.refl _,rfl⟩
  |7,_=>
   have r:=hM.dep c 5 51 (by kernel_rfl) (by kernel_rfl)
   unfold Ga at r
   simp only at r
   clear l
   obtain rfl:=yi n
   go_simp
   exact ⟨_,rfl,m.o.quiet (by decide) (by decide) (yg _ _),EU.refl _,rfl⟩
  |8,_=>
   have O:f.getD 9 false=false:=by
    rw[yn];intro h6
    have:=A1 hM.down 12 9 8 (by kernel_rfl) h6
    rw[hM.not_yet c] at this;cases this
   have HN:=yb O
   have HT:Hid (11 < a.tmps.size):=yb (by rw[W.o];decide)
   clear l O
   obtain rfl:=yi n
   go_simp
   have D:Below w'.heap.size w' (w'.alloc (.cells jc 44)):=(yg _ _).alloc (yf _) _
   refine ⟨_,rfl,⟨m.o.below.trans (D.mono m.o.below.size),fun _ _=>⟨w'.heap.size,?_,m.o.below.size,World.alloc_heap_new _ _⟩,fun h4=>?_⟩,EU.below D,trivial⟩
   ·show (a.put (some 11) (pV w'.heap.size 0)).tmps.getD 11 undef=_
    exact Ax _ HT.o
   ·rw[A9 (by decide),HN.o] at h4;cases h4
  |9,_=>
   have O:=hM.not_yet c
   have lA:f.getD 8 false=true:=hM.came c 8 (by kernel_rfl)
   obtain ⟨b,U,N,A⟩:=m.o.one O lA
   have B:=hM.dep c 6 57 (by kernel_rfl) (by kernel_rfl)
   unfold Ga at B
   simp only at B
   have HL:Hid (9 < f.size):=yb (by rw[X];show 9 < 11;omega)
   have Y:=U
   rw[yE] at U
   refine wp_store_row 44 (.tmp 11) (.tmp 57) (by obtain rfl:=yi n;rfl) b #[iV m1,iV M] (by simpa[Act.eval] using U) (by simpa[Act.eval] using B) 44 jc A (by kernel_rfl) (by kernel_rfl) (by simp[Value.oneCell']) ?_
   obtain rfl:=yi n
   refine ⟨undef,rfl,⟨CO m.o.below N _,fun h6=>?_,fun _=>⟨b,Y,N,qz _ _ _ _ _ _ A⟩⟩,fun g row P=>?_,trivial⟩
   ·simp[HL.o] at h6
   ·rw[Cw _ _ (fun e=>by rw[e,A] at P;cases P)];exact P
  |10,_=>
   have E:=hM.dep c 7 58 (by kernel_rfl) (by kernel_rfl)
   unfold Ga at E
   simp only at E
   clear l
   obtain rfl:=yi n
   go_simp
   exact ⟨_,rfl,m.o.quiet (by decide) (by decide) (yg _ _),EU.refl _,rfl⟩
 ·intro f a w' y hM
  obtain ⟨b,k1,k2,k3⟩:=hM.ext.two (y 9 (show 9 < 11 by omega))
  have T:=hM.done 10 (y 10 (show 10 < 11 by omega)) _ 12 rfl rfl
  unfold Ga at T
  simp only at T
  refine hQ a w' b (hM.tmps.trans V) hM.defers (fun t ht=>hM.free t fun mm a2 o n hd=>ht ?_) k1 T hM.ext.below k2 k3
  have hs:=Ho (ops:=(Tryz.f7.body.bind (CS 7)).getD #[]) (p:=fun o=>match o.dst with|some k=>decide (k∈[52,53,54,55,56,51,57,58,11,12])|none=>true) (by kernel_rfl) n
  rw[hd] at hs
  exact yO hs
def H9(W:World)(cs:LV)(m1 a er:Int)(j:Nat)(v:Value)(w:World):Prop:=match j with
 |0=>v=.agg cs.toArray
 |1=>v=.agg #[.int .i64 1,.int .i64 1073741825,.int .i64 0,.string ⟨#[]⟩,.int .i64 0,.slice none 0 0]
 |2=>v=.tuple #[.agg #[.int .i64 m1,.int .i64 a],.int .i64 er]
 |3=>v=.tuple #[.agg #[.int .i64 m1,.int .i64 a],.int .i64 er]
 |4=>v=.agg #[.int .i64 m1,.int .i64 a]
 |5=>v=.int .i64 er
 |8=>v=.int .i64 er
 |_=>True
theorem Tq(W:World)(cs:LV)(m1 a er:Int)(j:Nat)(v:Value)(w w':World)(b:EU w w')(h:H9 W cs m1 a er j v w):H9 W cs m1 a er j v w':=by
 match j,h with
 |0,h=>exact h
 |1,h=>exact h
 |2,h=>exact h
 |3,h=>exact h
 |4,h=>exact h
 |5,h=>exact h
 |6,h=>exact h
 |7,h=>exact h
 |8,h=>exact h
 |_+9,h=>exact h
theorem RG{G:Act}{W0:World}{Q:QT}{B1:Nat}{cs:LV}{x:AB}{m1 H er:Int}(ops:Array Oper)(s:DN Tryz.f7 8=some ops)
 (V:G.tmps.getD 1 undef=.pointer (some ⟨B1,0,none⟩))(P:G.tmps.size=141)(F:B1 < W0.heap.size)(i:W0.rangeAt B1 0 cs)(E:(Tryz.prog.info? 35).map (·.size)=some cs.length)(Z:DO W0 cs x)(X:Bv x (Bt 1073741825 0)=(⟨⟨m1,H⟩,er⟩:Rt × Int))
 (hQ:∀(a:Act) w1 b,a.tmps.size=141->a.defers=G.defers->(∀t,t∉[60,61,62,59,63,64,13,14]->a.tmps.getD t undef=G.tmps.getD t undef)->a.tmps.getD 13 undef=.pointer (some ⟨b,0,none⟩)->a.tmps.getD 14 undef=.int .i64 er->Below W0.heap.size W0 w1->W0.heap.size<=b->w1.heap[b]?=some (.cells #[.int .i64 m1,.int .i64 H] 44 (0,0))->Q .normal a w1):
  (Code.region 8 ops true).wp Tryz.prog Q G W0:=by
 obtain rfl:=yi ((rfl:DN Tryz.f7 8=some _).symm.trans s)
 clear s
 have HM:=yb X
 have HS:=yb Z
 have L:=yb E
 clear X Z E
 refine BR (by kernel_rfl) (UW W0 6 7 13 jc #[iV m1,iV H] 44) (H9 W0 cs m1 H er) (fun _=>EU) (by kernel_rfl) (by rw[P];kernel_rfl) (by kernel_rfl) (fun _ j v w w' _ _ hl h=>Tq _ _ _ _ _ j v w w' hl h) ⟨(yg _ _).drew,fun _ h=>(by cases h),fun h=>(by cases h)⟩ ?_ ?_
 ·intro ix c a w' hM f o m
  have l:=yb hM.ext
  have W:=(yd.1 m).1
  have T:=hM.size
  have R:Hid (a.tmps.size=141):=yb (hM.tmps.trans P)
  match ix,W with
  |0,_=>
   have d:=hM.old f 1 (by kernel_rfl) _ V
   have M:=yb (A0 i (l.o.below.block _ F))
   clear i
   obtain rfl:=yi m
   refine xO 35 _ rfl B1 0 (by simpa[Act.eval] using d) cs _ M.o qV rfl L.o ?_
   exact ⟨_,rfl,l.o.quiet (by decide) (by decide) (yg _ _),EU.refl _,rfl⟩
  |1,_=>
   clear i
   obtain rfl:=yi m
   go_simp
   refine (Bp 1073741825 0 _).mono ?_
   rintro e w2 ⟨rfl,q⟩
   exact ⟨_,rfl,l.o.quiet (by decide) (by decide) q,EU.below q,rfl⟩
  |2,_=>
   have B:=hM.dep f 0 60 (by kernel_rfl) (by kernel_rfl)
   unfold H9 at B
   simp only at B
   have D:=hM.dep f 1 61 (by kernel_rfl) (by kernel_rfl)
   unfold H9 at D
   simp only at D
   have r:=DP (HS.o.up l.o.below) (C8 1073741825 0:AH (fun b=>b < w'.heap.size) w' (Bt 1073741825 0) (xC 1 1073741825 0 Gd 0))
   rw[HM.o] at r
   skip
   clear i
   obtain rfl:=yi m
   go_simp
   refine r.mono ?_
   rintro e w2 ⟨rfl,q⟩
   exact ⟨_,rfl,l.o.quiet (by decide) (by decide) q,EU.below q,rfl⟩
  |3,_=>
   have I:=hM.dep f 2 62 (by kernel_rfl) (by kernel_rfl)
   unfold H9 at I
   simp only at I
   clear i
   obtain rfl:=yi m
   go_simp
   exact ⟨_,rfl,l.o.quiet (by decide) (by decide) (yg _ _),EU.refl _,rfl⟩
  |4,_=>
   have n:=hM.dep f 3 59 (by kernel_rfl) (by kernel_rfl)
   unfold H9 at n
   simp only at n
   clear i
   obtain rfl:=yi m
   go_simp
   exact ⟨_,rfl,l.o.quiet (by decide) (by decide) (yg _ _),EU.refl _,rfl⟩
  |5,_=>
   have n:=hM.dep f 3 59 (by kernel_rfl) (by kernel_rfl)
   unfold H9 at n
   simp only at n
   clear i
   obtain rfl:=yi m
   go_simp
   exact ⟨_,rfl,l.o.quiet (by decide) (by decide) (yg _ _),EU.refl _,rfl⟩
  |6,_=>
   have K:c.getD 7 false=false:=by
    rw[yn];intro h6
    have:=A1 hM.down 12 7 6 (by kernel_rfl) h6
    rw[hM.not_yet f] at this;cases this
   have HN:=yb K
   have HT:Hid (13 < a.tmps.size):=yb (by rw[R.o];decide)
   clear i K
   obtain rfl:=yi m
   go_simp
   have A:Below w'.heap.size w' (w'.alloc (.cells jc 44)):=(yg _ _).alloc (yf _) _
   refine ⟨_,rfl,⟨l.o.below.trans (A.mono l.o.below.size),fun _ _=>⟨w'.heap.size,?_,l.o.below.size,World.alloc_heap_new _ _⟩,fun Y=>?_⟩,EU.below A,trivial⟩
   ·show (a.put (some 13) (pV w'.heap.size 0)).tmps.getD 13 undef=_
    exact Ax _ HT.o
   ·rw[A9 (by decide),HN.o] at Y;cases Y
  |7,_=>
   have K:=hM.not_yet f
   have lA:c.getD 6 false=true:=hM.came f 6 (by kernel_rfl)
   obtain ⟨b,O,J,y⟩:=l.o.one K lA
   have z:=hM.dep f 4 63 (by kernel_rfl) (by kernel_rfl)
   unfold H9 at z
   simp only at z
   have HL:Hid (7 < c.size):=yb (by rw[T];show 7 < 9;omega)
   have U:=O
   rw[yE] at O
   refine wp_store_row 44 (.tmp 13) (.tmp 63) (by obtain rfl:=yi m;rfl) b #[iV m1,iV H] (by simpa[Act.eval] using O) (by simpa[Act.eval] using z) 44 jc y (by kernel_rfl) (by kernel_rfl) (by simp[Value.oneCell']) ?_
   obtain rfl:=yi m
   refine ⟨undef,rfl,⟨CO l.o.below J _,fun h6=>?_,fun _=>⟨b,U,J,qz _ _ _ _ _ _ y⟩⟩,fun g row S=>?_,trivial⟩
   ·simp[HL.o] at h6
   ·rw[Cw _ _ (fun e=>by rw[e,y] at S;cases S)];exact S
  |8,_=>
   have C:=hM.dep f 5 64 (by kernel_rfl) (by kernel_rfl)
   unfold H9 at C
   simp only at C
   clear i
   obtain rfl:=yi m
   go_simp
   exact ⟨_,rfl,l.o.quiet (by decide) (by decide) (yg _ _),EU.refl _,rfl⟩
 ·intro c a w' u hM
  obtain ⟨b,k1,k2,k3⟩:=hM.ext.two (u 7 (show 7 < 9 by omega))
  have N:=hM.done 8 (u 8 (show 8 < 9 by omega)) _ 14 rfl rfl
  unfold H9 at N
  simp only at N
  refine hQ a w' b (hM.tmps.trans P) hM.defers (fun t ht=>hM.free t fun mm a0 o m hd=>ht ?_) k1 N hM.ext.below k2 k3
  have hs:=Ho (ops:=(Tryz.f7.body.bind (CS 8)).getD #[]) (p:=fun o=>match o.dst with|some k=>decide (k∈[60,61,62,59,63,64,13,14])|none=>true) (by kernel_rfl) m
  rw[hd] at hs
  exact yO hs
set_option linter.unusedSimpArgs false
theorem RH:∀e∈AD (DU BS),AE e.1<=1000000:=fun e a=>
 yO (yR.1 (show (AD (DU BS)).all (fun e=>decide (AE e.1<=1000000))=true by kernel_rfl) e a)
theorem PR:∀e∈AD (DU (Bt 40 1)),AE e.1<=1000000:=fun e a=>
 yO (yR.1 (show (AD (DU (Bt 40 1))).all (fun e=>decide (AE e.1<=1000000))=true by kernel_rfl) e a)
mutual
def Oz:Ex->Bool
 |.mk _ _ _ _ _ l=>decide (l.length<=100000)&&N6 l
def N6:List Ex->Bool
 |[]=>true
 |e::r=>Oz e&&N6 r
end
mutual
theorem N7:∀ {e:Ex},Oz e=true->FX e
 |.mk _ _ _ _ _ l,h=>by
  rw[Oz,yG,z7] at h
  rw[FX];exact ⟨h.1,OA h.2⟩
theorem OA:∀ {l:List Ex},N6 l=true->GW l
 |[],_=>by rw[GW];trivial
 |e::r,h=>by
  rw[N6,yG] at h
  rw[GW];exact ⟨N7 h.1,OA h.2⟩
end
theorem RI:∀e∈AD (DU BS),FX e.1:=fun e a=>N7 (yR.1 (show (AD (DU BS)).all (fun e=>Oz e.1)=true by kernel_rfl) e a)
theorem PS:∀e∈AD (DU (Bt 40 1)),FX e.1:=fun e a=>N7 (yR.1 (show (AD (DU (Bt 40 1))).all (fun e=>Oz e.1)=true by kernel_rfl) e a)
theorem Tr(cap:Ex)(h:∀e∈AD (DU cap),FX e.1):My (DU cap):=⟨by simp[DU],by simp[DU],by simp[DU],by simp[DU],by simp[DU],by simp[DU],by simp[DU],by simp[DU],h⟩
set_option linter.unusedSimpArgs false
set_option linter.unusedVariables false
theorem Da{ops:Array Oper}{rest:List Oper}{op:Oper}{a:Act}{w:World}{Q:QT}(c:Region.wanted op (yielded ops a.tmps)=true)(ty:TypeId)(x:Operand)(j:op.op=.load ty x)
 (b o:Nat)(g:a.eval x=.pointer (some ⟨b,o,none⟩))(cs:LV)(d:TypeDesc)(i:w.rangeAt b o cs)(f:Tryz.prog.underlying ty=some d)(hd:d.isRow=true)(hi:(Tryz.prog.info? ty).map (·.size)=some cs.length)
 (h:wpList Tryz.prog ops Q rest (a.put op.dst (.agg cs.toArray)) w):wpList Tryz.prog ops Q (op::rest) a w:=
 wpList_step fun K e=>by rw[yw c];exact xO ty x j b o g cs d i f hd hi (e _ _ h)
structure PT (lo:Nat) (W:World) (g13 g16 g18 g28 g31 g36:Nat) (capc:List Value):Prop where
 lo13:lo<=g13∧lo<=g16∧lo<=g18∧lo<=g28∧lo<=g31∧lo<=g36
 b13:W.heap[g13]?=some (.cells #[.string ⟨#[107]⟩,.int .i64 1,.int .i64 3,.int .i64 2,.string ⟨#[]⟩,.int .i64 0,.slice none 0 0] 50 (0,0))
 b16:W.heap[g16]?=some (.cells #[.int .i64 1,.int .i64 7,.int .i64 1,.string ⟨#[]⟩,.int .i64 0,.slice none 0 0,.int .i64 1,.int .i64 1,.int .i64 5,.string ⟨#[]⟩,.int .i64 0,.slice none 0 0] 26 (0,0))
 b18:W.heap[g18]?=some (.cells #[.string ⟨#[99]⟩,.int .i64 6,.int .i64 0,.int .i64 0,.string ⟨#[]⟩,.int .i64 0,.slice (some ⟨g16,0,none⟩) 2 2] 92 (0,0))
 b28:W.heap[g28]?=some (.cells #[.int .i64 1,.int .i64 1,.int .i64 0,.string ⟨#[]⟩,.int .i64 0,.slice none 0 0,.int .i64 1,.int .i64 8,.int .i64 0,.string ⟨#[]⟩,.int .i64 0,.slice none 0 0] 26 (0,0))
 b31:W.heap[g31]?=some (.cells (L8++(capc++L9 g28)).toArray 66 (0,0))
 b36:W.heap[g36]?=some (.cells #[.string ⟨#[102]⟩,.string ⟨#[114]⟩,.int .i64 0,.bool false,.int .i64 1,.int .i64 20,.int .i64 5,.string ⟨#[]⟩,.int .i64 0,.slice none 0 0,.string ⟨#[99]⟩,.int .i64 0] 94 (0,0))
theorem PT.up{lo:Nat}{W W':World}{b e f c d i:Nat}{a:LV}(h:PT lo W b e f c d i a)(hb:Below W.heap.size W W'):PT lo W' b e f c d i a:=by
 have k:∀ {g:Nat} {o:Obj},W.heap[g]?=some o->W'.heap[g]?=some o:=fun j=>(hb.block _ (yd.1 j).1).trans j
 exact ⟨h.lo13,k h.b13,k h.b16,k h.b18,k h.b28,k h.b31,k h.b36⟩
theorem PT.ok{lo:Nat}{W:World}{i m j l f d:Nat}{a:LV}{cap:Ex}(h:PT lo W i m j l f d a)(c:AH (fun b=>b < W.heap.size) W cap a)(n:GV W)(p:GU W)(hs:∀e∈AD (DU cap),FX e.1)(hd:∀e∈AD (DU cap),AE e.1<=1000000):DO W (La i j f d) (DU cap):=by
 have k:∀ {g:Nat} {o:Obj},W.heap[g]?=some o->g < W.heap.size:=fun q=>(yd.1 q).1
 exact ⟨⟨_,Uh c (k h.b13) (k h.b16) (k h.b18) (k h.b28) (k h.b31) (k h.b36) h.b13 h.b16 h.b18 h.b28 h.b31 h.b36⟩,Tr cap hs,n,p,hd⟩
def Lb(W:World)(gf:Nat):Prop:=W.heap[gf]?=some (.cells #[.int .i64 1,.int .i64 40,.int .i64 1,.string ⟨#[]⟩,.int .i64 0,.slice none 0 0,.int .i64 1,.int .i64 1,.int .i64 3,.string ⟨#[]⟩,.int .i64 0,.slice none 0 0] 26 (0,0))
theorem Ui{W:World}{gf:Nat}(h:Lb W gf):AH (fun b=>b < W.heap.size) W BS (tC 6 gf):=
 Io 6 (yd.1 h).1 (ca:=xC 1 40 1 Gd 0) (cb:=xC 1 1 3 Gd 0) h (C8 40 1) (C8 1 3)
theorem Lb.up{W W':World}{gf:Nat}(h:Lb W gf)(hb:Below W.heap.size W W'):Lb W' gf:=(hb.block _ (yd.1 h).1).trans h
theorem OB(w:World):Calls Tryz.prog 21 #[] w fun e w'=>∃(gf c g d f b a:Nat),e=.returned (.agg (La c d b a).toArray)∧PT w.heap.size w' c g d f b a (tC 6 gf)∧Lb w' gf∧w.heap.size<=gf∧Below w.heap.size w w':=by
 refine (Oy w).mono ?_
 rintro e w' ⟨B,gf,cells,rfl,q,o,p,h,s,hb⟩
 unfold CG at o
 simp only at o
 obtain ⟨c,g,d,f,b,a,r,i,l,n,k,m,j⟩:=o
 cases r
 refine ⟨gf,c,g,d,f,b,a,rfl,⟨⟨qp (xI h i.1),qp (xI h l.1),qp (xI h n.1),qp (xI h k.1),qp (xI h m.1),qp (xI h j.1)⟩,i.2,l.2,n.2,k.2,m.2,j.2⟩,p,s,hb⟩
theorem Ts{w:World}(hv:GV w)(hu:GU w):Calls Tryz.prog 7 #[] w fun e w'=>e=.returned (.bool true)∧Below w.heap.size w w':=by
 have HV:=yb hv
 have HU:=yb hu
 clear hv hu
 go_enter Tryz.func7,Tryz.ntmps7
 refine Ah fun K k=>?_
 go_wp2
 refine k.o _ _ ?_
 clear k K
 refine Ah fun K k=>?_
 go_wp2_with (first
  |(go_at_call 21;go_loud ((with_reducible refine (OB _).mono ?_);rintro e w1 ⟨gf,aw,dg,b8,ci,D,ap,rfl,hm,hf,cy,hb⟩;have HA:=yb (And.intro hm (And.intro hf (And.intro cy hb)));clear hm hf cy hb;obtain ⟨B,au⟩:∃B,B=La aw b8 D ap:=⟨_,rfl⟩;rw[<-au];have bh:=yb au;have HL:Hid (B.length=26):=yb (by cases au;rfl);have cv:Hid (∀v∈B,v.oneCell'=true):=yb (by cases au;exact yR.1 (show (La aw b8 D ap).all (fun v=>v.oneCell')=true by rfl));clear au))
  |(with_reducible refine zb rfl 35 _ _ rfl w1.heap.size B.toArray (by kernel_rfl) (by kernel_rfl) 35 _ (World.alloc_heap_new _ _) (by rw[yq,HL.o];kernel_rfl) (by simp[HL.o]) (yB cv.o) ?_;rw[World.setRow_alloc_new]))
 refine k.o _ _ ?_
 clear k K
 have bb:=(yg w1.heap.size w1).alloc (yf _) (.cells B.toArray 35)
 have bd:=World.alloc_heap_new w1 (.cells B.toArray 35)
 have c8:Below w.heap.size w (w1.alloc (.cells B.toArray 35)):=HA.o.2.2.2.trans (bb.mono HA.o.2.2.2.size)
 have bx:=yb (HA.o.1.up bb)
 have cc:=yb (HA.o.2.1.up bb)
 have ce:Hid (w.heap.size<=w1.heap.size):=yb HA.o.2.2.2.size
 have dl:=yb HA.o.2.2.1
 generalize da:w1.heap.size=b1 at bd ce ⊢
 clear da bb
 generalize w1.alloc _=U at bd c8 bx cc ⊢
 have cg:=yb bd;have cn:=yb c8
 clear bd c8 HA
 refine Ah fun K k=>?_
 go_wp2_with (first
  |(go_at_call 23;with_reducible refine (Bp 3 2 _).mono ?_;rintro e w2 ⟨rfl,h2⟩;have HA:=yb h2;clear h2)
  |(go_at_call 23;with_reducible refine (Bp 2 3 _).mono ?_;rintro e w3 ⟨rfl,h3⟩;have HB:=yb h3;clear h3)
  |(go_at_call 22;with_reducible refine (Im 6 _ _ _ _ _ _ _ _ _ _ _ _ _ _ _ _ _).mono ?_;rintro e w4 ⟨gr,rfl,hg,s,d5⟩;have HC:=yb (And.intro hg (And.intro s d5));clear hg s d5))
 refine k.o _ _ ?_
 clear k K
 have cd:Below U.heap.size U w4:=(HA.o.trans (HB.o.mono HA.o.size)).trans (HC.o.2.2.mono (by have:=HA.o.size;have:=HB.o.size;omega))
 have A:=(yg w4.heap.size w4).alloc (yf _) (.cells #[iV 6,iV 0,iV 0,.string ⟨#[]⟩,iV 0,.slice (some (aV gr 0)) 2 2] 26)
 have f:=World.alloc_heap_new w4 (.cells #[iV 6,iV 0,iV 0,.string ⟨#[]⟩,iV 0,.slice (some (aV gr 0)) 2 2] 26)
 have ba:=(A.block gr (yd.1 HC.o.2.1).1).trans HC.o.2.1
 have ab:=cd.trans (A.mono cd.size)
 generalize d8:w4.heap.size=b2 at f ⊢
 clear d8 cd A HA HB HC
 generalize w4.alloc _=V at f ba ab ⊢
 have be:Hid (Below w.heap.size w V):=yb (cn.o.trans (ab.mono cn.o.size))
 have d6:=yb (bx.o.up ab)
 have dd:=yb (cc.o.up ab)
 have bz:Hid (V.heap[b1]?=some (.cells B.toArray 35 (0,0))):=yb ((ab.block _ (yd.1 cg.o).1).trans cg.o)
 have HS:Hid (DO V B (DU BS)):=yb (by
  rw[bh.o]
  exact d6.o.ok (Ui dd.o) (HV.o.below be.o HV.o.1) (HU.o.up be.o) RI RH)
 have cx:Hid (AH (fun b=>b < V.heap.size) V Ti (tC 6 gr)):=yb (Io 6 (yd.1 ba).1 (ca:=xC 1 3 2 Gd 0) (cb:=xC 1 2 3 Gd 0) ba (C8 3 2) (C8 2 3))
 have d7:Hid (V.rangeAt b2 0 (tC 6 gr)):=yb (Ar (t:=26) f)
 have N:Hid (V.rangeAt b1 0 B):=yb (Ar bz.o)
 have u:Hid (b1 < V.heap.size∧b2 < V.heap.size∧w.heap.size<=b1):=yb ⟨(yd.1 bz.o).1,(yd.1 f).1,ce.o⟩
 have M:Hid ((Tryz.prog.info? 35).map (·.size)=some B.length):=yb (by rw[HL.o];kernel_rfl)
 have cf:=yb (IF HS.o cx.o)
 rw[Tj] at cf
 clear f ba ab bx cc cg cn ce
 refine Ah fun K k=>?_
 go_wp2_with (first
  |(with_reducible refine yj rfl 35 _ rfl b1 0 (by kernel_rfl) B _ N.o qV rfl M.o ?_)
  |(with_reducible refine yj rfl 26 _ rfl b2 0 (by kernel_rfl) (tC 6 gr) _ d7.o qM rfl (by kernel_rfl) ?_)
  |(go_at_call 9;go_loud ((with_reducible refine cf.o.mono ?_);rintro e m ⟨rfl,h5⟩;have j:=yb h5;clear h5;unfold Dm.v;dsimp only)))
 refine k.o _ _ ?_
 clear k K cf
 have A:=(yg m.heap.size m).alloc (yf _) (.cells #[iV 1,iV (-1),iV 0] 39)
 have f:=World.alloc_heap_new m (.cells #[iV 1,iV (-1),iV 0] 39)
 have cm:=j.o.trans (A.mono j.o.size)
 have cu:Hid (V.heap.size<=m.heap.size):=yb j.o.size
 generalize df:m.heap.size=b3 at f cu ⊢
 clear df A j
 generalize m.alloc _=W3 at f cm ⊢
 have S:=yb cm
 have c9:=yb f
 clear cm f
 have q:Hid (W3.rangeAt b1 0 B):=yb (A0 N.o (S.o.block _ u.o.1))
 have bm:Hid (W3.rangeAt b2 0 (tC 6 gr)):=yb (A0 d7.o (S.o.block _ u.o.2.1))
 have E:=yb (DP (HS.o.up S.o) (cx.o.same (fun b hb=>yv hb S.o.size) (fun b hb=>S.o.block b hb)))
 rw[Ry] at E
 refine Ah fun K k=>?_
 go_wp2_with (first
  |(with_reducible refine yj rfl 35 _ rfl b1 0 (by kernel_rfl) B _ q.o qV rfl M.o ?_)
  |(with_reducible refine yj rfl 26 _ rfl b2 0 (by kernel_rfl) (tC 6 gr) _ bm.o qM rfl (by kernel_rfl) ?_)
  |(go_at_call 10;(with_reducible refine E.o.mono ?_);rintro e m ⟨rfl,h5⟩;have j:=yb h5;clear h5;unfold Rt.v;dsimp only))
 refine k.o _ _ ?_
 clear k K E q bm
 have A:=(yg m.heap.size m).alloc (yf _) (.cells #[iV 1500,iV 1] 44)
 have f:=World.alloc_heap_new m (.cells #[iV 1500,iV 1] 44)
 have bi:=j.o.trans (A.mono j.o.size)
 have d4:Hid (V.heap.size<=m.heap.size):=yb (by have:=j.o.size;have:=S.o.size;omega)
 generalize db:m.heap.size=b5 at f d4 ⊢
 clear db A j
 generalize m.alloc _=W4 at f bi ⊢
 have dq:Hid (Below V.heap.size V W4):=yb (S.o.trans (bi.mono S.o.size))
 have dt:Hid (W4.heap[b3]?=some (.cells #[iV 1,iV (-1),iV 0] 39 (0,0))):=yb ((bi.block _ (yd.1 c9.o).1).trans c9.o)
 have ei:=yb f
 clear bi f S c9
 rename Hid (Below V.heap.size V W4)=>R
 rename Hid (W4.heap[b3]?=_)=>aq
 rename Hid (W4.heap[b5]?=_)=>ag
 refine Ah fun K k=>?_
 obtain ⟨m1,m2,m3,hm⟩:∃m1 m2 m3:Int,Fi (DU BS) (Ln 3 (Bt 3 1) (Bt 4 3))=((⟨m1,m2,m3⟩:Dm),(180:Int)):=⟨(Fi (DU BS) (Ln 3 (Bt 3 1) (Bt 4 3))).1.l,(Fi (DU BS) (Ln 3 (Bt 3 1) (Bt 4 3))).1.h,(Fi (DU BS) (Ln 3 (Bt 3 1) (Bt 4 3))).1.a,by rw[<-Uf]⟩
 refine RD (W0:=W4) (B1:=b1) (cs:=B) (x:=DU BS) (er:=180) _ rfl rfl rfl (yv u.o.1 R.o.size) (A0 N.o (R.o.block _ u.o.1)) M.o (HS.o.up R.o) hm ?_
 intro y W5 b7 G J H L r hb X s
 have e:=Gp [36,37,38,39,40,35,41,42,7,8] (G.trans rfl) J H
 clear hm
 simp only[qm,List.foldl_nil,zZ,xF,xG] at e
 rw[L,r] at e
 generalize y.tmps.getD 36 undef=di at e
 generalize y.tmps.getD 37 undef=ea at e
 generalize y.tmps.getD 38 undef=dy at e
 generalize y.tmps.getD 39 undef=dj at e
 generalize y.tmps.getD 40 undef=du at e
 generalize y.tmps.getD 35 undef=e9 at e
 generalize y.tmps.getD 41 undef=dz at e
 generalize y.tmps.getD 42 undef=dp at e
 subst e
 clear G J H L r
 have P:Hid (Below V.heap.size V W5):=yb (R.o.trans (hb.mono R.o.size))
 have ao:Hid (W5.heap[b3]?=some (.cells #[iV 1,iV (-1),iV 0] 39 (0,0))):=yb ((hb.block _ (yd.1 aq.o).1).trans aq.o)
 have ax:Hid (W5.heap[b5]?=some (.cells #[iV 1500,iV 1] 44 (0,0))):=yb ((hb.block _ (yd.1 ag.o).1).trans ag.o)
 clear hb X s aq ag R
 refine k.o _ _ ?_
 clear k K
 refine Ah fun K k=>?_
 refine RE (W0:=W5) (B1:=b1) (cs:=B) (x:=DU BS) (er:=0) _ rfl rfl rfl (yv u.o.1 P.o.size) (A0 N.o (P.o.block _ u.o.1)) M.o (HS.o.up P.o) Tk ?_
 intro y W6 b9 G J H L r hb X s
 have e:=Gp [44,45,46,47,48,43,49,50,9,10] (G.trans rfl) J H
 simp only[qm,List.foldl_nil,zZ,xF,xG] at e
 rw[L,r] at e
 generalize y.tmps.getD 44 undef=dm at e
 generalize y.tmps.getD 45 undef=ec at e
 generalize y.tmps.getD 46 undef=v46 at e
 generalize y.tmps.getD 47 undef=e8 at e
 generalize y.tmps.getD 48 undef=e7 at e
 generalize y.tmps.getD 43 undef=dv at e
 generalize y.tmps.getD 49 undef=dh at e
 generalize y.tmps.getD 50 undef=e3 at e
 subst e
 clear G J H L r
 have O:Hid (Below V.heap.size V W6):=yb (P.o.trans (hb.mono P.o.size))
 have ar:Hid (W6.heap[b3]?=some (.cells #[iV 1,iV (-1),iV 0] 39 (0,0))):=yb ((hb.block _ (yd.1 ao.o).1).trans ao.o)
 have az:Hid (W6.heap[b5]?=some (.cells #[iV 1500,iV 1] 44 (0,0))):=yb ((hb.block _ (yd.1 ax.o).1).trans ax.o)
 have ai:=yb s
 have dw:Hid (W5.heap.size<=b9):=yb X
 clear hb X s ao ax P
 refine k.o _ _ ?_
 clear k K
 refine Ah fun K k=>?_
 obtain ⟨m1,m2,hm⟩:∃m1 m2:Int,Bv (DU BS) (Ln 6 (Bt 1 0) (Bt 0 0))=((⟨m1,m2⟩:Rt),(120:Int)):=⟨(Bv (DU BS) (Ln 6 (Bt 1 0) (Bt 0 0))).1.n,(Bv (DU BS) (Ln 6 (Bt 1 0) (Bt 0 0))).1.d,by rw[<-Ug]⟩
 refine RF (W0:=W6) (B1:=b1) (cs:=B) (x:=DU BS) (er:=120) _ rfl rfl rfl (yv u.o.1 O.o.size) (A0 N.o (O.o.block _ u.o.1)) M.o (HS.o.up O.o) hm ?_
 intro y W7 e5 G J H L r hb X s
 have e:=Gp [52,53,54,55,56,51,57,58,11,12] (G.trans rfl) J H
 clear hm
 simp only[qm,List.foldl_nil,zZ,xF,xG] at e
 rw[L,r] at e
 generalize y.tmps.getD 52 undef=eh at e
 generalize y.tmps.getD 53 undef=dr at e
 generalize y.tmps.getD 54 undef=dn at e
 generalize y.tmps.getD 55 undef=e2 at e
 generalize y.tmps.getD 56 undef=eg at e
 generalize y.tmps.getD 51 undef=v51 at e
 generalize y.tmps.getD 57 undef=ee at e
 generalize y.tmps.getD 58 undef=dk at e
 subst e
 clear G J H L r
 have Q:Hid (Below V.heap.size V W7):=yb (O.o.trans (hb.mono O.o.size))
 have ae:Hid (W7.heap[b3]?=some (.cells #[iV 1,iV (-1),iV 0] 39 (0,0))):=yb ((hb.block _ (yd.1 ar.o).1).trans ar.o)
 have aj:Hid (W7.heap[b5]?=some (.cells #[iV 1500,iV 1] 44 (0,0))):=yb ((hb.block _ (yd.1 az.o).1).trans az.o)
 have ay:Hid (W7.heap[b9]?=some (.cells #[iV (-6),iV 1] 44 (0,0))):=yb ((hb.block _ (yd.1 ai.o).1).trans ai.o)
 clear hb X s ar az ai O
 refine k.o _ _ ?_
 clear k K
 refine Ah fun K k=>?_
 obtain ⟨m1,m2,hm⟩:∃m1 m2:Int,Bv (DU BS) (Bt 1073741825 0)=((⟨m1,m2⟩:Rt),(2:Int)):=⟨(Bv (DU BS) (Bt 1073741825 0)).1.n,(Bv (DU BS) (Bt 1073741825 0)).1.d,by rw[<-Rz]⟩
 refine RG (W0:=W7) (B1:=b1) (cs:=B) (x:=DU BS) (er:=2) _ rfl rfl rfl (yv u.o.1 Q.o.size) (A0 N.o (Q.o.block _ u.o.1)) M.o (HS.o.up Q.o) hm ?_
 intro y W8 b13 G J H L r hb X s
 have e:=Gp [60,61,62,59,63,64,13,14] (G.trans rfl) J H
 clear hm
 simp only[qm,List.foldl_nil,zZ,xF,xG] at e
 rw[L,r] at e
 generalize y.tmps.getD 60 undef=ef at e
 generalize y.tmps.getD 61 undef=e4 at e
 generalize y.tmps.getD 62 undef=e6 at e
 generalize y.tmps.getD 59 undef=ej at e
 generalize y.tmps.getD 63 undef=ed at e
 generalize y.tmps.getD 64 undef=dx at e
 subst e
 clear G J H L r
 have W:Hid (Below V.heap.size V W8):=yb (Q.o.trans (hb.mono Q.o.size))
 have ak:Hid (W8.heap[b3]?=some (.cells #[iV 1,iV (-1),iV 0] 39 (0,0))):=yb ((hb.block _ (yd.1 ae.o).1).trans ae.o)
 have an:Hid (W8.heap[b5]?=some (.cells #[iV 1500,iV 1] 44 (0,0))):=yb ((hb.block _ (yd.1 aj.o).1).trans aj.o)
 have am:Hid (W8.heap[b9]?=some (.cells #[iV (-6),iV 1] 44 (0,0))):=yb ((hb.block _ (yd.1 ay.o).1).trans ay.o)
 clear hb X s ae aj ay Q
 refine k.o _ _ ?_
 clear k K
 obtain ⟨z1,z2,cr⟩:∃z1 z2:Int,Bv (DU BS) L7=((⟨z1,z2⟩:Rt),(180:Int)):=⟨(Bv (DU BS) L7).1.n,(Bv (DU BS) L7).1.d,by rw[<-Tl]⟩
 have E:=yb (DP (HS.o.up W.o) ((VB:AH (fun b=>b < W8.heap.size) W8 L7 (xC 0 0 0 Gd 0))))
 rw[cr] at E
 clear cr
 unfold xC Gd at E
 have q:Hid (W8.rangeAt b1 0 B):=yb (A0 N.o (W.o.block _ u.o.1))
 refine Ah fun K k=>?_
 go_wp2_with (first
  |(with_reducible refine yj rfl 35 _ rfl b1 0 (by kernel_rfl) B _ q.o qV rfl M.o ?_)
  |(go_at_call 10;(with_reducible refine E.o.mono ?_);rintro e m ⟨rfl,h5⟩;have j:=yb h5;clear h5;unfold Rt.v;dsimp only))
 refine k.o _ _ ?_
 clear k K E q
 have A:=(yg m.heap.size m).alloc (yf _) (.cells #[iV z1,iV z2] 44)
 have f:=World.alloc_heap_new m (.cells #[iV z1,iV z2] 44)
 have hb:=j.o.trans (A.mono j.o.size)
 have cj:Hid (W8.heap.size<=m.heap.size):=yb j.o.size
 generalize cp:m.heap.size=ek at f cj ⊢
 clear cp A j
 generalize m.alloc _=W9 at f hb ⊢
 have T:Hid (Below V.heap.size V W9):=yb (W.o.trans (hb.mono W.o.size))
 have ad:Hid (W9.heap[b3]?=some (.cells #[iV 1,iV (-1),iV 0] 39 (0,0))):=yb ((hb.block _ (yd.1 ak.o).1).trans ak.o)
 have af:Hid (W9.heap[b5]?=some (.cells #[iV 1500,iV 1] 44 (0,0))):=yb ((hb.block _ (yd.1 an.o).1).trans an.o)
 have b4:Hid (W9.heap[b9]?=some (.cells #[iV (-6),iV 1] 44 (0,0))):=yb ((hb.block _ (yd.1 am.o).1).trans am.o)
 clear hb f W ak an am
 have E:=yb (DP (HS.o.up T.o) ((JY 2 0 0 sK 0 (by decide):AH (fun b=>b < W9.heap.size) W9 (DU BS).start (xC 2 0 0 sK 0))))
 rw[show Bv (DU BS) (Ex.mk 2 0 0 sK 0 [])=(⟨3000,1⟩,0) from RC] at E
 have q:Hid (W9.rangeAt b1 0 B):=yb (A0 N.o (T.o.block _ u.o.1))
 have de:Hid (W9.rangeAt b1 13 (xC 2 0 0 sK 0)):=yb (DC ((La aw b8 D ap).take 13) (xC 2 0 0 sK 0) ((La aw b8 D ap).drop 19) q.o (by rw[bh.o];rfl) rfl)
 refine Ah fun K k=>?_
 go_wp2_with (first
  |(with_reducible refine yj rfl 35 _ rfl b1 0 (by kernel_rfl) B _ q.o qV rfl M.o ?_)
  |(with_reducible refine yj rfl 26 _ rfl b1 13 (by kernel_rfl) (xC 2 0 0 sK 0) _ de.o qM rfl (by kernel_rfl) ?_)
  |(go_at_call 10;(with_reducible refine E.o.mono ?_);rintro e m ⟨rfl,h5⟩;have j:=yb h5;clear h5;unfold Rt.v;dsimp only))
 refine k.o _ _ ?_
 clear k K E q
 have A:=(yg m.heap.size m).alloc (yf _) (.cells #[iV 3000,iV 1] 44)
 have f:=World.alloc_heap_new m (.cells #[iV 3000,iV 1] 44)
 have hb:=j.o.trans (A.mono j.o.size)
 have co:Hid (W9.heap.size<=m.heap.size):=yb j.o.size
 generalize ct:m.heap.size=cl at f co ⊢
 clear ct A j
 generalize m.alloc _=b0 at f hb ⊢
 have I:Hid (Below V.heap.size V b0):=yb (T.o.trans (hb.mono T.o.size))
 have a2:Hid (b0.heap[b3]?=some (.cells #[iV 1,iV (-1),iV 0] 39 (0,0))):=yb ((hb.block _ (yd.1 ad.o).1).trans ad.o)
 have a0:Hid (b0.heap[b5]?=some (.cells #[iV 1500,iV 1] 44 (0,0))):=yb ((hb.block _ (yd.1 af.o).1).trans af.o)
 have Z:Hid (b0.heap[b9]?=some (.cells #[iV (-6),iV 1] 44 (0,0))):=yb ((hb.block _ (yd.1 b4.o).1).trans b4.o)
 have a6:=yb f
 clear hb f T ad af b4
 have aa:=yb (L6 (HS.o.up I.o) rfl rfl rfl (by simp[DU]) (by simp[DU]) (by simp[DU]))
 rw[Rx] at aa
 have q:Hid (b0.rangeAt b1 0 B):=yb (A0 N.o (I.o.block _ u.o.1))
 refine Ah fun K k=>?_
 go_wp2_with (first
  |(refine Da rfl 35 _ rfl b1 0 rfl B _ q.o qV rfl M.o ?_)
  |(go_at_call 24;(with_reducible refine aa.o.mono ?_);rintro e m ⟨rfl,h5⟩;have j:=yb h5;clear h5))
 refine k.o _ _ ?_
 clear k K aa q
 have C:Hid (Below V.heap.size V m):=yb (I.o.trans (j.o.mono I.o.size))
 have bq:Hid (m.heap[b3]?=some (.cells #[iV 1,iV (-1),iV 0] 39 (0,0))):=yb ((j.o.block _ (yd.1 a2.o).1).trans a2.o)
 have bp:Hid (m.heap[b5]?=some (.cells #[iV 1500,iV 1] 44 (0,0))):=yb ((j.o.block _ (yd.1 a0.o).1).trans a0.o)
 have bt:Hid (m.heap[b9]?=some (.cells #[iV (-6),iV 1] 44 (0,0))):=yb ((j.o.block _ (yd.1 Z.o).1).trans Z.o)
 have bo:Hid (m.heap[cl]?=some (.cells #[iV 3000,iV 1] 44 (0,0))):=yb ((j.o.block _ (yd.1 a6.o).1).trans a6.o)
 clear j I a2 a0 Z a6
 have bw:=yb (d6.o.up C.o)
 have bu:Hid (m.rangeAt b1 0 B):=yb (A0 N.o (C.o.block _ u.o.1))
 have d3:Hid (m.cell? (aV b1 21)=some (.slice (some (aV D 0)) 1 1)):=yb (by
  have:=bu.o 21 (.slice (some (aV D 0)) 1 1) (by rw[bh.o];rfl)
  simpa using this)
 have dc:Hid (b1 < m.heap.size):=yb (yv u.o.1 C.o.size)
 refine Ah fun K k=>?_
 refine DM (by kernel_rfl) (fun W'=>Below m.heap.size m W') 5 ?_
 have bg:Hid (Below m.heap.size m m.drew):=yb (yg _ _).drew
 refine AP (i:=0) (v:=pV b1 21) rfl (by kernel_rfl) (by kernel_rfl) (by kernel_rfl) (fun _ _ _ h=>h) (by kernel_rfl) (Or.inl ⟨by rfl,?_⟩) bg.o ?_
 ·intro w' _;go_simp
 refine AP (i:=1) (v:=.slice (some (aV D 0)) 1 1) rfl (by kernel_rfl) (by kernel_rfl) (by kernel_rfl) (fun _ _ _ h=>h) (by kernel_rfl) (Or.inl ⟨by rfl,?_⟩) bg.o ?_
 ·intro w' d9
  have c:=(d9.cell (p:=(aV b1 21)) dc.o).trans d3.o
  go_simp
 refine A7 (i:=2) (by kernel_rfl) rfl (fun K k=>?_)
 go_simp
 refine (Bp 40 1 _).mono ?_
 rintro e w6 ⟨rfl,cw⟩
 have Y:Hid (Below m.heap.size m w6):=yb (bg.o.trans cw)
 clear cw
 refine k.o _ _ (fun _=>Y.o) ?_
 clear k K
 refine A7 (i:=3) (by kernel_rfl) rfl (fun K k=>?_)
 go_simp
 refine k.o _ _ (fun _=>Y.o) ?_
 clear k K
 refine A7 (i:=4) (by kernel_rfl) rfl (fun K k=>?_)
 go_simp
 refine k.o _ _ (fun _=>Y.o) ?_
 clear k K
 have F:=yb (bw.o.up Y.o)
 refine A7 (i:=5) (by kernel_rfl) rfl (fun K k=>?_)
 rw[yw (by rfl)]
 refine zj 26 _ _ rfl D 9 #[iV 1,iV 40,iV 1,.string ⟨#[]⟩,iV 0,.slice none 0 0] rfl rfl (Ay F.o.b31 (by simp[L8,tC,L9])) (by kernel_rfl) (by simp[Value.oneCell']) ?_
 have hw:=Ab D 66 [iV 1,iV 40,iV 1,.string ⟨#[]⟩,iV 0,.slice none 0 0] 9 w6 L8 (tC 6 gf) (L9 ci) F.o.b31 rfl rfl
 have ck:Bh w6 (w6.setCells D 9 (#[iV 1,iV 40,iV 1,.string ⟨#[]⟩,iV 0,.slice none 0 0]:Array Value).toList) D (L8++(xC 1 40 1 Gd 0++L9 ci)) 66:=hw
 clear hw
 generalize w6.setCells _ _ _=z at ck ⊢
 have HW:=yb ck
 clear ck
 refine k.o _ _ (by intro h;cases h) ?_
 clear k K
 refine AQ (by kernel_rfl) ?_
 refine k.o _ _ ?_
 clear k K
 have HO:Hid (∀(g:Nat) (row:Array Value) (ty:TypeId),w6.heap[g]?=some (.cells row ty (0,0))->ty≠66->z.heap[g]?=some (.cells row ty (0,0))):=yb (fun g row ty h ch=>(HW.o.block g (fun e=>by
  rw[e,F.o.b31] at h
  exact ch (by injection h with h;injection h with h1 h2;exact h2.symm))).trans h)
 have bv:PT w.heap.size z aw dg b8 ci D ap (xC 1 40 1 Gd 0):=⟨F.o.lo13,HO.o _ _ _ F.o.b13 (by decide),HO.o _ _ _ F.o.b16 (by decide),HO.o _ _ _ F.o.b18 (by decide),HO.o _ _ _ F.o.b28 (by decide),HW.o.row,HO.o _ _ _ F.o.b36 (by decide)⟩
 have a8:Below w.heap.size w z:=HW.o.below (be.o.trans ((C.o.trans (Y.o.mono C.o.size)).mono be.o.size)) F.o.lo13.2.2.2.2.1
 have bk:DO z B (DU (Bt 40 1)):=by
  rw[bh.o]
  exact bv.ok (C8 40 1) (HV.o.below a8 HV.o.1) (HU.o.up a8) PS PR
 have bn:=yb a8
 have aa:=yb (L6 bk rfl rfl rfl (by simp[DU]) (by simp[DU]) (by simp[DU]))
 rw[PQ] at aa
 have up:∀ {g:Nat} {row:Array Value} {ty:TypeId},m.heap[g]?=some (.cells row ty (0,0))->ty≠66->z.heap[g]?=some (.cells row ty (0,0)):=fun h ch=>HO.o _ _ _ ((Y.o.block _ (yd.1 h).1).trans h) ch
 have bj:=up ((C.o.block _ u.o.1).trans bz.o) (by decide)
 have a7:=up bq.o (by decide)
 have av:=up bp.o (by decide)
 have ac:=up bt.o (by decide)
 have ah:=up bo.o (by decide)
 have cz:Hid (z.rangeAt b1 0 B):=yb (Ar bj)
 have d0:z.cell? (aV b3 0)=some (iV 1):=by simp[World.cell?,a7]
 have d1:z.cell? (aV b3 1)=some (iV (-1)):=by simp[World.cell?,a7]
 have d2:z.cell? (aV b3 2)=some (iV 0):=by simp[World.cell?,a7]
 have e0:z.cell? (aV b5 0)=some (iV 1500):=by simp[World.cell?,av]
 have e1:z.cell? (aV b5 1)=some (iV 1):=by simp[World.cell?,av]
 have f0:z.cell? (aV b9 0)=some (iV (-6)):=by simp[World.cell?,ac]
 have f1:z.cell? (aV b9 1)=some (iV 1):=by simp[World.cell?,ac]
 have k0:z.cell? (aV cl 0)=some (iV 3000):=by simp[World.cell?,ah]
 have k1:z.cell? (aV cl 1)=some (iV 1):=by simp[World.cell?,ah]
 clear bv a8 bk up bj a7 av ac ah bq bp bt bo bw F bu Y bg HO HW
 go_wp2_with (first
  |(refine Da rfl 35 _ rfl b1 0 rfl B _ cz.o qV rfl M.o ?_)
  |(go_at_call 24;(with_reducible refine aa.o.mono ?_);rintro e eb ⟨rfl,h5⟩;have cq:=yb h5;clear h5))
 go_ret
 exact ⟨rfl,bn.o.trans (cq.o.mono bn.o.size)⟩
def VI(_:Nat):Prop:=False
theorem UZ{w:World}{e:Ex}{cs:LV}(h:AH (fun b=>b < w.heap.size) w e cs):AH (GF VI w) w e cs:=h.same (fun _ hb=>⟨fun h=>h,hb⟩) (fun _ _=>rfl)
theorem V0{w:World}{e:Ex}{cs:LV}(h:AH (GF VI w) w e cs):AH (fun b=>b < w.heap.size) w e cs:=h.same (fun _ hb=>hb.2) (fun _ _=>rfl)
structure Je (w:World) (cs xs:List Value) (x:AB) (e:Ex) (W:World):Prop where
 below:Below w.heap.size w W
 rs:W.rangeAt w.heap.size 0 cs
 rx:W.rangeAt (w.heap.size+1) 0 xs
 sv:∃L,BT (fun b=>b < W.heap.size) W L cs x
 ev:AH (fun b=>b < W.heap.size) W e xs
 gv:GV W
 gu:GU W
 lt:w.heap.size+2<=W.heap.size
theorem Je.up{w W W':World}{cs xs:LV}{x:AB}{e:Ex}(h:Je w cs xs x e W)(hb:Below W.heap.size W W'):Je w cs xs x e W':=by
 obtain ⟨L,c⟩:=h.sv
 have d:=h.lt
 exact ⟨h.below.trans (hb.mono h.below.size),A0 h.rs (hb.block _ (by omega)),A0 h.rx (hb.block _ (by omega)),⟨L,c.same (fun b a=>yv a hb.size) (fun b a=>hb.block b a)⟩,
  h.ev.same (fun b a=>yv a hb.size) (fun b a=>hb.block b a),h.gv.below hb h.gv.1,h.gu.up hb,yu h.lt hb.size⟩
theorem Je.ok{w W:World}{cs xs:LV}{x:AB}{e:Ex}(h:Je w cs xs x e W)(a:EP x=true):DO W cs x:=⟨h.sv,(OI a).1,h.gv,h.gu,(OI a).2⟩
theorem TB{w:World}{cs xs:LV}{x:AB}{e:Ex}{N:NP}{L:Bz}(h:BT N w L cs x)(hN:∀b,N b->b < w.heap.size)(f:AH N w e xs)(c:GV w)(d:GU w):
  Je w cs xs x e ((w.alloc (.cells cs.toArray 35)).alloc (.cells xs.toArray 26)):=by
 have b1:Below w.heap.size w (w.alloc (.cells cs.toArray 35)):=(yg _ _).alloc (yf _) _
 have b2:Below (w.heap.size+1) (w.alloc (.cells cs.toArray 35)) ((w.alloc (.cells cs.toArray 35)).alloc (.cells xs.toArray 26)):=(yg _ _).alloc (by simp) _
 have hb:=b1.trans (b2.mono (Nat.le_succ _))
 refine ⟨hb,?_,?_,⟨L,h.same (fun b a=>yv (hN b a) hb.size) (fun b a=>hb.block b (hN b a))⟩,f.same (fun b a=>yv (hN b a) hb.size) (fun b a=>hb.block b (hN b a)),c.below hb c.1,d.up hb,by simp⟩
 ·exact Ar ((b2.block _ (xQ _)).trans (World.alloc_heap_new _ _))
 ·have:=World.alloc_heap_new (w.alloc (.cells cs.toArray 35)) (.cells xs.toArray 26)
  exact Ar (by simpa using this)
end Go.Proofs.YtjofgpfocadomaaGreatDoor
namespace Go.Proofs.YtjofgpfocadomaaGreatDoor
open Go.RowKit Go.ChangeShapes Go.WideShapes
theorem own:ownKnob Tryz.prog.godebug=none:=by kernel_rfl
theorem QJ:laidOutB Tryz.prog=true:=by kernel_rfl
def IL:List (String × DataW Unit):=[("acequia/units.none",Rows.laid_acequia_units_none),("acequia/units.litres",Rows.laid_acequia_units_litres),("acequia/units.hours",Rows.laid_acequia_units_hours),("acequia/units.ares",Rows.laid_acequia_units_ares),("acequia/units.flow",Rows.laid_acequia_units_flow),("acequia/units.need",Rows.laid_acequia_units_need)]
theorem S0:Tryz.prog.cellsOf 68=3:=by kernel_rfl
theorem DT{W:World}{name:String}{d:DataW Unit}{x y z:Int}{rest:List (String × DataW Unit)}{g:Nat}(b:Tryz.prog.globalNamed name=some g)(e:(Tryz.prog.globals[g]?).map (·.type)=some 68)
 (h:laidMet Tryz.prog ((name,d)::rest) W)(hd:d=Lib.tabData .i64 [x,y,z]):W.rangeAt g 0 (Dm.row ⟨x,y,z⟩):=by
 subst hd
 have c:=Lib.tabIs_of_head b e j3 qQ Hw S0 h
 intro j v a
 match j,a with
 |0,a=>cases a;exact c.cell b 0 (by simp)
 |1,a=>cases a;exact c.cell b 1 (by simp)
 |2,a=>cases a;exact c.cell b 2 (by simp)
theorem VZ:Tryz.prog.globalNamed "acequia/units.hours" =some 0:=by kernel_rfl
theorem Wb:(Tryz.prog.globals[0]?).map (·.type)=some 68:=by kernel_rfl
theorem Wc:Tryz.prog.globalNamed "acequia/units.litres" =some 1:=by kernel_rfl
theorem Wd:(Tryz.prog.globals[1]?).map (·.type)=some 68:=by kernel_rfl
theorem We:Tryz.prog.globalNamed "acequia/units.need" =some 2:=by kernel_rfl
theorem Wf:(Tryz.prog.globals[2]?).map (·.type)=some 68:=by kernel_rfl
theorem Wg:Tryz.prog.globalNamed "acequia/units.flow" =some 3:=by kernel_rfl
theorem Wh:(Tryz.prog.globals[3]?).map (·.type)=some 68:=by kernel_rfl
theorem Wi:Tryz.prog.globalNamed "acequia/units.none" =some 4:=by kernel_rfl
theorem Wj:(Tryz.prog.globals[4]?).map (·.type)=some 68:=by kernel_rfl
theorem Wk:Tryz.prog.globalNamed "acequia/units.ares" =some 5:=by kernel_rfl
theorem Wl:(Tryz.prog.globals[5]?).map (·.type)=some 68:=by kernel_rfl
theorem JM{W:World}(h:laidMetH Tryz.prog IL W)(b:GV W):GU W:=by
 rw[MakeChecks.laidMetH_plain _ _ _ (by kernel_rfl)] at h
 have h1:=laidMet.tail h
 have h2:=laidMet.tail h1
 have h3:=laidMet.tail h2
 have a:=laidMet.tail h3
 have h5:=laidMet.tail a
 exact ⟨b.1,DT VZ Wb h2 rfl,DT Wc Wd h1 rfl,DT We Wf h5 rfl,DT Wg Wh a rfl,DT Wi Wj h rfl,DT Wk Wl h3 rfl⟩
theorem TC(os:Os)(args:Array Value):laidMetH Tryz.prog IL ((World.doorLaid Tryz.prog 400 os).forCall (fun _ _=>0) ⟨#[],args,[]⟩).memory:=
 laidMetH_of_parts3 (fuel:=8) (laidMet_of_run' 8 (by kernel_rfl) (by kernel_rfl)) (by kernel_rfl) (by kernel_rfl)
theorem Na{W:World}(h:W.ShapedOpen Tryz.prog):GV W:=by
 obtain ⟨m,a⟩:∃m,W.cell? (aV 6 0)=some (iV m):=Tryz.laysM144.s1_3 W h
 exact ⟨QI a,m,a⟩
theorem GM{H:Type}{enc:TypeId × Value->H}{a:Assume}{C:Checked}{os:Os}{f:FuncId}{fn:Func}{s:ChangeSpec}{g:List PathCond}{apart m c l:Bool}{X:World->Array Value->Prop}
 (F:∀(w w':World) (args:Array Value),w.heap=w'.heap->X w args->X w' args)
 (own:ownKnob C.prog.godebug=none)(h:os.Started)(n:C.prog.inits.idxOf? f=none)(u:C.prog.funcs[f]?=some fn)
 (k:∃(w:World) (tape:Tape) (i:Input),w.os=os∧(w.forCall tape i).Shaped C.prog∧i.vars=[]∧Input.okWide C.prog (w.forCall tape i) .any w.heap.size f i∧
   ((s.pre enc C.prog fn g apart (w.forCall tape i).memory i.args∧X (w.forCall tape i).memory i.args)∧sizedMet enc C.prog fn (OpenSpec.ofChange s) apart (w.forCall tape i).memory i.args)∧a.holds C.prog (lone (Frame.enter C.prog f i.args .normal) [] (w.forCall tape i)))
 (d:∀(W:World) (base:Nat) (args:Array Value) (ds r:List (DataW H)) (b:List MemPlace),
   (∀(j:Nat) t v,fn.params[j]?=some t->args[j]?=some v->Value.okWide C.prog W .any base t v)->
   DataW.Whole enc C.prog fn.params.toList s.vars apart W args.toList ds r b->
   (DataW.weightsEach C.prog (fn.params.toList++s.plain.varTypes C.prog) (ds++r)).all (·<=reachBytes)=true->X W args->W.ShapedOpen C.prog->
   Calls C.prog f args W fun e W'=>∃v,e=.returned v∧s.post enc C.prog fn apart m c l W args v W'):
  ReturnsInHanded a C os f .any (fun w args=>(s.pre enc C.prog fn g apart w args∧X w args)∧sizedMet enc C.prog fn (OpenSpec.ofChange s) apart w args) (s.post enc C.prog fn apart m c l):=by
 refine returnsInHanded_of_calls own h n k ?_
 intro w tape i _ y _ A q _
 obtain ⟨_,_,_,z,o,_,_,_,_,p⟩:=A
 have e:z=fn:=yi (o.symm.trans u)
 subst e
 obtain ⟨⟨⟨ds,r,b,B,_⟩,I⟩,G⟩:=q
 have x:=DataW.Whole.of_heap (w':=w.forCall tape i) (by rfl) B
 refine (d (w.forCall tape i) w.heap.size i.args ds r b p x (G.weights B) (F _ _ _ (by rfl) I) y).mono fun e W' ⟨v,D,E⟩=>?_
 subst D
 exact ChangeSpec.post_blind E
end Go.Proofs.YtjofgpfocadomaaGreatDoor
namespace Go.Proofs.YtjofgpfocadomaaGreatDoor
open Go Go.RowKit
set_option linter.unusedSimpArgs false
set_option linter.unusedVariables false
section
variable{P:Program}{ops:Array Oper}{Q:QT}{md:Region.Mode}{T:World->Prop}{k:Nat}
theorem DI{i j:Nat}{o c:Oper}{fuel:Nat}{b:Array Bool}{a:Act}{w:World}(hr:Region.ready md ops b=[i,j])(q:ops[i]?=some o)(n:ops[j]?=some c)
 (h:∀K:Act->World->Prop,Hid (∀a w,((b.setIfInBounds i true).getD k true=false->T w)->CC P md ops Q T k fuel (b.setIfInBounds i true) a w->K a w)->if Region.wanted o (yielded ops a.tmps)=true then Oper.wp P o a w K Q else K (a.put o.dst undef) w)
 (p:∀K:Act->World->Prop,Hid (∀a w,((b.setIfInBounds j true).getD k true=false->T w)->CC P md ops Q T k fuel (b.setIfInBounds j true) a w->K a w)->if Region.wanted c (yielded ops a.tmps)=true then Oper.wp P c a w K Q else K (a.put c.dst undef) w):CC P md ops Q T k (fuel+1) b a w:=by
 refine ⟨fun h0=>(by rw[hr] at h0;cases h0),fun m d=>?_⟩
 rw[hr] at d
 rcases yI.1 d with rfl|d
 ·exact wpOp_step q (fun g e=>h g (yb fun a w l f=>e a w ⟨l,f⟩))
 ·obtain rfl:=ze.1 d
  exact wpOp_step n (fun g e=>p g (yb fun a w l f=>e a w ⟨l,f⟩))
theorem IM{i j m:Nat}{o l o2:Oper}{fuel:Nat}{b:Array Bool}{a:Act}{w:World}(hr:Region.ready md ops b=[i,j,m])(s:ops[i]?=some o)(q:ops[j]?=some l)(p:ops[m]?=some o2)
 (h:∀K:Act->World->Prop,Hid (∀a w,((b.setIfInBounds i true).getD k true=false->T w)->CC P md ops Q T k fuel (b.setIfInBounds i true) a w->K a w)->if Region.wanted o (yielded ops a.tmps)=true then Oper.wp P o a w K Q else K (a.put o.dst undef) w)
 (r:∀K:Act->World->Prop,Hid (∀a w,((b.setIfInBounds j true).getD k true=false->T w)->CC P md ops Q T k fuel (b.setIfInBounds j true) a w->K a w)->if Region.wanted l (yielded ops a.tmps)=true then Oper.wp P l a w K Q else K (a.put l.dst undef) w)
 (h2:∀K:Act->World->Prop,Hid (∀a w,((b.setIfInBounds m true).getD k true=false->T w)->CC P md ops Q T k fuel (b.setIfInBounds m true) a w->K a w)->if Region.wanted o2 (yielded ops a.tmps)=true then Oper.wp P o2 a w K Q else K (a.put o2.dst undef) w):CC P md ops Q T k (fuel+1) b a w:=by
 refine ⟨fun h0=>(by rw[hr] at h0;cases h0),fun n c=>?_⟩
 rw[hr] at c
 rcases yI.1 c with rfl|c
 ·exact wpOp_step s (fun f d=>h f (yb fun a w g e=>d a w ⟨g,e⟩))
 ·rcases yI.1 c with rfl|c
  ·exact wpOp_step q (fun f d=>r f (yb fun a w g e=>d a w ⟨g,e⟩))
  ·obtain rfl:=ze.1 c
   exact wpOp_step p (fun f d=>h2 f (yb fun a w g e=>d a w ⟨g,e⟩))
end
theorem Q5{left:Nat}{op nn u:Int}{rn:ByteArray}{ri:Int}{args:List Ex}(h:left=0∨args.length≠2):Dq left (.mk op nn u rn ri args)=.mk op nn u rn ri args:=by
 match left,args,h with
 |0,_,_=>rfl
 |l+1,[],_=>rfl
 |l+1,[x],_=>rfl
 |l+1,[x,y],h=>exact absurd rfl (h.resolve_left (by omega))
 |l+1,x::y::z::r,_=>rfl
def VW(left:Nat)(e:Ex):Prop:=∀(G:NP) (w:World) (cs:LV),AH (GF G w) w e cs->(∀k,G k->k < w.heap.size)->
 Calls Tryz.prog 19 #[.agg cs.toArray,.int .i64 left] w fun x w'=>∃a:LV,x=.returned (.agg a.toArray)∧AH (GF G w') w' (Dq left e) a∧Below w.heap.size w w'
structure VS (G:Nat->Prop) (w:World) (row:List Value) (b5 b6:Nat) (ea eb:Ex) (c0 c1:List Value) (W:World):Prop where
 cb:S4 w row W
 l5:w.heap.size+2<=b5
 l6:w.heap.size+2<=b6
 ne:b5≠b6
 h5:W.heap[b5]?=some (.cells c0.toArray 26 (0,0))
 h6:W.heap[b6]?=some (.cells c1.toArray 26 (0,0))
 v0:AH (GF (FL G [w.heap.size,w.heap.size+1,b5,b6]) W) W ea c0
 v1:AH (GF (FL G [w.heap.size,w.heap.size+1,b5,b6]) W) W eb c1
theorem FB{left:Nat}{op nn u:Int}{rn:ByteArray}{ri:Int}{args:List Ex}(h:left=0∨args.length≠2):VW left (.mk op nn u rn ri args):=by
 intro G w cs n _
 rw[Q5 h]
 have d:=yb n
 obtain ⟨a,cap,rfl, -⟩:=TA n (fun _ h=>h) (fun _ _=>rfl)
 clear n
 obtain ⟨row,e⟩:∃r:LV,r=[iV op,iV nn,iV u,.string rn,iV ri,.slice a args.length cap]:=⟨_,rfl⟩
 rw[<-e] at d
 have p:=yb e
 generalize s:args.length=m at*
 have l:left=0∨((((left:Int)==0)=false)∧((m:Int) !=2)=true):=by
  rcases qn left with h0|h0
  ·exact .inl h0
  ·exact .inr ⟨by simp;omega,by have:=h.resolve_left (by omega);simp;omega⟩
 clear h s e
 rcases l with rfl|⟨x,t⟩
 all_goals
  go_enter Tryz.func19,Tryz.ntmps19
  refine Ah fun q k=>?_
  go_wp2
  refine k.o _ _ ?_
  clear k q
  generalize f:(w.alloc _).alloc _=w1
  have b:=Tz f.symm
  obtain ⟨-, -, -, -, -,c5⟩:=Cs b.box
  rw[<-p.o] at b
  have c:=yb b
  clear f b
  go_wp2_with (first
   |(with_reducible refine yj rfl 26 _ rfl w.heap.size 0 (by kernel_rfl) row _ (Ar c.o.box) qM (by kernel_rfl) (C9 d.o.len) ?_)
   |((with_reducible refine Az rfl 26 _ _ rfl (w.heap.size+1) (by kernel_rfl) row (by kernel_rfl) c.o.res (by rw[d.o.len];kernel_rfl) (C9 d.o.len) (At d.o) ?_);intro v g;have j:=yb g;clear g))
  refine Ck rfl rfl j.o.row qM rfl (by rw[d.o.len];kernel_rfl) ?_
  have i:=j.o.below c.o.below (by omega)
  exact ⟨row,rfl,d.o.flux' (Db.below i),i⟩
theorem OS{W:World}{b:Nat}{c0 c1:LV}{t:TypeId}{fr:Nat × Nat}(h:W.heap[b]?=some (.cells (c0++c1).toArray t fr))(_:c0.length=6):W.rangeAt b 0 c0:=fun j v a=>by
 have hr:=Ar h j v (by rw[zn (yA.1 a).1];exact a)
 exact hr
theorem OT{W:World}{b:Nat}{c0 c1:LV}{t:TypeId}{fr:Nat × Nat}(h:W.heap[b]?=some (.cells (c0++c1).toArray t fr))(h0:c0.length=6):W.rangeAt b 6 c1:=fun j v a=>by
 have hr:=Ar h (6+j) v (by rw[yU (by omega),h0,zW];exact a)
 simpa using hr
def Va(op:Int)(x y:Ex):List Ex:=if op=3∨op=5 then [y,x] else [x,y]
theorem S1(left:Nat)(op nn u:Int)(rn:ByteArray)(ri:Int)(x y:Ex):Dq (left+1) (.mk op nn u rn ri [x,y])=.mk op nn u rn ri (Va op (Dq left x) (Dq left y)):=by
 rw[Dq,Va]
theorem BD{G:NP}{w W:World}{op nn u ri:Int}{rn:ByteArray}{a:Option Addr}{cap:Nat}{row:LV}{M b6:Nat}{P V:Ex}{c0 c1:LV}{u0 u1 u3 u7 u8 u9 ah am av ao bd bj ag aw bg b7 az bn ae b8 ap bh au b4 b9 bk bm aj af ba ax bb bo ai bi aq b0 an ak ar ay:Value}
 (a6:rn.size<=maxLen)(hG:∀k,G k->k < w.heap.size)(a0:row=[.int .i64 op,.int .i64 nn,.int .i64 u,.string rn,.int .i64 ri,.slice a 2 cap])(hB:VS G w row M b6 P V c0 c1 W):
  Code.wp Tryz.prog (Gv 3 (Tryz.f19.body.getD .skip)) (bodyPost Tryz.prog Tryz.f19 fun x w'=>∃a8:LV,x=.returned (.agg a8.toArray)∧AH (GF G w') w' (.mk op nn u rn ri (Va op P V)) a8∧Below w.heap.size w w')
   {tmps:=#[u0,u1,.pointer (some ⟨w.heap.size,0,none⟩),u3,.pointer (some ⟨w.heap.size+1,0,none⟩),.pointer (some ⟨M,0,none⟩),.pointer (some ⟨b6,0,none⟩),u7,u8,u9,ah,am,av,ao,bd,bj,ag,aw,bg,b7,az,bn,ae,b8,ap,bh,au,b4,b9,bk,bm,aj,af,ba,ax,bb,bo,ai,bi,aq,b0,an,ak,ar,ay],defers:=[]} W:=by
 have c:=yb hB
 have HG:=yb hG
 have a2:=yb a6
 have ac:=yb a0
 have L:=yb hB.v0.len
 have C:=yb hB.v1.len
 have b:=hB.cb.box
 rw[a0] at b
 obtain ⟨q0, -, -, -, -, -⟩:=Cs b
 clear hB hG a6 a0 b
 have ad:(((op==3)=true∨((op==3)=false∧(op==5)=true))∧Va op P V=[V,P])∨((op==3)=false∧(op==5)=false∧Va op P V=[P,V]):=by
  unfold Va
  by_cases h3:op=3
  ·exact .inl ⟨.inl (by simpa using h3),by rw[yw (.inl h3)]⟩
  by_cases h5:op=5
  ·exact .inl ⟨.inr ⟨by simpa using h3,by simpa using h5⟩,by rw[yw (.inr h5)]⟩
  exact .inr ⟨by simpa using h3,by simpa using h5,by rw[yt (fun h=>h.elim h3 h5)]⟩
 rcases ad with ⟨he,hs⟩|⟨e1,e2,hs⟩
 ·have a7:=yb hs
  clear hs
  rcases he with e1|⟨e1,e2⟩
  all_goals
   refine Ah fun K A=>?_
   go_wp2_with (first
    |(with_reducible refine yj rfl 26 (.tmp 6) rfl b6 0 (by kernel_rfl) c1 _ (Ar c.o.h6) qM (by kernel_rfl) (C9 C.o) ?_)
    |(with_reducible refine yj rfl 26 (.tmp 5) rfl M 0 (by kernel_rfl) c0 _ (Ar c.o.h5) qM (by kernel_rfl) (C9 L.o) ?_)
    |((with_reducible refine Az rfl 26 (.tmp 5) _ rfl M (by kernel_rfl) c1 (by kernel_rfl) c.o.h5 (by rw[yq,L.o,C.o]) (C9 C.o) (At c.o.v1) ?_);intro V1 aa;have H:=yb aa;clear aa;have O:Hid (V1.heap[b6]?=some (.cells c1.toArray 26 (0,0))):=yb ((H.o.block _ (fun h=>c.o.ne h.symm)).trans c.o.h6))
    |((with_reducible refine Az rfl 26 (.tmp 6) _ rfl b6 (by kernel_rfl) c0 (by kernel_rfl) O.o (by rw[yq,L.o,C.o]) (C9 L.o) (At c.o.v0) ?_);intro s ab;have I:=yb ab;clear ab))
   refine A.o _ _ ?_
   clear A K
   have l:Db (FL G [w.heap.size,w.heap.size+1,M,b6]) W s:=(H.o.flux (.inr (by simp))).trans (I.o.flux (.inr (by simp)))
   have d:Hid (VS G w row M b6 V P c1 c0 s):=yb ⟨(c.o.cb.wrote H.o c.o.l5).wrote I.o c.o.l6,c.o.l5,c.o.l6,c.o.ne,(I.o.block _ c.o.ne).trans H.o.row,I.o.row,c.o.v1.flux l (fun _ h=>.inl h),c.o.v0.flux l (fun _ h=>.inl h)⟩
   clear l H I O c L C q0
   have hs:=a7.o
   clear a7
   have HS:=yb hs
   clear hs
   have b:=d.o.cb.box
   rw[ac.o] at b
   have f5:s.frozen? (aV w.heap.size 5)=false:=by simp[World.frozen?,b]
   have g5:s.cell? (aV w.heap.size 5)=some (.slice a 2 cap):=by simp[World.cell?,b]
   have T:=yb b
   have g:Hid ((c1).length=6):=yb d.o.v0.len
   have z:Hid ((c0).length=6):=yb d.o.v1.len
   clear b
   refine Ah fun K A=>?_
   go_wp2_with (first
    |(with_reducible refine yj rfl 26 (.tmp 5) rfl M 0 (by kernel_rfl) c1 _ (Ar d.o.h5) qM (by kernel_rfl) (C9 g.o) ?_)
    |(with_reducible refine yj rfl 26 (.tmp 6) rfl b6 0 (by kernel_rfl) c0 _ (Ar d.o.h6) qM (by kernel_rfl) (C9 z.o) ?_)
    |((with_reducible refine Eu rfl 24 26 _ _ rfl c1 c0 (by kernel_rfl) (by kernel_rfl) 6 qL (by kernel_rfl) g.o z.o (by omega) (by omega) ?_);obtain ⟨X,N⟩:∃X,X=s.alloc (.cells (c1++c0).toArray 26):=⟨_,rfl⟩;have E:Below s.heap.size s X:=(by rw[N];exact (yg _ _).alloc (yf _) _);have F:X.heap[s.heap.size]?=some (.cells (c1++c0).toArray 26 (0,0)):=(by rw[N];exact World.alloc_heap_new _ _);rw[<-N];clear N;have i:=yb E;have J:=yb F;clear E F;have Q:Hid (X.heap[w.heap.size]?=some (.cells (([iV op,iV nn,iV u,.string rn,iV ri]:LV)++(Value.slice a 2 cap::[])).toArray 26 (0,0))):=yb ((i.o.block _ (by have:=d.o.cb.lt;omega)).trans T.o))
    |((with_reducible refine FA rfl 24 _ _ rfl w.heap.size 5 (by kernel_rfl) (.slice (some (aV s.heap.size 0)) 2 2) (by kernel_rfl) (by kernel_rfl) (p:=[iV op,iV nn,iV u,.string rn,iV ri]) (m:=.slice a 2 cap) (q:=[]) (t:=26) Q.o rfl (by kernel_rfl) (by kernel_rfl) ?_);intro Y hy;have y:=yb hy;clear hy))
   refine A.o _ _ ?_
   clear A K f5 g5
   have B:=yb y.o.row
   obtain ⟨f,e⟩:∃r:LV,r=[iV op,iV nn,iV u,.string rn,iV ri]++(Value.slice (some (aV s.heap.size 0)) 2 2::[]):=⟨_,rfl⟩
   rw[<-e] at B
   have S:=yb e
   have j:Hid (f.length=6):=yb (by rw[e];rfl)
   have U:Hid (∀v∈f,v.oneCell'=true):=yb (by rw[e];simp[Value.oneCell'])
   clear e
   have R:Hid (Y.heap[w.heap.size+1]?=some (.cells je.toArray 26 (0,0))):=yb ((y.o.block _ (by omega)).trans ((i.o.block _ (by have:=d.o.cb.lt;omega)).trans d.o.cb.res))
   go_wp2_with (first
    |(with_reducible refine yj rfl 26 _ rfl w.heap.size 0 (by kernel_rfl) f _ (Ar B.o) qM (by kernel_rfl) (C9 j.o) ?_)
    |((with_reducible refine Az rfl 26 _ _ rfl (w.heap.size+1) (by kernel_rfl) f (by kernel_rfl) R.o (by rw[j.o];kernel_rfl) (C9 j.o) U.o ?_);intro Z hz;have D:=yb hz;clear hz))
   refine Ck rfl rfl D.o.row qM rfl (by rw[j.o];kernel_rfl) ?_
   have be:=d.o.cb.lt
   have l:Db (FL G [w.heap.size,w.heap.size+1,M,b6]) s Z:=((Db.below i.o).trans (y.o.flux (.inr (by simp)))).trans (D.o.flux (.inr (by simp)))
   refine ⟨f,rfl,?_,D.o.below (y.o.below (d.o.cb.below.trans (i.o.mono d.o.cb.below.size)) (yf _)) (by omega)⟩
   rw[HS.o,S.o,AH]
   refine ⟨some (aV s.heap.size 0),2,rfl,by simp,a2.o,?_⟩
   have n:Z.heap[s.heap.size]?=some (.cells (c1++c0).toArray 26 (0,0)):=(D.o.block _ (by omega)).trans ((y.o.block _ (by omega)).trans J.o)
   have hN:GF G Z s.heap.size:=⟨fun h=>by have:=HG.o _ h;omega,by rw[D.o.size,y.o.size];exact (yd.1 J.o).1⟩
   have r0:=OS n g.o
   have r1:=OT n g.o
   rw[CL,CL,CL]
   exact ⟨⟨_,0,c1,rfl,hN,by simpa using r0,d.o.v0.flux l (fun _ h=>.inl (.inl h))⟩,⟨_,0,c0,rfl,hN,by simpa using r1,d.o.v1.flux l (fun _ h=>.inl (.inl h))⟩,trivial⟩
 ·refine Ah fun K A=>?_
  go_wp2
  refine A.o _ _ ?_
  clear A K q0
  have HS:=yb hs
  clear hs
  have b:=c.o.cb.box
  rw[ac.o] at b
  have f5:W.frozen? (aV w.heap.size 5)=false:=by simp[World.frozen?,b]
  have g5:W.cell? (aV w.heap.size 5)=some (.slice a 2 cap):=by simp[World.cell?,b]
  have T:=yb b
  have g:Hid ((c0).length=6):=yb c.o.v0.len
  have z:Hid ((c1).length=6):=yb c.o.v1.len
  clear b
  refine Ah fun K A=>?_
  go_wp2_with (first
   |(with_reducible refine yj rfl 26 (.tmp 5) rfl M 0 (by kernel_rfl) c0 _ (Ar c.o.h5) qM (by kernel_rfl) (C9 g.o) ?_)
   |(with_reducible refine yj rfl 26 (.tmp 6) rfl b6 0 (by kernel_rfl) c1 _ (Ar c.o.h6) qM (by kernel_rfl) (C9 z.o) ?_)
   |((with_reducible refine Eu rfl 24 26 _ _ rfl c0 c1 (by kernel_rfl) (by kernel_rfl) 6 qL (by kernel_rfl) g.o z.o (by omega) (by omega) ?_);obtain ⟨X,N⟩:∃X,X=W.alloc (.cells (c0++c1).toArray 26):=⟨_,rfl⟩;have E:Below W.heap.size W X:=(by rw[N];exact (yg _ _).alloc (yf _) _);have F:X.heap[W.heap.size]?=some (.cells (c0++c1).toArray 26 (0,0)):=(by rw[N];exact World.alloc_heap_new _ _);rw[<-N];clear N;have i:=yb E;have J:=yb F;clear E F;have Q:Hid (X.heap[w.heap.size]?=some (.cells (([iV op,iV nn,iV u,.string rn,iV ri]:LV)++(Value.slice a 2 cap::[])).toArray 26 (0,0))):=yb ((i.o.block _ (by have:=c.o.cb.lt;omega)).trans T.o))
   |((with_reducible refine FA rfl 24 _ _ rfl w.heap.size 5 (by kernel_rfl) (.slice (some (aV W.heap.size 0)) 2 2) (by kernel_rfl) (by kernel_rfl) (p:=[iV op,iV nn,iV u,.string rn,iV ri]) (m:=.slice a 2 cap) (q:=[]) (t:=26) Q.o rfl (by kernel_rfl) (by kernel_rfl) ?_);intro Y hy;have y:=yb hy;clear hy))
  refine A.o _ _ ?_
  clear A K f5 g5
  have B:=yb y.o.row
  obtain ⟨f,e⟩:∃r:LV,r=[iV op,iV nn,iV u,.string rn,iV ri]++(Value.slice (some (aV W.heap.size 0)) 2 2::[]):=⟨_,rfl⟩
  rw[<-e] at B
  have S:=yb e
  have j:Hid (f.length=6):=yb (by rw[e];rfl)
  have U:Hid (∀v∈f,v.oneCell'=true):=yb (by rw[e];simp[Value.oneCell'])
  clear e
  have R:Hid (Y.heap[w.heap.size+1]?=some (.cells je.toArray 26 (0,0))):=yb ((y.o.block _ (by omega)).trans ((i.o.block _ (by have:=c.o.cb.lt;omega)).trans c.o.cb.res))
  go_wp2_with (first
   |(with_reducible refine yj rfl 26 _ rfl w.heap.size 0 (by kernel_rfl) f _ (Ar B.o) qM (by kernel_rfl) (C9 j.o) ?_)
   |((with_reducible refine Az rfl 26 _ _ rfl (w.heap.size+1) (by kernel_rfl) f (by kernel_rfl) R.o (by rw[j.o];kernel_rfl) (C9 j.o) U.o ?_);intro Z hz;have D:=yb hz;clear hz))
  refine Ck rfl rfl D.o.row qM rfl (by rw[j.o];kernel_rfl) ?_
  have be:=c.o.cb.lt
  have l:Db (FL G [w.heap.size,w.heap.size+1,M,b6]) W Z:=((Db.below i.o).trans (y.o.flux (.inr (by simp)))).trans (D.o.flux (.inr (by simp)))
  refine ⟨f,rfl,?_,D.o.below (y.o.below (c.o.cb.below.trans (i.o.mono c.o.cb.below.size)) (yf _)) (by omega)⟩
  rw[HS.o,S.o,AH]
  refine ⟨some (aV W.heap.size 0),2,rfl,by simp,a2.o,?_⟩
  have n:Z.heap[W.heap.size]?=some (.cells (c0++c1).toArray 26 (0,0)):=(D.o.block _ (by omega)).trans ((y.o.block _ (by omega)).trans J.o)
  have hN:GF G Z W.heap.size:=⟨fun h=>by have:=HG.o _ h;omega,by rw[D.o.size,y.o.size];exact (yd.1 J.o).1⟩
  have r0:=OS n g.o
  have r1:=OT n g.o
  rw[CL,CL,CL]
  exact ⟨⟨_,0,c0,rfl,hN,by simpa using r0,c.o.v0.flux l (fun _ h=>.inl (.inl h))⟩,⟨_,0,c1,rfl,hN,by simpa using r1,c.o.v1.flux l (fun _ h=>.inl (.inl h))⟩,trivial⟩
structure QK (G:Nat->Prop) (w:World) (row:List Value) (l:List Nat) (W:World):Prop where
 cb:S4 w row W
 al:∀b∈l,w.heap.size+2<=b∧W.heap[b]?=some (.cells [Value.int .i64 0,.int .i64 0,.int .i64 0,.string {data:=#[]},.int .i64 0,.slice none 0 0].toArray 26 (0,0))
def Jz(w:World)(l:List Nat):List Nat:=w.heap.size::(w.heap.size+1)::l
section
variable{G:NP}{w W W':World}{row:LV}{l:List Nat}{e:Ex}{c:LV}
theorem QK.call(h:QK G w row l W)(hb:Below W.heap.size W W'):QK G w row l W':=⟨h.cb.up h.cb.lt hb,fun b a=>⟨(h.al b a).1,(hb.block _ (yd.1 (h.al b a).2).1).trans (h.al b a).2⟩⟩
theorem QK.alloc(h:QK G w row l W):QK G w row (l++[W.heap.size]) (W.alloc (.cells #[.int .i64 0,.int .i64 0,.int .i64 0,.string {data:=#[]},.int .i64 0,.slice none 0 0] 26)):=by
 have hb:Below W.heap.size W (W.alloc (.cells ja 26)):=(yg _ _).alloc (yf _) _
 refine ⟨(h.call hb).cb,fun b a=>?_⟩
 rcases yz.1 a with a|a
 ·exact (h.call hb).al b a
 ·obtain rfl:=ze.1 a
  exact ⟨h.cb.lt,World.alloc_heap_new _ _⟩
theorem Hg(h:AH (GF (FL G (Jz w l)) W) W e c)(hb:Below W.heap.size W W'):AH (GF (FL G (Jz w l)) W') W' e c:=h.flux (Db.below hb) (fun _ h=>.inl h)
theorem Bj(h:AH (GF (FL G (Jz w l)) W) W e c)(o:Obj):AH (GF (FL G (Jz w (l++[W.heap.size]))) (W.alloc o)) (W.alloc o) e c:=
 h.flux (Db.below ((yg _ _).alloc (yf _) _)) (fun b hb=>by
  rcases hb with hb|hb
  ·exact .inl (.inl hb)
  ·unfold Jz at hb
   simp only[yI,yz,yZ,zH] at hb
   rcases hb with rfl|rfl|hb|rfl
   ·exact .inl (.inr (by simp[Jz]))
   ·exact .inl (.inr (by simp[Jz]))
   ·exact .inl (.inr (by simp[Jz,hb]))
   ·exact .inr (yf _))
theorem QK.lt(h:QK G w row l W)(b:∀k,G k->k < w.heap.size):∀k,FL G (Jz w l) k->k < W.heap.size:=fun k a=>by
 have h1:=h.cb.lt
 rcases a with a|a
 ·have:=b k a;omega
 ·unfold Jz at a
  simp only[yI] at a
  rcases a with rfl|rfl|a
  ·omega
  ·omega
  ·exact (yd.1 (h.al k a).2).1
theorem DF{n p:Ex}{j r1:LV}{a b6:Nat}{k f:World}(h:QK G w row l W)(h0:AH (GF (FL G (Jz w l)) W) W n j)(h1:AH (GF (FL G (Jz w l)) W) W p r1)(e:Bh W k a j 26)(d:Bh k f b6 r1 26)(g:a∈l)(i:b6∈l)(c:a≠b6):
  VS G w row a b6 n p j r1 f:=by
 have l5:=(h.al a g).1;have l6:=(h.al b6 i).1
 have o:Db (FL G (Jz w l)) W f:=(e.flux (.inr (by simp[Jz,g]))).trans (d.flux (.inr (by simp[Jz,i])))
 have m:∀b,FL G [w.heap.size,w.heap.size+1,a,b6] b->FL G (Jz w l) b∨W.heap.size<=b:=fun b hb=>by
  rcases hb with hb|hb
  ·exact .inl (.inl hb)
  ·simp only[yI,yZ,zH] at hb
   rcases hb with rfl|rfl|rfl|rfl
   ·exact .inl (.inr (by simp[Jz]))
   ·exact .inl (.inr (by simp[Jz]))
   ·exact .inl (.inr (by simp[Jz,g]))
   ·exact .inl (.inr (by simp[Jz,i]))
 exact ⟨(h.cb.wrote e l5).wrote d l6,l5,l6,c,(d.block _ c).trans e.row,d.row,h0.flux o m,h1.flux o m⟩
theorem QK.flux(h:QK G w row l W):∀b,FL G (Jz w l) b->G b∨w.heap.size<=b:=fun b hb=>hb.imp (fun h=>h) (fun hb=>by
 unfold Jz at hb
 simp only[yI] at hb
 rcases hb with rfl|rfl|hb
 ·exact yf _
 ·exact Nat.le_succ _
 ·have:=(h.al b hb).1;omega)
end
theorem Q6:∀(left:Nat),left<=9->∀e:Ex,VW left e:=by
 intro left
 induction left with
 |zero=>intro _ e;obtain ⟨op,nn,u,rn,ri,args⟩:=e;exact FB (.inl rfl)
 |succ left ih=>
 intro ha e
 obtain ⟨op,nn,u,rn,ri,args⟩:=e
 match args with
 |[]=>exact FB (.inr (by simp))
 |[x]=>exact FB (.inr (by simp))
 |x::y::z::r=>exact FB (.inr (by simp))
 |[x0,y0]=>
 intro G w cs hv hG
 rw[S1]
 have HV:=yb hv
 have h6:=hv.len
 rw[AH] at hv
 obtain ⟨a,cap,gp, -,fx,f9⟩:=hv
 rw[CL,CL] at f9
 obtain ⟨⟨bq,oq,c0,rfl,gh,gi,g5⟩,⟨h9,hp,c1,he,h7,gl,d8⟩, -⟩:=f9
 obtain ⟨rfl,rfl⟩:bq=h9∧oq=hp:=by simpa using he
 clear he h7
 obtain ⟨row,fp⟩:∃r,r=cs:=⟨_,rfl⟩
 rw[<-fp] at HV
 have R:Hid (row=[iV op,iV nn,iV u,.string rn,iV ri,.slice (some (aV bq oq)) 2 cap]):=yb (fp.trans gp)
 subst gp
 clear fp h6
 have HG:=yb hG
 have S:=yb fx
 have ff:=yb g5;have fq:=yb d8
 have g4:=yb gi;have gn:=yb gl
 have HN:=yb gh
 have IH:=yb (ih (by omega))
 obtain ⟨lf,fv⟩:∃lf:Int,((left+1:Nat):Int)=lf:=⟨_,rfl⟩
 have hf:(lf==0)=false:=by simp;omega
 have gy:IntKind.i64.wrap (lf - 1)=(left:Int):=by rw[IntKind.wrap_i64];omega
 rw[fv]
 clear fv hG fx g5 d8 gi gl gh ih
 simp only[yx,yH,yy,Nat.reduceAdd]
 go_enter Tryz.func19,Tryz.ntmps19
 refine Ah fun K1 H=>?_
 go_wp2
 refine H.o _ _ ?_
 clear H K1
 generalize gw:(w.alloc _).alloc _=w1
 have e3:=Tz gw.symm
 obtain ⟨-, -, -, -, -,c5⟩:=Cs e3.box
 rw[<-R.o] at e3
 have aa:=yb e3
 clear gw e3
 refine Ah fun K1 H=>?_
 go_wp2
 refine H.o _ _ ?_
 clear H K1
 refine Ah fun K1 H=>?_
 have F:Hid (Below w1.heap.size w1 w1.drew):=yb (yg _ _).drew
 have fs:Hid (∀V,Below w1.heap.size w1 V->V.cell? (aV w.heap.size 5)=some (.slice (some (aV bq oq)) 2 cap)):=yb (fun V hV=>by
  have h1:=aa.o.lt
  have h:=hV.block w.heap.size (by omega)
  unfold World.cell? at c5 ⊢
  simp only at c5 ⊢
  rw[h];exact c5)
 have fw:Hid (∀V,Below w1.heap.size w1 V->V.rangeAt bq oq c0):=yb (fun V hV=>A0 (by simpa using g4.o) ((aa.o.below.trans (hV.mono aa.o.below.size)).block bq HN.o.2))
 have g9:Hid (∀V,Below w1.heap.size w1 V->V.rangeAt bq (oq+6) c1):=yb (fun V hV=>A0 (by simpa using gn.o) ((aa.o.below.trans (hV.mono aa.o.below.size)).block bq HN.o.2))
 have hk:=yb ff.o.len
 have hl:=yb fq.o.len
 have e8:Hid (QK G w row [] w1.drew):=yb ⟨⟨aa.o.below.drew,aa.o.box,aa.o.res⟩,fun b hb=>by cases hb⟩
 have cl:Hid (∀l V,QK G w row l V->Calls Tryz.prog 19 #[.agg c0.toArray,iV left] V fun x w'=>∃dz:LV,x=.returned (.agg dz.toArray)∧AH (GF (FL G (Jz w l)) w') w' (Dq left x0) dz∧Below V.heap.size V w'):=yb (fun l V hS=>
  IH.o x0 (FL G (Jz w l)) V c0 (ff.o.flux (Db.below hS.cb.below) hS.flux) (hS.lt HG.o))
 have Z:Hid (∀l V,QK G w row l V->Calls Tryz.prog 19 #[.agg c1.toArray,iV left] V fun x w'=>∃dz:LV,x=.returned (.agg dz.toArray)∧AH (GF (FL G (Jz w l)) w') w' (Dq left y0) dz∧Below V.heap.size V w'):=yb (fun l V hS=>
  IH.o y0 (FL G (Jz w l)) V c1 (fq.o.flux (Db.below hS.cb.below) hS.flux) (hS.lt HG.o))
 generalize Dq left x0=ea at*
 generalize Dq left y0=eb at*
 clear ff fq g4 gn c5 IH aa HN
 refine DM (by kernel_rfl) (fun V=>Below w1.heap.size w1 V) 17 ?_
 have k:Hid (w1.drew.heap.size=w1.heap.size):=yb rfl
 generalize w1.drew=t at*
 refine Ag (i:=0) (v:=pV w.heap.size 5) rfl (by kernel_rfl) (by kernel_rfl) (by kernel_rfl) (fun _ _ _ h=>h) (by kernel_rfl) (Or.inl ⟨by rfl,?_⟩) (fun _=>F.o) ?_
 ·intro W _;go_simp
 refine AP (i:=1) (v:=.slice (some (aV bq oq)) 2 cap) rfl (by kernel_rfl) (by kernel_rfl) (by kernel_rfl) (fun _ _ _ h=>h) (by kernel_rfl) (Or.inl ⟨by rfl,?_⟩) F.o ?_
 ·intro W hW;have h4:=fs.o W hW;go_simp
 refine Ag (i:=2) (v:=pV bq oq) rfl (by kernel_rfl) (by kernel_rfl) (by kernel_rfl) (fun _ _ _ h=>h) (by kernel_rfl) (Or.inl ⟨by rfl,?_⟩) (fun _=>F.o) ?_
 ·intro W _;go_simp
 refine AP (i:=3) (v:=.agg c0.toArray) rfl (by kernel_rfl) (by kernel_rfl) (by kernel_rfl) (fun _ _ _ h=>h) (by kernel_rfl) (yieldsIf_load_mid (by rfl) 26 _ rfl bq (oq) (by kernel_rfl) c0 _ (fun W hW=>fw.o W hW) qM rfl (C9 hk.o)) F.o ?_
 refine Ag (i:=4) (v:=iV lf) rfl (by kernel_rfl) (by kernel_rfl) (by kernel_rfl) (fun _ _ _ h=>h) (by kernel_rfl) (Or.inl ⟨by rfl,?_⟩) (fun _=>F.o) ?_
 ·intro W _;go_simp
 refine Ag (i:=5) (v:=iV left) rfl (by kernel_rfl) (by kernel_rfl) (by kernel_rfl) (fun _ _ _ h=>h) (by kernel_rfl) (Or.inl ⟨by rfl,?_⟩) (fun _=>F.o) ?_
 ·intro W _;go_simp
 refine Ag (i:=7) (v:=pV w.heap.size 5) rfl (by kernel_rfl) (by kernel_rfl) (by kernel_rfl) (fun _ _ _ h=>h) (by kernel_rfl) (Or.inl ⟨by rfl,?_⟩) (fun _=>F.o) ?_
 ·intro W _;go_simp
 refine AP (i:=8) (v:=.slice (some (aV bq oq)) 2 cap) rfl (by kernel_rfl) (by kernel_rfl) (by kernel_rfl) (fun _ _ _ h=>h) (by kernel_rfl) (Or.inl ⟨by rfl,?_⟩) F.o ?_
 ·intro W hW;have h4:=fs.o W hW;go_simp
 refine Ag (i:=9) (v:=pV bq (oq+6)) rfl (by kernel_rfl) (by kernel_rfl) (by kernel_rfl) (fun _ _ _ h=>h) (by kernel_rfl) (Or.inl ⟨by rfl,?_⟩) (fun _=>F.o) ?_
 ·intro W _;go_simp
 refine AP (i:=10) (v:=.agg c1.toArray) rfl (by kernel_rfl) (by kernel_rfl) (by kernel_rfl) (fun _ _ _ h=>h) (by kernel_rfl) (yieldsIf_load_mid (by rfl) 26 _ rfl bq (oq+6) (by kernel_rfl) c1 _ (fun W hW=>g9.o W hW) qM rfl (C9 hl.o)) F.o ?_
 refine Ag (i:=11) (v:=iV lf) rfl (by kernel_rfl) (by kernel_rfl) (by kernel_rfl) (fun _ _ _ h=>h) (by kernel_rfl) (Or.inl ⟨by rfl,?_⟩) (fun _=>F.o) ?_
 ·intro W _;go_simp
 refine Ag (i:=12) (v:=iV left) rfl (by kernel_rfl) (by kernel_rfl) (by kernel_rfl) (fun _ _ _ h=>h) (by kernel_rfl) (Or.inl ⟨by rfl,?_⟩) (fun _=>F.o) ?_
 ·intro W _;go_simp
 clear fs fw g9 hf gy
 refine IM (i:=6) (j:=14) (m:=15) (by kernel_rfl) rfl rfl rfl (fun K c=>?_) (fun K c=>?_) (fun K c=>?_)
 ·
  go_simp
  refine (cl.o _ _ e8.o).mono ?_
  rintro e g ⟨q,rfl,d8,e5⟩
  have e6:=yb (e8.o.call e5)
  have bt:=yb (F.o.trans (e5.mono F.o.size))
  have fj:=yb d8
  have I:=yb e5.size
  clear e5 d8
  refine c.o _ _ (fun _=>bt.o) ?_
  clear c K
  refine IM (i:=13) (j:=14) (m:=15) (by kernel_rfl) rfl rfl rfl (fun K c=>?_) (fun K c=>?_) (fun K c=>?_)
  ·
   go_simp
   refine (Z.o _ _ e6.o).mono ?_
   rintro e B ⟨r1,rfl,g3,d2⟩
   have gg:=yb (e6.o.call d2)
   have df:=yb (bt.o.trans (d2.mono bt.o.size))
   have gc:=yb g3
   have ci:=yb d2.size
   have ge:=yb (Hg fj.o d2)
   clear d2 g3
   refine c.o _ _ (fun _=>df.o) ?_
   clear c K
   refine DI (i:=14) (j:=15) (by kernel_rfl) rfl rfl (fun K c=>?_) (fun K c=>?_)
   ·
    go_simp
    have hh:=yb gg.o.alloc
    have fi:Hid (Below w1.heap.size w1 (B.alloc (.cells ja 26))):=yb (df.o.alloc df.o.size _)
    have h8:=yb (Bj ge.o (.cells ja 26))
    have hn:=yb (Bj gc.o (.cells ja 26))
    have fd:Hid ((B.alloc (.cells ja 26)).heap.size=B.heap.size+1):=yb (by simp)
    generalize B.alloc (.cells ja 26)=U at*
    refine c.o _ _ (fun _=>fi.o) ?_
    clear c K
    refine A7 (i:=15) (by kernel_rfl) rfl (fun K c=>?_)
    go_simp
    have d7:=yb hh.o.alloc
    have g0:Hid (Below w1.heap.size w1 (U.alloc (.cells ja 26))):=yb (fi.o.alloc fi.o.size _)
    have ct:=yb (Bj h8.o (.cells ja 26))
    have dt:=yb (Bj hn.o (.cells ja 26))
    have fk:Hid ((U.alloc (.cells ja 26)).heap.size=U.heap.size+1):=yb (by simp)
    generalize U.alloc (.cells ja 26)=e7 at*
    refine c.o _ _ (fun _=>g0.o) ?_
    clear c K
    refine A7 (i:=16) (by kernel_rfl) rfl (fun K c=>?_)
    rw[yw (by kernel_rfl)]
    have p:=(d7.o.al B.heap.size (by simp)).2
    have A:=(d7.o.al U.heap.size (by simp)).2
    have a2:=(d7.o.al B.heap.size (by simp)).1
    have a0:=(d7.o.al U.heap.size (by simp)).1
    refine zj 26 _ _ rfl B.heap.size 0 q.toArray (by kernel_rfl) (by kernel_rfl) (Ay p (by rw[yq,ct.o.len];exact yf _)) (by rw[yq];exact C9 ct.o.len) (yB (At ct.o)) ?_
    have d:Bh e7 (e7.setCells B.heap.size 0 q.toArray.toList) B.heap.size q 26:=by
     have h:=Ab B.heap.size 26 q 0 e7 [] _ [] (by simpa using p) rfl (by rw[ct.o.len];rfl)
     simpa using h
    generalize e7.setCells B.heap.size 0 q.toArray.toList=s at d ⊢
    refine c.o _ _ (fun _=>d.below g0.o (by have:=k.o;have:=I.o;have:=ci.o;have:=fd.o;have:=fk.o;omega)) ?_
    clear c K
    refine A7 (i:=17) (by kernel_rfl) rfl (fun K c=>?_)
    rw[yw (by kernel_rfl)]
    have f:=(d.block U.heap.size (by have:=k.o;have:=I.o;have:=ci.o;have:=fd.o;have:=fk.o;omega)).trans A
    refine zj 26 _ _ rfl U.heap.size 0 r1.toArray (by kernel_rfl) (by kernel_rfl) (Ay f (by rw[yq,dt.o.len];exact yf _)) (by rw[yq];exact C9 dt.o.len) (yB (At dt.o)) ?_
    have n:Bh s (s.setCells U.heap.size 0 r1.toArray.toList) U.heap.size r1 26:=by
     have h:=Ab U.heap.size 26 r1 0 s [] _ [] (by simpa using f) rfl (by rw[dt.o.len];rfl)
     simpa using h
    generalize s.setCells U.heap.size 0 r1.toArray.toList=V2 at n ⊢
    refine c.o _ _ (by intro h;cases h) ?_
    clear c K
    refine AQ (by kernel_rfl) ?_
    refine H.o _ _ ?_
    exact BD S.o HG.o R.o (DF d7.o ct.o dt.o d n (by simp) (by simp) (by have:=k.o;have:=I.o;have:=ci.o;have:=fd.o;have:=fk.o;omega))
   ·
    go_simp
    have hg:=yb gg.o.alloc
    have fo:Hid (Below w1.heap.size w1 (B.alloc (.cells ja 26))):=yb (df.o.alloc df.o.size _)
    have hj:=yb (Bj ge.o (.cells ja 26))
    have gz:=yb (Bj gc.o (.cells ja 26))
    have fe:Hid ((B.alloc (.cells ja 26)).heap.size=B.heap.size+1):=yb (by simp)
    generalize B.alloc (.cells ja 26)=Y at*
    refine c.o _ _ (fun _=>fo.o) ?_
    clear c K
    refine A7 (i:=14) (by kernel_rfl) rfl (fun K c=>?_)
    go_simp
    have dm:=yb hg.o.alloc
    have fy:Hid (Below w1.heap.size w1 (Y.alloc (.cells ja 26))):=yb (fo.o.alloc fo.o.size _)
    have d9:=yb (Bj hj.o (.cells ja 26))
    have cm:=yb (Bj gz.o (.cells ja 26))
    have fh:Hid ((Y.alloc (.cells ja 26)).heap.size=Y.heap.size+1):=yb (by simp)
    generalize Y.alloc (.cells ja 26)=e9 at*
    refine c.o _ _ (fun _=>fy.o) ?_
    clear c K
    refine A7 (i:=16) (by kernel_rfl) rfl (fun K c=>?_)
    rw[yw (by kernel_rfl)]
    have p:=(dm.o.al Y.heap.size (by simp)).2
    have A:=(dm.o.al B.heap.size (by simp)).2
    have a2:=(dm.o.al Y.heap.size (by simp)).1
    have a0:=(dm.o.al B.heap.size (by simp)).1
    refine zj 26 _ _ rfl Y.heap.size 0 q.toArray (by kernel_rfl) (by kernel_rfl) (Ay p (by rw[yq,d9.o.len];exact yf _)) (by rw[yq];exact C9 d9.o.len) (yB (At d9.o)) ?_
    have d:Bh e9 (e9.setCells Y.heap.size 0 q.toArray.toList) Y.heap.size q 26:=by
     have h:=Ab Y.heap.size 26 q 0 e9 [] _ [] (by simpa using p) rfl (by rw[d9.o.len];rfl)
     simpa using h
    generalize e9.setCells Y.heap.size 0 q.toArray.toList=s at d ⊢
    refine c.o _ _ (fun _=>d.below fy.o (by have:=k.o;have:=I.o;have:=ci.o;have:=fe.o;have:=fh.o;omega)) ?_
    clear c K
    refine A7 (i:=17) (by kernel_rfl) rfl (fun K c=>?_)
    rw[yw (by kernel_rfl)]
    have f:=(d.block B.heap.size (by have:=k.o;have:=I.o;have:=ci.o;have:=fe.o;have:=fh.o;omega)).trans A
    refine zj 26 _ _ rfl B.heap.size 0 r1.toArray (by kernel_rfl) (by kernel_rfl) (Ay f (by rw[yq,cm.o.len];exact yf _)) (by rw[yq];exact C9 cm.o.len) (yB (At cm.o)) ?_
    have n:Bh s (s.setCells B.heap.size 0 r1.toArray.toList) B.heap.size r1 26:=by
     have h:=Ab B.heap.size 26 r1 0 s [] _ [] (by simpa using f) rfl (by rw[cm.o.len];rfl)
     simpa using h
    generalize s.setCells B.heap.size 0 r1.toArray.toList=V2 at n ⊢
    refine c.o _ _ (by intro h;cases h) ?_
    clear c K
    refine AQ (by kernel_rfl) ?_
    refine H.o _ _ ?_
    exact BD S.o HG.o R.o (DF dm.o d9.o cm.o d n (by simp) (by simp) (by have:=k.o;have:=I.o;have:=ci.o;have:=fe.o;have:=fh.o;omega))
  ·
   go_simp
   have fc:=yb e6.o.alloc
   have cw:Hid (Below w1.heap.size w1 (g.alloc (.cells ja 26))):=yb (bt.o.alloc bt.o.size _)
   have g8:=yb (Bj fj.o (.cells ja 26))
   have cj:Hid ((g.alloc (.cells ja 26)).heap.size=g.heap.size+1):=yb (by simp)
   generalize g.alloc (.cells ja 26)=X at*
   refine c.o _ _ (fun _=>cw.o) ?_
   clear c K
   refine DI (i:=13) (j:=15) (by kernel_rfl) rfl rfl (fun K c=>?_) (fun K c=>?_)
   ·
    go_simp
    refine (Z.o _ _ fc.o).mono ?_
    rintro e T ⟨r1,rfl,g2,dj⟩
    have hm:=yb (fc.o.call dj)
    have fm:=yb (cw.o.trans (dj.mono cw.o.size))
    have hc:=yb g2
    have fl:=yb dj.size
    have ho:=yb (Hg g8.o dj)
    clear dj g2
    refine c.o _ _ (fun _=>fm.o) ?_
    clear c K
    refine A7 (i:=15) (by kernel_rfl) rfl (fun K c=>?_)
    go_simp
    have dq:=yb hm.o.alloc
    have ga:Hid (Below w1.heap.size w1 (T.alloc (.cells ja 26))):=yb (fm.o.alloc fm.o.size _)
    have cn:=yb (Bj ho.o (.cells ja 26))
    have dc:=yb (Bj hc.o (.cells ja 26))
    have fg:Hid ((T.alloc (.cells ja 26)).heap.size=T.heap.size+1):=yb (by simp)
    generalize T.alloc (.cells ja 26)=e4 at*
    refine c.o _ _ (fun _=>ga.o) ?_
    clear c K
    refine A7 (i:=16) (by kernel_rfl) rfl (fun K c=>?_)
    rw[yw (by kernel_rfl)]
    have p:=(dq.o.al g.heap.size (by simp)).2
    have A:=(dq.o.al T.heap.size (by simp)).2
    have a2:=(dq.o.al g.heap.size (by simp)).1
    have a0:=(dq.o.al T.heap.size (by simp)).1
    refine zj 26 _ _ rfl g.heap.size 0 q.toArray (by kernel_rfl) (by kernel_rfl) (Ay p (by rw[yq,cn.o.len];exact yf _)) (by rw[yq];exact C9 cn.o.len) (yB (At cn.o)) ?_
    have d:Bh e4 (e4.setCells g.heap.size 0 q.toArray.toList) g.heap.size q 26:=by
     have h:=Ab g.heap.size 26 q 0 e4 [] _ [] (by simpa using p) rfl (by rw[cn.o.len];rfl)
     simpa using h
    generalize e4.setCells g.heap.size 0 q.toArray.toList=s at d ⊢
    refine c.o _ _ (fun _=>d.below ga.o (by have:=k.o;have:=I.o;have:=cj.o;have:=fl.o;have:=fg.o;omega)) ?_
    clear c K
    refine A7 (i:=17) (by kernel_rfl) rfl (fun K c=>?_)
    rw[yw (by kernel_rfl)]
    have f:=(d.block T.heap.size (by have:=k.o;have:=I.o;have:=cj.o;have:=fl.o;have:=fg.o;omega)).trans A
    refine zj 26 _ _ rfl T.heap.size 0 r1.toArray (by kernel_rfl) (by kernel_rfl) (Ay f (by rw[yq,dc.o.len];exact yf _)) (by rw[yq];exact C9 dc.o.len) (yB (At dc.o)) ?_
    have n:Bh s (s.setCells T.heap.size 0 r1.toArray.toList) T.heap.size r1 26:=by
     have h:=Ab T.heap.size 26 r1 0 s [] _ [] (by simpa using f) rfl (by rw[dc.o.len];rfl)
     simpa using h
    generalize s.setCells T.heap.size 0 r1.toArray.toList=V2 at n ⊢
    refine c.o _ _ (by intro h;cases h) ?_
    clear c K
    refine AQ (by kernel_rfl) ?_
    refine H.o _ _ ?_
    exact BD S.o HG.o R.o (DF dq.o cn.o dc.o d n (by simp) (by simp) (by have:=k.o;have:=I.o;have:=cj.o;have:=fl.o;have:=fg.o;omega))
   ·
    go_simp
    have ew:=yb fc.o.alloc
    have dr:Hid (Below w1.heap.size w1 (X.alloc (.cells ja 26))):=yb (cw.o.alloc cw.o.size _)
    have gt:=yb (Bj g8.o (.cells ja 26))
    have dl:Hid ((X.alloc (.cells ja 26)).heap.size=X.heap.size+1):=yb (by simp)
    generalize X.alloc (.cells ja 26)=ht at*
    refine c.o _ _ (fun _=>dr.o) ?_
    clear c K
    refine A7 (i:=13) (by kernel_rfl) rfl (fun K c=>?_)
    go_simp
    refine (Z.o _ _ ew.o).mono ?_
    rintro e bx ⟨r1,rfl,ez,b4⟩
    have b8:=yb (ew.o.call b4)
    have el:=yb (dr.o.trans (b4.mono dr.o.size))
    have ae:=yb ez
    have cz:=yb b4.size
    have av:=yb (Hg gt.o b4)
    clear b4 ez
    refine c.o _ _ (fun _=>el.o) ?_
    clear c K
    refine A7 (i:=16) (by kernel_rfl) rfl (fun K c=>?_)
    rw[yw (by kernel_rfl)]
    have p:=(b8.o.al g.heap.size (by simp)).2
    have A:=(b8.o.al X.heap.size (by simp)).2
    have a2:=(b8.o.al g.heap.size (by simp)).1
    have a0:=(b8.o.al X.heap.size (by simp)).1
    refine zj 26 _ _ rfl g.heap.size 0 q.toArray (by kernel_rfl) (by kernel_rfl) (Ay p (by rw[yq,av.o.len];exact yf _)) (by rw[yq];exact C9 av.o.len) (yB (At av.o)) ?_
    have d:Bh bx (bx.setCells g.heap.size 0 q.toArray.toList) g.heap.size q 26:=by
     have h:=Ab g.heap.size 26 q 0 bx [] _ [] (by simpa using p) rfl (by rw[av.o.len];rfl)
     simpa using h
    generalize bx.setCells g.heap.size 0 q.toArray.toList=s at d ⊢
    refine c.o _ _ (fun _=>d.below el.o (by have:=k.o;have:=I.o;have:=cj.o;have:=dl.o;have:=cz.o;omega)) ?_
    clear c K
    refine A7 (i:=17) (by kernel_rfl) rfl (fun K c=>?_)
    rw[yw (by kernel_rfl)]
    have f:=(d.block X.heap.size (by have:=k.o;have:=I.o;have:=cj.o;have:=dl.o;have:=cz.o;omega)).trans A
    refine zj 26 _ _ rfl X.heap.size 0 r1.toArray (by kernel_rfl) (by kernel_rfl) (Ay f (by rw[yq,ae.o.len];exact yf _)) (by rw[yq];exact C9 ae.o.len) (yB (At ae.o)) ?_
    have n:Bh s (s.setCells X.heap.size 0 r1.toArray.toList) X.heap.size r1 26:=by
     have h:=Ab X.heap.size 26 r1 0 s [] _ [] (by simpa using f) rfl (by rw[ae.o.len];rfl)
     simpa using h
    generalize s.setCells X.heap.size 0 r1.toArray.toList=V2 at n ⊢
    refine c.o _ _ (by intro h;cases h) ?_
    clear c K
    refine AQ (by kernel_rfl) ?_
    refine H.o _ _ ?_
    exact BD S.o HG.o R.o (DF b8.o av.o ae.o d n (by simp) (by simp) (by have:=k.o;have:=I.o;have:=cj.o;have:=dl.o;have:=cz.o;omega))
  ·
   go_simp
   have cp:=yb e6.o.alloc
   have ak:Hid (Below w1.heap.size w1 (g.alloc (.cells ja 26))):=yb (bt.o.alloc bt.o.size _)
   have eq:=yb (Bj fj.o (.cells ja 26))
   have a8:Hid ((g.alloc (.cells ja 26)).heap.size=g.heap.size+1):=yb (by simp)
   generalize g.alloc (.cells ja 26)=L at*
   refine c.o _ _ (fun _=>ak.o) ?_
   clear c K
   refine DI (i:=13) (j:=14) (by kernel_rfl) rfl rfl (fun K c=>?_) (fun K c=>?_)
   ·
    go_simp
    refine (Z.o _ _ cp.o).mono ?_
    rintro e J ⟨r1,rfl,et,ab⟩
    have g7:=yb (cp.o.call ab)
    have cy:=yb (ak.o.trans (ab.mono ak.o.size))
    have gd:=yb et
    have dn:=yb ab.size
    have gr:=yb (Hg eq.o ab)
    clear ab et
    refine c.o _ _ (fun _=>cy.o) ?_
    clear c K
    refine A7 (i:=14) (by kernel_rfl) rfl (fun K c=>?_)
    go_simp
    have bo:=yb g7.o.alloc
    have eh:Hid (Below w1.heap.size w1 (J.alloc (.cells ja 26))):=yb (cy.o.alloc cy.o.size _)
    have bd:=yb (Bj gr.o (.cells ja 26))
    have b5:=yb (Bj gd.o (.cells ja 26))
    have d5:Hid ((J.alloc (.cells ja 26)).heap.size=J.heap.size+1):=yb (by simp)
    generalize J.alloc (.cells ja 26)=bw at*
    refine c.o _ _ (fun _=>eh.o) ?_
    clear c K
    refine A7 (i:=16) (by kernel_rfl) rfl (fun K c=>?_)
    rw[yw (by kernel_rfl)]
    have p:=(bo.o.al J.heap.size (by simp)).2
    have A:=(bo.o.al g.heap.size (by simp)).2
    have a2:=(bo.o.al J.heap.size (by simp)).1
    have a0:=(bo.o.al g.heap.size (by simp)).1
    refine zj 26 _ _ rfl J.heap.size 0 q.toArray (by kernel_rfl) (by kernel_rfl) (Ay p (by rw[yq,bd.o.len];exact yf _)) (by rw[yq];exact C9 bd.o.len) (yB (At bd.o)) ?_
    have d:Bh bw (bw.setCells J.heap.size 0 q.toArray.toList) J.heap.size q 26:=by
     have h:=Ab J.heap.size 26 q 0 bw [] _ [] (by simpa using p) rfl (by rw[bd.o.len];rfl)
     simpa using h
    generalize bw.setCells J.heap.size 0 q.toArray.toList=s at d ⊢
    refine c.o _ _ (fun _=>d.below eh.o (by have:=k.o;have:=I.o;have:=a8.o;have:=dn.o;have:=d5.o;omega)) ?_
    clear c K
    refine A7 (i:=17) (by kernel_rfl) rfl (fun K c=>?_)
    rw[yw (by kernel_rfl)]
    have f:=(d.block g.heap.size (by have:=k.o;have:=I.o;have:=a8.o;have:=dn.o;have:=d5.o;omega)).trans A
    refine zj 26 _ _ rfl g.heap.size 0 r1.toArray (by kernel_rfl) (by kernel_rfl) (Ay f (by rw[yq,b5.o.len];exact yf _)) (by rw[yq];exact C9 b5.o.len) (yB (At b5.o)) ?_
    have n:Bh s (s.setCells g.heap.size 0 r1.toArray.toList) g.heap.size r1 26:=by
     have h:=Ab g.heap.size 26 r1 0 s [] _ [] (by simpa using f) rfl (by rw[b5.o.len];rfl)
     simpa using h
    generalize s.setCells g.heap.size 0 r1.toArray.toList=V2 at n ⊢
    refine c.o _ _ (by intro h;cases h) ?_
    clear c K
    refine AQ (by kernel_rfl) ?_
    refine H.o _ _ ?_
    exact BD S.o HG.o R.o (DF bo.o bd.o b5.o d n (by simp) (by simp) (by have:=k.o;have:=I.o;have:=a8.o;have:=dn.o;have:=d5.o;omega))
   ·
    go_simp
    have f3:=yb cp.o.alloc
    have dp:Hid (Below w1.heap.size w1 (L.alloc (.cells ja 26))):=yb (ak.o.alloc ak.o.size _)
    have fz:=yb (Bj eq.o (.cells ja 26))
    have cq:Hid ((L.alloc (.cells ja 26)).heap.size=L.heap.size+1):=yb (by simp)
    generalize L.alloc (.cells ja 26)=hq at*
    refine c.o _ _ (fun _=>dp.o) ?_
    clear c K
    refine A7 (i:=13) (by kernel_rfl) rfl (fun K c=>?_)
    go_simp
    refine (Z.o _ _ f3.o).mono ?_
    rintro e bz ⟨r1,rfl,f4,bb⟩
    have am:=yb (f3.o.call bb)
    have ec:=yb (dp.o.trans (bb.mono dp.o.size))
    have ay:=yb f4
    have e2:=yb bb.size
    have bh:=yb (Hg fz.o bb)
    clear bb f4
    refine c.o _ _ (fun _=>ec.o) ?_
    clear c K
    refine A7 (i:=16) (by kernel_rfl) rfl (fun K c=>?_)
    rw[yw (by kernel_rfl)]
    have p:=(am.o.al L.heap.size (by simp)).2
    have A:=(am.o.al g.heap.size (by simp)).2
    have a2:=(am.o.al L.heap.size (by simp)).1
    have a0:=(am.o.al g.heap.size (by simp)).1
    refine zj 26 _ _ rfl L.heap.size 0 q.toArray (by kernel_rfl) (by kernel_rfl) (Ay p (by rw[yq,bh.o.len];exact yf _)) (by rw[yq];exact C9 bh.o.len) (yB (At bh.o)) ?_
    have d:Bh bz (bz.setCells L.heap.size 0 q.toArray.toList) L.heap.size q 26:=by
     have h:=Ab L.heap.size 26 q 0 bz [] _ [] (by simpa using p) rfl (by rw[bh.o.len];rfl)
     simpa using h
    generalize bz.setCells L.heap.size 0 q.toArray.toList=s at d ⊢
    refine c.o _ _ (fun _=>d.below ec.o (by have:=k.o;have:=I.o;have:=a8.o;have:=cq.o;have:=e2.o;omega)) ?_
    clear c K
    refine A7 (i:=17) (by kernel_rfl) rfl (fun K c=>?_)
    rw[yw (by kernel_rfl)]
    have f:=(d.block g.heap.size (by have:=k.o;have:=I.o;have:=a8.o;have:=cq.o;have:=e2.o;omega)).trans A
    refine zj 26 _ _ rfl g.heap.size 0 r1.toArray (by kernel_rfl) (by kernel_rfl) (Ay f (by rw[yq,ay.o.len];exact yf _)) (by rw[yq];exact C9 ay.o.len) (yB (At ay.o)) ?_
    have n:Bh s (s.setCells g.heap.size 0 r1.toArray.toList) g.heap.size r1 26:=by
     have h:=Ab g.heap.size 26 r1 0 s [] _ [] (by simpa using f) rfl (by rw[ay.o.len];rfl)
     simpa using h
    generalize s.setCells g.heap.size 0 r1.toArray.toList=V2 at n ⊢
    refine c.o _ _ (by intro h;cases h) ?_
    clear c K
    refine AQ (by kernel_rfl) ?_
    refine H.o _ _ ?_
    exact BD S.o HG.o R.o (DF am.o bh.o ay.o d n (by simp) (by simp) (by have:=k.o;have:=I.o;have:=a8.o;have:=cq.o;have:=e2.o;omega))
 ·
  go_simp
  have d3:=yb e8.o.alloc
  have ah:Hid (Below w1.heap.size w1 (t.alloc (.cells ja 26))):=yb (F.o.alloc F.o.size _)
  have Q:Hid ((t.alloc (.cells ja 26)).heap.size=t.heap.size+1):=yb (by simp)
  generalize t.alloc (.cells ja 26)=E at*
  refine c.o _ _ (fun _=>ah.o) ?_
  clear c K
  refine DI (i:=6) (j:=15) (by kernel_rfl) rfl rfl (fun K c=>?_) (fun K c=>?_)
  ·
   go_simp
   refine (cl.o _ _ d3.o).mono ?_
   rintro e D ⟨q,rfl,en,cd⟩
   have d4:=yb (d3.o.call cd)
   have an:=yb (ah.o.trans (cd.mono ah.o.size))
   have f0:=yb en
   have a6:=yb cd.size
   clear cd en
   refine c.o _ _ (fun _=>an.o) ?_
   clear c K
   refine DI (i:=13) (j:=15) (by kernel_rfl) rfl rfl (fun K c=>?_) (fun K c=>?_)
   ·
    go_simp
    refine (Z.o _ _ d4.o).mono ?_
    rintro e C ⟨r1,rfl,eu,ad⟩
    have gs:=yb (d4.o.call ad)
    have cr:=yb (an.o.trans (ad.mono an.o.size))
    have gj:=yb eu
    have dy:=yb ad.size
    have gx:=yb (Hg f0.o ad)
    clear ad eu
    refine c.o _ _ (fun _=>cr.o) ?_
    clear c K
    refine A7 (i:=15) (by kernel_rfl) rfl (fun K c=>?_)
    go_simp
    have b9:=yb gs.o.alloc
    have f8:Hid (Below w1.heap.size w1 (C.alloc (.cells ja 26))):=yb (cr.o.alloc cr.o.size _)
    have bg:=yb (Bj gx.o (.cells ja 26))
    have bp:=yb (Bj gj.o (.cells ja 26))
    have du:Hid ((C.alloc (.cells ja 26)).heap.size=C.heap.size+1):=yb (by simp)
    generalize C.alloc (.cells ja 26)=cg at*
    refine c.o _ _ (fun _=>f8.o) ?_
    clear c K
    refine A7 (i:=16) (by kernel_rfl) rfl (fun K c=>?_)
    rw[yw (by kernel_rfl)]
    have p:=(b9.o.al t.heap.size (by simp)).2
    have A:=(b9.o.al C.heap.size (by simp)).2
    have a2:=(b9.o.al t.heap.size (by simp)).1
    have a0:=(b9.o.al C.heap.size (by simp)).1
    refine zj 26 _ _ rfl t.heap.size 0 q.toArray (by kernel_rfl) (by kernel_rfl) (Ay p (by rw[yq,bg.o.len];exact yf _)) (by rw[yq];exact C9 bg.o.len) (yB (At bg.o)) ?_
    have d:Bh cg (cg.setCells t.heap.size 0 q.toArray.toList) t.heap.size q 26:=by
     have h:=Ab t.heap.size 26 q 0 cg [] _ [] (by simpa using p) rfl (by rw[bg.o.len];rfl)
     simpa using h
    generalize cg.setCells t.heap.size 0 q.toArray.toList=s at d ⊢
    refine c.o _ _ (fun _=>d.below f8.o (by have:=k.o;have:=Q.o;have:=a6.o;have:=dy.o;have:=du.o;omega)) ?_
    clear c K
    refine A7 (i:=17) (by kernel_rfl) rfl (fun K c=>?_)
    rw[yw (by kernel_rfl)]
    have f:=(d.block C.heap.size (by have:=k.o;have:=Q.o;have:=a6.o;have:=dy.o;have:=du.o;omega)).trans A
    refine zj 26 _ _ rfl C.heap.size 0 r1.toArray (by kernel_rfl) (by kernel_rfl) (Ay f (by rw[yq,bp.o.len];exact yf _)) (by rw[yq];exact C9 bp.o.len) (yB (At bp.o)) ?_
    have n:Bh s (s.setCells C.heap.size 0 r1.toArray.toList) C.heap.size r1 26:=by
     have h:=Ab C.heap.size 26 r1 0 s [] _ [] (by simpa using f) rfl (by rw[bp.o.len];rfl)
     simpa using h
    generalize s.setCells C.heap.size 0 r1.toArray.toList=V2 at n ⊢
    refine c.o _ _ (by intro h;cases h) ?_
    clear c K
    refine AQ (by kernel_rfl) ?_
    refine H.o _ _ ?_
    exact BD S.o HG.o R.o (DF b9.o bg.o bp.o d n (by simp) (by simp) (by have:=k.o;have:=Q.o;have:=a6.o;have:=dy.o;have:=du.o;omega))
   ·
    go_simp
    have f2:=yb d4.o.alloc
    have co:Hid (Below w1.heap.size w1 (D.alloc (.cells ja 26))):=yb (an.o.alloc an.o.size _)
    have gq:=yb (Bj f0.o (.cells ja 26))
    have de:Hid ((D.alloc (.cells ja 26)).heap.size=D.heap.size+1):=yb (by simp)
    generalize D.alloc (.cells ja 26)=hu at*
    refine c.o _ _ (fun _=>co.o) ?_
    clear c K
    refine A7 (i:=13) (by kernel_rfl) rfl (fun K c=>?_)
    go_simp
    refine (Z.o _ _ f2.o).mono ?_
    rintro e ch ⟨r1,rfl,fa,aw⟩
    have ar:=yb (f2.o.call aw)
    have ei:=yb (co.o.trans (aw.mono co.o.size))
    have ao:=yb fa
    have dx:=yb aw.size
    have b0:=yb (Hg gq.o aw)
    clear aw fa
    refine c.o _ _ (fun _=>ei.o) ?_
    clear c K
    refine A7 (i:=16) (by kernel_rfl) rfl (fun K c=>?_)
    rw[yw (by kernel_rfl)]
    have p:=(ar.o.al t.heap.size (by simp)).2
    have A:=(ar.o.al D.heap.size (by simp)).2
    have a2:=(ar.o.al t.heap.size (by simp)).1
    have a0:=(ar.o.al D.heap.size (by simp)).1
    refine zj 26 _ _ rfl t.heap.size 0 q.toArray (by kernel_rfl) (by kernel_rfl) (Ay p (by rw[yq,b0.o.len];exact yf _)) (by rw[yq];exact C9 b0.o.len) (yB (At b0.o)) ?_
    have d:Bh ch (ch.setCells t.heap.size 0 q.toArray.toList) t.heap.size q 26:=by
     have h:=Ab t.heap.size 26 q 0 ch [] _ [] (by simpa using p) rfl (by rw[b0.o.len];rfl)
     simpa using h
    generalize ch.setCells t.heap.size 0 q.toArray.toList=s at d ⊢
    refine c.o _ _ (fun _=>d.below ei.o (by have:=k.o;have:=Q.o;have:=a6.o;have:=de.o;have:=dx.o;omega)) ?_
    clear c K
    refine A7 (i:=17) (by kernel_rfl) rfl (fun K c=>?_)
    rw[yw (by kernel_rfl)]
    have f:=(d.block D.heap.size (by have:=k.o;have:=Q.o;have:=a6.o;have:=de.o;have:=dx.o;omega)).trans A
    refine zj 26 _ _ rfl D.heap.size 0 r1.toArray (by kernel_rfl) (by kernel_rfl) (Ay f (by rw[yq,ao.o.len];exact yf _)) (by rw[yq];exact C9 ao.o.len) (yB (At ao.o)) ?_
    have n:Bh s (s.setCells D.heap.size 0 r1.toArray.toList) D.heap.size r1 26:=by
     have h:=Ab D.heap.size 26 r1 0 s [] _ [] (by simpa using f) rfl (by rw[ao.o.len];rfl)
     simpa using h
    generalize s.setCells D.heap.size 0 r1.toArray.toList=V2 at n ⊢
    refine c.o _ _ (by intro h;cases h) ?_
    clear c K
    refine AQ (by kernel_rfl) ?_
    refine H.o _ _ ?_
    exact BD S.o HG.o R.o (DF ar.o b0.o ao.o d n (by simp) (by simp) (by have:=k.o;have:=Q.o;have:=a6.o;have:=de.o;have:=dx.o;omega))
  ·
   go_simp
   have f5:=yb d3.o.alloc
   have cv:Hid (Below w1.heap.size w1 (E.alloc (.cells ja 26))):=yb (ah.o.alloc ah.o.size _)
   have dh:Hid ((E.alloc (.cells ja 26)).heap.size=E.heap.size+1):=yb (by simp)
   generalize E.alloc (.cells ja 26)=hz at*
   refine c.o _ _ (fun _=>cv.o) ?_
   clear c K
   refine A7 (i:=6) (by kernel_rfl) rfl (fun K c=>?_)
   go_simp
   refine (cl.o _ _ f5.o).mono ?_
   rintro e hy ⟨q,rfl,es,ce⟩
   have ee:=yb (f5.o.call ce)
   have d0:=yb (cv.o.trans (ce.mono cv.o.size))
   have gk:=yb es
   have db:=yb ce.size
   clear ce es
   refine c.o _ _ (fun _=>d0.o) ?_
   clear c K
   refine A7 (i:=13) (by kernel_rfl) rfl (fun K c=>?_)
   go_simp
   refine (Z.o _ _ ee.o).mono ?_
   rintro e c8 ⟨r1,rfl,eo,ba⟩
   have ac:=yb (ee.o.call ba)
   have ej:=yb (d0.o.trans (ba.mono d0.o.size))
   have ag:=yb eo
   have dg:=yb ba.size
   have bn:=yb (Hg gk.o ba)
   clear ba eo
   refine c.o _ _ (fun _=>ej.o) ?_
   clear c K
   refine A7 (i:=16) (by kernel_rfl) rfl (fun K c=>?_)
   rw[yw (by kernel_rfl)]
   have p:=(ac.o.al t.heap.size (by simp)).2
   have A:=(ac.o.al E.heap.size (by simp)).2
   have a2:=(ac.o.al t.heap.size (by simp)).1
   have a0:=(ac.o.al E.heap.size (by simp)).1
   refine zj 26 _ _ rfl t.heap.size 0 q.toArray (by kernel_rfl) (by kernel_rfl) (Ay p (by rw[yq,bn.o.len];exact yf _)) (by rw[yq];exact C9 bn.o.len) (yB (At bn.o)) ?_
   have d:Bh c8 (c8.setCells t.heap.size 0 q.toArray.toList) t.heap.size q 26:=by
    have h:=Ab t.heap.size 26 q 0 c8 [] _ [] (by simpa using p) rfl (by rw[bn.o.len];rfl)
    simpa using h
   generalize c8.setCells t.heap.size 0 q.toArray.toList=s at d ⊢
   refine c.o _ _ (fun _=>d.below ej.o (by have:=k.o;have:=Q.o;have:=dh.o;have:=db.o;have:=dg.o;omega)) ?_
   clear c K
   refine A7 (i:=17) (by kernel_rfl) rfl (fun K c=>?_)
   rw[yw (by kernel_rfl)]
   have f:=(d.block E.heap.size (by have:=k.o;have:=Q.o;have:=dh.o;have:=db.o;have:=dg.o;omega)).trans A
   refine zj 26 _ _ rfl E.heap.size 0 r1.toArray (by kernel_rfl) (by kernel_rfl) (Ay f (by rw[yq,ag.o.len];exact yf _)) (by rw[yq];exact C9 ag.o.len) (yB (At ag.o)) ?_
   have n:Bh s (s.setCells E.heap.size 0 r1.toArray.toList) E.heap.size r1 26:=by
    have h:=Ab E.heap.size 26 r1 0 s [] _ [] (by simpa using f) rfl (by rw[ag.o.len];rfl)
    simpa using h
   generalize s.setCells E.heap.size 0 r1.toArray.toList=V2 at n ⊢
   refine c.o _ _ (by intro h;cases h) ?_
   clear c K
   refine AQ (by kernel_rfl) ?_
   refine H.o _ _ ?_
   exact BD S.o HG.o R.o (DF ac.o bn.o ag.o d n (by simp) (by simp) (by have:=k.o;have:=Q.o;have:=dh.o;have:=db.o;have:=dg.o;omega))
 ·
  go_simp
  have e0:=yb e8.o.alloc
  have aq:Hid (Below w1.heap.size w1 (t.alloc (.cells ja 26))):=yb (F.o.alloc F.o.size _)
  have P:Hid ((t.alloc (.cells ja 26)).heap.size=t.heap.size+1):=yb (by simp)
  generalize t.alloc (.cells ja 26)=M at*
  refine c.o _ _ (fun _=>aq.o) ?_
  clear c K
  refine DI (i:=6) (j:=14) (by kernel_rfl) rfl rfl (fun K c=>?_) (fun K c=>?_)
  ·
   go_simp
   refine (cl.o _ _ e0.o).mono ?_
   rintro e N ⟨q,rfl,ed,cc⟩
   have ck:=yb (e0.o.call cc)
   have ap:=yb (aq.o.trans (cc.mono aq.o.size))
   have ef:=yb ed
   have a7:=yb cc.size
   clear cc ed
   refine c.o _ _ (fun _=>ap.o) ?_
   clear c K
   refine DI (i:=13) (j:=14) (by kernel_rfl) rfl rfl (fun K c=>?_) (fun K c=>?_)
   ·
    go_simp
    refine (Z.o _ _ ck.o).mono ?_
    rintro e O ⟨r1,rfl,ex,au⟩
    have fu:=yb (ck.o.call au)
    have e1:=yb (ap.o.trans (au.mono ap.o.size))
    have ft:=yb ex
    have dk:=yb au.size
    have g6:=yb (Hg ef.o au)
    clear au ex
    refine c.o _ _ (fun _=>e1.o) ?_
    clear c K
    refine A7 (i:=14) (by kernel_rfl) rfl (fun K c=>?_)
    go_simp
    have aj:=yb fu.o.alloc
    have ep:Hid (Below w1.heap.size w1 (O.alloc (.cells ja 26))):=yb (e1.o.alloc e1.o.size _)
    have ax:=yb (Bj g6.o (.cells ja 26))
    have bk:=yb (Bj ft.o (.cells ja 26))
    have cx:Hid ((O.alloc (.cells ja 26)).heap.size=O.heap.size+1):=yb (by simp)
    generalize O.alloc (.cells ja 26)=cf at*
    refine c.o _ _ (fun _=>ep.o) ?_
    clear c K
    refine A7 (i:=16) (by kernel_rfl) rfl (fun K c=>?_)
    rw[yw (by kernel_rfl)]
    have p:=(aj.o.al O.heap.size (by simp)).2
    have A:=(aj.o.al t.heap.size (by simp)).2
    have a2:=(aj.o.al O.heap.size (by simp)).1
    have a0:=(aj.o.al t.heap.size (by simp)).1
    refine zj 26 _ _ rfl O.heap.size 0 q.toArray (by kernel_rfl) (by kernel_rfl) (Ay p (by rw[yq,ax.o.len];exact yf _)) (by rw[yq];exact C9 ax.o.len) (yB (At ax.o)) ?_
    have d:Bh cf (cf.setCells O.heap.size 0 q.toArray.toList) O.heap.size q 26:=by
     have h:=Ab O.heap.size 26 q 0 cf [] _ [] (by simpa using p) rfl (by rw[ax.o.len];rfl)
     simpa using h
    generalize cf.setCells O.heap.size 0 q.toArray.toList=s at d ⊢
    refine c.o _ _ (fun _=>d.below ep.o (by have:=k.o;have:=P.o;have:=a7.o;have:=dk.o;have:=cx.o;omega)) ?_
    clear c K
    refine A7 (i:=17) (by kernel_rfl) rfl (fun K c=>?_)
    rw[yw (by kernel_rfl)]
    have f:=(d.block t.heap.size (by have:=k.o;have:=P.o;have:=a7.o;have:=dk.o;have:=cx.o;omega)).trans A
    refine zj 26 _ _ rfl t.heap.size 0 r1.toArray (by kernel_rfl) (by kernel_rfl) (Ay f (by rw[yq,bk.o.len];exact yf _)) (by rw[yq];exact C9 bk.o.len) (yB (At bk.o)) ?_
    have n:Bh s (s.setCells t.heap.size 0 r1.toArray.toList) t.heap.size r1 26:=by
     have h:=Ab t.heap.size 26 r1 0 s [] _ [] (by simpa using f) rfl (by rw[bk.o.len];rfl)
     simpa using h
    generalize s.setCells t.heap.size 0 r1.toArray.toList=V2 at n ⊢
    refine c.o _ _ (by intro h;cases h) ?_
    clear c K
    refine AQ (by kernel_rfl) ?_
    refine H.o _ _ ?_
    exact BD S.o HG.o R.o (DF aj.o ax.o bk.o d n (by simp) (by simp) (by have:=k.o;have:=P.o;have:=a7.o;have:=dk.o;have:=cx.o;omega))
   ·
    go_simp
    have f1:=yb ck.o.alloc
    have cu:Hid (Below w1.heap.size w1 (N.alloc (.cells ja 26))):=yb (ap.o.alloc ap.o.size _)
    have go:=yb (Bj ef.o (.cells ja 26))
    have dv:Hid ((N.alloc (.cells ja 26)).heap.size=N.heap.size+1):=yb (by simp)
    generalize N.alloc (.cells ja 26)=i0 at*
    refine c.o _ _ (fun _=>cu.o) ?_
    clear c K
    refine A7 (i:=13) (by kernel_rfl) rfl (fun K c=>?_)
    go_simp
    refine (Z.o _ _ f1.o).mono ?_
    rintro e c9 ⟨r1,rfl,em,af⟩
    have b7:=yb (f1.o.call af)
    have f6:=yb (cu.o.trans (af.mono cu.o.size))
    have az:=yb em
    have da:=yb af.size
    have bj:=yb (Hg go.o af)
    clear af em
    refine c.o _ _ (fun _=>f6.o) ?_
    clear c K
    refine A7 (i:=16) (by kernel_rfl) rfl (fun K c=>?_)
    rw[yw (by kernel_rfl)]
    have p:=(b7.o.al N.heap.size (by simp)).2
    have A:=(b7.o.al t.heap.size (by simp)).2
    have a2:=(b7.o.al N.heap.size (by simp)).1
    have a0:=(b7.o.al t.heap.size (by simp)).1
    refine zj 26 _ _ rfl N.heap.size 0 q.toArray (by kernel_rfl) (by kernel_rfl) (Ay p (by rw[yq,bj.o.len];exact yf _)) (by rw[yq];exact C9 bj.o.len) (yB (At bj.o)) ?_
    have d:Bh c9 (c9.setCells N.heap.size 0 q.toArray.toList) N.heap.size q 26:=by
     have h:=Ab N.heap.size 26 q 0 c9 [] _ [] (by simpa using p) rfl (by rw[bj.o.len];rfl)
     simpa using h
    generalize c9.setCells N.heap.size 0 q.toArray.toList=s at d ⊢
    refine c.o _ _ (fun _=>d.below f6.o (by have:=k.o;have:=P.o;have:=a7.o;have:=dv.o;have:=da.o;omega)) ?_
    clear c K
    refine A7 (i:=17) (by kernel_rfl) rfl (fun K c=>?_)
    rw[yw (by kernel_rfl)]
    have f:=(d.block t.heap.size (by have:=k.o;have:=P.o;have:=a7.o;have:=dv.o;have:=da.o;omega)).trans A
    refine zj 26 _ _ rfl t.heap.size 0 r1.toArray (by kernel_rfl) (by kernel_rfl) (Ay f (by rw[yq,az.o.len];exact yf _)) (by rw[yq];exact C9 az.o.len) (yB (At az.o)) ?_
    have n:Bh s (s.setCells t.heap.size 0 r1.toArray.toList) t.heap.size r1 26:=by
     have h:=Ab t.heap.size 26 r1 0 s [] _ [] (by simpa using f) rfl (by rw[az.o.len];rfl)
     simpa using h
    generalize s.setCells t.heap.size 0 r1.toArray.toList=V2 at n ⊢
    refine c.o _ _ (by intro h;cases h) ?_
    clear c K
    refine AQ (by kernel_rfl) ?_
    refine H.o _ _ ?_
    exact BD S.o HG.o R.o (DF b7.o bj.o az.o d n (by simp) (by simp) (by have:=k.o;have:=P.o;have:=a7.o;have:=dv.o;have:=da.o;omega))
  ·
   go_simp
   have ey:=yb e0.o.alloc
   have d6:Hid (Below w1.heap.size w1 (M.alloc (.cells ja 26))):=yb (aq.o.alloc aq.o.size _)
   have dd:Hid ((M.alloc (.cells ja 26)).heap.size=M.heap.size+1):=yb (by simp)
   generalize M.alloc (.cells ja 26)=hw at*
   refine c.o _ _ (fun _=>d6.o) ?_
   clear c K
   refine A7 (i:=6) (by kernel_rfl) rfl (fun K c=>?_)
   go_simp
   refine (cl.o _ _ ey.o).mono ?_
   rintro e hx ⟨q,rfl,ek,bv⟩
   have eg:=yb (ey.o.call bv)
   have dw:=yb (d6.o.trans (bv.mono d6.o.size))
   have gm:=yb ek
   have d1:=yb bv.size
   clear bv ek
   refine c.o _ _ (fun _=>dw.o) ?_
   clear c K
   refine A7 (i:=13) (by kernel_rfl) rfl (fun K c=>?_)
   go_simp
   refine (Z.o _ _ eg.o).mono ?_
   rintro e bu ⟨r1,rfl,f7,ai⟩
   have be:=yb (eg.o.call ai)
   have fb:=yb (dw.o.trans (ai.mono dw.o.size))
   have bm:=yb f7
   have di:=yb ai.size
   have bi:=yb (Hg gm.o ai)
   clear ai f7
   refine c.o _ _ (fun _=>fb.o) ?_
   clear c K
   refine A7 (i:=16) (by kernel_rfl) rfl (fun K c=>?_)
   rw[yw (by kernel_rfl)]
   have p:=(be.o.al M.heap.size (by simp)).2
   have A:=(be.o.al t.heap.size (by simp)).2
   have a2:=(be.o.al M.heap.size (by simp)).1
   have a0:=(be.o.al t.heap.size (by simp)).1
   refine zj 26 _ _ rfl M.heap.size 0 q.toArray (by kernel_rfl) (by kernel_rfl) (Ay p (by rw[yq,bi.o.len];exact yf _)) (by rw[yq];exact C9 bi.o.len) (yB (At bi.o)) ?_
   have d:Bh bu (bu.setCells M.heap.size 0 q.toArray.toList) M.heap.size q 26:=by
    have h:=Ab M.heap.size 26 q 0 bu [] _ [] (by simpa using p) rfl (by rw[bi.o.len];rfl)
    simpa using h
   generalize bu.setCells M.heap.size 0 q.toArray.toList=s at d ⊢
   refine c.o _ _ (fun _=>d.below fb.o (by have:=k.o;have:=P.o;have:=dd.o;have:=d1.o;have:=di.o;omega)) ?_
   clear c K
   refine A7 (i:=17) (by kernel_rfl) rfl (fun K c=>?_)
   rw[yw (by kernel_rfl)]
   have f:=(d.block t.heap.size (by have:=k.o;have:=P.o;have:=dd.o;have:=d1.o;have:=di.o;omega)).trans A
   refine zj 26 _ _ rfl t.heap.size 0 r1.toArray (by kernel_rfl) (by kernel_rfl) (Ay f (by rw[yq,bm.o.len];exact yf _)) (by rw[yq];exact C9 bm.o.len) (yB (At bm.o)) ?_
   have n:Bh s (s.setCells t.heap.size 0 r1.toArray.toList) t.heap.size r1 26:=by
    have h:=Ab t.heap.size 26 r1 0 s [] _ [] (by simpa using f) rfl (by rw[bm.o.len];rfl)
    simpa using h
   generalize s.setCells t.heap.size 0 r1.toArray.toList=V2 at n ⊢
   refine c.o _ _ (by intro h;cases h) ?_
   clear c K
   refine AQ (by kernel_rfl) ?_
   refine H.o _ _ ?_
   exact BD S.o HG.o R.o (DF be.o bi.o bm.o d n (by simp) (by simp) (by have:=k.o;have:=P.o;have:=dd.o;have:=d1.o;have:=di.o;omega))
end Go.Proofs.YtjofgpfocadomaaGreatDoor
namespace Go.Proofs.YtjofgpfocadomaaGreatDoor
open Go.RowKit
set_option linter.unusedSimpArgs false
theorem OU{N:NP}{w:World}{L:Bz}{cs xs:LV}{x:AB}{e:Ex}(h:BT N w L cs x)(hN:∀b,N b->b < w.heap.size)(P:AH N w e xs)(hg:GV w)(hu:GU w)(A:Mr e):
  Calls Tryz.prog 5 #[.agg cs.toArray,.agg xs.toArray] w fun r w'=>r=.returned (.bool true)∧Below w.heap.size w w':=by
 have z:Hid ((Tryz.prog.info? 35).map (·.size)=some cs.length):=yb (KU h)
 have H6:Hid (xs.length=6):=yb P.len
 have HT:=yb (TB h hN P hg hu)
 have bx:=yb A
 clear h hN P hg hu A
 go_enter Tryz.func5,Tryz.ntmps5
 refine Ah fun K l=>?_
 go_wp2_with (first|(with_reducible refine KW rfl 35 _ rfl cs.toArray (by kernel_rfl) ?_)|(with_reducible refine KW rfl 26 _ rfl xs.toArray (by kernel_rfl) ?_))
 refine l.o _ _ ?_
 clear l K
 generalize (w.alloc _).alloc _=w0 at HT ⊢
 refine Ah fun K l=>?_
 go_wp2_with (first|(go_at_call 7;with_reducible refine (Ts HT.o.gv HT.o.gu).mono ?_;rintro r w1 ⟨rfl,aq⟩;have u:=yb (HT.o.up aq);clear aq))
 refine l.o _ _ ?_
 clear l K HT
 refine Ah fun K l=>?_
 have C:Hid (Calls Tryz.prog 8 #[.agg cs.toArray] w1 fun r w'=>r=.returned (.bool (EP x))∧Below w1.heap.size w1 w'):=yb (by obtain ⟨L,P⟩:=u.o.sv;exact RP P (fun _ h=>h))
 cases p:EP x
 ·rw[p] at C
  clear l p
  go_wp2_with (first
   |(with_reducible refine yj rfl 35 _ rfl w.heap.size 0 (by kernel_rfl) cs _ u.o.rs qV (by kernel_rfl) z.o ?_)
   |(go_at_call 8;with_reducible refine C.o.mono ?_;rintro r w2 ⟨rfl,t⟩;have n:=yb (u.o.up t);clear t))
  go_ret
  exact ⟨rfl,n.o.below⟩
 have HF:=yb p
 rw[p] at C
 clear p
 have az:=OJ 9 e
 by_cases hd:Fj 9 e<=8
 rotate_left
 ·have e9:Fj 9 e=9:=by omega
  have Z:Hid (∀W,Je w cs xs x e W->Calls Tryz.prog 16 #[.agg xs.toArray,iV 9] W fun r w'=>r=.returned (iV 9)∧Below W.heap.size W w'):=yb (fun W j=>by
   have h:=OK 9 (by omega) e j.ev
   rw[e9] at h
   exact h)
  clear l hd az e9
  go_wp2_with (first
   |(with_reducible refine yj rfl 35 _ rfl w.heap.size 0 (by kernel_rfl) cs _ u.o.rs qV (by kernel_rfl) z.o ?_)
   |(go_at_call 8;with_reducible refine C.o.mono ?_;rintro r w2 ⟨rfl,t⟩;have n:=yb (u.o.up t);clear t)
   |(with_reducible refine Da (by kernel_rfl) 26 _ rfl (w.heap.size+1) 0 (by kernel_rfl) xs _ n.o.rx qM (by kernel_rfl) (C9 H6.o) ?_)
   |(go_at_call 16;with_reducible refine (Z.o _ n.o).mono ?_;rintro r w3 ⟨rfl,J⟩;have G:=yb (n.o.up J);clear J))
  go_ret
  exact ⟨rfl,G.o.below⟩
 obtain ⟨dp,ag⟩:∃dp,dp=Fj 9 e:=⟨_,rfl⟩
 rw[<-ag] at hd
 have be:decide (8 < (dp:Int))=false:=by simp;omega
 have Z:Hid (∀W,Je w cs xs x e W->Calls Tryz.prog 16 #[.agg xs.toArray,iV 9] W fun r w'=>r=.returned (iV (dp:Int))∧Below W.heap.size W w'):=yb (fun W j=>by
  have h:=OK 9 (by omega) e j.ev
  rw[ag]
  exact h)
 clear hd az ag
 go_wp2_with (first
  |(with_reducible refine yj rfl 35 _ rfl w.heap.size 0 (by kernel_rfl) cs _ u.o.rs qV (by kernel_rfl) z.o ?_)
  |(go_at_call 8;with_reducible refine C.o.mono ?_;rintro r w2 ⟨rfl,t⟩;have n:=yb (u.o.up t);clear t)
  |(with_reducible refine Da (by kernel_rfl) 26 _ rfl (w.heap.size+1) 0 (by kernel_rfl) xs _ n.o.rx qM (by kernel_rfl) (C9 H6.o) ?_)
  |(go_at_call 16;with_reducible refine (Z.o _ n.o).mono ?_;rintro r w3 ⟨rfl,J⟩;have G:=yb (n.o.up J);clear J))
 refine l.o _ _ ?_
 clear l K Z C u n be
 have ab:Hid (∀W,Je w cs xs x e W->Calls Tryz.prog 19 #[.agg xs.toArray,iV 8] W fun r w'=>∃ax:LV,r=.returned (.agg ax.toArray)∧AH (GF VI w') w' (Dq 8 e) ax∧Below W.heap.size W w'):=yb (fun W j=>Q6 8 (by omega) e VI W xs (UZ j.ev) (fun _ h=>h.elim))
 obtain ⟨y,hy⟩:∃y,y=(Dq 8 e):=⟨_,rfl⟩
 rw[<-hy] at ab
 have HY:=yb hy
 clear hy
 refine Ah fun K l=>?_
 go_wp2_with (first
  |(with_reducible refine yj rfl 26 _ rfl (w.heap.size+1) 0 (by kernel_rfl) xs _ G.o.rx qM (by kernel_rfl) (C9 H6.o) ?_)
  |(go_at_call 19;with_reducible refine (ab.o _ G.o).mono ?_;rintro r w4 ⟨ys,rfl,ao,b7⟩;have au:=yb (G.o.up b7);have E:=yb ao;clear ao b7)
  |(with_reducible refine Az rfl 26 _ _ rfl w4.heap.size (by kernel_rfl) ys (by kernel_rfl) (World.alloc_heap_new _ _) (by rw[E.o.len];kernel_rfl) (C9 E.o.len) (At E.o) ?_;intro F ar;have ak:=yb ar;clear ar))
 refine l.o _ _ ?_
 clear l K ab
 have an:Hid (ys.length=6):=yb E.o.len
 have D:Hid (Below w4.heap.size w4 F):=yb (ak.o.below ((yg _ _).alloc (yf _) _) (yf _))
 have a7:=yb (au.o.up D.o)
 obtain ⟨q,p⟩:∃q,q=w4.heap.size:=⟨_,rfl⟩
 have d:=ak.o.row
 rw[<-p] at d ⊢
 have U:Hid (∀W,Below F.heap.size F W->W.rangeAt q 0 ys∧AH (fun b=>b < W.heap.size) W y ys):=yb (fun W j=>⟨Ar ((j.block _ (yd.1 d).1).trans d),V0 (E.o.flux' ((Db.below D.o).trans (Db.below j)))⟩)
 clear d p ak E au D
 obtain ⟨⟨⟨m1,m2,m3⟩,er⟩,hm⟩:∃m,m=Fi x e:=⟨_,rfl⟩
 obtain ⟨⟨⟨v1,v2⟩,vr⟩,P⟩:∃m,m=Bv x e:=⟨_,rfl⟩
 have av:Fi x y=⟨⟨m1,m2,m3⟩,er⟩:=by rw[HY.o,(KT x 8 e).1,hm]
 obtain ⟨vs,ad⟩:∃vs,vs=(Bv x y).2:=⟨_,rfl⟩
 have b4:Bv x y=⟨⟨v1,v2⟩,vs⟩:=by
  have h:=(KT x 8 e).2.1
  rw[<-HY.o,<-P] at h
  exact Prod.ext h ad.symm
 have bz:(vr==0)=(vs==0):=by
  have h:=(KT x 8 e).2.2
  rw[<-HY.o,<-P,<-ad] at h
  simp only at h
  rw[xA]
  simp only[qr]
  exact h.symm
 have Y:Hid (∀W,Je w cs xs x e W->Calls Tryz.prog 9 #[.agg cs.toArray,.agg xs.toArray] W (QB ⟨⟨m1,m2,m3⟩,er⟩ W)):=yb (fun W j=>by rw[hm];exact IF (j.ok HF.o) j.ev)
 have V:Hid (∀W,Je w cs xs x e W->Below F.heap.size F W->Calls Tryz.prog 9 #[.agg cs.toArray,.agg ys.toArray] W (QB ⟨⟨m1,m2,m3⟩,er⟩ W)):=yb (fun W j hb=>by rw[<-av];exact IF (j.ok HF.o) (U.o W hb).2)
 have a0:Hid (∀W,Je w cs xs x e W->Calls Tryz.prog 10 #[.agg cs.toArray,.agg xs.toArray] W (Ua ⟨⟨v1,v2⟩,vr⟩ W)):=yb (fun W j=>by rw[P];exact DP (j.ok HF.o) j.ev)
 have a2:Hid (∀W,Je w cs xs x e W->Below F.heap.size F W->Calls Tryz.prog 10 #[.agg cs.toArray,.agg ys.toArray] W (Ua ⟨⟨v1,v2⟩,vs⟩ W)):=yb (fun W j hb=>by rw[<-b4];exact DP (j.ok HF.o) (U.o W hb).2)
 have am:Hid (∀W,Below F.heap.size F W->W.rangeAt q 0 ys):=yb (fun W j=>(U.o W j).1)
 unfold QB at Y V
 unfold Ua at a0 a2
 unfold Dm.v at Y V
 unfold Rt.v at a0 a2
 dsimp only at Y V a0 a2
 have D:=yb (yg F.heap.size F)
 clear U HY hm P av b4 ad
 refine Ah fun K l=>?_
 go_wp2_with (first
  |(with_reducible refine yj rfl 35 _ rfl w.heap.size 0 (by kernel_rfl) cs _ a7.o.rs qV (by kernel_rfl) z.o ?_)
  |(with_reducible refine yj rfl 26 _ rfl (w.heap.size+1) 0 (by kernel_rfl) xs _ (a7.o.rx) qM (by kernel_rfl) (C9 H6.o) ?_)
  |(go_at_call 9;with_reducible refine (Y.o _ a7.o).mono ?_;rintro r w6 ⟨rfl,hb⟩;have b9:=yb (a7.o.up hb);have aw:=yb (D.o.trans (hb.mono D.o.size));have c8:=yb hb;clear hb)
  |(with_reducible refine Az rfl 39 _ _ rfl w6.heap.size (by kernel_rfl) [iV m1,iV m2,iV m3] (by kernel_rfl) (World.alloc_heap_new _ _) (by kernel_rfl) (by kernel_rfl) (by simp[Value.oneCell']) ?_;intro w7 A;have ae:=yb A;clear A))
 refine l.o _ _ ?_
 clear l K
 have f:Below w6.heap.size w6 w7:=ae.o.below ((yg _ _).alloc (yf _) _) (yf _)
 have af:=yb (b9.o.up f)
 have S:=yb (aw.o.trans (f.mono aw.o.size))
 obtain ⟨q6,p⟩:∃q,q=w6.heap.size:=⟨_,rfl⟩
 have d:=ae.o.row
 rw[<-p] at d ⊢
 have bg:Hid (∀W,Below w7.heap.size w7 W->W.heap[q6]?=some (.cells [iV m1,iV m2,iV m3].toArray 39 (0,0))):=yb (fun W j=>(j.block _ (yd.1 d).1).trans d)
 have bn:=yb f
 clear d p ae f
 refine Ah fun K l=>?_
 go_wp2_with (first
  |(with_reducible refine yj rfl 35 _ rfl w.heap.size 0 (by kernel_rfl) cs _ af.o.rs qV (by kernel_rfl) z.o ?_)
  |(with_reducible refine yj rfl 26 _ rfl q 0 (by kernel_rfl) ys _ (am.o _ S.o) qM (by kernel_rfl) (C9 an.o) ?_)
  |(go_at_call 9;with_reducible refine (V.o _ af.o S.o).mono ?_;rintro r w8 ⟨rfl,hb⟩;have ba:=yb (af.o.up hb);have b8:=yb (S.o.trans (hb.mono S.o.size));have a:=yb hb;clear hb)
  |(with_reducible refine Az rfl 39 _ _ rfl w8.heap.size (by kernel_rfl) [iV m1,iV m2,iV m3] (by kernel_rfl) (World.alloc_heap_new _ _) (by kernel_rfl) (by kernel_rfl) (by simp[Value.oneCell']) ?_;intro w9 A;have ai:=yb A;clear A))
 refine l.o _ _ ?_
 clear l K
 have f:Below w8.heap.size w8 w9:=ai.o.below ((yg _ _).alloc (yf _) _) (yf _)
 have X:=yb (ba.o.up f)
 have ap:=yb (b8.o.trans (f.mono b8.o.size))
 obtain ⟨q7,p⟩:∃q,q=w8.heap.size:=⟨_,rfl⟩
 have d:=ai.o.row
 rw[<-p] at d ⊢
 have bb:Hid (∀W,Below w9.heap.size w9 W->W.heap[q7]?=some (.cells [iV m1,iV m2,iV m3].toArray 39 (0,0))):=yb (fun W j=>(j.block _ (yd.1 d).1).trans d)
 have i:=yb f
 clear d p ai f
 refine Ah fun K l=>?_
 go_wp2_with (first
  |(with_reducible refine yj rfl 35 _ rfl w.heap.size 0 (by kernel_rfl) cs _ X.o.rs qV (by kernel_rfl) z.o ?_)
  |(with_reducible refine yj rfl 26 _ rfl (w.heap.size+1) 0 (by kernel_rfl) xs _ (X.o.rx) qM (by kernel_rfl) (C9 H6.o) ?_)
  |(go_at_call 10;with_reducible refine (a0.o _ X.o).mono ?_;rintro r Q ⟨rfl,hb⟩;have b0:=yb (X.o.up hb);have a8:=yb (ap.o.trans (hb.mono ap.o.size));have c:=yb hb;clear hb)
  |(with_reducible refine Az rfl 44 _ _ rfl Q.heap.size (by kernel_rfl) [iV v1,iV v2] (by kernel_rfl) (World.alloc_heap_new _ _) (by kernel_rfl) (by kernel_rfl) (by simp[Value.oneCell']) ?_;intro ac A;have O:=yb A;clear A))
 refine l.o _ _ ?_
 clear l K
 have f:Below Q.heap.size Q ac:=O.o.below ((yg _ _).alloc (yf _) _) (yf _)
 have I:=yb (b0.o.up f)
 have B:=yb (a8.o.trans (f.mono a8.o.size))
 obtain ⟨q8,p⟩:∃q,q=Q.heap.size:=⟨_,rfl⟩
 have d:=O.o.row
 rw[<-p] at d ⊢
 have bd:Hid (∀W,Below ac.heap.size ac W->W.heap[q8]?=some (.cells [iV v1,iV v2].toArray 44 (0,0))):=yb (fun W j=>(j.block _ (yd.1 d).1).trans d)
 have k:=yb f
 clear d p O f
 refine Ah fun K l=>?_
 go_wp2_with (first
  |(with_reducible refine yj rfl 35 _ rfl w.heap.size 0 (by kernel_rfl) cs _ I.o.rs qV (by kernel_rfl) z.o ?_)
  |(with_reducible refine yj rfl 26 _ rfl q 0 (by kernel_rfl) ys _ (am.o _ B.o) qM (by kernel_rfl) (C9 an.o) ?_)
  |(go_at_call 10;with_reducible refine (a2.o _ I.o B.o).mono ?_;rintro r T ⟨rfl,hb⟩;have ay:=yb (I.o.up hb);have aa:=yb (B.o.trans (hb.mono B.o.size));have s:=yb hb;clear hb)
  |(with_reducible refine Az rfl 44 _ _ rfl T.heap.size (by kernel_rfl) [iV v1,iV v2] (by kernel_rfl) (World.alloc_heap_new _ _) (by kernel_rfl) (by kernel_rfl) (by simp[Value.oneCell']) ?_;intro g A;have M:=yb A;clear A))
 refine l.o _ _ ?_
 clear l K
 have f:Below T.heap.size T g:=M.o.below ((yg _ _).alloc (yf _) _) (yf _)
 have b5:=yb (ay.o.up f)
 have bi:=yb (aa.o.trans (f.mono aa.o.size))
 obtain ⟨q9,p⟩:∃q,q=T.heap.size:=⟨_,rfl⟩
 have d:=M.o.row
 rw[<-p] at d ⊢
 have bh:Hid (∀W,Below g.heap.size g W->W.heap[q9]?=some (.cells [iV v1,iV v2].toArray 44 (0,0))):=yb (fun W j=>(j.block _ (yd.1 d).1).trans d)
 have H:=yb f
 clear d p M f
 have R:=bg.o g (((((a.o.trans (i.o.mono a.o.size)).trans (c.o.mono (a.o.trans (i.o.mono a.o.size)).size)).trans (k.o.mono ((a.o.trans (i.o.mono a.o.size)).trans (c.o.mono (a.o.trans (i.o.mono a.o.size)).size)).size)).trans (s.o.mono (((a.o.trans (i.o.mono a.o.size)).trans (c.o.mono (a.o.trans (i.o.mono a.o.size)).size)).trans (k.o.mono ((a.o.trans (i.o.mono a.o.size)).trans (c.o.mono (a.o.trans (i.o.mono a.o.size)).size)).size)).size)).trans (H.o.mono ((((a.o.trans (i.o.mono a.o.size)).trans (c.o.mono (a.o.trans (i.o.mono a.o.size)).size)).trans (k.o.mono ((a.o.trans (i.o.mono a.o.size)).trans (c.o.mono (a.o.trans (i.o.mono a.o.size)).size)).size)).trans (s.o.mono (((a.o.trans (i.o.mono a.o.size)).trans (c.o.mono (a.o.trans (i.o.mono a.o.size)).size)).trans (k.o.mono ((a.o.trans (i.o.mono a.o.size)).trans (c.o.mono (a.o.trans (i.o.mono a.o.size)).size)).size)).size)).size))
 have a6:=bb.o g (((c.o.trans (k.o.mono c.o.size)).trans (s.o.mono (c.o.trans (k.o.mono c.o.size)).size)).trans (H.o.mono ((c.o.trans (k.o.mono c.o.size)).trans (s.o.mono (c.o.trans (k.o.mono c.o.size)).size)).size))
 have ah:=bd.o g (s.o.trans (H.o.mono s.o.size))
 have aj:=bh.o g (yg _ _)
 have bk:g.cell? (aV q6 0)=some (iV m1):=by simp[World.cell?,R]
 have bm:g.cell? (aV q6 1)=some (iV m2):=by simp[World.cell?,R]
 have bv:g.cell? (aV q6 2)=some (iV m3):=by simp[World.cell?,R]
 have bo:g.cell? (aV q7 0)=some (iV m1):=by simp[World.cell?,a6]
 have bj:g.cell? (aV q7 1)=some (iV m2):=by simp[World.cell?,a6]
 have bp:g.cell? (aV q7 2)=some (iV m3):=by simp[World.cell?,a6]
 have bt:g.cell? (aV q8 0)=some (iV v1):=by simp[World.cell?,ah]
 have bu:g.cell? (aV q8 1)=some (iV v2):=by simp[World.cell?,ah]
 have bw:g.cell? (aV q9 0)=some (iV v1):=by simp[World.cell?,aj]
 have bq:g.cell? (aV q9 1)=some (iV v2):=by simp[World.cell?,aj]
 clear R a6 ah aj
 go_wp2
 go_ret
 exact ⟨rfl,b5.o.below⟩
end Go.Proofs.YtjofgpfocadomaaGreatDoor
namespace Go.Proofs.YtjofgpfocadomaaGreatDoor
open Go.ChangeShapes Go.WideShapes Go.ChangeAt Go.WideMaps Go.WideElems Go.RowKit Go.ChangeMaps
theorem Ir(os:Os)(c:os.Started)(H:Type)(enc:TypeId × Value->H):
  ReturnsInHanded {} Tryz.checked os 5 .any (fun w args=>(Rows.unitsTurnedSpec.pre enc Tryz.prog Tryz.f5 [] false w args∧laidMetH Tryz.prog IL w)∧sizedMet enc Tryz.prog Tryz.f5 (OpenSpec.ofChange Rows.unitsTurnedSpec) false w args)
   (Rows.unitsTurnedSpec.post enc Tryz.prog Tryz.f5 false true false false):=by
 refine GM (C:=Tryz.checked) (X:=fun w _=>laidMetH Tryz.prog IL w) (fun _ _ _ T h=>h.of_heap T) own c (by kernel_rfl) Tryz.func5
  (ChangeSpec.witness_shaped (enc:=enc) (C:=Tryz.checked) (os:=os) (X:=fun w _=>laidMetH Tryz.prog IL w) false (World.doorLaid Tryz.prog 400 os) #[.agg #[.string ByteArray.empty,iV 0,iV 0,iV 0,.string ByteArray.empty,iV 0,.slice none 0 0,iV 0,iV 0,iV 0,.string ByteArray.empty,iV 0,.slice none 0 0,iV 0,iV 0,iV 0,.string ByteArray.empty,iV 0,.slice none 0 0,.slice none 0 0,.slice none 0 0,.slice none 0 0,.slice none 0 0,.slice none 0 0,.slice none 0 0,.slice none 0 0],.agg #[iV 0,iV 0,iV 0,.string ByteArray.empty,iV 0,.slice none 0 0]] 16 rfl (World.shaped_of_RefB (by kernel_rfl) (by kernel_rfl)) (by kernel_rfl) (by kernel_rfl) (by kernel_rfl) (TC os _)) ?_
 intro W base args ds O s a K i U z
 have l:(DataW.weightsEach Tryz.prog (Tryz.f5.params.toList++Rows.unitsTurnedSpec.plain.varTypes Tryz.prog) (ds++O)).all (·<=reachBytes)=true:=i
 have f:∀(j:Nat) t v,Tryz.f5.params[j]?=some t->args[j]?=some v->Value.okWide Tryz.prog W .any base t v:=a
 have g:=K
 obtain ⟨p,q,o,P,rfl,_,_⟩:=K
 have G:DataW.TrodAll enc Tryz.prog W 0 (fun _=>true) true Tryz.f5.params.toList args.toList ds p:=o
 rw[Tryz.params5] at G f l
 obtain ⟨v0,v1,J,I,p0,Z,rfl,rfl,rfl,h0,h1⟩:=trodAll_two G
 obtain ⟨rfl,rfl⟩:=trodVars_none P
 obtain ⟨cs,rfl,r⟩:=okWide_struct qV (f 0 35 v0 rfl rfl)
 obtain ⟨xs,rfl,Y⟩:=okWide_struct qM (f 1 26 v1 rfl rfl)
 rw[N9] at r
 have y:=h0
 have E:=h1
 obtain ⟨fuel,S⟩:=h0
 obtain ⟨m,B⟩:=h1
 clear o a i
 simp only[yV] at g
 have Q:Wt 35 J:=fun n A=>by simpa using yR.1 l n (yC (j:=0) (t:=35) (d:=J) rfl rfl _ A)
 have u:Wt 26 I:=fun n A=>by simpa using yR.1 l n (yC (j:=1) (t:=26) (d:=I) rfl rfl _ A)
 obtain ⟨L,x,V,_,_⟩:=OR (H:=H) (enc:=enc) (W:=W) (cs:=cs.toList) S Q (by simpa using r)
 obtain ⟨e,N,D⟩:=AM (H:=H) (enc:=enc) (W:=W) m xs.toList _ _ B u
 have M:=Na z
 have k:=OU V (fun b hb=>hb) N M (JM U M) D
 rw[show cs.toList.toArray=cs by simp,show xs.toList.toArray=xs by simp] at k
 refine k.mono fun e W' ⟨R,hb⟩=>?_
 subst R
 exact ⟨_,rfl,_,_,_,[],_,[],g,trodAll_mk1 (shut_bool qX true),trodAll_mk2 (Below.trod QJ (by kernel_rfl) (yO (by kernel_rfl)) y hb (fun x F=>g.lt x (by simp[F]))) (Below.trod QJ (by kernel_rfl) (yO (by kernel_rfl)) E hb (fun x F=>g.lt x (by simp[F]))),rfl,hb.frame _,fun h=>by cases h⟩
theorem unitsTurned_holds:Rows.UnitsTurnedSaid:=
 OpenClaim.holds_of_wide 5 Tryz.f5 rfl rfl rfl rfl rfl rfl rfl ⟨rfl,rfl,rfl,rfl,rfl⟩ rfl rfl rfl rfl rfl (by kernel_rfl) Tryz.func5 (by kernel_rfl)
  (yO (by kernel_rfl)) (by unfold Func.isWrapper;rw[yt (qo (by kernel_rfl))];exact ⟨rfl,rfl⟩)
  (fun os a H enc _=>Ir os a H enc)
theorem unitsTurnedCard_holds:Rows.UnitsTurnedCardSaid:=
 Claim7.holds_tied_plain_at .later [] [.data,.data,.data,.data,.data,.data] true (true, "11f3996585834df42a1b22c8d320a2ae51f6086afdeb77c2ef291d0b945e9561") true
  unitsTurned_holds (fun _ h=>by cases h) (by kernel_rfl) (fun _ h=>by cases h) unitsTurned_row_tie rfl ⟨rfl,rfl⟩ (by kernel_rfl) rfl
  (fun f fn e b=>by
   obtain rfl:f=5:=yi ((show Tryz.prog.funcNamed "acequia/acequialaw18.UnitsTurned" =some 5 by kernel_rfl).symm.trans e) |>.symm
   obtain rfl:fn=Tryz.f5:=(yi (Tryz.func5.symm.trans b)).symm
   exact ⟨by kernel_rfl,fun j t c=>by
    rw[Tryz.params5] at c
    have d:t∈[35,26]:=by simpa using zV c
    have a:([35,26].all fun u=>!Tryz.prog.wantsStandIn u)=true:=by kernel_rfl
    exact (show Tryz.prog.wantsStandIn t=false by simpa using yR.1 a t d)⟩)
  (by kernel_rfl)
#print axioms unitsTurnedCard_holds
end Go.Proofs.YtjofgpfocadomaaGreatDoor
