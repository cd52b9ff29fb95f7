/- Parts of the proof, in short words: Hb Hc Hd He Hf Hm Ia Hq Hr Id -/
import Derived.Test.YtjofgpfocadomaaGreatDoorUi0
import Derived.Test.YtjofgpfocadomaaGreatDoorUi17
import Derived.Test.YtjofgpfocadomaaGreatDoorUi9
import Derived.Test.YtjofgpfocadomaaGreatDoorUi16
import Derived.Test.YtjofgpfocadomaaGreatDoorUi14
import Derived.Test.YtjofgpfocadomaaGreatDoorUi12
import Derived.Test.YtjofgpfocadomaaGreatDoorTie
import Derived.ProofKit
import Derived.LaidMore
import Derived.LaidLaws
import Derived.Stop.LaidErr
import Derived.Lib.LaidTab
import Derived.HandedShaped
import Derived.BigRegion
import Derived.Test.YtjofgpfocadomaaGreatDoorCards
import Derived.SevenTiedAt
import Derived.Carry
set_option maxRecDepth 100000
set_option maxHeartbeats 32000000
set_option linter.unusedSimpArgs false
namespace Go.Proofs.YtjofgpfocadomaaGreatDoor
open Go.RowKit
set_option linter.unusedSimpArgs false
theorem OV(w:World):Calls Tryz.prog 21 #[] w fun e w'=>∃(B gf:Nat) (cells:Array Value),e=.returned (.agg cells)∧cells.size=26∧CA B gf 30 (.agg cells) w'∧w'.heap[gf]?=some (.cells #[.int .i64 1,.int .i64 40,.int .i64 1,.string ⟨#[]⟩,.int .i64 0,.slice none 0 0,.int .i64 1,.int .i64 1,.int .i64 3,.string ⟨#[]⟩,.int .i64 0,.slice none 0 0] 26 (0,0))∧w.heap.size<=B∧w.heap.size<=gf∧Below w.heap.size w w':=by
 go_enter Tryz.func21,Tryz.ntmps21
 refine Ae fun K r=>?_
 go_wp2
 refine r.o _ _ ?_
 clear r K
 have h0:=World.alloc_heap_new w (.cells #[.string ⟨#[]⟩,iV 0,iV 0,iV 0,.string ⟨#[]⟩,iV 0,.slice none 0 0,iV 0,iV 0,iV 0,.string ⟨#[]⟩,iV 0,.slice none 0 0,iV 0,iV 0,iV 0,.string ⟨#[]⟩,iV 0,.slice none 0 0,.slice none 0 0,.slice none 0 0,.slice none 0 0,.slice none 0 0,.slice none 0 0,.slice none 0 0,.slice none 0 0] 35)
 have z:=(yg w.heap.size w).alloc (yf _) (.cells #[.string ⟨#[]⟩,iV 0,iV 0,iV 0,.string ⟨#[]⟩,iV 0,.slice none 0 0,iV 0,iV 0,iV 0,.string ⟨#[]⟩,iV 0,.slice none 0 0,iV 0,iV 0,iV 0,.string ⟨#[]⟩,iV 0,.slice none 0 0,.slice none 0 0,.slice none 0 0,.slice none 0 0,.slice none 0 0,.slice none 0 0,.slice none 0 0,.slice none 0 0] 35)
 generalize w.alloc _=W at h0 z ⊢
 have V:=yb (And.intro h0 z)
 clear h0 z
 refine Ae fun K r=>?_
 go_wp2_with (first
  |(go_at_call 23;with_reducible refine (Bl 40 1 _).mono ?_;rintro e w2 ⟨rfl,h2⟩;have n:=yb h2;clear h2)
  |(go_at_call 23;with_reducible refine (Bl 1 3 _).mono ?_;rintro e w3 ⟨rfl,h3⟩;have U:=yb h3;clear h3)
  |(go_at_call 22;with_reducible refine (Iv 6 _ _ _ _ _ _ _ _ _ _ _ _ _ _ _ _ _).mono ?_;rintro e w4 ⟨gf,rfl,hg,d,S⟩;have O:=yb (And.intro hg (And.intro d S));clear hg d S))
 refine r.o _ _ ?_
 clear r K
 have q:Below W.heap.size W w4:=(n.o.trans (U.o.mono n.o.size)).trans (O.o.2.2.mono (by have:=n.o.size;have:=U.o.size;omega))
 have i:=(yg w4.heap.size w4).alloc (yf _) (.cells #[iV 6,iV 0,iV 0,.string ⟨#[]⟩,iV 0,.slice (some (aV gf 0)) 2 2] 26)
 have b:=World.alloc_heap_new w4 (.cells #[iV 6,iV 0,iV 0,.string ⟨#[]⟩,iV 0,.slice (some (aV gf 0)) 2 2] 26)
 have R:=(yd.1 O.o.2.1).1
 have h:=(i.block gf R).trans O.o.2.1
 have T:W.heap.size<=gf:=by have:=n.o.size;have:=U.o.size;have:=O.o.1;omega
 have G:=q.trans (i.mono q.size)
 have s:=q.size
 have HZ:Hid (W.heap.size<=w4.heap.size):=yb s
 generalize J:w4.heap.size=B1 at b ⊢
 rw[J] at HZ
 clear J
 generalize w4.alloc _=W5 at b h G ⊢
 have C:=yb (And.intro b (And.intro h (And.intro T G)))
 clear q i b R h T G s n U O
 refine Ae fun K r=>?_
 go_wp2_with (first
  |(go_at_call 23;with_reducible refine (Bl 0 0 _).mono ?_;rintro e H ⟨rfl,h2⟩;have n:=yb h2;clear h2))
 refine r.o _ _ ?_
 clear r K
 have i:=(yg H.heap.size H).alloc (yf _) (.cells #[iV 1,iV 0,iV 0,.string ⟨#[]⟩,iV 0,.slice none 0 0] 26)
 have b:=World.alloc_heap_new H (.cells #[iV 1,iV 0,iV 0,.string ⟨#[]⟩,iV 0,.slice none 0 0] 26)
 have m:=n.o.trans (i.mono n.o.size)
 have L:Hid (W5.heap.size<=H.heap.size):=yb n.o.size
 generalize a0:H.heap.size=B2 at b L ⊢
 clear a0
 generalize H.alloc _=A at b m ⊢
 have HN:=yb b
 have g:=yb m
 clear i b m n
 have E:=(yd.1 C.o.1).1
 have D:=(yd.1 V.o.1).1
 have j:=C.o.2.2.2
 have f:Hid (w.heap.size < W.heap.size∧W.heap.size<=W5.heap.size∧W5.heap.size<=A.heap.size∧B1 < W5.heap.size∧B2 < A.heap.size):=yb ⟨D,j.size,g.o.size,E,(yd.1 HN.o).1⟩
 have l:Hid (A.heap[w.heap.size]?=some (.cells #[.string ⟨#[]⟩,iV 0,iV 0,iV 0,.string ⟨#[]⟩,iV 0,.slice none 0 0,iV 0,iV 0,iV 0,.string ⟨#[]⟩,iV 0,.slice none 0 0,iV 0,iV 0,iV 0,.string ⟨#[]⟩,iV 0,.slice none 0 0,.slice none 0 0,.slice none 0 0,.slice none 0 0,.slice none 0 0,.slice none 0 0,.slice none 0 0,.slice none 0 0] 35 (0,0))):=yb ((g.o.block _ (by have:=f.o;omega)).trans ((j.block _ D).trans V.o.1))
 have I:Hid (A.heap[gf]?=some (.cells #[iV 1,iV 40,iV 1,.string ⟨#[]⟩,iV 0,.slice none 0 0,iV 1,iV 1,iV 3,.string ⟨#[]⟩,iV 0,.slice none 0 0] 26 (0,0))):=yb ((g.o.block _ (yd.1 C.o.2.1).1).trans C.o.2.1)
 have Q:Hid (Below w.heap.size w A):=yb (V.o.2.trans ((j.trans (g.o.mono j.size)).mono (by have:=f.o;omega)))
 have Y:Hid (A.rangeAt B1 0 [iV 6,iV 0,iV 0,.string ⟨#[]⟩,iV 0,.slice (some (aV gf 0)) 2 2]):=yb (AD (t:=26) ((g.o.block _ E).trans C.o.1))
 have a6:Hid (A.rangeAt B2 0 [iV 1,iV 0,iV 0,.string ⟨#[]⟩,iV 0,.slice none 0 0]):=yb (AD (t:=26) HN.o)
 have N:Hid (w.heap.size < gf):=yb (by have:=C.o.2.2.1;have:=f.o;omega)
 clear E D j C g HN L V HZ
 refine wp_seq ?_
 refine UE (B:=w.heap.size) (B1:=B1) (B2:=B2) (gf:=gf) (row0:=#[.string ⟨#[]⟩,iV 0,iV 0,iV 0,.string ⟨#[]⟩,iV 0,.slice none 0 0,iV 0,iV 0,iV 0,.string ⟨#[]⟩,iV 0,.slice none 0 0,iV 0,iV 0,iV 0,.string ⟨#[]⟩,iV 0,.slice none 0 0,.slice none 0 0,.slice none 0 0,.slice none 0 0,.slice none 0 0,.slice none 0 0,.slice none 0 0,.slice none 0 0]) _ ?_ ?_ ?_ ?_ ?_ ?_ ?_ ?_ ?_ ?_ ?_ ?_ ?_
 ·rfl
 ·rfl
 ·rfl
 ·rfl
 ·rfl
 ·have:=f.o;omega
 ·have:=f.o;omega
 ·have:=f.o;omega
 ·exact l.o
 ·rfl
 ·exact Y.o
 ·exact a6.o
 ·intro a w1 cells Z a2 M hp p
  obtain ⟨tm,df⟩:=a
  obtain rfl:df=[]:=a2
  have h0:tm.getD 0 undef=pV w.heap.size 0:=(M 0 (by omega)).trans rfl
  have F:cells.size=26:=by
   have y:=hp
   unfold CA at y
   simp only at y
   obtain ⟨ab,ac,ad,a8,a7,aa,hq,_⟩:=y
   cases hq;rfl
  have X:=f.o
  have d:w1.heap[w.heap.size]?=some (.cells #[.string ⟨#[]⟩,iV 0,iV 0,iV 0,.string ⟨#[]⟩,iV 0,.slice none 0 0,iV 0,iV 0,iV 0,.string ⟨#[]⟩,iV 0,.slice none 0 0,iV 0,iV 0,iV 0,.string ⟨#[]⟩,iV 0,.slice none 0 0,.slice none 0 0,.slice none 0 0,.slice none 0 0,.slice none 0 0,.slice none 0 0,.slice none 0 0,.slice none 0 0] 35 (0,0)):=(p.block _ (by omega)).trans l.o
  have v:=qz w1 w.heap.size _ cells _ _ d
  have u:Below w.heap.size w (w1.setRow w.heap.size cells):=CK (Q.o.trans (p.mono Q.o.size)) (yf _) cells
  have P:CA w.heap.size gf 30 (.agg cells) (w1.setRow w.heap.size cells):=R7 _ _ _ _ (fun k o hk ho=>by rw[Cr _ _ (by omega)];exact ho) hp
  have h:(w1.setRow w.heap.size cells).heap[gf]?=some (.cells #[iV 1,iV 40,iV 1,.string ⟨#[]⟩,iV 0,.slice none 0 0,iV 1,iV 1,iV 3,.string ⟨#[]⟩,iV 0,.slice none 0 0] 26 (0,0)):=by
   have:=N.o
   rw[Cr _ _ (by omega)]
   exact (p.block _ (yd.1 I.o).1).trans I.o
  have x:Hid (bodyPost Tryz.prog Tryz.f21 (fun e w'=>∃(B gf:Nat) (cells:Array Value),e=.returned (.agg cells)∧cells.size=26∧CA B gf 30 (.agg cells) w'∧w'.heap[gf]?=some (.cells #[iV 1,iV 40,iV 1,.string ⟨#[]⟩,iV 0,.slice none 0 0,iV 1,iV 1,iV 3,.string ⟨#[]⟩,iV 0,.slice none 0 0] 26 (0,0))∧w.heap.size<=B∧w.heap.size<=gf∧Below w.heap.size w w') .ret {tmps:=tm,defers:=[]} (w1.setRow w.heap.size cells)):=yb (by
   refine Bg (c:=cells.toList) rfl h0 (by rw[Array.toArray_toList];exact v) qV rfl (by rw[Array.length_toList,F];kernel_rfl) ⟨w.heap.size,gf,cells,by rw[Array.toArray_toList],F,P,h,yf _,by have:=N.o;omega,u⟩)
  clear h0 F X d v u P h hp p Z M
  first
  |exact x.o
  |(go_wp2;exact x.o)
set_option linter.unusedSimpArgs false
theorem Jo{w:World}{g:Nat}{row:Array Value}{ty:TypeId}(c:w.heap[g]?=some (.cells row ty (0,0)))(o:Nat){cs:LV}(h:(row.toList.drop o).take cs.length=cs):w.rangeAt g o cs:=fun j v a=>by
 have b:=(yA.1 a).1
 rw[<-h,zN,yw b,List.getElem?_drop] at a
 simp only[World.cell?,c]
 simpa using a
def xC(op n u:Int)(rn:ByteArray)(ri:Int):LV:=[.int .i64 op,.int .i64 n,.int .i64 u,.string rn,.int .i64 ri,.slice none 0 0]
def tC(op:Int)(g:Nat):LV:=[.int .i64 op,.int .i64 0,.int .i64 0,.string Gg,.int .i64 0,.slice (some ⟨g,0,none⟩) 2 2]
theorem U4(s:ByteArray)(h:s.size<=1000):s.size<=maxLen:=yu h (by unfold maxLen;omega)
section
variable{N:NP}{w:World}
theorem Kj(op n u:Int)(rn:ByteArray)(ri:Int)(h:rn.size<=1000):AG N w (.mk op n u rn ri []) (xC op n u rn ri):=by
 rw[AG];exact ⟨none,0,rfl,by simp,U4 _ h,by rw[D8];trivial⟩
theorem BX(n u:Int):AG N w (Bq n u) (xC 1 n u Gg 0):=Kj 1 n u Gg 0 (by decide)
theorem VZ:AG N w Lo (xC 0 0 0 Gg 0):=Kj 0 0 0 Gg 0 (by decide)
theorem Iw{g:Nat}{a b:Ex}{ca cb:LV}{ty:TypeId}(o:Int)(hN:N g)(hr:w.heap[g]?=some (.cells (ca++cb).toArray ty (0,0)))(d:AG N w a ca)(hb:AG N w b cb):AG N w (LF o a b) (tC o g):=by
 have c:=d.is6.len
 have e:=hb.is6.len
 unfold LF
 rw[AG]
 refine ⟨some (aV g 0),2,rfl,by simp,U4 _ (by decide),?_⟩
 rw[D8,D8,D8]
 exact ⟨⟨g,0,ca,rfl,hN,Jo hr _ (by simp),d⟩,⟨g,0,cb,rfl,hN,Jo hr _ (by simp[c]),hb⟩,trivial⟩
theorem TL{α:Type}{sz:Nat}{P:LV->α->Prop}:BE N w sz P ⟨none,0,0⟩ []:=⟨rfl,by simp,fun i hi=>absurd hi (by simp)⟩
theorem Nn{α:Type}{sz g:Nat}{P:LV->α->Prop}{d:α}{cs:LV}{ty:TypeId}(hN:N g)(hr:w.heap[g]?=some (.cells cs.toArray ty (0,0)))(b:cs.length=sz)(a:P cs d):BE N w sz P ⟨some ⟨g,0,none⟩,1,1⟩ [d]:=by
 refine ⟨rfl,by simp,fun i hi=>?_⟩
 obtain rfl:i=0:=by simpa using hi
 exact ⟨g,0,cs,rfl,hN,b,Jo hr _ (by simp),a⟩
end
def Lp:LV:=[.string ⟨#[114]⟩,.string ⟨#[]⟩,.int .i64 0,.int .i64 1,.int .i64 1,.int .i64 3,.string ⟨#[]⟩,.int .i64 0,.slice none 0 0]
def Lq(a:Nat):LV:=[.int .i64 1,.int .i64 90,.int .i64 1,.string ⟨#[]⟩,.int .i64 0,.slice none 0 0,.int .i64 0,.int .i64 0,.int .i64 0,.string ⟨#[]⟩,.int .i64 0,.slice none 0 0,.int .i64 1,.int .i64 0,.int .i64 1,.string ⟨#[]⟩,.int .i64 0,.slice none 0 0,.int .i64 1,.int .i64 2,.int .i64 1,.string ⟨#[]⟩,.int .i64 0,.slice none 0 0,.int .i64 1,.int .i64 0,.int .i64 0,.string ⟨#[]⟩,.int .i64 0,.slice none 0 0,.int .i64 6,.int .i64 0,.int .i64 0,.string ⟨#[]⟩,.int .i64 0,.slice (some ⟨a,0,none⟩) 2 2]
def Wq(d b a c:Nat):Bt:={s:=0,lets:=⟨some ⟨d,0,none⟩,1,1⟩,crops:=⟨some ⟨b,0,none⟩,1,1⟩,reaches:=⟨some ⟨a,0,none⟩,1,1⟩,farms:=⟨some ⟨c,0,none⟩,1,1⟩,rots:=⟨none,0,0⟩,rights:=⟨none,0,0⟩,duties:=⟨none,0,0⟩,turns:=[]}
def Lr(d b a c:Nat):LV:=[.string ⟨#[119]⟩,.int .i64 1,.int .i64 1,.int .i64 4,.string ⟨#[]⟩,.int .i64 0,.slice none 0 0,.int .i64 1,.int .i64 5,.int .i64 2,.string ⟨#[]⟩,.int .i64 0,.slice none 0 0,.int .i64 2,.int .i64 0,.int .i64 0,.string ⟨#[107]⟩,.int .i64 0,.slice none 0 0,.slice (some ⟨d,0,none⟩) 1 1,.slice (some ⟨b,0,none⟩) 1 1,.slice (some ⟨a,0,none⟩) 1 1,.slice (some ⟨c,0,none⟩) 1 1,.slice none 0 0,.slice none 0 0,.slice none 0 0]
theorem UI{N:NP}{w:World}{d f g e c b:Nat}{a:LV}{cap:Ex}(h:AG N w cap a)
 (n:N d)(j:N f)(l:N g)(k:N e)(o:N c)(m:N b)
 (b13:w.heap[d]?=some (.cells #[.string ⟨#[107]⟩,.int .i64 1,.int .i64 3,.int .i64 2,.string ⟨#[]⟩,.int .i64 0,.slice none 0 0] 50 (0,0)))(b16:w.heap[f]?=some (.cells #[.int .i64 1,.int .i64 7,.int .i64 1,.string ⟨#[]⟩,.int .i64 0,.slice none 0 0,.int .i64 1,.int .i64 1,.int .i64 5,.string ⟨#[]⟩,.int .i64 0,.slice none 0 0] 26 (0,0)))(b18:w.heap[g]?=some (.cells #[.string ⟨#[99]⟩,.int .i64 6,.int .i64 0,.int .i64 0,.string ⟨#[]⟩,.int .i64 0,.slice (some ⟨f,0,none⟩) 2 2] 92 (0,0)))(b28:w.heap[e]?=some (.cells #[.int .i64 1,.int .i64 1,.int .i64 0,.string ⟨#[]⟩,.int .i64 0,.slice none 0 0,.int .i64 1,.int .i64 8,.int .i64 0,.string ⟨#[]⟩,.int .i64 0,.slice none 0 0] 26 (0,0)))(b31:w.heap[c]?=some (.cells (Lp++(a++Lq e)).toArray 66 (0,0)))(b36:w.heap[b]?=some (.cells #[.string ⟨#[102]⟩,.string ⟨#[114]⟩,.int .i64 0,.bool false,.int .i64 1,.int .i64 20,.int .i64 5,.string ⟨#[]⟩,.int .i64 0,.slice none 0 0,.string ⟨#[99]⟩,.int .i64 0] 94 (0,0))):BH N w (Wq d g c b) (Lr d g c b) (E0 cap):=by
 have p:=h.is6.len
 refine ⟨U4 sW (by decide),⟨xC 1 1 4 Gg 0,xC 1 5 2 Gg 0,xC 2 0 0 sK 0,rfl,BX 1 4,BX 5 2,Kj 2 0 0 sK 0 (by decide)⟩,
  Nn n (cs:=.string sK::xC 1 3 2 Gg 0) b13 rfl ⟨U4 _ (by decide),_,rfl,BX 3 2⟩,
  Nn l (cs:=.string sC::tC 6 f) b18 rfl ⟨U4 _ (by decide),_,rfl,Iw 6 j (ca:=xC 1 7 1 Gg 0) (cb:=xC 1 1 5 Gg 0) b16 (BX 7 1) (BX 1 5)⟩,
  Nn o (cs:=.string sR::(AU ⟨Gg,0⟩++(xC 1 1 3 Gg 0++(a++(xC 1 90 1 Gg 0++(xC 0 0 0 Gg 0++(xC 1 0 1 Gg 0++(xC 1 2 1 Gg 0++(xC 1 0 0 Gg 0++tC 6 e))))))))) b31 (by simp[AU,xC,tC,p]) ⟨U4 sR (by decide),U4 Gg (by decide),_,_,_,_,_,_,_,_,rfl,BX 1 3,h,BX 90 1,VZ,BX 0 1,BX 2 1,BX 0 0,Iw 6 k (ca:=xC 1 1 0 Gg 0) (cb:=xC 1 8 0 Gg 0) b28 (BX 1 0) (BX 8 0)⟩,
  Nn m (cs:=.string sF::(AU ⟨sR,0⟩++(.bool false::(xC 1 20 5 Gg 0++AU ⟨sC,0⟩)))) b36 rfl ⟨U4 _ (by decide),U4 _ (by decide),U4 _ (by decide),_,rfl,BX 20 5⟩,
  ⟨rfl,yK _,fun i hi=>absurd hi (by simp[E0])⟩,TL,TL⟩
set_option linter.unusedSimpArgs false
set_option linter.unusedVariables false
def F0(w w':World):Prop:=∀(b:Nat) (row:Array Value),w.heap[b]?=some (.cells row 26 (0,0))->w'.heap[b]?=some (.cells row 26 (0,0))
theorem F0.below{w w':World}(h:Below w.heap.size w w'):F0 w w':=fun b _ hb=>(h.block b (yd.1 hb).1).trans hb
theorem F0.refl(w:World):F0 w w:=fun _ _ h=>h
structure Vm (W:World) (ia ist slot:Nat) (z v:Array Value) (ty:TypeId) (l:Array Bool) (tm:Array Value) (w:World):Prop where
 below:Below W.heap.size W w
 one:l.getD ist false=false->l.getD ia false=true->∃b,tm.getD slot undef=.pointer (some ⟨b,0,none⟩)∧W.heap.size<=b∧w.heap[b]?=some (.cells z ty (0,0))
 two:l.getD ist false=true->∃b,tm.getD slot undef=.pointer (some ⟨b,0,none⟩)∧W.heap.size<=b∧w.heap[b]?=some (.cells v ty (0,0))
theorem Vm.quiet{W:World}{f c a:Nat}{z v:Array Value}{ty:TypeId}{l:Array Bool}{tm:Array Value}{w w2:World}{i t:Nat}{x:Value}(h:Vm W f c a z v ty l tm w)(hi:i≠c∧i≠f)(j:t≠a)(hb:Below w.heap.size w w2):Vm W f c a z v ty (l.setIfInBounds i true) (tm.setIfInBounds t x) w2:=by
 refine ⟨h.below.trans (hb.mono h.below.size),fun h1 h2=>?_,fun h1=>?_⟩
 ·rw[A8 hi.1] at h1;rw[A8 hi.2] at h2
  obtain ⟨b,g,e,d⟩:=h.one h1 h2
  exact ⟨b,by rw[Bn j];exact g,e,(hb.block b (yd.1 d).1).trans d⟩
 ·rw[A8 hi.1] at h1
  obtain ⟨b,g,e,d⟩:=h.two h1
  exact ⟨b,by rw[Bn j];exact g,e,(hb.block b (yd.1 d).1).trans d⟩
def Gb(W:World)(cs:LV)(m1 a b er:Int)(j:Nat)(v:Value)(w:World):Prop:=match j with
 |0=>v=.agg cs.toArray
 |1=>v=.agg #[.int .i64 1,.int .i64 3,.int .i64 1,.string ⟨#[]⟩,.int .i64 0,.slice none 0 0]
 |2=>v=.agg #[.int .i64 1,.int .i64 4,.int .i64 3,.string ⟨#[]⟩,.int .i64 0,.slice none 0 0]
 |3=>∃g:Nat,v=.agg #[.int .i64 3,.int .i64 0,.int .i64 0,.string ⟨#[]⟩,.int .i64 0,.slice (some ⟨g,0,none⟩) 2 2]∧w.heap[g]?=some (.cells #[.int .i64 1,.int .i64 3,.int .i64 1,.string ⟨#[]⟩,.int .i64 0,.slice none 0 0,.int .i64 1,.int .i64 4,.int .i64 3,.string ⟨#[]⟩,.int .i64 0,.slice none 0 0] 26 (0,0))
 |4=>v=.tuple #[.agg #[.int .i64 m1,.int .i64 a,.int .i64 b],.int .i64 er]
 |5=>v=.tuple #[.agg #[.int .i64 m1,.int .i64 a,.int .i64 b],.int .i64 er]
 |6=>v=.agg #[.int .i64 m1,.int .i64 a,.int .i64 b]
 |7=>v=.int .i64 er
 |10=>v=.int .i64 er
 |_=>True
theorem TM(W:World)(cs:LV)(m1 a b er:Int)(j:Nat)(v:Value)(w w':World)(c:F0 w w')(h:Gb W cs m1 a b er j v w):Gb W cs m1 a b er j v w':=by
 match j,h with
 |0,h=>exact h
 |1,h=>exact h
 |2,h=>exact h
 |3,h=>
  obtain ⟨g,h0,h1⟩:=h
  exact ⟨g,h0,c _ _ h1⟩
 |4,h=>exact h
 |5,h=>exact h
 |6,h=>exact h
 |7,h=>exact h
 |8,h=>exact h
 |9,h=>exact h
 |10,h=>exact h
 |_+11,h=>exact h
theorem Sb{M:Act}{W0:World}{Q:QT}{B1:Nat}{cs:LV}{x:Av}{m1 N J er:Int}(ops:Array Oper)(u:DQ Tryz.f7 5=some ops)
 (a2:M.tmps.getD 1 undef=.pointer (some ⟨B1,0,none⟩))(W:M.tmps.size=141)(L:B1 < W0.heap.size)(l:W0.rangeAt B1 0 cs)(H:(Tryz.prog.info? 35).map (·.size)=some cs.length)(hS:DT W0 cs x)(hm:E8 x (LF 3 (Bq 3 1) (Bq 4 3))=(⟨⟨m1,N,J⟩,er⟩:Dm × Int))
 (hQ:∀(a:Act) w1 b,a.tmps.size=141->a.defers=M.defers->(∀t,t∉[36,37,38,39,40,35,41,42,7,8]->a.tmps.getD t undef=M.tmps.getD t undef)->a.tmps.getD 7 undef=.pointer (some ⟨b,0,none⟩)->a.tmps.getD 8 undef=.int .i64 er->Below W0.heap.size W0 w1->W0.heap.size<=b->w1.heap[b]?=some (.cells #[.int .i64 m1,.int .i64 N,.int .i64 J] 39 (0,0))->Q .normal a w1):
  (Code.region 5 ops true).wp Tryz.prog Q M W0:=by
 obtain rfl:=yi ((rfl:DQ Tryz.f7 5=some _).symm.trans u)
 clear u
 have HM:=yb hm
 have HS:=yb hS
 have S:=yb H
 clear hm hS H
 refine BO (by kernel_rfl) (Vm W0 8 9 7 jd #[iV m1,iV N,iV J] 39) (Gb W0 cs m1 N J er) (fun _=>F0) (by kernel_rfl) (by rw[W];kernel_rfl) (by kernel_rfl) (fun _ j v w w' _ _ hl h=>TM _ _ _ _ _ _ j v w w' hl h) ⟨(yg _ _).drew,fun _ h=>(by cases h),fun h=>(by cases h)⟩ ?_ ?_
 ·intro ix f a w' hM c o n
  have m:=yb hM.ext
  have a0:=(yd.1 n).1
  have Y:=hM.size
  have X:Hid (a.tmps.size=141):=yb (hM.tmps.trans W)
  match ix,a0 with
  |0,_=>
   have d:=hM.old c 1 (by kernel_rfl) _ a2
   have T:=yb (A0 l (m.o.below.block _ L))
   clear l
   obtain rfl:=yi n
   refine xO 35 _ rfl B1 0 (by simpa[Act.eval] using d) cs _ T.o qV rfl S.o ?_
   exact ⟨_,rfl,m.o.quiet (by decide) (by decide) (yg _ _),F0.refl _,rfl⟩
  |1,_=>
   clear l
   obtain rfl:=yi n
   go_simp
   refine (Bl 3 1 _).mono ?_
   rintro e w2 ⟨rfl,i⟩
   exact ⟨_,rfl,m.o.quiet (by decide) (by decide) i,F0.below i,rfl⟩
  |2,_=>
   clear l
   obtain rfl:=yi n
   go_simp
   refine (Bl 4 3 _).mono ?_
   rintro e w2 ⟨rfl,i⟩
   exact ⟨_,rfl,m.o.quiet (by decide) (by decide) i,F0.below i,rfl⟩
  |3,_=>
   have E:=hM.dep c 1 37 (by kernel_rfl) (by kernel_rfl)
   unfold Gb at E
   simp only at E
   have G:=hM.dep c 2 38 (by kernel_rfl) (by kernel_rfl)
   unfold Gb at G
   simp only at G
   clear l
   obtain rfl:=yi n
   go_simp
   refine (Iv 3 _ _ _ _ _ _ _ _ _ _ _ _ _ _ _ _ _).mono ?_
   rintro e w2 ⟨g,rfl,R,K,i⟩
   exact ⟨_,rfl,m.o.quiet (by decide) (by decide) i,F0.below i,g,rfl,K⟩
  |4,_=>
   have F:=hM.dep c 0 36 (by kernel_rfl) (by kernel_rfl)
   unfold Gb at F
   simp only at F
   have s:=hM.dep c 3 39 (by kernel_rfl) (by kernel_rfl)
   unfold Gb at s
   simp only at s
   obtain ⟨g,s,z⟩:=s
   have q:=IQ (HS.o.up m.o.below) (Iw 3 (yd.1 z).1 (ca:=xC 1 3 1 Gg 0) (cb:=xC 1 4 3 Gg 0) z (BX 3 1) (BX 4 3):AG (fun b=>b < w'.heap.size) w' (LF 3 (Bq 3 1) (Bq 4 3)) (tC 3 g))
   rw[HM.o] at q
   clear z l
   obtain rfl:=yi n
   go_simp
   refine q.mono ?_
   rintro e w2 ⟨rfl,i⟩
   exact ⟨_,rfl,m.o.quiet (by decide) (by decide) i,F0.below i,rfl⟩
  |5,_=>
   have D:=hM.dep c 4 40 (by kernel_rfl) (by kernel_rfl)
   unfold Gb at D
   simp only at D
   clear l
   obtain rfl:=yi n
   go_simp
   exact ⟨_,rfl,m.o.quiet (by decide) (by decide) (yg _ _),F0.refl _,rfl⟩
  |6,_=>
   have r:=hM.dep c 5 35 (by kernel_rfl) (by kernel_rfl)
   unfold Gb at r
   simp only at r
   clear l
   obtain rfl:=yi n
   go_simp
   exact ⟨_,rfl,m.o.quiet (by decide) (by decide) (yg _ _),F0.refl _,rfl⟩
  |7,_=>
   have r:=hM.dep c 5 35 (by kernel_rfl) (by kernel_rfl)
   unfold Gb at r
   simp only at r
   clear l
   obtain rfl:=yi n
   go_simp
   exact ⟨_,rfl,m.o.quiet (by decide) (by decide) (yg _ _),F0.refl _,rfl⟩
  |8,_=>
   have P:f.getD 9 false=false:=by
    rw[yn];intro h6
    have:=A1 hM.down 12 9 8 (by kernel_rfl) h6
    rw[hM.not_yet c] at this;cases this
   have HN:=yb P
   have HT:Hid (7 < a.tmps.size):=yb (by rw[X.o];decide)
   clear l P
   obtain rfl:=yi n
   go_simp
   have C:Below w'.heap.size w' (w'.alloc (.cells jd 39)):=(yg _ _).alloc (yf _) _
   refine ⟨_,rfl,⟨m.o.below.trans (C.mono m.o.below.size),fun _ _=>⟨w'.heap.size,?_,m.o.below.size,World.alloc_heap_new _ _⟩,fun h4=>?_⟩,F0.below C,trivial⟩
   ·show (a.put (some 7) (pV w'.heap.size 0)).tmps.getD 7 undef=_
    exact Ay _ HT.o
   ·rw[A8 (by decide),HN.o] at h4;cases h4
  |9,_=>
   have P:=hM.not_yet c
   have lA:f.getD 8 false=true:=hM.came c 8 (by kernel_rfl)
   obtain ⟨b,V,O,A⟩:=m.o.one P lA
   have B:=hM.dep c 6 41 (by kernel_rfl) (by kernel_rfl)
   unfold Gb at B
   simp only at B
   have HL:Hid (9 < f.size):=yb (by rw[Y];show 9 < 11;omega)
   have Z:=V
   rw[yE] at V
   refine wp_store_row 39 (.tmp 7) (.tmp 41) (by obtain rfl:=yi n;rfl) b #[iV m1,iV N,iV J] (by simpa[Act.eval] using V) (by simpa[Act.eval] using B) 39 jd A (by kernel_rfl) (by kernel_rfl) (by simp[Value.oneCell']) ?_
   obtain rfl:=yi n
   refine ⟨undef,rfl,⟨CK m.o.below O _,fun h6=>?_,fun _=>⟨b,Z,O,qz _ _ _ _ _ _ A⟩⟩,fun g row R=>?_,trivial⟩
   ·simp[HL.o] at h6
   ·rw[Cr _ _ (fun e=>by rw[e,A] at R;cases R)];exact R
  |10,_=>
   have I:=hM.dep c 7 42 (by kernel_rfl) (by kernel_rfl)
   unfold Gb at I
   simp only at I
   clear l
   obtain rfl:=yi n
   go_simp
   exact ⟨_,rfl,m.o.quiet (by decide) (by decide) (yg _ _),F0.refl _,rfl⟩
 ·intro f a w' y hM
  obtain ⟨b,k1,k2,k3⟩:=hM.ext.two (y 9 (show 9 < 11 by omega))
  have U:=hM.done 10 (y 10 (show 10 < 11 by omega)) _ 8 rfl rfl
  unfold Gb at U
  simp only at U
  refine hQ a w' b (hM.tmps.trans W) hM.defers (fun t ht=>hM.free t fun mm a6 o n hd=>ht ?_) k1 U hM.ext.below k2 k3
  have hs:=Hs (ops:=(Tryz.f7.body.bind (CN 5)).getD #[]) (p:=fun o=>match o.dst with|some k=>decide (k∈[36,37,38,39,40,35,41,42,7,8])|none=>true) (by kernel_rfl) n
  rw[hd] at hs
  exact yO hs
def Gc(W:World)(cs:LV)(m1 a er:Int)(j:Nat)(v:Value)(w:World):Prop:=match j with
 |0=>v=.agg cs.toArray
 |1=>v=.agg #[.int .i64 1,.int .i64 1,.int .i64 4,.string ⟨#[]⟩,.int .i64 0,.slice none 0 0]
 |2=>v=.agg #[.int .i64 1,.int .i64 30,.int .i64 3,.string ⟨#[]⟩,.int .i64 0,.slice none 0 0]
 |3=>∃g:Nat,v=.agg #[.int .i64 4,.int .i64 0,.int .i64 0,.string ⟨#[]⟩,.int .i64 0,.slice (some ⟨g,0,none⟩) 2 2]∧w.heap[g]?=some (.cells #[.int .i64 1,.int .i64 1,.int .i64 4,.string ⟨#[]⟩,.int .i64 0,.slice none 0 0,.int .i64 1,.int .i64 30,.int .i64 3,.string ⟨#[]⟩,.int .i64 0,.slice none 0 0] 26 (0,0))
 |4=>v=.tuple #[.agg #[.int .i64 m1,.int .i64 a],.int .i64 er]
 |5=>v=.tuple #[.agg #[.int .i64 m1,.int .i64 a],.int .i64 er]
 |6=>v=.agg #[.int .i64 m1,.int .i64 a]
 |7=>v=.int .i64 er
 |10=>v=.int .i64 er
 |_=>True
theorem TN(W:World)(cs:LV)(m1 a er:Int)(j:Nat)(v:Value)(w w':World)(b:F0 w w')(h:Gc W cs m1 a er j v w):Gc W cs m1 a er j v w':=by
 match j,h with
 |0,h=>exact h
 |1,h=>exact h
 |2,h=>exact h
 |3,h=>
  obtain ⟨g,h0,h1⟩:=h
  exact ⟨g,h0,b _ _ h1⟩
 |4,h=>exact h
 |5,h=>exact h
 |6,h=>exact h
 |7,h=>exact h
 |8,h=>exact h
 |9,h=>exact h
 |10,h=>exact h
 |_+11,h=>exact h
theorem Sc{J:Act}{W0:World}{Q:QT}{B1:Nat}{cs:LV}{x:Av}{m1 K er:Int}(ops:Array Oper)(u:DQ Tryz.f7 6=some ops)
 (a0:J.tmps.getD 1 undef=.pointer (some ⟨B1,0,none⟩))(V:J.tmps.size=141)(I:B1 < W0.heap.size)(l:W0.rangeAt B1 0 cs)(F:(Tryz.prog.info? 35).map (·.size)=some cs.length)(hS:DT W0 cs x)(hm:Bo x (LF 4 (Bq 1 4) (Bq 30 3))=(⟨⟨m1,K⟩,er⟩:Rt × Int))
 (hQ:∀(a:Act) w1 b,a.tmps.size=141->a.defers=J.defers->(∀t,t∉[44,45,46,47,48,43,49,50,9,10]->a.tmps.getD t undef=J.tmps.getD t undef)->a.tmps.getD 9 undef=.pointer (some ⟨b,0,none⟩)->a.tmps.getD 10 undef=.int .i64 er->Below W0.heap.size W0 w1->W0.heap.size<=b->w1.heap[b]?=some (.cells #[.int .i64 m1,.int .i64 K] 44 (0,0))->Q .normal a w1):
  (Code.region 6 ops true).wp Tryz.prog Q J W0:=by
 obtain rfl:=yi ((rfl:DQ Tryz.f7 6=some _).symm.trans u)
 clear u
 have HM:=yb hm
 have HS:=yb hS
 have R:=yb F
 clear hm hS F
 refine BO (by kernel_rfl) (Vm W0 8 9 9 jc #[iV m1,iV K] 44) (Gc W0 cs m1 K er) (fun _=>F0) (by kernel_rfl) (by rw[V];kernel_rfl) (by kernel_rfl) (fun _ j v w w' _ _ hl h=>TN _ _ _ _ _ j v w w' hl h) ⟨(yg _ _).drew,fun _ h=>(by cases h),fun h=>(by cases h)⟩ ?_ ?_
 ·intro ix f a w' hM c o n
  have m:=yb hM.ext
  have Z:=(yd.1 n).1
  have X:=hM.size
  have W:Hid (a.tmps.size=141):=yb (hM.tmps.trans V)
  match ix,Z with
  |0,_=>
   have d:=hM.old c 1 (by kernel_rfl) _ a0
   have S:=yb (A0 l (m.o.below.block _ I))
   clear l
   obtain rfl:=yi n
   refine xO 35 _ rfl B1 0 (by simpa[Act.eval] using d) cs _ S.o qV rfl R.o ?_
   exact ⟨_,rfl,m.o.quiet (by decide) (by decide) (yg _ _),F0.refl _,rfl⟩
  |1,_=>
   clear l
   obtain rfl:=yi n
   go_simp
   refine (Bl 1 4 _).mono ?_
   rintro e w2 ⟨rfl,i⟩
   exact ⟨_,rfl,m.o.quiet (by decide) (by decide) i,F0.below i,rfl⟩
  |2,_=>
   clear l
   obtain rfl:=yi n
   go_simp
   refine (Bl 30 3 _).mono ?_
   rintro e w2 ⟨rfl,i⟩
   exact ⟨_,rfl,m.o.quiet (by decide) (by decide) i,F0.below i,rfl⟩
  |3,_=>
   have D:=hM.dep c 1 45 (by kernel_rfl) (by kernel_rfl)
   unfold Gc at D
   simp only at D
   have L:=hM.dep c 2 46 (by kernel_rfl) (by kernel_rfl)
   unfold Gc at L
   simp only at L
   clear l
   obtain rfl:=yi n
   go_simp
   refine (Iv 4 _ _ _ _ _ _ _ _ _ _ _ _ _ _ _ _ _).mono ?_
   rintro e w2 ⟨g,rfl,P,H,i⟩
   exact ⟨_,rfl,m.o.quiet (by decide) (by decide) i,F0.below i,g,rfl,H⟩
  |4,_=>
   have G:=hM.dep c 0 44 (by kernel_rfl) (by kernel_rfl)
   unfold Gc at G
   simp only at G
   have s:=hM.dep c 3 47 (by kernel_rfl) (by kernel_rfl)
   unfold Gc at s
   simp only at s
   obtain ⟨g,s,z⟩:=s
   have q:=DU (HS.o.up m.o.below) (Iw 4 (yd.1 z).1 (ca:=xC 1 1 4 Gg 0) (cb:=xC 1 30 3 Gg 0) z (BX 1 4) (BX 30 3):AG (fun b=>b < w'.heap.size) w' (LF 4 (Bq 1 4) (Bq 30 3)) (tC 4 g))
   rw[HM.o] at q
   clear z l
   obtain rfl:=yi n
   go_simp
   refine q.mono ?_
   rintro e w2 ⟨rfl,i⟩
   exact ⟨_,rfl,m.o.quiet (by decide) (by decide) i,F0.below i,rfl⟩
  |5,_=>
   have E:=hM.dep c 4 48 (by kernel_rfl) (by kernel_rfl)
   unfold Gc at E
   simp only at E
   clear l
   obtain rfl:=yi n
   go_simp
   exact ⟨_,rfl,m.o.quiet (by decide) (by decide) (yg _ _),F0.refl _,rfl⟩
  |6,_=>
   have r:=hM.dep c 5 43 (by kernel_rfl) (by kernel_rfl)
   unfold Gc at r
   simp only at r
   clear l
   obtain rfl:=yi n
   go_simp
   exact ⟨_,rfl,m.o.quiet (by decide) (by decide) (yg _ _),F0.refl _,rfl⟩
  |7,_=>
   have r:=hM.dep c 5 43 (by kernel_rfl) (by kernel_rfl)
   unfold Gc at r
   simp only at r
   clear l
   obtain rfl:=yi n
   go_simp
   exact ⟨_,rfl,m.o.quiet (by decide) (by decide) (yg _ _),F0.refl _,rfl⟩
  |8,_=>
   have O:f.getD 9 false=false:=by
    rw[yn];intro h6
    have:=A1 hM.down 12 9 8 (by kernel_rfl) h6
    rw[hM.not_yet c] at this;cases this
   have HN:=yb O
   have HT:Hid (9 < a.tmps.size):=yb (by rw[W.o];decide)
   clear l O
   obtain rfl:=yi n
   go_simp
   have C:Below w'.heap.size w' (w'.alloc (.cells jc 44)):=(yg _ _).alloc (yf _) _
   refine ⟨_,rfl,⟨m.o.below.trans (C.mono m.o.below.size),fun _ _=>⟨w'.heap.size,?_,m.o.below.size,World.alloc_heap_new _ _⟩,fun h4=>?_⟩,F0.below C,trivial⟩
   ·show (a.put (some 9) (pV w'.heap.size 0)).tmps.getD 9 undef=_
    exact Ay _ HT.o
   ·rw[A8 (by decide),HN.o] at h4;cases h4
  |9,_=>
   have O:=hM.not_yet c
   have lA:f.getD 8 false=true:=hM.came c 8 (by kernel_rfl)
   obtain ⟨b,U,M,A⟩:=m.o.one O lA
   have B:=hM.dep c 6 49 (by kernel_rfl) (by kernel_rfl)
   unfold Gc at B
   simp only at B
   have HL:Hid (9 < f.size):=yb (by rw[X];show 9 < 11;omega)
   have Y:=U
   rw[yE] at U
   refine wp_store_row 44 (.tmp 9) (.tmp 49) (by obtain rfl:=yi n;rfl) b #[iV m1,iV K] (by simpa[Act.eval] using U) (by simpa[Act.eval] using B) 44 jc A (by kernel_rfl) (by kernel_rfl) (by simp[Value.oneCell']) ?_
   obtain rfl:=yi n
   refine ⟨undef,rfl,⟨CK m.o.below M _,fun h6=>?_,fun _=>⟨b,Y,M,qz _ _ _ _ _ _ A⟩⟩,fun g row P=>?_,trivial⟩
   ·simp[HL.o] at h6
   ·rw[Cr _ _ (fun e=>by rw[e,A] at P;cases P)];exact P
  |10,_=>
   have N:=hM.dep c 7 50 (by kernel_rfl) (by kernel_rfl)
   unfold Gc at N
   simp only at N
   clear l
   obtain rfl:=yi n
   go_simp
   exact ⟨_,rfl,m.o.quiet (by decide) (by decide) (yg _ _),F0.refl _,rfl⟩
 ·intro f a w' y hM
  obtain ⟨b,k1,k2,k3⟩:=hM.ext.two (y 9 (show 9 < 11 by omega))
  have T:=hM.done 10 (y 10 (show 10 < 11 by omega)) _ 10 rfl rfl
  unfold Gc at T
  simp only at T
  refine hQ a w' b (hM.tmps.trans V) hM.defers (fun t ht=>hM.free t fun mm a2 o n hd=>ht ?_) k1 T hM.ext.below k2 k3
  have hs:=Hs (ops:=(Tryz.f7.body.bind (CN 6)).getD #[]) (p:=fun o=>match o.dst with|some k=>decide (k∈[44,45,46,47,48,43,49,50,9,10])|none=>true) (by kernel_rfl) n
  rw[hd] at hs
  exact yO hs
def Gd(W:World)(cs:LV)(m1 a er:Int)(j:Nat)(v:Value)(w:World):Prop:=match j with
 |0=>v=.agg cs.toArray
 |1=>v=.agg #[.int .i64 1,.int .i64 1,.int .i64 0,.string ⟨#[]⟩,.int .i64 0,.slice none 0 0]
 |2=>v=.agg #[.int .i64 1,.int .i64 0,.int .i64 0,.string ⟨#[]⟩,.int .i64 0,.slice none 0 0]
 |3=>∃g:Nat,v=.agg #[.int .i64 6,.int .i64 0,.int .i64 0,.string ⟨#[]⟩,.int .i64 0,.slice (some ⟨g,0,none⟩) 2 2]∧w.heap[g]?=some (.cells #[.int .i64 1,.int .i64 1,.int .i64 0,.string ⟨#[]⟩,.int .i64 0,.slice none 0 0,.int .i64 1,.int .i64 0,.int .i64 0,.string ⟨#[]⟩,.int .i64 0,.slice none 0 0] 26 (0,0))
 |4=>v=.tuple #[.agg #[.int .i64 m1,.int .i64 a],.int .i64 er]
 |5=>v=.tuple #[.agg #[.int .i64 m1,.int .i64 a],.int .i64 er]
 |6=>v=.agg #[.int .i64 m1,.int .i64 a]
 |7=>v=.int .i64 er
 |10=>v=.int .i64 er
 |_=>True
theorem TO(W:World)(cs:LV)(m1 a er:Int)(j:Nat)(v:Value)(w w':World)(b:F0 w w')(h:Gd W cs m1 a er j v w):Gd W cs m1 a er j v w':=by
 match j,h with
 |0,h=>exact h
 |1,h=>exact h
 |2,h=>exact h
 |3,h=>
  obtain ⟨g,h0,h1⟩:=h
  exact ⟨g,h0,b _ _ h1⟩
 |4,h=>exact h
 |5,h=>exact h
 |6,h=>exact h
 |7,h=>exact h
 |8,h=>exact h
 |9,h=>exact h
 |10,h=>exact h
 |_+11,h=>exact h
theorem Sd{L:Act}{W0:World}{Q:QT}{B1:Nat}{cs:LV}{x:Av}{m1 M er:Int}(ops:Array Oper)(u:DQ Tryz.f7 7=some ops)
 (a0:L.tmps.getD 1 undef=.pointer (some ⟨B1,0,none⟩))(V:L.tmps.size=141)(K:B1 < W0.heap.size)(l:W0.rangeAt B1 0 cs)(G:(Tryz.prog.info? 35).map (·.size)=some cs.length)(hS:DT W0 cs x)(hm:Bo x (LF 6 (Bq 1 0) (Bq 0 0))=(⟨⟨m1,M⟩,er⟩:Rt × Int))
 (hQ:∀(a:Act) w1 b,a.tmps.size=141->a.defers=L.defers->(∀t,t∉[52,53,54,55,56,51,57,58,11,12]->a.tmps.getD t undef=L.tmps.getD t undef)->a.tmps.getD 11 undef=.pointer (some ⟨b,0,none⟩)->a.tmps.getD 12 undef=.int .i64 er->Below W0.heap.size W0 w1->W0.heap.size<=b->w1.heap[b]?=some (.cells #[.int .i64 m1,.int .i64 M] 44 (0,0))->Q .normal a w1):
  (Code.region 7 ops true).wp Tryz.prog Q L W0:=by
 obtain rfl:=yi ((rfl:DQ Tryz.f7 7=some _).symm.trans u)
 clear u
 have HM:=yb hm
 have HS:=yb hS
 have R:=yb G
 clear hm hS G
 refine BO (by kernel_rfl) (Vm W0 8 9 11 jc #[iV m1,iV M] 44) (Gd W0 cs m1 M er) (fun _=>F0) (by kernel_rfl) (by rw[V];kernel_rfl) (by kernel_rfl) (fun _ j v w w' _ _ hl h=>TO _ _ _ _ _ j v w w' hl h) ⟨(yg _ _).drew,fun _ h=>(by cases h),fun h=>(by cases h)⟩ ?_ ?_
 ·intro ix f a w' hM c o n
  have m:=yb hM.ext
  have Z:=(yd.1 n).1
  have X:=hM.size
  have W:Hid (a.tmps.size=141):=yb (hM.tmps.trans V)
  match ix,Z with
  |0,_=>
   have d:=hM.old c 1 (by kernel_rfl) _ a0
   have S:=yb (A0 l (m.o.below.block _ K))
   clear l
   obtain rfl:=yi n
   refine xO 35 _ rfl B1 0 (by simpa[Act.eval] using d) cs _ S.o qV rfl R.o ?_
   exact ⟨_,rfl,m.o.quiet (by decide) (by decide) (yg _ _),F0.refl _,rfl⟩
  |1,_=>
   clear l
   obtain rfl:=yi n
   go_simp
   refine (Bl 1 0 _).mono ?_
   rintro e w2 ⟨rfl,i⟩
   exact ⟨_,rfl,m.o.quiet (by decide) (by decide) i,F0.below i,rfl⟩
  |2,_=>
   clear l
   obtain rfl:=yi n
   go_simp
   refine (Bl 0 0 _).mono ?_
   rintro e w2 ⟨rfl,i⟩
   exact ⟨_,rfl,m.o.quiet (by decide) (by decide) i,F0.below i,rfl⟩
  |3,_=>
   have F:=hM.dep c 1 53 (by kernel_rfl) (by kernel_rfl)
   unfold Gd at F
   simp only at F
   have H:=hM.dep c 2 54 (by kernel_rfl) (by kernel_rfl)
   unfold Gd at H
   simp only at H
   clear l
   obtain rfl:=yi n
   go_simp
   refine (Iv 6 _ _ _ _ _ _ _ _ _ _ _ _ _ _ _ _ _).mono ?_
   rintro e w2 ⟨g,rfl,P,J,i⟩
   exact ⟨_,rfl,m.o.quiet (by decide) (by decide) i,F0.below i,g,rfl,J⟩
  |4,_=>
   have I:=hM.dep c 0 52 (by kernel_rfl) (by kernel_rfl)
   unfold Gd at I
   simp only at I
   have s:=hM.dep c 3 55 (by kernel_rfl) (by kernel_rfl)
   unfold Gd at s
   simp only at s
   obtain ⟨g,s,z⟩:=s
   have q:=DU (HS.o.up m.o.below) (Iw 6 (yd.1 z).1 (ca:=xC 1 1 0 Gg 0) (cb:=xC 1 0 0 Gg 0) z (BX 1 0) (BX 0 0):AG (fun b=>b < w'.heap.size) w' (LF 6 (Bq 1 0) (Bq 0 0)) (tC 6 g))
   rw[HM.o] at q
   clear z l
   obtain rfl:=yi n
   go_simp
   refine q.mono ?_
   rintro e w2 ⟨rfl,i⟩
   exact ⟨_,rfl,m.o.quiet (by decide) (by decide) i,F0.below i,rfl⟩
  |5,_=>
   have C:=hM.dep c 4 56 (by kernel_rfl) (by kernel_rfl)
   unfold Gd at C
   simp only at C
   clear l
   obtain rfl:=yi n
   go_simp
   exact ⟨_,rfl,m.o.quiet (by decide) (by decide) (yg _ _),F0.refl _,rfl⟩
  |6,_=>
   have r:=hM.dep c 5 51 (by kernel_rfl) (by kernel_rfl)
   unfold Gd at r
   simp only at r
   clear l
   obtain rfl:=yi n
   go_simp
   exact ⟨_,rfl,m.o.quiet (by decide) (by decide) (yg _ _),F0.refl _,rfl⟩
  |7,_=>
   have r:=hM.dep c 5 51 (by kernel_rfl) (by kernel_rfl)
   unfold Gd at r
   simp only at r
   clear l
   obtain rfl:=yi n
   go_simp
   exact ⟨_,rfl,m.o.quiet (by decide) (by decide) (yg _ _),F0.refl _,rfl⟩
  |8,_=>
   have O:f.getD 9 false=false:=by
    rw[yn];intro h6
    have:=A1 hM.down 12 9 8 (by kernel_rfl) h6
    rw[hM.not_yet c] at this;cases this
   have HN:=yb O
   have HT:Hid (11 < a.tmps.size):=yb (by rw[W.o];decide)
   clear l O
   obtain rfl:=yi n
   go_simp
   have D:Below w'.heap.size w' (w'.alloc (.cells jc 44)):=(yg _ _).alloc (yf _) _
   refine ⟨_,rfl,⟨m.o.below.trans (D.mono m.o.below.size),fun _ _=>⟨w'.heap.size,?_,m.o.below.size,World.alloc_heap_new _ _⟩,fun h4=>?_⟩,F0.below D,trivial⟩
   ·show (a.put (some 11) (pV w'.heap.size 0)).tmps.getD 11 undef=_
    exact Ay _ HT.o
   ·rw[A8 (by decide),HN.o] at h4;cases h4
  |9,_=>
   have O:=hM.not_yet c
   have lA:f.getD 8 false=true:=hM.came c 8 (by kernel_rfl)
   obtain ⟨b,U,N,A⟩:=m.o.one O lA
   have B:=hM.dep c 6 57 (by kernel_rfl) (by kernel_rfl)
   unfold Gd at B
   simp only at B
   have HL:Hid (9 < f.size):=yb (by rw[X];show 9 < 11;omega)
   have Y:=U
   rw[yE] at U
   refine wp_store_row 44 (.tmp 11) (.tmp 57) (by obtain rfl:=yi n;rfl) b #[iV m1,iV M] (by simpa[Act.eval] using U) (by simpa[Act.eval] using B) 44 jc A (by kernel_rfl) (by kernel_rfl) (by simp[Value.oneCell']) ?_
   obtain rfl:=yi n
   refine ⟨undef,rfl,⟨CK m.o.below N _,fun h6=>?_,fun _=>⟨b,Y,N,qz _ _ _ _ _ _ A⟩⟩,fun g row P=>?_,trivial⟩
   ·simp[HL.o] at h6
   ·rw[Cr _ _ (fun e=>by rw[e,A] at P;cases P)];exact P
  |10,_=>
   have E:=hM.dep c 7 58 (by kernel_rfl) (by kernel_rfl)
   unfold Gd at E
   simp only at E
   clear l
   obtain rfl:=yi n
   go_simp
   exact ⟨_,rfl,m.o.quiet (by decide) (by decide) (yg _ _),F0.refl _,rfl⟩
 ·intro f a w' y hM
  obtain ⟨b,k1,k2,k3⟩:=hM.ext.two (y 9 (show 9 < 11 by omega))
  have T:=hM.done 10 (y 10 (show 10 < 11 by omega)) _ 12 rfl rfl
  unfold Gd at T
  simp only at T
  refine hQ a w' b (hM.tmps.trans V) hM.defers (fun t ht=>hM.free t fun mm a2 o n hd=>ht ?_) k1 T hM.ext.below k2 k3
  have hs:=Hs (ops:=(Tryz.f7.body.bind (CN 7)).getD #[]) (p:=fun o=>match o.dst with|some k=>decide (k∈[52,53,54,55,56,51,57,58,11,12])|none=>true) (by kernel_rfl) n
  rw[hd] at hs
  exact yO hs
def Hf(W:World)(cs:LV)(m1 a er:Int)(j:Nat)(v:Value)(w:World):Prop:=match j with
 |0=>v=.agg cs.toArray
 |1=>v=.agg #[.int .i64 1,.int .i64 1073741825,.int .i64 0,.string ⟨#[]⟩,.int .i64 0,.slice none 0 0]
 |2=>v=.tuple #[.agg #[.int .i64 m1,.int .i64 a],.int .i64 er]
 |3=>v=.tuple #[.agg #[.int .i64 m1,.int .i64 a],.int .i64 er]
 |4=>v=.agg #[.int .i64 m1,.int .i64 a]
 |5=>v=.int .i64 er
 |8=>v=.int .i64 er
 |_=>True
theorem TP(W:World)(cs:LV)(m1 a er:Int)(j:Nat)(v:Value)(w w':World)(b:F0 w w')(h:Hf W cs m1 a er j v w):Hf W cs m1 a er j v w':=by
 match j,h with
 |0,h=>exact h
 |1,h=>exact h
 |2,h=>exact h
 |3,h=>exact h
 |4,h=>exact h
 |5,h=>exact h
 |6,h=>exact h
 |7,h=>exact h
 |8,h=>exact h
 |_+9,h=>exact h
theorem Se{G:Act}{W0:World}{Q:QT}{B1:Nat}{cs:LV}{x:Av}{m1 H er:Int}(ops:Array Oper)(s:DQ Tryz.f7 8=some ops)
 (V:G.tmps.getD 1 undef=.pointer (some ⟨B1,0,none⟩))(P:G.tmps.size=141)(F:B1 < W0.heap.size)(i:W0.rangeAt B1 0 cs)(E:(Tryz.prog.info? 35).map (·.size)=some cs.length)(Z:DT W0 cs x)(X:Bo x (Bq 1073741825 0)=(⟨⟨m1,H⟩,er⟩:Rt × Int))
 (hQ:∀(a:Act) w1 b,a.tmps.size=141->a.defers=G.defers->(∀t,t∉[60,61,62,59,63,64,13,14]->a.tmps.getD t undef=G.tmps.getD t undef)->a.tmps.getD 13 undef=.pointer (some ⟨b,0,none⟩)->a.tmps.getD 14 undef=.int .i64 er->Below W0.heap.size W0 w1->W0.heap.size<=b->w1.heap[b]?=some (.cells #[.int .i64 m1,.int .i64 H] 44 (0,0))->Q .normal a w1):
  (Code.region 8 ops true).wp Tryz.prog Q G W0:=by
 obtain rfl:=yi ((rfl:DQ Tryz.f7 8=some _).symm.trans s)
 clear s
 have HM:=yb X
 have HS:=yb Z
 have L:=yb E
 clear X Z E
 refine BO (by kernel_rfl) (Vm W0 6 7 13 jc #[iV m1,iV H] 44) (Hf W0 cs m1 H er) (fun _=>F0) (by kernel_rfl) (by rw[P];kernel_rfl) (by kernel_rfl) (fun _ j v w w' _ _ hl h=>TP _ _ _ _ _ j v w w' hl h) ⟨(yg _ _).drew,fun _ h=>(by cases h),fun h=>(by cases h)⟩ ?_ ?_
 ·intro ix c a w' hM f o m
  have l:=yb hM.ext
  have W:=(yd.1 m).1
  have T:=hM.size
  have R:Hid (a.tmps.size=141):=yb (hM.tmps.trans P)
  match ix,W with
  |0,_=>
   have d:=hM.old f 1 (by kernel_rfl) _ V
   have M:=yb (A0 i (l.o.below.block _ F))
   clear i
   obtain rfl:=yi m
   refine xO 35 _ rfl B1 0 (by simpa[Act.eval] using d) cs _ M.o qV rfl L.o ?_
   exact ⟨_,rfl,l.o.quiet (by decide) (by decide) (yg _ _),F0.refl _,rfl⟩
  |1,_=>
   clear i
   obtain rfl:=yi m
   go_simp
   refine (Bl 1073741825 0 _).mono ?_
   rintro e w2 ⟨rfl,q⟩
   exact ⟨_,rfl,l.o.quiet (by decide) (by decide) q,F0.below q,rfl⟩
  |2,_=>
   have B:=hM.dep f 0 60 (by kernel_rfl) (by kernel_rfl)
   unfold Hf at B
   simp only at B
   have D:=hM.dep f 1 61 (by kernel_rfl) (by kernel_rfl)
   unfold Hf at D
   simp only at D
   have r:=DU (HS.o.up l.o.below) (BX 1073741825 0:AG (fun b=>b < w'.heap.size) w' (Bq 1073741825 0) (xC 1 1073741825 0 Gg 0))
   rw[HM.o] at r
   skip
   clear i
   obtain rfl:=yi m
   go_simp
   refine r.mono ?_
   rintro e w2 ⟨rfl,q⟩
   exact ⟨_,rfl,l.o.quiet (by decide) (by decide) q,F0.below q,rfl⟩
  |3,_=>
   have I:=hM.dep f 2 62 (by kernel_rfl) (by kernel_rfl)
   unfold Hf at I
   simp only at I
   clear i
   obtain rfl:=yi m
   go_simp
   exact ⟨_,rfl,l.o.quiet (by decide) (by decide) (yg _ _),F0.refl _,rfl⟩
  |4,_=>
   have n:=hM.dep f 3 59 (by kernel_rfl) (by kernel_rfl)
   unfold Hf at n
   simp only at n
   clear i
   obtain rfl:=yi m
   go_simp
   exact ⟨_,rfl,l.o.quiet (by decide) (by decide) (yg _ _),F0.refl _,rfl⟩
  |5,_=>
   have n:=hM.dep f 3 59 (by kernel_rfl) (by kernel_rfl)
   unfold Hf at n
   simp only at n
   clear i
   obtain rfl:=yi m
   go_simp
   exact ⟨_,rfl,l.o.quiet (by decide) (by decide) (yg _ _),F0.refl _,rfl⟩
  |6,_=>
   have K:c.getD 7 false=false:=by
    rw[yn];intro h6
    have:=A1 hM.down 12 7 6 (by kernel_rfl) h6
    rw[hM.not_yet f] at this;cases this
   have HN:=yb K
   have HT:Hid (13 < a.tmps.size):=yb (by rw[R.o];decide)
   clear i K
   obtain rfl:=yi m
   go_simp
   have A:Below w'.heap.size w' (w'.alloc (.cells jc 44)):=(yg _ _).alloc (yf _) _
   refine ⟨_,rfl,⟨l.o.below.trans (A.mono l.o.below.size),fun _ _=>⟨w'.heap.size,?_,l.o.below.size,World.alloc_heap_new _ _⟩,fun Y=>?_⟩,F0.below A,trivial⟩
   ·show (a.put (some 13) (pV w'.heap.size 0)).tmps.getD 13 undef=_
    exact Ay _ HT.o
   ·rw[A8 (by decide),HN.o] at Y;cases Y
  |7,_=>
   have K:=hM.not_yet f
   have lA:c.getD 6 false=true:=hM.came f 6 (by kernel_rfl)
   obtain ⟨b,O,J,y⟩:=l.o.one K lA
   have z:=hM.dep f 4 63 (by kernel_rfl) (by kernel_rfl)
   unfold Hf at z
   simp only at z
   have HL:Hid (7 < c.size):=yb (by rw[T];show 7 < 9;omega)
   have U:=O
   rw[yE] at O
   refine wp_store_row 44 (.tmp 13) (.tmp 63) (by obtain rfl:=yi m;rfl) b #[iV m1,iV H] (by simpa[Act.eval] using O) (by simpa[Act.eval] using z) 44 jc y (by kernel_rfl) (by kernel_rfl) (by simp[Value.oneCell']) ?_
   obtain rfl:=yi m
   refine ⟨undef,rfl,⟨CK l.o.below J _,fun h6=>?_,fun _=>⟨b,U,J,qz _ _ _ _ _ _ y⟩⟩,fun g row S=>?_,trivial⟩
   ·simp[HL.o] at h6
   ·rw[Cr _ _ (fun e=>by rw[e,y] at S;cases S)];exact S
  |8,_=>
   have C:=hM.dep f 5 64 (by kernel_rfl) (by kernel_rfl)
   unfold Hf at C
   simp only at C
   clear i
   obtain rfl:=yi m
   go_simp
   exact ⟨_,rfl,l.o.quiet (by decide) (by decide) (yg _ _),F0.refl _,rfl⟩
 ·intro c a w' u hM
  obtain ⟨b,k1,k2,k3⟩:=hM.ext.two (u 7 (show 7 < 9 by omega))
  have N:=hM.done 8 (u 8 (show 8 < 9 by omega)) _ 14 rfl rfl
  unfold Hf at N
  simp only at N
  refine hQ a w' b (hM.tmps.trans P) hM.defers (fun t ht=>hM.free t fun mm a0 o m hd=>ht ?_) k1 N hM.ext.below k2 k3
  have hs:=Hs (ops:=(Tryz.f7.body.bind (CN 8)).getD #[]) (p:=fun o=>match o.dst with|some k=>decide (k∈[60,61,62,59,63,64,13,14])|none=>true) (by kernel_rfl) m
  rw[hd] at hs
  exact yO hs
set_option linter.unusedSimpArgs false
theorem Sf:∀e∈Ax (E0 BP),Ar e.1<=1000000:=fun e a=>
 yO (yR.1 (show (Ax (E0 BP)).all (fun e=>decide (Ar e.1<=1000000))=true by kernel_rfl) e a)
theorem Qc:∀e∈Ax (E0 (Bq 40 1)),Ar e.1<=1000000:=fun e a=>
 yO (yR.1 (show (Ax (E0 (Bq 40 1))).all (fun e=>decide (Ar e.1<=1000000))=true by kernel_rfl) e a)
mutual
def OW:Ex->Bool
 |.mk _ _ _ _ _ l=>decide (l.length<=100000)&&Np l
def Np:List Ex->Bool
 |[]=>true
 |e::r=>OW e&&Np r
end
mutual
theorem Nq:∀ {e:Ex},OW e=true->FZ e
 |.mk _ _ _ _ _ l,h=>by
  rw[OW,yG,z7] at h
  rw[FZ];exact ⟨h.1,OX h.2⟩
theorem OX:∀ {l:List Ex},Np l=true->GZ l
 |[],_=>by rw[GZ];trivial
 |e::r,h=>by
  rw[Np,yG] at h
  rw[GZ];exact ⟨Nq h.1,OX h.2⟩
end
theorem Sg:∀e∈Ax (E0 BP),FZ e.1:=fun e a=>Nq (yR.1 (show (Ax (E0 BP)).all (fun e=>OW e.1)=true by kernel_rfl) e a)
theorem Qd:∀e∈Ax (E0 (Bq 40 1)),FZ e.1:=fun e a=>Nq (yR.1 (show (Ax (E0 (Bq 40 1))).all (fun e=>OW e.1)=true by kernel_rfl) e a)
theorem TQ(cap:Ex)(h:∀e∈Ax (E0 cap),FZ e.1):MS (E0 cap):=⟨by simp[E0],by simp[E0],by simp[E0],by simp[E0],by simp[E0],by simp[E0],by simp[E0],by simp[E0],h⟩
set_option linter.unusedSimpArgs false
set_option linter.unusedVariables false
theorem BB{ops:Array Oper}{rest:List Oper}{op:Oper}{a:Act}{w:World}{Q:QT}(c:Region.wanted op (yielded ops a.tmps)=true)(ty:TypeId)(x:Operand)(j:op.op=.load ty x)
 (b o:Nat)(g:a.eval x=.pointer (some ⟨b,o,none⟩))(cs:LV)(d:TypeDesc)(i:w.rangeAt b o cs)(f:Tryz.prog.underlying ty=some d)(hd:d.isRow=true)(hi:(Tryz.prog.info? ty).map (·.size)=some cs.length)
 (h:wpList Tryz.prog ops Q rest (a.put op.dst (.agg cs.toArray)) w):wpList Tryz.prog ops Q (op::rest) a w:=
 wpList_step fun K e=>by rw[yw c];exact xO ty x j b o g cs d i f hd hi (e _ _ h)
structure Qe (lo:Nat) (W:World) (g13 g16 g18 g28 g31 g36:Nat) (capc:List Value):Prop where
 lo13:lo<=g13∧lo<=g16∧lo<=g18∧lo<=g28∧lo<=g31∧lo<=g36
 b13:W.heap[g13]?=some (.cells #[.string ⟨#[107]⟩,.int .i64 1,.int .i64 3,.int .i64 2,.string ⟨#[]⟩,.int .i64 0,.slice none 0 0] 50 (0,0))
 b16:W.heap[g16]?=some (.cells #[.int .i64 1,.int .i64 7,.int .i64 1,.string ⟨#[]⟩,.int .i64 0,.slice none 0 0,.int .i64 1,.int .i64 1,.int .i64 5,.string ⟨#[]⟩,.int .i64 0,.slice none 0 0] 26 (0,0))
 b18:W.heap[g18]?=some (.cells #[.string ⟨#[99]⟩,.int .i64 6,.int .i64 0,.int .i64 0,.string ⟨#[]⟩,.int .i64 0,.slice (some ⟨g16,0,none⟩) 2 2] 92 (0,0))
 b28:W.heap[g28]?=some (.cells #[.int .i64 1,.int .i64 1,.int .i64 0,.string ⟨#[]⟩,.int .i64 0,.slice none 0 0,.int .i64 1,.int .i64 8,.int .i64 0,.string ⟨#[]⟩,.int .i64 0,.slice none 0 0] 26 (0,0))
 b31:W.heap[g31]?=some (.cells (Lp++(capc++Lq g28)).toArray 66 (0,0))
 b36:W.heap[g36]?=some (.cells #[.string ⟨#[102]⟩,.string ⟨#[114]⟩,.int .i64 0,.bool false,.int .i64 1,.int .i64 20,.int .i64 5,.string ⟨#[]⟩,.int .i64 0,.slice none 0 0,.string ⟨#[99]⟩,.int .i64 0] 94 (0,0))
theorem Qe.up{lo:Nat}{W W':World}{b e f c d i:Nat}{a:LV}(h:Qe lo W b e f c d i a)(hb:Below W.heap.size W W'):Qe lo W' b e f c d i a:=by
 have k:∀ {g:Nat} {o:Obj},W.heap[g]?=some o->W'.heap[g]?=some o:=fun j=>(hb.block _ (yd.1 j).1).trans j
 exact ⟨h.lo13,k h.b13,k h.b16,k h.b18,k h.b28,k h.b31,k h.b36⟩
theorem Qe.ok{lo:Nat}{W:World}{i m j l f d:Nat}{a:LV}{cap:Ex}(h:Qe lo W i m j l f d a)(c:AG (fun b=>b < W.heap.size) W cap a)(n:GV W)(p:GU W)(hs:∀e∈Ax (E0 cap),FZ e.1)(hd:∀e∈Ax (E0 cap),Ar e.1<=1000000):DT W (Lr i j f d) (E0 cap):=by
 have k:∀ {g:Nat} {o:Obj},W.heap[g]?=some o->g < W.heap.size:=fun q=>(yd.1 q).1
 exact ⟨⟨_,UI c (k h.b13) (k h.b16) (k h.b18) (k h.b28) (k h.b31) (k h.b36) h.b13 h.b16 h.b18 h.b28 h.b31 h.b36⟩,TQ cap hs,n,p,hd⟩
def Ls(W:World)(gf:Nat):Prop:=W.heap[gf]?=some (.cells #[.int .i64 1,.int .i64 40,.int .i64 1,.string ⟨#[]⟩,.int .i64 0,.slice none 0 0,.int .i64 1,.int .i64 1,.int .i64 3,.string ⟨#[]⟩,.int .i64 0,.slice none 0 0] 26 (0,0))
theorem UJ{W:World}{gf:Nat}(h:Ls W gf):AG (fun b=>b < W.heap.size) W BP (tC 6 gf):=
 Iw 6 (yd.1 h).1 (ca:=xC 1 40 1 Gg 0) (cb:=xC 1 1 3 Gg 0) h (BX 40 1) (BX 1 3)
theorem Ls.up{W W':World}{gf:Nat}(h:Ls W gf)(hb:Below W.heap.size W W'):Ls W' gf:=(hb.block _ (yd.1 h).1).trans h
theorem OY(w:World):Calls Tryz.prog 21 #[] w fun e w'=>∃(gf c g d f b a:Nat),e=.returned (.agg (Lr c d b a).toArray)∧Qe w.heap.size w' c g d f b a (tC 6 gf)∧Ls w' gf∧w.heap.size<=gf∧Below w.heap.size w w':=by
 refine (OV w).mono ?_
 rintro e w' ⟨B,gf,cells,rfl,q,o,p,h,s,hb⟩
 unfold CA at o
 simp only at o
 obtain ⟨c,g,d,f,b,a,r,i,l,n,k,m,j⟩:=o
 cases r
 refine ⟨gf,c,g,d,f,b,a,rfl,⟨⟨qp (xI h i.1),qp (xI h l.1),qp (xI h n.1),qp (xI h k.1),qp (xI h m.1),qp (xI h j.1)⟩,i.2,l.2,n.2,k.2,m.2,j.2⟩,p,s,hb⟩
theorem TR{w:World}(hv:GV w)(hu:GU w):Calls Tryz.prog 7 #[] w fun e w'=>e=.returned (.bool true)∧Below w.heap.size w w':=by
 have HV:=yb hv
 have HU:=yb hu
 clear hv hu
 go_enter Tryz.func7,Tryz.ntmps7
 refine Ae fun K k=>?_
 go_wp2
 refine k.o _ _ ?_
 clear k K
 refine Ae fun K k=>?_
 go_wp2_with (first
  |(go_at_call 21;go_loud ((with_reducible refine (OY _).mono ?_);rintro e w1 ⟨gf,aw,dg,b8,ci,D,ap,rfl,hm,hf,cy,hb⟩;have HA:=yb (And.intro hm (And.intro hf (And.intro cy hb)));clear hm hf cy hb;obtain ⟨B,au⟩:∃B,B=Lr aw b8 D ap:=⟨_,rfl⟩;rw[<-au];have bh:=yb au;have HL:Hid (B.length=26):=yb (by cases au;rfl);have cv:Hid (∀v∈B,v.oneCell'=true):=yb (by cases au;exact yR.1 (show (Lr aw b8 D ap).all (fun v=>v.oneCell')=true by rfl));clear au))
  |(with_reducible refine zb rfl 35 _ _ rfl w1.heap.size B.toArray (by kernel_rfl) (by kernel_rfl) 35 _ (World.alloc_heap_new _ _) (by rw[yq,HL.o];kernel_rfl) (by simp[HL.o]) (yB cv.o) ?_;rw[World.setRow_alloc_new]))
 refine k.o _ _ ?_
 clear k K
 have bb:=(yg w1.heap.size w1).alloc (yf _) (.cells B.toArray 35)
 have bd:=World.alloc_heap_new w1 (.cells B.toArray 35)
 have c8:Below w.heap.size w (w1.alloc (.cells B.toArray 35)):=HA.o.2.2.2.trans (bb.mono HA.o.2.2.2.size)
 have bx:=yb (HA.o.1.up bb)
 have cc:=yb (HA.o.2.1.up bb)
 have ce:Hid (w.heap.size<=w1.heap.size):=yb HA.o.2.2.2.size
 have dl:=yb HA.o.2.2.1
 generalize da:w1.heap.size=b1 at bd ce ⊢
 clear da bb
 generalize w1.alloc _=U at bd c8 bx cc ⊢
 have cg:=yb bd;have cn:=yb c8
 clear bd c8 HA
 refine Ae fun K k=>?_
 go_wp2_with (first
  |(go_at_call 23;with_reducible refine (Bl 3 2 _).mono ?_;rintro e w2 ⟨rfl,h2⟩;have HA:=yb h2;clear h2)
  |(go_at_call 23;with_reducible refine (Bl 2 3 _).mono ?_;rintro e w3 ⟨rfl,h3⟩;have HB:=yb h3;clear h3)
  |(go_at_call 22;with_reducible refine (Iv 6 _ _ _ _ _ _ _ _ _ _ _ _ _ _ _ _ _).mono ?_;rintro e w4 ⟨gr,rfl,hg,s,d5⟩;have HC:=yb (And.intro hg (And.intro s d5));clear hg s d5))
 refine k.o _ _ ?_
 clear k K
 have cd:Below U.heap.size U w4:=(HA.o.trans (HB.o.mono HA.o.size)).trans (HC.o.2.2.mono (by have:=HA.o.size;have:=HB.o.size;omega))
 have A:=(yg w4.heap.size w4).alloc (yf _) (.cells #[iV 6,iV 0,iV 0,.string ⟨#[]⟩,iV 0,.slice (some (aV gr 0)) 2 2] 26)
 have f:=World.alloc_heap_new w4 (.cells #[iV 6,iV 0,iV 0,.string ⟨#[]⟩,iV 0,.slice (some (aV gr 0)) 2 2] 26)
 have ba:=(A.block gr (yd.1 HC.o.2.1).1).trans HC.o.2.1
 have ab:=cd.trans (A.mono cd.size)
 generalize d8:w4.heap.size=b2 at f ⊢
 clear d8 cd A HA HB HC
 generalize w4.alloc _=V at f ba ab ⊢
 have be:Hid (Below w.heap.size w V):=yb (cn.o.trans (ab.mono cn.o.size))
 have d6:=yb (bx.o.up ab)
 have dd:=yb (cc.o.up ab)
 have bz:Hid (V.heap[b1]?=some (.cells B.toArray 35 (0,0))):=yb ((ab.block _ (yd.1 cg.o).1).trans cg.o)
 have HS:Hid (DT V B (E0 BP)):=yb (by
  rw[bh.o]
  exact d6.o.ok (UJ dd.o) (HV.o.below be.o HV.o.1) (HU.o.up be.o) Sg Sf)
 have cx:Hid (AG (fun b=>b < V.heap.size) V TH (tC 6 gr)):=yb (Iw 6 (yd.1 ba).1 (ca:=xC 1 3 2 Gg 0) (cb:=xC 1 2 3 Gg 0) ba (BX 3 2) (BX 2 3))
 have d7:Hid (V.rangeAt b2 0 (tC 6 gr)):=yb (AD (t:=26) f)
 have N:Hid (V.rangeAt b1 0 B):=yb (AD bz.o)
 have u:Hid (b1 < V.heap.size∧b2 < V.heap.size∧w.heap.size<=b1):=yb ⟨(yd.1 bz.o).1,(yd.1 f).1,ce.o⟩
 have M:Hid ((Tryz.prog.info? 35).map (·.size)=some B.length):=yb (by rw[HL.o];kernel_rfl)
 have cf:=yb (IQ HS.o cx.o)
 rw[TI] at cf
 clear f ba ab bx cc cg cn ce
 refine Ae fun K k=>?_
 go_wp2_with (first
  |(with_reducible refine yj rfl 35 _ rfl b1 0 (by kernel_rfl) B _ N.o qV rfl M.o ?_)
  |(with_reducible refine yj rfl 26 _ rfl b2 0 (by kernel_rfl) (tC 6 gr) _ d7.o qM rfl (by kernel_rfl) ?_)
  |(go_at_call 9;go_loud ((with_reducible refine cf.o.mono ?_);rintro e m ⟨rfl,h5⟩;have j:=yb h5;clear h5;unfold Dm.v;dsimp only)))
 refine k.o _ _ ?_
 clear k K cf
 have A:=(yg m.heap.size m).alloc (yf _) (.cells #[iV 1,iV (-1),iV 0] 39)
 have f:=World.alloc_heap_new m (.cells #[iV 1,iV (-1),iV 0] 39)
 have cm:=j.o.trans (A.mono j.o.size)
 have cu:Hid (V.heap.size<=m.heap.size):=yb j.o.size
 generalize df:m.heap.size=b3 at f cu ⊢
 clear df A j
 generalize m.alloc _=W3 at f cm ⊢
 have S:=yb cm
 have c9:=yb f
 clear cm f
 have q:Hid (W3.rangeAt b1 0 B):=yb (A0 N.o (S.o.block _ u.o.1))
 have bm:Hid (W3.rangeAt b2 0 (tC 6 gr)):=yb (A0 d7.o (S.o.block _ u.o.2.1))
 have E:=yb (DU (HS.o.up S.o) (cx.o.same (fun b hb=>yv hb S.o.size) (fun b hb=>S.o.block b hb)))
 rw[S8] at E
 refine Ae fun K k=>?_
 go_wp2_with (first
  |(with_reducible refine yj rfl 35 _ rfl b1 0 (by kernel_rfl) B _ q.o qV rfl M.o ?_)
  |(with_reducible refine yj rfl 26 _ rfl b2 0 (by kernel_rfl) (tC 6 gr) _ bm.o qM rfl (by kernel_rfl) ?_)
  |(go_at_call 10;(with_reducible refine E.o.mono ?_);rintro e m ⟨rfl,h5⟩;have j:=yb h5;clear h5;unfold Rt.v;dsimp only))
 refine k.o _ _ ?_
 clear k K E q bm
 have A:=(yg m.heap.size m).alloc (yf _) (.cells #[iV 1500,iV 1] 44)
 have f:=World.alloc_heap_new m (.cells #[iV 1500,iV 1] 44)
 have bi:=j.o.trans (A.mono j.o.size)
 have d4:Hid (V.heap.size<=m.heap.size):=yb (by have:=j.o.size;have:=S.o.size;omega)
 generalize db:m.heap.size=b5 at f d4 ⊢
 clear db A j
 generalize m.alloc _=W4 at f bi ⊢
 have dq:Hid (Below V.heap.size V W4):=yb (S.o.trans (bi.mono S.o.size))
 have dt:Hid (W4.heap[b3]?=some (.cells #[iV 1,iV (-1),iV 0] 39 (0,0))):=yb ((bi.block _ (yd.1 c9.o).1).trans c9.o)
 have ei:=yb f
 clear bi f S c9
 rename Hid (Below V.heap.size V W4)=>R
 rename Hid (W4.heap[b3]?=_)=>aq
 rename Hid (W4.heap[b5]?=_)=>ag
 refine Ae fun K k=>?_
 obtain ⟨m1,m2,m3,hm⟩:∃m1 m2 m3:Int,E8 (E0 BP) (LF 3 (Bq 3 1) (Bq 4 3))=((⟨m1,m2,m3⟩:Dm),(180:Int)):=⟨(E8 (E0 BP) (LF 3 (Bq 3 1) (Bq 4 3))).1.l,(E8 (E0 BP) (LF 3 (Bq 3 1) (Bq 4 3))).1.h,(E8 (E0 BP) (LF 3 (Bq 3 1) (Bq 4 3))).1.a,by rw[<-UG]⟩
 refine Sb (W0:=W4) (B1:=b1) (cs:=B) (x:=E0 BP) (er:=180) _ rfl rfl rfl (yv u.o.1 R.o.size) (A0 N.o (R.o.block _ u.o.1)) M.o (HS.o.up R.o) hm ?_
 intro y W5 b7 G J H L r hb X s
 have e:=Gt [36,37,38,39,40,35,41,42,7,8] (G.trans rfl) J H
 clear hm
 simp only[qm,List.foldl_nil,zZ,xF,xG] at e
 rw[L,r] at e
 generalize y.tmps.getD 36 undef=di at e
 generalize y.tmps.getD 37 undef=ea at e
 generalize y.tmps.getD 38 undef=dy at e
 generalize y.tmps.getD 39 undef=dj at e
 generalize y.tmps.getD 40 undef=du at e
 generalize y.tmps.getD 35 undef=e9 at e
 generalize y.tmps.getD 41 undef=dz at e
 generalize y.tmps.getD 42 undef=dp at e
 subst e
 clear G J H L r
 have P:Hid (Below V.heap.size V W5):=yb (R.o.trans (hb.mono R.o.size))
 have ao:Hid (W5.heap[b3]?=some (.cells #[iV 1,iV (-1),iV 0] 39 (0,0))):=yb ((hb.block _ (yd.1 aq.o).1).trans aq.o)
 have ax:Hid (W5.heap[b5]?=some (.cells #[iV 1500,iV 1] 44 (0,0))):=yb ((hb.block _ (yd.1 ag.o).1).trans ag.o)
 clear hb X s aq ag R
 refine k.o _ _ ?_
 clear k K
 refine Ae fun K k=>?_
 refine Sc (W0:=W5) (B1:=b1) (cs:=B) (x:=E0 BP) (er:=0) _ rfl rfl rfl (yv u.o.1 P.o.size) (A0 N.o (P.o.block _ u.o.1)) M.o (HS.o.up P.o) TJ ?_
 intro y W6 b9 G J H L r hb X s
 have e:=Gt [44,45,46,47,48,43,49,50,9,10] (G.trans rfl) J H
 simp only[qm,List.foldl_nil,zZ,xF,xG] at e
 rw[L,r] at e
 generalize y.tmps.getD 44 undef=dm at e
 generalize y.tmps.getD 45 undef=ec at e
 generalize y.tmps.getD 46 undef=v46 at e
 generalize y.tmps.getD 47 undef=e8 at e
 generalize y.tmps.getD 48 undef=e7 at e
 generalize y.tmps.getD 43 undef=dv at e
 generalize y.tmps.getD 49 undef=dh at e
 generalize y.tmps.getD 50 undef=e3 at e
 subst e
 clear G J H L r
 have O:Hid (Below V.heap.size V W6):=yb (P.o.trans (hb.mono P.o.size))
 have ar:Hid (W6.heap[b3]?=some (.cells #[iV 1,iV (-1),iV 0] 39 (0,0))):=yb ((hb.block _ (yd.1 ao.o).1).trans ao.o)
 have az:Hid (W6.heap[b5]?=some (.cells #[iV 1500,iV 1] 44 (0,0))):=yb ((hb.block _ (yd.1 ax.o).1).trans ax.o)
 have ai:=yb s
 have dw:Hid (W5.heap.size<=b9):=yb X
 clear hb X s ao ax P
 refine k.o _ _ ?_
 clear k K
 refine Ae fun K k=>?_
 obtain ⟨m1,m2,hm⟩:∃m1 m2:Int,Bo (E0 BP) (LF 6 (Bq 1 0) (Bq 0 0))=((⟨m1,m2⟩:Rt),(120:Int)):=⟨(Bo (E0 BP) (LF 6 (Bq 1 0) (Bq 0 0))).1.n,(Bo (E0 BP) (LF 6 (Bq 1 0) (Bq 0 0))).1.d,by rw[<-UH]⟩
 refine Sd (W0:=W6) (B1:=b1) (cs:=B) (x:=E0 BP) (er:=120) _ rfl rfl rfl (yv u.o.1 O.o.size) (A0 N.o (O.o.block _ u.o.1)) M.o (HS.o.up O.o) hm ?_
 intro y W7 e5 G J H L r hb X s
 have e:=Gt [52,53,54,55,56,51,57,58,11,12] (G.trans rfl) J H
 clear hm
 simp only[qm,List.foldl_nil,zZ,xF,xG] at e
 rw[L,r] at e
 generalize y.tmps.getD 52 undef=eh at e
 generalize y.tmps.getD 53 undef=dr at e
 generalize y.tmps.getD 54 undef=dn at e
 generalize y.tmps.getD 55 undef=e2 at e
 generalize y.tmps.getD 56 undef=eg at e
 generalize y.tmps.getD 51 undef=v51 at e
 generalize y.tmps.getD 57 undef=ee at e
 generalize y.tmps.getD 58 undef=dk at e
 subst e
 clear G J H L r
 have Q:Hid (Below V.heap.size V W7):=yb (O.o.trans (hb.mono O.o.size))
 have ae:Hid (W7.heap[b3]?=some (.cells #[iV 1,iV (-1),iV 0] 39 (0,0))):=yb ((hb.block _ (yd.1 ar.o).1).trans ar.o)
 have aj:Hid (W7.heap[b5]?=some (.cells #[iV 1500,iV 1] 44 (0,0))):=yb ((hb.block _ (yd.1 az.o).1).trans az.o)
 have ay:Hid (W7.heap[b9]?=some (.cells #[iV (-6),iV 1] 44 (0,0))):=yb ((hb.block _ (yd.1 ai.o).1).trans ai.o)
 clear hb X s ar az ai O
 refine k.o _ _ ?_
 clear k K
 refine Ae fun K k=>?_
 obtain ⟨m1,m2,hm⟩:∃m1 m2:Int,Bo (E0 BP) (Bq 1073741825 0)=((⟨m1,m2⟩:Rt),(2:Int)):=⟨(Bo (E0 BP) (Bq 1073741825 0)).1.n,(Bo (E0 BP) (Bq 1073741825 0)).1.d,by rw[<-S9]⟩
 refine Se (W0:=W7) (B1:=b1) (cs:=B) (x:=E0 BP) (er:=2) _ rfl rfl rfl (yv u.o.1 Q.o.size) (A0 N.o (Q.o.block _ u.o.1)) M.o (HS.o.up Q.o) hm ?_
 intro y W8 b13 G J H L r hb X s
 have e:=Gt [60,61,62,59,63,64,13,14] (G.trans rfl) J H
 clear hm
 simp only[qm,List.foldl_nil,zZ,xF,xG] at e
 rw[L,r] at e
 generalize y.tmps.getD 60 undef=ef at e
 generalize y.tmps.getD 61 undef=e4 at e
 generalize y.tmps.getD 62 undef=e6 at e
 generalize y.tmps.getD 59 undef=ej at e
 generalize y.tmps.getD 63 undef=ed at e
 generalize y.tmps.getD 64 undef=dx at e
 subst e
 clear G J H L r
 have W:Hid (Below V.heap.size V W8):=yb (Q.o.trans (hb.mono Q.o.size))
 have ak:Hid (W8.heap[b3]?=some (.cells #[iV 1,iV (-1),iV 0] 39 (0,0))):=yb ((hb.block _ (yd.1 ae.o).1).trans ae.o)
 have an:Hid (W8.heap[b5]?=some (.cells #[iV 1500,iV 1] 44 (0,0))):=yb ((hb.block _ (yd.1 aj.o).1).trans aj.o)
 have am:Hid (W8.heap[b9]?=some (.cells #[iV (-6),iV 1] 44 (0,0))):=yb ((hb.block _ (yd.1 ay.o).1).trans ay.o)
 clear hb X s ae aj ay Q
 refine k.o _ _ ?_
 clear k K
 obtain ⟨z1,z2,cr⟩:∃z1 z2:Int,Bo (E0 BP) Lo=((⟨z1,z2⟩:Rt),(180:Int)):=⟨(Bo (E0 BP) Lo).1.n,(Bo (E0 BP) Lo).1.d,by rw[<-TK]⟩
 have E:=yb (DU (HS.o.up W.o) ((VZ:AG (fun b=>b < W8.heap.size) W8 Lo (xC 0 0 0 Gg 0))))
 rw[cr] at E
 clear cr
 unfold xC Gg at E
 have q:Hid (W8.rangeAt b1 0 B):=yb (A0 N.o (W.o.block _ u.o.1))
 refine Ae fun K k=>?_
 go_wp2_with (first
  |(with_reducible refine yj rfl 35 _ rfl b1 0 (by kernel_rfl) B _ q.o qV rfl M.o ?_)
  |(go_at_call 10;(with_reducible refine E.o.mono ?_);rintro e m ⟨rfl,h5⟩;have j:=yb h5;clear h5;unfold Rt.v;dsimp only))
 refine k.o _ _ ?_
 clear k K E q
 have A:=(yg m.heap.size m).alloc (yf _) (.cells #[iV z1,iV z2] 44)
 have f:=World.alloc_heap_new m (.cells #[iV z1,iV z2] 44)
 have hb:=j.o.trans (A.mono j.o.size)
 have cj:Hid (W8.heap.size<=m.heap.size):=yb j.o.size
 generalize cp:m.heap.size=ek at f cj ⊢
 clear cp A j
 generalize m.alloc _=W9 at f hb ⊢
 have T:Hid (Below V.heap.size V W9):=yb (W.o.trans (hb.mono W.o.size))
 have ad:Hid (W9.heap[b3]?=some (.cells #[iV 1,iV (-1),iV 0] 39 (0,0))):=yb ((hb.block _ (yd.1 ak.o).1).trans ak.o)
 have af:Hid (W9.heap[b5]?=some (.cells #[iV 1500,iV 1] 44 (0,0))):=yb ((hb.block _ (yd.1 an.o).1).trans an.o)
 have b4:Hid (W9.heap[b9]?=some (.cells #[iV (-6),iV 1] 44 (0,0))):=yb ((hb.block _ (yd.1 am.o).1).trans am.o)
 clear hb f W ak an am
 have E:=yb (DU (HS.o.up T.o) ((Kj 2 0 0 sK 0 (by decide):AG (fun b=>b < W9.heap.size) W9 (E0 BP).start (xC 2 0 0 sK 0))))
 rw[show Bo (E0 BP) (Ex.mk 2 0 0 sK 0 [])=(⟨3000,1⟩,0) from Sa] at E
 have q:Hid (W9.rangeAt b1 0 B):=yb (A0 N.o (T.o.block _ u.o.1))
 have de:Hid (W9.rangeAt b1 13 (xC 2 0 0 sK 0)):=yb (DF ((Lr aw b8 D ap).take 13) (xC 2 0 0 sK 0) ((Lr aw b8 D ap).drop 19) q.o (by rw[bh.o];rfl) rfl)
 refine Ae fun K k=>?_
 go_wp2_with (first
  |(with_reducible refine yj rfl 35 _ rfl b1 0 (by kernel_rfl) B _ q.o qV rfl M.o ?_)
  |(with_reducible refine yj rfl 26 _ rfl b1 13 (by kernel_rfl) (xC 2 0 0 sK 0) _ de.o qM rfl (by kernel_rfl) ?_)
  |(go_at_call 10;(with_reducible refine E.o.mono ?_);rintro e m ⟨rfl,h5⟩;have j:=yb h5;clear h5;unfold Rt.v;dsimp only))
 refine k.o _ _ ?_
 clear k K E q
 have A:=(yg m.heap.size m).alloc (yf _) (.cells #[iV 3000,iV 1] 44)
 have f:=World.alloc_heap_new m (.cells #[iV 3000,iV 1] 44)
 have hb:=j.o.trans (A.mono j.o.size)
 have co:Hid (W9.heap.size<=m.heap.size):=yb j.o.size
 generalize ct:m.heap.size=cl at f co ⊢
 clear ct A j
 generalize m.alloc _=b0 at f hb ⊢
 have I:Hid (Below V.heap.size V b0):=yb (T.o.trans (hb.mono T.o.size))
 have a2:Hid (b0.heap[b3]?=some (.cells #[iV 1,iV (-1),iV 0] 39 (0,0))):=yb ((hb.block _ (yd.1 ad.o).1).trans ad.o)
 have a0:Hid (b0.heap[b5]?=some (.cells #[iV 1500,iV 1] 44 (0,0))):=yb ((hb.block _ (yd.1 af.o).1).trans af.o)
 have Z:Hid (b0.heap[b9]?=some (.cells #[iV (-6),iV 1] 44 (0,0))):=yb ((hb.block _ (yd.1 b4.o).1).trans b4.o)
 have a6:=yb f
 clear hb f T ad af b4
 have aa:=yb (Ln (HS.o.up I.o) rfl rfl rfl (by simp[E0]) (by simp[E0]) (by simp[E0]))
 rw[S7] at aa
 have q:Hid (b0.rangeAt b1 0 B):=yb (A0 N.o (I.o.block _ u.o.1))
 refine Ae fun K k=>?_
 go_wp2_with (first
  |(refine BB rfl 35 _ rfl b1 0 rfl B _ q.o qV rfl M.o ?_)
  |(go_at_call 24;(with_reducible refine aa.o.mono ?_);rintro e m ⟨rfl,h5⟩;have j:=yb h5;clear h5))
 refine k.o _ _ ?_
 clear k K aa q
 have C:Hid (Below V.heap.size V m):=yb (I.o.trans (j.o.mono I.o.size))
 have bq:Hid (m.heap[b3]?=some (.cells #[iV 1,iV (-1),iV 0] 39 (0,0))):=yb ((j.o.block _ (yd.1 a2.o).1).trans a2.o)
 have bp:Hid (m.heap[b5]?=some (.cells #[iV 1500,iV 1] 44 (0,0))):=yb ((j.o.block _ (yd.1 a0.o).1).trans a0.o)
 have bt:Hid (m.heap[b9]?=some (.cells #[iV (-6),iV 1] 44 (0,0))):=yb ((j.o.block _ (yd.1 Z.o).1).trans Z.o)
 have bo:Hid (m.heap[cl]?=some (.cells #[iV 3000,iV 1] 44 (0,0))):=yb ((j.o.block _ (yd.1 a6.o).1).trans a6.o)
 clear j I a2 a0 Z a6
 have bw:=yb (d6.o.up C.o)
 have bu:Hid (m.rangeAt b1 0 B):=yb (A0 N.o (C.o.block _ u.o.1))
 have d3:Hid (m.cell? (aV b1 21)=some (.slice (some (aV D 0)) 1 1)):=yb (by
  have:=bu.o 21 (.slice (some (aV D 0)) 1 1) (by rw[bh.o];rfl)
  simpa using this)
 have dc:Hid (b1 < m.heap.size):=yb (yv u.o.1 C.o.size)
 refine Ae fun K k=>?_
 refine DP (by kernel_rfl) (fun W'=>Below m.heap.size m W') 5 ?_
 have bg:Hid (Below m.heap.size m m.drew):=yb (yg _ _).drew
 refine Bb (i:=0) (v:=pV b1 21) rfl (by kernel_rfl) (by kernel_rfl) (by kernel_rfl) (fun _ _ _ h=>h) (by kernel_rfl) (Or.inl ⟨by rfl,?_⟩) bg.o ?_
 ·intro w' _;go_simp
 refine Bb (i:=1) (v:=.slice (some (aV D 0)) 1 1) rfl (by kernel_rfl) (by kernel_rfl) (by kernel_rfl) (fun _ _ _ h=>h) (by kernel_rfl) (Or.inl ⟨by rfl,?_⟩) bg.o ?_
 ·intro w' d9
  have c:=(d9.cell (p:=(aV b1 21)) dc.o).trans d3.o
  go_simp
 refine Al (i:=2) (by kernel_rfl) rfl (fun K k=>?_)
 go_simp
 refine (Bl 40 1 _).mono ?_
 rintro e w6 ⟨rfl,cw⟩
 have Y:Hid (Below m.heap.size m w6):=yb (bg.o.trans cw)
 clear cw
 refine k.o _ _ (fun _=>Y.o) ?_
 clear k K
 refine Al (i:=3) (by kernel_rfl) rfl (fun K k=>?_)
 go_simp
 refine k.o _ _ (fun _=>Y.o) ?_
 clear k K
 refine Al (i:=4) (by kernel_rfl) rfl (fun K k=>?_)
 go_simp
 refine k.o _ _ (fun _=>Y.o) ?_
 clear k K
 have F:=yb (bw.o.up Y.o)
 refine Al (i:=5) (by kernel_rfl) rfl (fun K k=>?_)
 rw[yw (by rfl)]
 refine zj 26 _ _ rfl D 9 #[iV 1,iV 40,iV 1,.string ⟨#[]⟩,iV 0,.slice none 0 0] rfl rfl (Jf F.o.b31 (by simp[Lp,tC,Lq])) (by kernel_rfl) (by simp[Value.oneCell']) ?_
 have hw:=AR D 66 [iV 1,iV 40,iV 1,.string ⟨#[]⟩,iV 0,.slice none 0 0] 9 w6 Lp (tC 6 gf) (Lq ci) F.o.b31 rfl rfl
 have ck:DS w6 (w6.setCells D 9 (#[iV 1,iV 40,iV 1,.string ⟨#[]⟩,iV 0,.slice none 0 0]:Array Value).toList) D (Lp++(xC 1 40 1 Gg 0++Lq ci)) 66:=hw
 clear hw
 generalize w6.setCells _ _ _=z at ck ⊢
 have HW:=yb ck
 clear ck
 refine k.o _ _ (by intro h;cases h) ?_
 clear k K
 refine DO (by kernel_rfl) ?_
 refine k.o _ _ ?_
 clear k K
 have HO:Hid (∀(g:Nat) (row:Array Value) (ty:TypeId),w6.heap[g]?=some (.cells row ty (0,0))->ty≠66->z.heap[g]?=some (.cells row ty (0,0))):=yb (fun g row ty h ch=>(HW.o.block g (fun e=>by
  rw[e,F.o.b31] at h
  exact ch (by injection h with h;injection h with h1 h2;exact h2.symm))).trans h)
 have bv:Qe w.heap.size z aw dg b8 ci D ap (xC 1 40 1 Gg 0):=⟨F.o.lo13,HO.o _ _ _ F.o.b13 (by decide),HO.o _ _ _ F.o.b16 (by decide),HO.o _ _ _ F.o.b18 (by decide),HO.o _ _ _ F.o.b28 (by decide),HW.o.row,HO.o _ _ _ F.o.b36 (by decide)⟩
 have a8:Below w.heap.size w z:=HW.o.below (be.o.trans ((C.o.trans (Y.o.mono C.o.size)).mono be.o.size)) F.o.lo13.2.2.2.2.1
 have bk:DT z B (E0 (Bq 40 1)):=by
  rw[bh.o]
  exact bv.ok (BX 40 1) (HV.o.below a8 HV.o.1) (HU.o.up a8) Qd Qc
 have bn:=yb a8
 have aa:=yb (Ln bk rfl rfl rfl (by simp[E0]) (by simp[E0]) (by simp[E0]))
 rw[Qb] at aa
 have up:∀ {g:Nat} {row:Array Value} {ty:TypeId},m.heap[g]?=some (.cells row ty (0,0))->ty≠66->z.heap[g]?=some (.cells row ty (0,0)):=fun h ch=>HO.o _ _ _ ((Y.o.block _ (yd.1 h).1).trans h) ch
 have bj:=up ((C.o.block _ u.o.1).trans bz.o) (by decide)
 have a7:=up bq.o (by decide)
 have av:=up bp.o (by decide)
 have ac:=up bt.o (by decide)
 have ah:=up bo.o (by decide)
 have cz:Hid (z.rangeAt b1 0 B):=yb (AD bj)
 have d0:z.cell? (aV b3 0)=some (iV 1):=by simp[World.cell?,a7]
 have d1:z.cell? (aV b3 1)=some (iV (-1)):=by simp[World.cell?,a7]
 have d2:z.cell? (aV b3 2)=some (iV 0):=by simp[World.cell?,a7]
 have e0:z.cell? (aV b5 0)=some (iV 1500):=by simp[World.cell?,av]
 have e1:z.cell? (aV b5 1)=some (iV 1):=by simp[World.cell?,av]
 have f0:z.cell? (aV b9 0)=some (iV (-6)):=by simp[World.cell?,ac]
 have f1:z.cell? (aV b9 1)=some (iV 1):=by simp[World.cell?,ac]
 have k0:z.cell? (aV cl 0)=some (iV 3000):=by simp[World.cell?,ah]
 have k1:z.cell? (aV cl 1)=some (iV 1):=by simp[World.cell?,ah]
 clear bv a8 bk up bj a7 av ac ah bq bp bt bo bw F bu Y bg HO HW
 go_wp2_with (first
  |(refine BB rfl 35 _ rfl b1 0 rfl B _ cz.o qV rfl M.o ?_)
  |(go_at_call 24;(with_reducible refine aa.o.mono ?_);rintro e eb ⟨rfl,h5⟩;have cq:=yb h5;clear h5))
 go_ret
 exact ⟨rfl,bn.o.trans (cq.o.mono bn.o.size)⟩
def Wj(_:Nat):Prop:=False
theorem Vo{w:World}{e:Ex}{cs:LV}(h:AG (fun b=>b < w.heap.size) w e cs):AG (GF Wj w) w e cs:=h.same (fun _ hb=>⟨fun h=>h,hb⟩) (fun _ _=>rfl)
theorem Vp{w:World}{e:Ex}{cs:LV}(h:AG (GF Wj w) w e cs):AG (fun b=>b < w.heap.size) w e cs:=h.same (fun _ hb=>hb.2) (fun _ _=>rfl)
structure J0 (w:World) (cs xs:List Value) (x:Av) (e:Ex) (W:World):Prop where
 below:Below w.heap.size w W
 rs:W.rangeAt w.heap.size 0 cs
 rx:W.rangeAt (w.heap.size+1) 0 xs
 sv:∃L,BH (fun b=>b < W.heap.size) W L cs x
 ev:AG (fun b=>b < W.heap.size) W e xs
 gv:GV W
 gu:GU W
 lt:w.heap.size+2<=W.heap.size
theorem J0.up{w W W':World}{cs xs:LV}{x:Av}{e:Ex}(h:J0 w cs xs x e W)(hb:Below W.heap.size W W'):J0 w cs xs x e W':=by
 obtain ⟨L,c⟩:=h.sv
 have d:=h.lt
 exact ⟨h.below.trans (hb.mono h.below.size),A0 h.rs (hb.block _ (by omega)),A0 h.rx (hb.block _ (by omega)),⟨L,c.same (fun b a=>yv a hb.size) (fun b a=>hb.block b a)⟩,
  h.ev.same (fun b a=>yv a hb.size) (fun b a=>hb.block b a),h.gv.below hb h.gv.1,h.gu.up hb,yu h.lt hb.size⟩
theorem J0.ok{w W:World}{cs xs:LV}{x:Av}{e:Ex}(h:J0 w cs xs x e W)(a:EX x=true):DT W cs x:=⟨h.sv,(P5 a).1,h.gv,h.gu,(P5 a).2⟩
theorem U0{w:World}{cs xs:LV}{x:Av}{e:Ex}{N:NP}{L:Bt}(h:BH N w L cs x)(hN:∀b,N b->b < w.heap.size)(f:AG N w e xs)(c:GV w)(d:GU w):
  J0 w cs xs x e ((w.alloc (.cells cs.toArray 35)).alloc (.cells xs.toArray 26)):=by
 have b1:Below w.heap.size w (w.alloc (.cells cs.toArray 35)):=(yg _ _).alloc (yf _) _
 have b2:Below (w.heap.size+1) (w.alloc (.cells cs.toArray 35)) ((w.alloc (.cells cs.toArray 35)).alloc (.cells xs.toArray 26)):=(yg _ _).alloc (by simp) _
 have hb:=b1.trans (b2.mono (Nat.le_succ _))
 refine ⟨hb,?_,?_,⟨L,h.same (fun b a=>yv (hN b a) hb.size) (fun b a=>hb.block b (hN b a))⟩,f.same (fun b a=>yv (hN b a) hb.size) (fun b a=>hb.block b (hN b a)),c.below hb c.1,d.up hb,by simp⟩
 ·exact AD ((b2.block _ (xQ _)).trans (World.alloc_heap_new _ _))
 ·have:=World.alloc_heap_new (w.alloc (.cells cs.toArray 35)) (.cells xs.toArray 26)
  exact AD (by simpa using this)
end Go.Proofs.YtjofgpfocadomaaGreatDoor
namespace Go.Proofs.YtjofgpfocadomaaGreatDoor
open Go.RowKit Go.ChangeShapes Go.WideShapes
theorem own:ownKnob Tryz.prog.godebug=none:=by kernel_rfl
theorem Rh:laidOutB Tryz.prog=true:=by kernel_rfl
def J1:List (String × DataW Unit):=[("acequia/units.none",Rows.laid_acequia_units_none),("acequia/units.litres",Rows.laid_acequia_units_litres),("acequia/units.hours",Rows.laid_acequia_units_hours),("acequia/units.ares",Rows.laid_acequia_units_ares),("acequia/units.flow",Rows.laid_acequia_units_flow),("acequia/units.need",Rows.laid_acequia_units_need)]
theorem Sw:Tryz.prog.cellsOf 68=3:=by kernel_rfl
theorem DX{W:World}{name:String}{d:DataW Unit}{x y z:Int}{rest:List (String × DataW Unit)}{g:Nat}(b:Tryz.prog.globalNamed name=some g)(e:(Tryz.prog.globals[g]?).map (·.type)=some 68)
 (h:laidMet Tryz.prog ((name,d)::rest) W)(hd:d=Lib.tabData .i64 [x,y,z]):W.rangeAt g 0 (Dm.row ⟨x,y,z⟩):=by
 subst hd
 have c:=Lib.tabIs_of_head b e j3 qQ I0 Sw h
 intro j v a
 match j,a with
 |0,a=>cases a;exact c.cell b 0 (by simp)
 |1,a=>cases a;exact c.cell b 1 (by simp)
 |2,a=>cases a;exact c.cell b 2 (by simp)
theorem Wy:Tryz.prog.globalNamed "acequia/units.hours" =some 0:=by kernel_rfl
theorem Wz:(Tryz.prog.globals[0]?).map (·.type)=some 68:=by kernel_rfl
theorem WA:Tryz.prog.globalNamed "acequia/units.litres" =some 1:=by kernel_rfl
theorem WB:(Tryz.prog.globals[1]?).map (·.type)=some 68:=by kernel_rfl
theorem WC:Tryz.prog.globalNamed "acequia/units.need" =some 2:=by kernel_rfl
theorem WD:(Tryz.prog.globals[2]?).map (·.type)=some 68:=by kernel_rfl
theorem WE:Tryz.prog.globalNamed "acequia/units.flow" =some 3:=by kernel_rfl
theorem WG:(Tryz.prog.globals[3]?).map (·.type)=some 68:=by kernel_rfl
theorem WH:Tryz.prog.globalNamed "acequia/units.none" =some 4:=by kernel_rfl
theorem WI:(Tryz.prog.globals[4]?).map (·.type)=some 68:=by kernel_rfl
theorem WJ:Tryz.prog.globalNamed "acequia/units.ares" =some 5:=by kernel_rfl
theorem WK:(Tryz.prog.globals[5]?).map (·.type)=some 68:=by kernel_rfl
theorem K6{W:World}(h:laidMetH Tryz.prog J1 W)(b:GV W):GU W:=by
 rw[MakeChecks.laidMetH_plain _ _ _ (by kernel_rfl)] at h
 have h1:=laidMet.tail h
 have h2:=laidMet.tail h1
 have h3:=laidMet.tail h2
 have a:=laidMet.tail h3
 have h5:=laidMet.tail a
 exact ⟨b.1,DX Wy Wz h2 rfl,DX WA WB h1 rfl,DX WC WD h5 rfl,DX WE WG a rfl,DX WH WI h rfl,DX WJ WK h3 rfl⟩
theorem U1(os:Os)(args:Array Value):laidMetH Tryz.prog J1 ((World.doorLaid Tryz.prog 400 os).forCall (fun _ _=>0) ⟨#[],args,[]⟩).memory:=
 laidMetH_of_parts3 (fuel:=8) (laidMet_of_run' 8 (by kernel_rfl) (by kernel_rfl)) (by kernel_rfl) (by kernel_rfl)
theorem Nt{W:World}(h:W.ShapedOpen Tryz.prog):GV W:=by
 obtain ⟨m,a⟩:∃m,W.cell? (aV 6 0)=some (iV m):=Tryz.laysM144.s1_3 W h
 exact ⟨Re a,m,a⟩
theorem GP{H:Type}{enc:TypeId × Value->H}{a:Assume}{C:Checked}{os:Os}{f:FuncId}{fn:Func}{s:ChangeSpec}{g:List PathCond}{apart m c l:Bool}{X:World->Array Value->Prop}
 (F:∀(w w':World) (args:Array Value),w.heap=w'.heap->X w args->X w' args)
 (own:ownKnob C.prog.godebug=none)(h:os.Started)(n:C.prog.inits.idxOf? f=none)(u:C.prog.funcs[f]?=some fn)
 (k:∃(w:World) (tape:Tape) (i:Input),w.os=os∧(w.forCall tape i).Shaped C.prog∧i.vars=[]∧Input.okWide C.prog (w.forCall tape i) .any w.heap.size f i∧
   ((s.pre enc C.prog fn g apart (w.forCall tape i).memory i.args∧X (w.forCall tape i).memory i.args)∧sizedMet enc C.prog fn (OpenSpec.ofChange s) apart (w.forCall tape i).memory i.args)∧a.holds C.prog (lone (Frame.enter C.prog f i.args .normal) [] (w.forCall tape i)))
 (d:∀(W:World) (base:Nat) (args:Array Value) (ds r:List (DataW H)) (b:List MemPlace),
   (∀(j:Nat) t v,fn.params[j]?=some t->args[j]?=some v->Value.okWide C.prog W .any base t v)->
   DataW.Whole enc C.prog fn.params.toList s.vars apart W args.toList ds r b->
   (DataW.weightsEach C.prog (fn.params.toList++s.plain.varTypes C.prog) (ds++r)).all (·<=reachBytes)=true->X W args->W.ShapedOpen C.prog->
   Calls C.prog f args W fun e W'=>∃v,e=.returned v∧s.post enc C.prog fn apart m c l W args v W'):
  ReturnsInHanded a C os f .any (fun w args=>(s.pre enc C.prog fn g apart w args∧X w args)∧sizedMet enc C.prog fn (OpenSpec.ofChange s) apart w args) (s.post enc C.prog fn apart m c l):=by
 refine returnsInHanded_of_calls own h n k ?_
 intro w tape i _ y _ A q _
 obtain ⟨_,_,_,z,o,_,_,_,_,p⟩:=A
 have e:z=fn:=yi (o.symm.trans u)
 subst e
 obtain ⟨⟨⟨ds,r,b,B,_⟩,I⟩,G⟩:=q
 have x:=DataW.Whole.of_heap (w':=w.forCall tape i) (by rfl) B
 refine (d (w.forCall tape i) w.heap.size i.args ds r b p x (G.weights B) (F _ _ _ (by rfl) I) y).mono fun e W' ⟨v,D,E⟩=>?_
 subst D
 exact ChangeSpec.post_blind E
end Go.Proofs.YtjofgpfocadomaaGreatDoor
namespace Go.Proofs.YtjofgpfocadomaaGreatDoor
open Go.RowKit
set_option linter.unusedSimpArgs false
set_option linter.unusedVariables false
structure We (S:Nat) (cs:List Value) (x:Av) (G:Nat->Prop) (W:World):Prop where
 b:GF G W S
 r:W.rangeAt S 0 cs
 v:∃L,BH (GF G W) W L cs x
theorem We.up{S:Nat}{cs:LV}{x:Av}{G c:NP}{W W':World}(h:We S cs x G W)(a:CO G W W')(d:∀b,c b->G b∨W.heap.size<=b):We S cs x c W':=by
 obtain ⟨L,e⟩:=h.v
 exact ⟨h.b.up a.1 d,A0 h.r (a.2 S h.b.2 h.b.1),L,e.same (fun b hb=>hb.up a.1 d) (fun b hb=>a.2 b hb.2 hb.1)⟩
theorem U2{N:NP}{w:World}{L:Bt}{cs:LV}{x:Av}(h:BH N w L cs x):cs[19]?=some L.lets.v:=by
 obtain ⟨c0,c1,c2,rfl,b,g1,a⟩:=h.cells
 obtain ⟨d,e,rfl,f⟩:=b.cells
 obtain ⟨a1,c,rfl,j⟩:=g1.cells
 obtain ⟨i,k,rfl,g⟩:=a.cells
 rfl
theorem Qt{W:World}{b o:Nat}{v:Value}{c:LV}(h:W.rangeAt b o (v::c)):W.rangeAt b (o+1) c:=fun j u a=>by
 have:=h (j+1) u (by simpa using a)
 rw[show o+1+j=o+(j+1) by omega];exact this
theorem M2{s t:ByteArray}:s.toList=t.toList↔s=t:=by
 constructor
 ·intro h
  rw[zP,zP] at h
  cases s;cases t;congr 1;exact Array.toList_inj.1 h
 ·rintro rfl;rfl
theorem LC{W:World}{b o:Nat}{v:Value}{c:LV}(h:W.rangeAt b o (v::c)):W.cell? ⟨b,o,none⟩=some v:=h 0 v rfl
theorem U3{S:Nat}{cs:LV}{x:Av}{G:NP}{w:World}{e:Ex}{xs:LV}(V:We S cs x G w)(hv:AG (GF G w) w e xs):
  Calls Tryz.prog 18 #[.agg xs.toArray,.pointer (some ⟨S,0,none⟩)] w fun r w'=>∃T:LV,r=.returned (.agg T.toArray)∧AG (GF G w') w' (G9 (Am x) e) T∧Below w.heap.size w w':=by
 obtain ⟨op,nn,u,rn,ri,args⟩:=e
 have t:=yb hv
 obtain ⟨a,cap,rfl, -⟩:=TZ hv (fun _ h=>h) (fun _ _=>rfl)
 clear hv
 obtain ⟨row,N⟩:∃r:LV,r=[iV op,iV nn,iV u,.string rn,iV ri,.slice a args.length cap]:=⟨_,rfl⟩
 rw[<-N] at t
 have F:=yb N
 generalize hm:args.length=m at*
 obtain ⟨L,M⟩:=V.v
 have y:=U2 M
 obtain ⟨⟨la,B,lc⟩,K⟩:∃l,l=L.lets:=⟨_,rfl⟩
 rw[<-K] at y
 have X:Hid (BE (GF G w) w 7 (JS (GF G w) w) ⟨la,B,lc⟩ x.lets):=yb (K▸M.lets)
 unfold Au.v at y
 dsimp only at y
 have R:Hid (∀W,Below w.heap.size w W->W.cell? (aV S 19)=some (.slice la B lc)):=yb (fun W hW=>by
  have h:=A0 V.r (hW.block S V.b.2) 19 _ y
  simpa using h)
 have ac:Hid (S < w.heap.size):=yb V.b.2
 obtain ⟨E,s⟩:∃E,E=G9 (Am x) (.mk op nn u rn ri args):=⟨_,rfl⟩
 rw[<-s]
 unfold G9 at s
 simp only at s
 have C:Hid (B=x.lets.length):=yb X.o.1
 have a0:(E=.mk op nn u rn ri args∧(((op !=2)=true)∨((op !=2)=false∧(nn !=0)=true)∨((op !=2)=false∧(nn !=0)=false∧(u !=0)=true)∨((op !=2)=false∧(nn !=0)=false∧(u !=0)=false∧decide (ri < 0)=true)))∨
   ((op !=2)=false∧(nn !=0)=false∧(u !=0)=false∧∃k:Nat,ri=(k:Int)∧((E=.mk op nn u rn ri args∧B<=k)∨(∃h:k < x.lets.length,(E=.mk op nn u rn ri args∧x.lets[k].name≠rn)∨(E=x.lets[k].value∧x.lets[k].name=rn)))):=by
  clear R
  by_cases h1:op=2
  rotate_left
  ·left;rw[yt (fun h=>h1 h.1)] at s;exact ⟨s,.inl (by simpa using h1)⟩
  by_cases h2:nn=0
  rotate_left
  ·left;rw[yt (fun h=>h2 h.2.1)] at s;exact ⟨s,.inr (.inl ⟨by simpa using h1,by simpa using h2⟩)⟩
  by_cases h3:u=0
  rotate_left
  ·left;rw[yt (fun h=>h3 h.2.2.1)] at s;exact ⟨s,.inr (.inr (.inl ⟨by simpa using h1,by simpa using h2,by simpa using h3⟩))⟩
  by_cases h4:0<=ri
  rotate_left
  ·left;rw[yt (fun h=>h4 h.2.2.2)] at s;exact ⟨s,.inr (.inr (.inr ⟨by simpa using h1,by simpa using h2,by simpa using h3,by simp;omega⟩))⟩
  rw[yw ⟨h1,h2,h3,h4⟩] at s
  obtain ⟨k,rfl⟩:=Int.eq_ofNat_of_zero_le h4
  refine .inr ⟨by simpa using h1,by simpa using h2,by simpa using h3,k,rfl,?_⟩
  rw[Int.toNat_natCast] at s
  by_cases O:k < x.lets.length
  ·right
   refine ⟨O,?_⟩
   have hg:(Am x)[k]?=some (x.lets[k].name,x.lets[k].value):=by unfold Am;simp[O]
   rw[hg] at s
   simp only at s
   by_cases A:x.lets[k].name=rn
   ·rw[yw A] at s;exact .inr ⟨s,A⟩
   ·rw[yt A] at s;exact .inl ⟨s,A⟩
  ·left
   have hg:(Am x)[k]?=none:=by unfold Am;simp;omega
   rw[hg] at s
   exact ⟨s,by rw[C.o];omega⟩
 clear s N y K M V hm
 rcases a0 with ⟨rfl,Q⟩|⟨e1,e2,e3,k,rfl,Q⟩
 ·rcases Q with e1|⟨e1,e2⟩|⟨e1,e2,e3⟩|⟨e1,e2,e3,e4⟩
  all_goals
   go_enter Tryz.func18,Tryz.ntmps18
   refine Ae fun I n=>?_
   go_wp2
   refine n.o _ _ ?_
   clear n I
   generalize q:(w.alloc _).alloc _=w1
   have d:=Jv q.symm
   obtain ⟨c0,c1,c2,c3,c4, -⟩:=Ce d.box
   have J:=R.o w1 d.below
   rw[<-F.o] at d
   have f:=yb d
   clear q d
   go_wp2_with fail
   go_region
   have g:Hid (Rg w row w1.drew):=yb ⟨f.o.below.drew,f.o.box,f.o.res⟩
   go_wp2_with (first
    |(with_reducible refine yj rfl 26 _ rfl w.heap.size 0 (by kernel_rfl) row _ (AD g.o.box) qM (by kernel_rfl) (DM t.o.len) ?_)
    |(with_reducible refine Aq rfl 26 _ _ rfl (w.heap.size+1) (by kernel_rfl) row (by kernel_rfl) g.o.res (by rw[t.o.len];kernel_rfl) (DM t.o.len) (Bm t.o) ?_;intro x3 i;have p:=yb i;clear i))
   refine Bg rfl rfl p.o.row qM rfl (by rw[t.o.len];kernel_rfl) ?_
   have j:=p.o.below g.o.below (by omega)
   exact ⟨row,rfl,t.o.flux' (CO.below j),j⟩
 have e4:decide ((k:Int) < 0)=false:=by simp
 rcases Q with ⟨rfl,O⟩|⟨O,Q⟩
 ·have e5:decide ((B:Int)<=(k:Int))=true:=by simp;omega
  have a6:decide (B<=k)=true:=by simp;omega
  clear O
  go_enter Tryz.func18,Tryz.ntmps18
  refine Ae fun I n=>?_
  go_wp2
  refine n.o _ _ ?_
  clear n I
  generalize q:(w.alloc _).alloc _=w1
  have d:=Jv q.symm
  obtain ⟨c0,c1,c2,c3,c4, -⟩:=Ce d.box
  have J:=R.o w1 d.below
  rw[<-F.o] at d
  have f:=yb d
  clear q d
  go_wp2_with fail
  go_region
  have g:Hid (Rg w row w1.drew):=yb ⟨f.o.below.drew,f.o.box,f.o.res⟩
  go_wp2_with (first
   |(with_reducible refine yj rfl 26 _ rfl w.heap.size 0 (by kernel_rfl) row _ (AD g.o.box) qM (by kernel_rfl) (DM t.o.len) ?_)
   |(with_reducible refine Aq rfl 26 _ _ rfl (w.heap.size+1) (by kernel_rfl) row (by kernel_rfl) g.o.res (by rw[t.o.len];kernel_rfl) (DM t.o.len) (Bm t.o) ?_;intro x3 i;have p:=yb i;clear i))
  refine Bg rfl rfl p.o.row qM rfl (by rw[t.o.len];kernel_rfl) ?_
  have j:=p.o.below g.o.below (by omega)
  exact ⟨row,rfl,t.o.flux' (CO.below j),j⟩
 have e5:decide ((B:Int)<=(k:Int))=false:=by have:=C.o;simp;omega
 have a6:decide (B<=k)=false:=by have:=C.o;simp;omega
 have ad:k < B:=by have:=C.o;omega
 have ae:(k:Int) < (B:Int):=by omega
 obtain ⟨Y,Z,ct,he,aa, -,U,a8⟩:=X.o.2.2 k O
 obtain rfl:la=some (aV Y Z):=he
 obtain ⟨ab,c,rfl,P⟩:=a8
 have z:=yb P
 have H:Hid (∀W,Below w.heap.size w W->W.rangeAt Y (Z+k*7) (.string x.lets[k].name::c)):=yb (fun W hW=>A0 U (hW.block Y aa.2))
 clear U P ab
 generalize x.lets[k]=D at*
 rcases Q with ⟨rfl,A⟩|⟨rfl,A⟩
 ·have e6:(rn.toList==D.name.toList)=false:=by
   rw[beq_eq_false_iff_ne]
   exact fun h=>A (M2.1 h).symm
  clear A
  go_enter Tryz.func18,Tryz.ntmps18
  refine Ae fun I n=>?_
  go_wp2
  refine n.o _ _ ?_
  clear n I
  generalize q:(w.alloc _).alloc _=w1
  have d:=Jv q.symm
  obtain ⟨c0,c1,c2,c3,c4, -⟩:=Ce d.box
  have J:=R.o w1 d.below
  rw[<-F.o] at d
  have f:=yb d
  have a7:=LC (H.o w1 d.below)
  clear q d
  go_wp2_with fail
  go_region
  have g:Hid (Rg w row w1.drew):=yb ⟨f.o.below.drew,f.o.box,f.o.res⟩
  go_wp2_with (first
   |(with_reducible refine yj rfl 26 _ rfl w.heap.size 0 (by kernel_rfl) row _ (AD g.o.box) qM (by kernel_rfl) (DM t.o.len) ?_)
   |(with_reducible refine Aq rfl 26 _ _ rfl (w.heap.size+1) (by kernel_rfl) row (by kernel_rfl) g.o.res (by rw[t.o.len];kernel_rfl) (DM t.o.len) (Bm t.o) ?_;intro x3 i;have p:=yb i;clear i))
  refine Bg rfl rfl p.o.row qM rfl (by rw[t.o.len];kernel_rfl) ?_
  have j:=p.o.below g.o.below (by omega)
  exact ⟨row,rfl,t.o.flux' (CO.below j),j⟩
 ·have e6:(rn.toList==D.name.toList)=true:=by rw[A];simp
  clear A
  go_enter Tryz.func18,Tryz.ntmps18
  refine Ae fun I n=>?_
  go_wp2
  refine n.o _ _ ?_
  clear n I
  generalize q:(w.alloc _).alloc _=w1
  have d:=Jv q.symm
  obtain ⟨c0,c1,c2,c3,c4, -⟩:=Ce d.box
  have J:=R.o w1 d.below
  rw[<-F.o] at d
  have f:=yb d
  have a7:=LC (H.o w1 d.below)
  clear q d
  go_wp2_with fail
  go_region
  have g:Hid (Rg w row w1.drew):=yb ⟨f.o.below.drew,f.o.box,f.o.res⟩
  have a2:Hid (w1.drew.rangeAt Y (Z+k*7+1) c):=yb (Qt (H.o _ g.o.below))
  go_wp2_with (first
   |(with_reducible refine yj rfl 26 _ rfl Y (Z+k*7+1) (by kernel_rfl) c _ a2.o qM (by kernel_rfl) (DM z.o.len) ?_)
   |(with_reducible refine Aq rfl 26 _ _ rfl (w.heap.size+1) (by kernel_rfl) c (by kernel_rfl) g.o.res (by rw[z.o.len];kernel_rfl) (DM z.o.len) (Bm z.o) ?_;intro x3 i;have p:=yb i;clear i))
  refine Bg rfl rfl p.o.row qM rfl (by rw[z.o.len];kernel_rfl) ?_
  have j:=p.o.below g.o.below (by omega)
  exact ⟨c,rfl,z.o.flux' (CO.below j),j⟩
theorem Vq(S:Nat)(cs:LV)(x:Av):Vn 18 #[.pointer (some ⟨S,0,none⟩)] (G9 (Am x)) (We S cs x):=
 ⟨fun _ _ _ _ h a c=>h.up a c,fun _ _=>by kernel_rfl,fun _ _ _ _ b d _=>U3 b d⟩
set_option linter.unusedSimpArgs false
theorem Nu{N:NP}{w:World}{L:Bt}{cs xs:LV}{x:Av}{e:Ex}(h:BH N w L cs x)(hN:∀b,N b->b < w.heap.size)(V:AG N w e xs)(hg:GV w)(hu:GU w)(I:Ij e):
  Calls Tryz.prog 4 #[.agg cs.toArray,.agg xs.toArray] w fun r w'=>r=.returned (.bool true)∧Below w.heap.size w w':=by
 have u:Hid ((Tryz.prog.info? 35).map (·.size)=some cs.length):=yb (Le h)
 have H6:Hid (xs.length=6):=yb V.len
 have HT:=yb (U0 h hN V hg hu)
 have bw:=yb I
 clear h hN V hg hu I
 go_enter Tryz.func4,Tryz.ntmps4
 refine Ae fun K k=>?_
 go_wp2_with (first|(with_reducible refine Lg rfl 35 _ rfl cs.toArray (by kernel_rfl) ?_)|(with_reducible refine Lg rfl 26 _ rfl xs.toArray (by kernel_rfl) ?_))
 refine k.o _ _ ?_
 clear k K
 generalize (w.alloc _).alloc _=w0 at HT ⊢
 refine Ae fun K k=>?_
 go_wp2_with (first|(go_at_call 7;with_reducible refine (TR HT.o.gv HT.o.gu).mono ?_;rintro r w1 ⟨rfl,b9⟩;have z:=yb (HT.o.up b9);clear b9))
 refine k.o _ _ ?_
 clear k K HT
 refine Ae fun K k=>?_
 have G:Hid (Calls Tryz.prog 8 #[.agg cs.toArray] w1 fun r w'=>r=.returned (.bool (EX x))∧Below w1.heap.size w1 w'):=yb (by obtain ⟨L,V⟩:=z.o.sv;exact Sk V (fun _ h=>h))
 cases A:EX x
 ·rw[A] at G
  clear k A
  go_wp2_with (first
   |(with_reducible refine yj rfl 35 _ rfl w.heap.size 0 (by kernel_rfl) cs _ z.o.rs qV (by kernel_rfl) u.o ?_)
   |(go_at_call 8;with_reducible refine G.o.mono ?_;rintro r w2 ⟨rfl,s⟩;have n:=yb (z.o.up s);clear s))
  go_ret
  exact ⟨rfl,n.o.below⟩
 have HF:=yb A
 rw[A] at G
 clear A
 have bg:=Lv 9 e
 by_cases hd:DD 9 e<=8
 rotate_left
 ·have e9:DD 9 e=9:=by omega
  have X:Hid (∀W,J0 w cs xs x e W->Calls Tryz.prog 16 #[.agg xs.toArray,iV 9] W fun r w'=>r=.returned (iV 9)∧Below W.heap.size W w'):=yb (fun W g=>by
   have h:=IY 9 (by omega) e g.ev
   rw[e9] at h
   exact h)
  clear k hd bg e9
  go_wp2_with (first
   |(with_reducible refine yj rfl 35 _ rfl w.heap.size 0 (by kernel_rfl) cs _ z.o.rs qV (by kernel_rfl) u.o ?_)
   |(go_at_call 8;with_reducible refine G.o.mono ?_;rintro r w2 ⟨rfl,s⟩;have n:=yb (z.o.up s);clear s)
   |(with_reducible refine BB (by kernel_rfl) 26 _ rfl (w.heap.size+1) 0 (by kernel_rfl) xs _ n.o.rx qM (by kernel_rfl) (DM H6.o) ?_)
   |(go_at_call 16;with_reducible refine (X.o _ n.o).mono ?_;rintro r w3 ⟨rfl,D⟩;have l:=yb (n.o.up D);clear D))
  go_ret
  exact ⟨rfl,l.o.below⟩
 obtain ⟨dp,av⟩:∃dp,dp=DD 9 e:=⟨_,rfl⟩
 rw[<-av] at hd
 have az:decide (8 < (dp:Int))=false:=by simp;omega
 have X:Hid (∀W,J0 w cs xs x e W->Calls Tryz.prog 16 #[.agg xs.toArray,iV 9] W fun r w'=>r=.returned (iV (dp:Int))∧Below W.heap.size W w'):=yb (fun W g=>by
  have h:=IY 9 (by omega) e g.ev
  rw[av]
  exact h)
 have bp:Hid (DD 9 e<=8):=yb (by omega)
 clear hd bg av
 obtain ⟨ck,a2⟩:∃ck,ck=Bh x:=⟨_,rfl⟩
 have ap:Hid (∀W,J0 w cs xs x e W->Calls Tryz.prog 17 #[.agg cs.toArray] W fun r w'=>r=.returned (iV ck)∧Below W.heap.size W w'):=yb (fun W g=>by rw[a2];exact (g.ok HF.o).check)
 by_cases U:ck=0
 rotate_left
 ·have e0:(ck !=0)=true:=by simpa using U
  clear k U a2
  go_wp2_with (first
   |(with_reducible refine yj rfl 35 _ rfl w.heap.size 0 (by kernel_rfl) cs _ z.o.rs qV (by kernel_rfl) u.o ?_)
   |(go_at_call 8;with_reducible refine G.o.mono ?_;rintro r w2 ⟨rfl,s⟩;have n:=yb (z.o.up s);clear s)
   |(with_reducible refine BB (by kernel_rfl) 26 _ rfl (w.heap.size+1) 0 (by kernel_rfl) xs _ n.o.rx qM (by kernel_rfl) (DM H6.o) ?_)
   |(go_at_call 16;with_reducible refine (X.o _ n.o).mono ?_;rintro r w3 ⟨rfl,D⟩;have l:=yb (n.o.up D);clear D)
   |(with_reducible refine BB (by kernel_rfl) 35 _ rfl w.heap.size 0 (by kernel_rfl) cs _ l.o.rs qV (by kernel_rfl) u.o ?_)
   |(go_at_call 17;with_reducible refine (ap.o _ l.o).mono ?_;rintro r w4 ⟨rfl,E⟩;have ab:=yb (l.o.up E);clear E))
  go_ret
  exact ⟨rfl,ab.o.below⟩
 have bq:Hid (Bh x=0):=yb (by rw[<-a2];exact U)
 have e0:(ck !=0)=false:=by simpa using U
 clear U a2
 go_wp2_with (first
  |(with_reducible refine yj rfl 35 _ rfl w.heap.size 0 (by kernel_rfl) cs _ z.o.rs qV (by kernel_rfl) u.o ?_)
  |(go_at_call 8;with_reducible refine G.o.mono ?_;rintro r w2 ⟨rfl,s⟩;have n:=yb (z.o.up s);clear s)
  |(with_reducible refine BB (by kernel_rfl) 26 _ rfl (w.heap.size+1) 0 (by kernel_rfl) xs _ n.o.rx qM (by kernel_rfl) (DM H6.o) ?_)
  |(go_at_call 16;with_reducible refine (X.o _ n.o).mono ?_;rintro r w3 ⟨rfl,D⟩;have l:=yb (n.o.up D);clear D)
  |(with_reducible refine BB (by kernel_rfl) 35 _ rfl w.heap.size 0 (by kernel_rfl) cs _ l.o.rs qV (by kernel_rfl) u.o ?_)
  |(go_at_call 17;with_reducible refine (ap.o _ l.o).mono ?_;rintro r c9 ⟨rfl,E⟩;have am:=yb (l.o.up E);clear E))
 refine k.o _ _ ?_
 clear k K X G z n az e0 ap l
 have l:=yb am.o
 clear am
 have an:Hid (∀W,J0 w cs xs x e W->Calls Tryz.prog 12 #[.agg xs.toArray,iV 8,.func (.func 18) #[] #[pV w.heap.size 0]] W fun r w'=>∃bd:LV,r=.returned (.agg bd.toArray)∧AG (GF Wj w') w' (DZ (G9 (Am x)) 8 e) bd∧Below W.heap.size W w'):=yb (fun W g=>by
  obtain ⟨L,V⟩:=g.sv
  exact Pg (Vq w.heap.size cs x) 8 (by omega) e Wj W xs bw.o ⟨⟨fun h=>h,by have:=g.lt;omega⟩,g.rs,L,V.same (fun _ hb=>⟨fun h=>h,hb⟩) (fun _ _=>rfl)⟩ (Vo g.ev) (fun _ h=>h.elim))
 obtain ⟨y,hy⟩:∃y,y=(DZ (G9 (Am x)) 8 e):=⟨_,rfl⟩
 rw[<-hy] at an
 have HY:=yb hy
 clear hy
 refine Ae fun K k=>?_
 go_wp2_with (first
  |(with_reducible refine yj rfl 26 _ rfl (w.heap.size+1) 0 (by kernel_rfl) xs _ l.o.rx qM (by kernel_rfl) (DM H6.o) ?_)
  |(go_at_call 12;with_reducible refine (an.o _ l.o).mono ?_;rintro r w4 ⟨H,rfl,b7,E⟩;have ab:=yb (l.o.up E);have R:=yb b7;clear b7 E)
  |(with_reducible refine Aq rfl 26 _ _ rfl w4.heap.size (by kernel_rfl) H (by kernel_rfl) (World.alloc_heap_new _ _) (by rw[R.o.len];kernel_rfl) (DM R.o.len) (Bm R.o) ?_;intro C ba;have b4:=yb ba;clear ba))
 refine k.o _ _ ?_
 clear k K an
 have a7:Hid (H.length=6):=yb R.o.len
 have Q:Hid (Below w4.heap.size w4 C):=yb (b4.o.below ((yg _ _).alloc (yf _) _) (yf _))
 have F:=yb (ab.o.up Q.o)
 obtain ⟨q,A⟩:∃q,q=w4.heap.size:=⟨_,rfl⟩
 have d:=b4.o.row
 rw[<-A] at d ⊢
 have t:Hid (∀W,Below C.heap.size C W->W.rangeAt q 0 H∧AG (fun b=>b < W.heap.size) W y H):=yb (fun W g=>⟨AD ((g.block _ (yd.1 d).1).trans d),Vp (R.o.flux' ((CO.below Q.o).trans (CO.below g)))⟩)
 clear d A b4 R ab Q
 have bh:=Lv 9 y
 refine Ae fun K k=>?_
 by_cases hd:DD 9 y<=8
 rotate_left
 ·have e9:DD 9 y=9:=by omega
  have ae:Hid (∀W,Below C.heap.size C W->Calls Tryz.prog 16 #[.agg H.toArray,iV 9] W fun r w'=>r=.returned (iV 9)∧Below W.heap.size W w'):=yb (fun W g=>by
   have h:=IY 9 (by omega) y (t.o W g).2
   rw[e9] at h
   exact h)
  clear k hd bh e9
  go_wp2_with (first
   |(with_reducible refine yj rfl 26 _ rfl q 0 (by kernel_rfl) H _ (t.o _ (yg _ _)).1 qM (by kernel_rfl) (DM a7.o) ?_)
   |(go_at_call 16;with_reducible refine (ae.o _ (yg _ _)).mono ?_;rintro r w6 ⟨rfl,P⟩;have M:=yb (F.o.up P);clear P))
  go_ret
  exact ⟨rfl,M.o.below⟩
 obtain ⟨dy,ay⟩:∃dy,dy=DD 9 y:=⟨_,rfl⟩
 have bo:Hid (DD 9 y<=8):=yb hd
 rw[<-ay] at hd
 have az:decide (8 < (dy:Int))=false:=by simp;omega
 have ae:Hid (∀W,Below C.heap.size C W->Calls Tryz.prog 16 #[.agg H.toArray,iV 9] W fun r w'=>r=.returned (iV (dy:Int))∧Below W.heap.size W w'):=yb (fun W g=>by
  have h:=IY 9 (by omega) y (t.o W g).2
  rw[ay]
  exact h)
 clear hd bh ay
 go_wp2_with (first
  |(with_reducible refine yj rfl 26 _ rfl q 0 (by kernel_rfl) H _ (t.o _ (yg _ _)).1 qM (by kernel_rfl) (DM a7.o) ?_)
  |(go_at_call 16;with_reducible refine (ae.o _ (yg _ _)).mono ?_;rintro r w6 ⟨rfl,P⟩;have M:=yb (F.o.up P);have O:=yb P;clear P))
 refine k.o _ _ ?_
 clear k K ae az
 have bi:Hid (∀W,Below w6.heap.size w6 W->W.rangeAt q 0 H∧AG (fun b=>b < W.heap.size) W y H):=yb (fun W g=>t.o W (O.o.trans (g.mono O.o.size)))
 clear t F O
 obtain ⟨C,rfl⟩:∃C,C=w6:=⟨_,rfl⟩
 have t:=yb bi.o
 have F:=yb M.o
 clear bi M
 have ar:Hid (E8 x y=E8 x e∧Bo x y=Bo x e):=yb (by
  rw[HY.o]
  exact UA bq.o (R0 bp.o) (R0 (by have h:=bo.o;rw[HY.o] at h;exact h)))
 obtain ⟨⟨⟨m1,m2,m3⟩,er⟩,hm⟩:∃m,m=E8 x e:=⟨_,rfl⟩
 obtain ⟨⟨⟨v1,v2⟩,vr⟩,V⟩:∃m,m=Bo x e:=⟨_,rfl⟩
 have bb:E8 x y=⟨⟨m1,m2,m3⟩,er⟩:=by rw[ar.o.1,hm]
 have bk:Bo x y=⟨⟨v1,v2⟩,vr⟩:=by rw[ar.o.2,V]
 have af:Hid (∀W,J0 w cs xs x e W->Calls Tryz.prog 9 #[.agg cs.toArray,.agg xs.toArray] W (R4 ⟨⟨m1,m2,m3⟩,er⟩ W)):=yb (fun W g=>by rw[hm];exact IQ (g.ok HF.o) g.ev)
 have ac:Hid (∀W,J0 w cs xs x e W->Below C.heap.size C W->Calls Tryz.prog 9 #[.agg cs.toArray,.agg H.toArray] W (R4 ⟨⟨m1,m2,m3⟩,er⟩ W)):=yb (fun W g hb=>by rw[<-bb];exact IQ (g.ok HF.o) (t.o W hb).2)
 have ag:Hid (∀W,J0 w cs xs x e W->Calls Tryz.prog 10 #[.agg cs.toArray,.agg xs.toArray] W (UB ⟨⟨v1,v2⟩,vr⟩ W)):=yb (fun W g=>by rw[V];exact DU (g.ok HF.o) g.ev)
 have ah:Hid (∀W,J0 w cs xs x e W->Below C.heap.size C W->Calls Tryz.prog 10 #[.agg cs.toArray,.agg H.toArray] W (UB ⟨⟨v1,v2⟩,vr⟩ W)):=yb (fun W g hb=>by rw[<-bk];exact DU (g.ok HF.o) (t.o W hb).2)
 have b5:Hid (∀W,Below C.heap.size C W->W.rangeAt q 0 H):=yb (fun W g=>(t.o W g).1)
 unfold R4 at af ac
 unfold UB at ag ah
 unfold Dm.v at af ac
 unfold Rt.v at ag ah
 dsimp only at af ac ag ah
 have Q:=yb (yg C.heap.size C)
 clear t HY hm V bb bk ar
 refine Ae fun K k=>?_
 go_wp2_with (first
  |(with_reducible refine yj rfl 35 _ rfl w.heap.size 0 (by kernel_rfl) cs _ F.o.rs qV (by kernel_rfl) u.o ?_)
  |(with_reducible refine yj rfl 26 _ rfl (w.heap.size+1) 0 (by kernel_rfl) xs _ (F.o.rx) qM (by kernel_rfl) (DM H6.o) ?_)
  |(go_at_call 9;with_reducible refine (af.o _ F.o).mono ?_;rintro r w6 ⟨rfl,hb⟩;have M:=yb (F.o.up hb);have O:=yb (Q.o.trans (hb.mono Q.o.size));have co:=yb hb;clear hb)
  |(with_reducible refine Aq rfl 39 _ _ rfl w6.heap.size (by kernel_rfl) [iV m1,iV m2,iV m3] (by kernel_rfl) (World.alloc_heap_new _ _) (by kernel_rfl) (by kernel_rfl) (by simp[Value.oneCell']) ?_;intro w7 I;have aq:=yb I;clear I))
 refine k.o _ _ ?_
 clear k K
 have f:Below w6.heap.size w6 w7:=aq.o.below ((yg _ _).alloc (yf _) _) (yf _)
 have au:=yb (M.o.up f)
 have a8:=yb (O.o.trans (f.mono O.o.size))
 obtain ⟨q6,A⟩:∃q,q=w6.heap.size:=⟨_,rfl⟩
 have d:=aq.o.row
 rw[<-A] at d ⊢
 have bx:Hid (∀W,Below w7.heap.size w7 W->W.heap[q6]?=some (.cells [iV m1,iV m2,iV m3].toArray 39 (0,0))):=yb (fun W g=>(g.block _ (yd.1 d).1).trans d)
 have cf:=yb f
 clear d A aq f
 refine Ae fun K k=>?_
 go_wp2_with (first
  |(with_reducible refine yj rfl 35 _ rfl w.heap.size 0 (by kernel_rfl) cs _ au.o.rs qV (by kernel_rfl) u.o ?_)
  |(with_reducible refine yj rfl 26 _ rfl q 0 (by kernel_rfl) H _ (b5.o _ a8.o) qM (by kernel_rfl) (DM a7.o) ?_)
  |(go_at_call 9;with_reducible refine (ac.o _ au.o a8.o).mono ?_;rintro r w8 ⟨rfl,hb⟩;have bt:=yb (au.o.up hb);have bn:=yb (a8.o.trans (hb.mono a8.o.size));have a:=yb hb;clear hb)
  |(with_reducible refine Aq rfl 39 _ _ rfl w8.heap.size (by kernel_rfl) [iV m1,iV m2,iV m3] (by kernel_rfl) (World.alloc_heap_new _ _) (by kernel_rfl) (by kernel_rfl) (by simp[Value.oneCell']) ?_;intro w9 I;have ax:=yb I;clear I))
 refine k.o _ _ ?_
 clear k K
 have f:Below w8.heap.size w8 w9:=ax.o.below ((yg _ _).alloc (yf _) _) (yf _)
 have ad:=yb (bt.o.up f)
 have b8:=yb (bn.o.trans (f.mono bn.o.size))
 obtain ⟨q7,A⟩:∃q,q=w8.heap.size:=⟨_,rfl⟩
 have d:=ax.o.row
 rw[<-A] at d ⊢
 have bu:Hid (∀W,Below w9.heap.size w9 W->W.heap[q7]?=some (.cells [iV m1,iV m2,iV m3].toArray 39 (0,0))):=yb (fun W g=>(g.block _ (yd.1 d).1).trans d)
 have j:=yb f
 clear d A ax f
 refine Ae fun K k=>?_
 go_wp2_with (first
  |(with_reducible refine yj rfl 35 _ rfl w.heap.size 0 (by kernel_rfl) cs _ ad.o.rs qV (by kernel_rfl) u.o ?_)
  |(with_reducible refine yj rfl 26 _ rfl (w.heap.size+1) 0 (by kernel_rfl) xs _ (ad.o.rx) qM (by kernel_rfl) (DM H6.o) ?_)
  |(go_at_call 10;with_reducible refine (ag.o _ ad.o).mono ?_;rintro r a0 ⟨rfl,hb⟩;have bj:=yb (ad.o.up hb);have aj:=yb (b8.o.trans (hb.mono b8.o.size));have c:=yb hb;clear hb)
  |(with_reducible refine Aq rfl 44 _ _ rfl a0.heap.size (by kernel_rfl) [iV v1,iV v2] (by kernel_rfl) (World.alloc_heap_new _ _) (by kernel_rfl) (by kernel_rfl) (by simp[Value.oneCell']) ?_;intro ao I;have Z:=yb I;clear I))
 refine k.o _ _ ?_
 clear k K
 have f:Below a0.heap.size a0 ao:=Z.o.below ((yg _ _).alloc (yf _) _) (yf _)
 have T:=yb (bj.o.up f)
 have J:=yb (aj.o.trans (f.mono aj.o.size))
 obtain ⟨q8,A⟩:∃q,q=a0.heap.size:=⟨_,rfl⟩
 have d:=Z.o.row
 rw[<-A] at d ⊢
 have bv:Hid (∀W,Below ao.heap.size ao W->W.heap[q8]?=some (.cells [iV v1,iV v2].toArray 44 (0,0))):=yb (fun W g=>(g.block _ (yd.1 d).1).trans d)
 have p:=yb f
 clear d A Z f
 refine Ae fun K k=>?_
 go_wp2_with (first
  |(with_reducible refine yj rfl 35 _ rfl w.heap.size 0 (by kernel_rfl) cs _ T.o.rs qV (by kernel_rfl) u.o ?_)
  |(with_reducible refine yj rfl 26 _ rfl q 0 (by kernel_rfl) H _ (b5.o _ J.o) qM (by kernel_rfl) (DM a7.o) ?_)
  |(go_at_call 10;with_reducible refine (ah.o _ T.o J.o).mono ?_;rintro r aa ⟨rfl,hb⟩;have be:=yb (T.o.up hb);have ak:=yb (J.o.trans (hb.mono J.o.size));have B:=yb hb;clear hb)
  |(with_reducible refine Aq rfl 44 _ _ rfl aa.heap.size (by kernel_rfl) [iV v1,iV v2] (by kernel_rfl) (World.alloc_heap_new _ _) (by kernel_rfl) (by kernel_rfl) (by simp[Value.oneCell']) ?_;intro i I;have Y:=yb I;clear I))
 refine k.o _ _ ?_
 clear k K
 have f:Below aa.heap.size aa i:=Y.o.below ((yg _ _).alloc (yf _) _) (yf _)
 have bm:=yb (be.o.up f)
 have c8:=yb (ak.o.trans (f.mono ak.o.size))
 obtain ⟨q9,A⟩:∃q,q=aa.heap.size:=⟨_,rfl⟩
 have d:=Y.o.row
 rw[<-A] at d ⊢
 have bz:Hid (∀W,Below i.heap.size i W->W.heap[q9]?=some (.cells [iV v1,iV v2].toArray 44 (0,0))):=yb (fun W g=>(g.block _ (yd.1 d).1).trans d)
 have S:=yb f
 clear d A Y f
 have a6:=bx.o i (((((a.o.trans (j.o.mono a.o.size)).trans (c.o.mono (a.o.trans (j.o.mono a.o.size)).size)).trans (p.o.mono ((a.o.trans (j.o.mono a.o.size)).trans (c.o.mono (a.o.trans (j.o.mono a.o.size)).size)).size)).trans (B.o.mono (((a.o.trans (j.o.mono a.o.size)).trans (c.o.mono (a.o.trans (j.o.mono a.o.size)).size)).trans (p.o.mono ((a.o.trans (j.o.mono a.o.size)).trans (c.o.mono (a.o.trans (j.o.mono a.o.size)).size)).size)).size)).trans (S.o.mono ((((a.o.trans (j.o.mono a.o.size)).trans (c.o.mono (a.o.trans (j.o.mono a.o.size)).size)).trans (p.o.mono ((a.o.trans (j.o.mono a.o.size)).trans (c.o.mono (a.o.trans (j.o.mono a.o.size)).size)).size)).trans (B.o.mono (((a.o.trans (j.o.mono a.o.size)).trans (c.o.mono (a.o.trans (j.o.mono a.o.size)).size)).trans (p.o.mono ((a.o.trans (j.o.mono a.o.size)).trans (c.o.mono (a.o.trans (j.o.mono a.o.size)).size)).size)).size)).size))
 have ai:=bu.o i (((c.o.trans (p.o.mono c.o.size)).trans (B.o.mono (c.o.trans (p.o.mono c.o.size)).size)).trans (S.o.mono ((c.o.trans (p.o.mono c.o.size)).trans (B.o.mono (c.o.trans (p.o.mono c.o.size)).size)).size))
 have aw:=bv.o i (B.o.trans (S.o.mono B.o.size))
 have b0:=bz.o i (yg _ _)
 have cd:i.cell? (aV q6 0)=some (iV m1):=by simp[World.cell?,a6]
 have ce:i.cell? (aV q6 1)=some (iV m2):=by simp[World.cell?,a6]
 have cm:i.cell? (aV q6 2)=some (iV m3):=by simp[World.cell?,a6]
 have cg:i.cell? (aV q7 0)=some (iV m1):=by simp[World.cell?,ai]
 have cc:i.cell? (aV q7 1)=some (iV m2):=by simp[World.cell?,ai]
 have ch:i.cell? (aV q7 2)=some (iV m3):=by simp[World.cell?,ai]
 have cj:i.cell? (aV q8 0)=some (iV v1):=by simp[World.cell?,aw]
 have cl:i.cell? (aV q8 1)=some (iV v2):=by simp[World.cell?,aw]
 have cn:i.cell? (aV q9 0)=some (iV v1):=by simp[World.cell?,b0]
 have ci:i.cell? (aV q9 1)=some (iV v2):=by simp[World.cell?,b0]
 clear a6 ai aw b0
 go_wp2
 go_ret
 exact ⟨rfl,bm.o.below⟩
end Go.Proofs.YtjofgpfocadomaaGreatDoor
namespace Go.Proofs.YtjofgpfocadomaaGreatDoor
open Go.ChangeShapes Go.WideShapes Go.ChangeAt Go.WideMaps Go.WideElems Go.RowKit Go.ChangeMaps
theorem I4(os:Os)(c:os.Started)(H:Type)(enc:TypeId × Value->H):
  ReturnsInHanded {} Tryz.checked os 4 .any (fun w args=>(Rows.unitsInlinedSpec.pre enc Tryz.prog Tryz.f4 [] false w args∧laidMetH Tryz.prog J1 w)∧sizedMet enc Tryz.prog Tryz.f4 (OpenSpec.ofChange Rows.unitsInlinedSpec) false w args)
   (Rows.unitsInlinedSpec.post enc Tryz.prog Tryz.f4 false true false false):=by
 refine GP (C:=Tryz.checked) (X:=fun w _=>laidMetH Tryz.prog J1 w) (fun _ _ _ T h=>h.of_heap T) own c (by kernel_rfl) Tryz.func4
  (ChangeSpec.witness_shaped (enc:=enc) (C:=Tryz.checked) (os:=os) (X:=fun w _=>laidMetH Tryz.prog J1 w) false (World.doorLaid Tryz.prog 400 os) #[.agg #[.string ByteArray.empty,iV 0,iV 0,iV 0,.string ByteArray.empty,iV 0,.slice none 0 0,iV 0,iV 0,iV 0,.string ByteArray.empty,iV 0,.slice none 0 0,iV 0,iV 0,iV 0,.string ByteArray.empty,iV 0,.slice none 0 0,.slice none 0 0,.slice none 0 0,.slice none 0 0,.slice none 0 0,.slice none 0 0,.slice none 0 0,.slice none 0 0],.agg #[iV 0,iV 0,iV 0,.string ByteArray.empty,iV 0,.slice none 0 0]] 16 rfl (World.shaped_of_RefB (by kernel_rfl) (by kernel_rfl)) (by kernel_rfl) (by kernel_rfl) (by kernel_rfl) (U1 os _)) ?_
 intro W base args ds O s a K i U z
 have l:(DataW.weightsEach Tryz.prog (Tryz.f4.params.toList++Rows.unitsInlinedSpec.plain.varTypes Tryz.prog) (ds++O)).all (·<=reachBytes)=true:=i
 have f:∀(j:Nat) t v,Tryz.f4.params[j]?=some t->args[j]?=some v->Value.okWide Tryz.prog W .any base t v:=a
 have g:=K
 obtain ⟨p,q,o,P,rfl,_,_⟩:=K
 have G:DataW.TrodAll enc Tryz.prog W 0 (fun _=>true) true Tryz.f4.params.toList args.toList ds p:=o
 rw[Tryz.params4] at G f l
 obtain ⟨v0,v1,J,I,p0,Z,rfl,rfl,rfl,h0,h1⟩:=trodAll_two G
 obtain ⟨rfl,rfl⟩:=trodVars_none P
 obtain ⟨cs,rfl,r⟩:=okWide_struct qV (f 0 35 v0 rfl rfl)
 obtain ⟨xs,rfl,Y⟩:=okWide_struct qM (f 1 26 v1 rfl rfl)
 rw[Ns] at r
 have y:=h0
 have E:=h1
 obtain ⟨fuel,S⟩:=h0
 obtain ⟨m,B⟩:=h1
 clear o a i
 simp only[yV] at g
 have Q:Wt 35 J:=fun n A=>by simpa using yR.1 l n (yC (j:=0) (t:=35) (d:=J) rfl rfl _ A)
 have u:Wt 26 I:=fun n A=>by simpa using yR.1 l n (yC (j:=1) (t:=26) (d:=I) rfl rfl _ A)
 obtain ⟨L,x,V,_,_⟩:=Pe (H:=H) (enc:=enc) (W:=W) (cs:=cs.toList) S Q (by simpa using r)
 obtain ⟨e,N,D⟩:=AJ (H:=H) (enc:=enc) (W:=W) m xs.toList _ _ B u
 have M:=Nt z
 have k:=Nu V (fun b hb=>hb) N M (K6 U M) D
 rw[show cs.toList.toArray=cs by simp,show xs.toList.toArray=xs by simp] at k
 refine k.mono fun e W' ⟨R,hb⟩=>?_
 subst R
 exact ⟨_,rfl,_,_,_,[],_,[],g,trodAll_mk1 (shut_bool qX true),trodAll_mk2 (Below.trod Rh (by kernel_rfl) (yO (by kernel_rfl)) y hb (fun x F=>g.lt x (by simp[F]))) (Below.trod Rh (by kernel_rfl) (yO (by kernel_rfl)) E hb (fun x F=>g.lt x (by simp[F]))),rfl,hb.frame _,fun h=>by cases h⟩
theorem unitsInlined_holds:Rows.UnitsInlinedSaid:=
 OpenClaim.holds_of_wide 4 Tryz.f4 rfl rfl rfl rfl rfl rfl rfl ⟨rfl,rfl,rfl,rfl,rfl⟩ rfl rfl rfl rfl rfl (by kernel_rfl) Tryz.func4 (by kernel_rfl)
  (yO (by kernel_rfl)) (by unfold Func.isWrapper;rw[yt (qo (by kernel_rfl))];exact ⟨rfl,rfl⟩)
  (fun os a H enc _=>I4 os a H enc)
theorem unitsInlinedCard_holds:Rows.UnitsInlinedCardSaid:=
 Claim7.holds_tied_plain_at .later [] [.data,.data,.data,.data,.data,.data] true (true, "11f3996585834df42a1b22c8d320a2ae51f6086afdeb77c2ef291d0b945e9561") true
  unitsInlined_holds (fun _ h=>by cases h) (by kernel_rfl) (fun _ h=>by cases h) unitsInlined_row_tie rfl ⟨rfl,rfl⟩ (by kernel_rfl) rfl
  (fun f fn e b=>by
   obtain rfl:f=4:=yi ((show Tryz.prog.funcNamed "acequia/acequialaw18.UnitsInlined" =some 4 by kernel_rfl).symm.trans e) |>.symm
   obtain rfl:fn=Tryz.f4:=(yi (Tryz.func4.symm.trans b)).symm
   exact ⟨by kernel_rfl,fun j t c=>by
    rw[Tryz.params4] at c
    have d:t∈[35,26]:=by simpa using zV c
    have a:([35,26].all fun u=>!Tryz.prog.wantsStandIn u)=true:=by kernel_rfl
    exact (show Tryz.prog.wantsStandIn t=false by simpa using yR.1 a t d)⟩)
  (by kernel_rfl)
#print axioms unitsInlinedCard_holds
end Go.Proofs.YtjofgpfocadomaaGreatDoor
