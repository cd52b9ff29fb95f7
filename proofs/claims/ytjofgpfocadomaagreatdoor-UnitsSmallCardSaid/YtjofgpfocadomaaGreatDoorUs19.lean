/- Parts of the proof, in short words: Hb Hc Hd He Hf Hm Ia Hn Ib -/
import Derived.Test.YtjofgpfocadomaaGreatDoorUs0
import Derived.Test.YtjofgpfocadomaaGreatDoorUs18
import Derived.Test.YtjofgpfocadomaaGreatDoorUs10
import Derived.Test.YtjofgpfocadomaaGreatDoorUs17
import Derived.Test.YtjofgpfocadomaaGreatDoorUs15
import Derived.Test.YtjofgpfocadomaaGreatDoorUs13
import Derived.Test.YtjofgpfocadomaaGreatDoorUs1
import Derived.ProofKit
import Derived.LaidMore
import Derived.LaidLaws
import Derived.Stop.LaidErr
import Derived.Lib.LaidTab
import Derived.HandedShaped
import Derived.SevenTiedAt
import Derived.Carry
import Derived.Test.YtjofgpfocadomaaGreatDoorCards
set_option maxRecDepth 100000
set_option maxHeartbeats 32000000
set_option linter.unusedSimpArgs false
namespace Go.Proofs.YtjofgpfocadomaaGreatDoor
open Go.RowKit
set_option linter.unusedSimpArgs false
theorem Ox(w:World):Calls Tryz.prog 21 #[] w fun e w'=>∃(B gf:Nat) (cells:Array Value),e=.returned (.agg cells)∧cells.size=26∧Cz B gf 30 (.agg cells) w'∧w'.heap[gf]?=some (.cells #[.int .i64 1,.int .i64 40,.int .i64 1,.string ⟨#[]⟩,.int .i64 0,.slice none 0 0,.int .i64 1,.int .i64 1,.int .i64 3,.string ⟨#[]⟩,.int .i64 0,.slice none 0 0] 26 (0,0))∧w.heap.size<=B∧w.heap.size<=gf∧Below w.heap.size w w':=by
 go_enter Tryz.func21,Tryz.ntmps21
 refine Ae fun K u=>?_
 go_wp2
 refine u.o _ _ ?_
 clear u K
 have h0:=World.alloc_heap_new w (.cells #[.string ⟨#[]⟩,iV 0,iV 0,iV 0,.string ⟨#[]⟩,iV 0,.slice none 0 0,iV 0,iV 0,iV 0,.string ⟨#[]⟩,iV 0,.slice none 0 0,iV 0,iV 0,iV 0,.string ⟨#[]⟩,iV 0,.slice none 0 0,.slice none 0 0,.slice none 0 0,.slice none 0 0,.slice none 0 0,.slice none 0 0,.slice none 0 0,.slice none 0 0] 35)
 have G:=(yg w.heap.size w).alloc (yf _) (.cells #[.string ⟨#[]⟩,iV 0,iV 0,iV 0,.string ⟨#[]⟩,iV 0,.slice none 0 0,iV 0,iV 0,iV 0,.string ⟨#[]⟩,iV 0,.slice none 0 0,iV 0,iV 0,iV 0,.string ⟨#[]⟩,iV 0,.slice none 0 0,.slice none 0 0,.slice none 0 0,.slice none 0 0,.slice none 0 0,.slice none 0 0,.slice none 0 0,.slice none 0 0] 35)
 generalize w.alloc _=W at h0 G ⊢
 have V:=yb (And.intro h0 G)
 clear h0 G
 refine Ae fun K u=>?_
 go_wp2_with (first
  |(go_at_call 23;with_reducible refine (Bj 40 1 _).mono ?_;rintro e w2 ⟨rfl,h2⟩;have n:=yb h2;clear h2)
  |(go_at_call 23;with_reducible refine (Bj 1 3 _).mono ?_;rintro e w3 ⟨rfl,h3⟩;have U:=yb h3;clear h3)
  |(go_at_call 22;with_reducible refine (Ii 6 _ _ _ _ _ _ _ _ _ _ _ _ _ _ _ _ _).mono ?_;rintro e w4 ⟨gf,rfl,hg,d,I⟩;have P:=yb (And.intro hg (And.intro d I));clear hg d I))
 refine u.o _ _ ?_
 clear u K
 have p:Below W.heap.size W w4:=(n.o.trans (U.o.mono n.o.size)).trans (P.o.2.2.mono (by have:=n.o.size;have:=U.o.size;omega))
 have g:=(yg w4.heap.size w4).alloc (yf _) (.cells #[iV 6,iV 0,iV 0,.string ⟨#[]⟩,iV 0,.slice (some (aV gf 0)) 2 2] 26)
 have b:=World.alloc_heap_new w4 (.cells #[iV 6,iV 0,iV 0,.string ⟨#[]⟩,iV 0,.slice (some (aV gf 0)) 2 2] 26)
 have S:=(yd.1 P.o.2.1).1
 have h:=(g.block gf S).trans P.o.2.1
 have J:W.heap.size<=gf:=by have:=n.o.size;have:=U.o.size;have:=P.o.1;omega
 have D:=p.trans (g.mono p.size)
 have v:=p.size
 have HZ:Hid (W.heap.size<=w4.heap.size):=yb v
 generalize R:w4.heap.size=B1 at b ⊢
 rw[R] at HZ
 clear R
 generalize w4.alloc _=W5 at b h D ⊢
 have A:=yb (And.intro b (And.intro h (And.intro J D)))
 clear p g b S h J D v n U P
 refine Ae fun K u=>?_
 go_wp2_with (first
  |(go_at_call 23;with_reducible refine (Bj 0 0 _).mono ?_;rintro e H ⟨rfl,h2⟩;have n:=yb h2;clear h2))
 refine u.o _ _ ?_
 clear u K
 have g:=(yg H.heap.size H).alloc (yf _) (.cells #[iV 1,iV 0,iV 0,.string ⟨#[]⟩,iV 0,.slice none 0 0] 26)
 have b:=World.alloc_heap_new H (.cells #[iV 1,iV 0,iV 0,.string ⟨#[]⟩,iV 0,.slice none 0 0] 26)
 have m:=n.o.trans (g.mono n.o.size)
 have N:Hid (W5.heap.size<=H.heap.size):=yb n.o.size
 generalize a6:H.heap.size=B2 at b N ⊢
 clear a6
 generalize H.alloc _=E at b m ⊢
 have Z:=yb b
 have i:=yb m
 clear g b m n
 have C:=(yd.1 A.o.1).1
 have F:=(yd.1 V.o.1).1
 have j:=A.o.2.2.2
 have f:Hid (w.heap.size < W.heap.size∧W.heap.size<=W5.heap.size∧W5.heap.size<=E.heap.size∧B1 < W5.heap.size∧B2 < E.heap.size):=yb ⟨F,j.size,i.o.size,C,(yd.1 Z.o).1⟩
 have l:Hid (E.heap[w.heap.size]?=some (.cells #[.string ⟨#[]⟩,iV 0,iV 0,iV 0,.string ⟨#[]⟩,iV 0,.slice none 0 0,iV 0,iV 0,iV 0,.string ⟨#[]⟩,iV 0,.slice none 0 0,iV 0,iV 0,iV 0,.string ⟨#[]⟩,iV 0,.slice none 0 0,.slice none 0 0,.slice none 0 0,.slice none 0 0,.slice none 0 0,.slice none 0 0,.slice none 0 0,.slice none 0 0] 35 (0,0))):=yb ((i.o.block _ (by have:=f.o;omega)).trans ((j.block _ F).trans V.o.1))
 have O:Hid (E.heap[gf]?=some (.cells #[iV 1,iV 40,iV 1,.string ⟨#[]⟩,iV 0,.slice none 0 0,iV 1,iV 1,iV 3,.string ⟨#[]⟩,iV 0,.slice none 0 0] 26 (0,0))):=yb ((i.o.block _ (yd.1 A.o.2.1).1).trans A.o.2.1)
 have M:Hid (Below w.heap.size w E):=yb (V.o.2.trans ((j.trans (i.o.mono j.size)).mono (by have:=f.o;omega)))
 have Y:Hid (E.rangeAt B1 0 [iV 6,iV 0,iV 0,.string ⟨#[]⟩,iV 0,.slice (some (aV gf 0)) 2 2]):=yb (AA (t:=26) ((i.o.block _ C).trans A.o.1))
 have a8:Hid (E.rangeAt B2 0 [iV 1,iV 0,iV 0,.string ⟨#[]⟩,iV 0,.slice none 0 0]):=yb (AA (t:=26) Z.o)
 have T:Hid (w.heap.size < gf):=yb (by have:=A.o.2.2.1;have:=f.o;omega)
 clear C F j A i Z N V HZ
 refine wp_seq ?_
 refine Un (B:=w.heap.size) (B1:=B1) (B2:=B2) (gf:=gf) (row0:=#[.string ⟨#[]⟩,iV 0,iV 0,iV 0,.string ⟨#[]⟩,iV 0,.slice none 0 0,iV 0,iV 0,iV 0,.string ⟨#[]⟩,iV 0,.slice none 0 0,iV 0,iV 0,iV 0,.string ⟨#[]⟩,iV 0,.slice none 0 0,.slice none 0 0,.slice none 0 0,.slice none 0 0,.slice none 0 0,.slice none 0 0,.slice none 0 0,.slice none 0 0]) _ ?_ ?_ ?_ ?_ ?_ ?_ ?_ ?_ ?_ ?_ ?_ ?_ ?_
 ·rfl
 ·rfl
 ·rfl
 ·rfl
 ·rfl
 ·have:=f.o;omega
 ·have:=f.o;omega
 ·have:=f.o;omega
 ·exact l.o
 ·rfl
 ·exact Y.o
 ·exact a8.o
 ·intro a w1 cells a2 a7 Q X q
  obtain ⟨tm,df⟩:=a
  obtain rfl:df=[]:=a7
  have h0:tm.getD 0 undef=pV w.heap.size 0:=(Q 0 (by omega)).trans rfl
  have y:cells.size=26:=by
   have z:=X
   unfold Cz at z
   simp only at z
   obtain ⟨ab,ac,aa,ae,ad,af,hq,_⟩:=z
   cases hq;rfl
  have a0:=f.o
  have d:w1.heap[w.heap.size]?=some (.cells #[.string ⟨#[]⟩,iV 0,iV 0,iV 0,.string ⟨#[]⟩,iV 0,.slice none 0 0,iV 0,iV 0,iV 0,.string ⟨#[]⟩,iV 0,.slice none 0 0,iV 0,iV 0,iV 0,.string ⟨#[]⟩,iV 0,.slice none 0 0,.slice none 0 0,.slice none 0 0,.slice none 0 0,.slice none 0 0,.slice none 0 0,.slice none 0 0,.slice none 0 0] 35 (0,0)):=(q.block _ (by omega)).trans l.o
  have s:=qp w1 w.heap.size _ cells _ _ d
  have x:Below w.heap.size w (w1.setRow w.heap.size cells):=CH (M.o.trans (q.mono M.o.size)) (yf _) cells
  have L:Cz w.heap.size gf 30 (.agg cells) (w1.setRow w.heap.size cells):=QO _ _ _ _ (fun k o hk ho=>by rw[Cr _ _ (by omega)];exact ho) X
  have h:(w1.setRow w.heap.size cells).heap[gf]?=some (.cells #[iV 1,iV 40,iV 1,.string ⟨#[]⟩,iV 0,.slice none 0 0,iV 1,iV 1,iV 3,.string ⟨#[]⟩,iV 0,.slice none 0 0] 26 (0,0)):=by
   have:=T.o
   rw[Cr _ _ (by omega)]
   exact (q.block _ (yd.1 O.o).1).trans O.o
  have r:Hid (bodyPost Tryz.prog Tryz.f21 (fun e w'=>∃(B gf:Nat) (cells:Array Value),e=.returned (.agg cells)∧cells.size=26∧Cz B gf 30 (.agg cells) w'∧w'.heap[gf]?=some (.cells #[iV 1,iV 40,iV 1,.string ⟨#[]⟩,iV 0,.slice none 0 0,iV 1,iV 1,iV 3,.string ⟨#[]⟩,iV 0,.slice none 0 0] 26 (0,0))∧w.heap.size<=B∧w.heap.size<=gf∧Below w.heap.size w w') .ret {tmps:=tm,defers:=[]} (w1.setRow w.heap.size cells)):=yb (by
   refine Bv (c:=cells.toList) rfl h0 (by rw[Array.toArray_toList];exact s) qP rfl (by rw[Array.length_toList,y];kernel_rfl) ⟨w.heap.size,gf,cells,by rw[Array.toArray_toList],y,L,h,yf _,by have:=T.o;omega,x⟩)
  clear h0 y a0 d s x L h X q a2 Q
  first
  |exact r.o
  |(go_wp2;exact r.o)
set_option linter.unusedSimpArgs false
theorem Jb{w:World}{g:Nat}{row:Array Value}{ty:TypeId}(b:w.heap[g]?=some (.cells row ty (0,0)))(o:Nat){cs:LV}(h:(row.toList.drop o).take cs.length=cs):w.rangeAt g o cs:=fun j v a=>by
 have c:=(yx.1 a).1
 rw[<-h,zZ,yD c,List.getElem?_drop] at a
 simp only[World.cell?,b]
 simpa using a
def xC(op n u:Int)(rn:ByteArray)(ri:Int):LV:=[.int .i64 op,.int .i64 n,.int .i64 u,.string rn,.int .i64 ri,.slice none 0 0]
def tC(op:Int)(g:Nat):LV:=[.int .i64 op,.int .i64 0,.int .i64 0,.string G9,.int .i64 0,.slice (some ⟨g,0,none⟩) 2 2]
theorem TO(s:ByteArray)(h:s.size<=1000):s.size<=maxLen:=yt h (by unfold maxLen;omega)
section
variable{N:NP}{w:World}
theorem K3(op n u:Int)(rn:ByteArray)(ri:Int)(h:rn.size<=1000):AH N w (.mk op n u rn ri []) (xC op n u rn ri):=by
 rw[AH];exact ⟨none,0,rfl,by simp,TO _ h,by rw[D5];trivial⟩
theorem BW(n u:Int):AH N w (Bo n u) (xC 1 n u G9 0):=K3 1 n u G9 0 (by decide)
theorem VH:AH N w La (xC 0 0 0 G9 0):=K3 0 0 0 G9 0 (by decide)
theorem Ij{g:Nat}{a b:Ex}{ca cb:LV}{ty:TypeId}(o:Int)(hN:N g)(hr:w.heap[g]?=some (.cells (ca++cb).toArray ty (0,0)))(d:AH N w a ca)(hb:AH N w b cb):AH N w (Ls o a b) (tC o g):=by
 have c:=d.is6.len
 have e:=hb.is6.len
 unfold Ls
 rw[AH]
 refine ⟨some (aV g 0),2,rfl,by simp,TO _ (by decide),?_⟩
 rw[D5,D5,D5]
 exact ⟨⟨g,0,ca,rfl,hN,Jb hr _ (by simp),d⟩,⟨g,0,cb,rfl,hN,Jb hr _ (by simp[c]),hb⟩,trivial⟩
theorem Tu{α:Type}{sz:Nat}{P:LV->α->Prop}:BF N w sz P ⟨none,0,0⟩ []:=⟨rfl,by simp,fun i hi=>absurd hi (by simp)⟩
theorem N6{α:Type}{sz g:Nat}{P:LV->α->Prop}{d:α}{cs:LV}{ty:TypeId}(hN:N g)(hr:w.heap[g]?=some (.cells cs.toArray ty (0,0)))(a:cs.length=sz)(b:P cs d):BF N w sz P ⟨some ⟨g,0,none⟩,1,1⟩ [d]:=by
 refine ⟨rfl,by simp,fun i hi=>?_⟩
 obtain rfl:i=0:=by simpa using hi
 exact ⟨g,0,cs,rfl,hN,a,Jb hr _ (by simp),b⟩
end
def Lb:LV:=[.string ⟨#[114]⟩,.string ⟨#[]⟩,.int .i64 0,.int .i64 1,.int .i64 1,.int .i64 3,.string ⟨#[]⟩,.int .i64 0,.slice none 0 0]
def Ld(a:Nat):LV:=[.int .i64 1,.int .i64 90,.int .i64 1,.string ⟨#[]⟩,.int .i64 0,.slice none 0 0,.int .i64 0,.int .i64 0,.int .i64 0,.string ⟨#[]⟩,.int .i64 0,.slice none 0 0,.int .i64 1,.int .i64 0,.int .i64 1,.string ⟨#[]⟩,.int .i64 0,.slice none 0 0,.int .i64 1,.int .i64 2,.int .i64 1,.string ⟨#[]⟩,.int .i64 0,.slice none 0 0,.int .i64 1,.int .i64 0,.int .i64 0,.string ⟨#[]⟩,.int .i64 0,.slice none 0 0,.int .i64 6,.int .i64 0,.int .i64 0,.string ⟨#[]⟩,.int .i64 0,.slice (some ⟨a,0,none⟩) 2 2]
def VW(c a d b:Nat):Bq:={s:=0,lets:=⟨some ⟨c,0,none⟩,1,1⟩,crops:=⟨some ⟨a,0,none⟩,1,1⟩,reaches:=⟨some ⟨d,0,none⟩,1,1⟩,farms:=⟨some ⟨b,0,none⟩,1,1⟩,rots:=⟨none,0,0⟩,rights:=⟨none,0,0⟩,duties:=⟨none,0,0⟩,turns:=[]}
def Le(c a d b:Nat):LV:=[.string ⟨#[119]⟩,.int .i64 1,.int .i64 1,.int .i64 4,.string ⟨#[]⟩,.int .i64 0,.slice none 0 0,.int .i64 1,.int .i64 5,.int .i64 2,.string ⟨#[]⟩,.int .i64 0,.slice none 0 0,.int .i64 2,.int .i64 0,.int .i64 0,.string ⟨#[107]⟩,.int .i64 0,.slice none 0 0,.slice (some ⟨c,0,none⟩) 1 1,.slice (some ⟨a,0,none⟩) 1 1,.slice (some ⟨d,0,none⟩) 1 1,.slice (some ⟨b,0,none⟩) 1 1,.slice none 0 0,.slice none 0 0,.slice none 0 0]
theorem Ur{N:NP}{w:World}{c e g d b f:Nat}{a:LV}{cap:Ex}(h:AH N w cap a)
 (n:N c)(o:N e)(l:N g)(k:N d)(j:N b)(m:N f)
 (b13:w.heap[c]?=some (.cells #[.string ⟨#[107]⟩,.int .i64 1,.int .i64 3,.int .i64 2,.string ⟨#[]⟩,.int .i64 0,.slice none 0 0] 50 (0,0)))(b16:w.heap[e]?=some (.cells #[.int .i64 1,.int .i64 7,.int .i64 1,.string ⟨#[]⟩,.int .i64 0,.slice none 0 0,.int .i64 1,.int .i64 1,.int .i64 5,.string ⟨#[]⟩,.int .i64 0,.slice none 0 0] 26 (0,0)))(b18:w.heap[g]?=some (.cells #[.string ⟨#[99]⟩,.int .i64 6,.int .i64 0,.int .i64 0,.string ⟨#[]⟩,.int .i64 0,.slice (some ⟨e,0,none⟩) 2 2] 92 (0,0)))(b28:w.heap[d]?=some (.cells #[.int .i64 1,.int .i64 1,.int .i64 0,.string ⟨#[]⟩,.int .i64 0,.slice none 0 0,.int .i64 1,.int .i64 8,.int .i64 0,.string ⟨#[]⟩,.int .i64 0,.slice none 0 0] 26 (0,0)))(b31:w.heap[b]?=some (.cells (Lb++(a++Ld d)).toArray 66 (0,0)))(b36:w.heap[f]?=some (.cells #[.string ⟨#[102]⟩,.string ⟨#[114]⟩,.int .i64 0,.bool false,.int .i64 1,.int .i64 20,.int .i64 5,.string ⟨#[]⟩,.int .i64 0,.slice none 0 0,.string ⟨#[99]⟩,.int .i64 0] 94 (0,0))):BP N w (VW c g b f) (Le c g b f) (DO cap):=by
 have p:=h.is6.len
 refine ⟨TO sW (by decide),⟨xC 1 1 4 G9 0,xC 1 5 2 G9 0,xC 2 0 0 sK 0,rfl,BW 1 4,BW 5 2,K3 2 0 0 sK 0 (by decide)⟩,
  N6 n (cs:=.string sK::xC 1 3 2 G9 0) b13 rfl ⟨TO _ (by decide),_,rfl,BW 3 2⟩,
  N6 l (cs:=.string sC::tC 6 e) b18 rfl ⟨TO _ (by decide),_,rfl,Ij 6 o (ca:=xC 1 7 1 G9 0) (cb:=xC 1 1 5 G9 0) b16 (BW 7 1) (BW 1 5)⟩,
  N6 j (cs:=.string sR::(AU ⟨G9,0⟩++(xC 1 1 3 G9 0++(a++(xC 1 90 1 G9 0++(xC 0 0 0 G9 0++(xC 1 0 1 G9 0++(xC 1 2 1 G9 0++(xC 1 0 0 G9 0++tC 6 d))))))))) b31 (by simp[AU,xC,tC,p]) ⟨TO sR (by decide),TO G9 (by decide),_,_,_,_,_,_,_,_,rfl,BW 1 3,h,BW 90 1,VH,BW 0 1,BW 2 1,BW 0 0,Ij 6 k (ca:=xC 1 1 0 G9 0) (cb:=xC 1 8 0 G9 0) b28 (BW 1 0) (BW 8 0)⟩,
  N6 m (cs:=.string sF::(AU ⟨sR,0⟩++(.bool false::(xC 1 20 5 G9 0++AU ⟨sC,0⟩)))) b36 rfl ⟨TO _ (by decide),TO _ (by decide),TO _ (by decide),_,rfl,BW 20 5⟩,
  ⟨rfl,yH _,fun i hi=>absurd hi (by simp[DO])⟩,Tu,Tu⟩
set_option linter.unusedSimpArgs false
set_option linter.unusedVariables false
def EN(w w':World):Prop:=∀(b:Nat) (row:Array Value),w.heap[b]?=some (.cells row 26 (0,0))->w'.heap[b]?=some (.cells row 26 (0,0))
theorem EN.below{w w':World}(h:Below w.heap.size w w'):EN w w':=fun b _ hb=>(h.block b (yd.1 hb).1).trans hb
theorem EN.refl(w:World):EN w w:=fun _ _ h=>h
structure V6 (W:World) (ia ist slot:Nat) (z v:Array Value) (ty:TypeId) (l:Array Bool) (tm:Array Value) (w:World):Prop where
 below:Below W.heap.size W w
 one:l.getD ist false=false->l.getD ia false=true->∃b,tm.getD slot undef=.pointer (some ⟨b,0,none⟩)∧W.heap.size<=b∧w.heap[b]?=some (.cells z ty (0,0))
 two:l.getD ist false=true->∃b,tm.getD slot undef=.pointer (some ⟨b,0,none⟩)∧W.heap.size<=b∧w.heap[b]?=some (.cells v ty (0,0))
theorem V6.quiet{W:World}{g c a:Nat}{z v:Array Value}{ty:TypeId}{l:Array Bool}{tm:Array Value}{w w2:World}{i t:Nat}{x:Value}(h:V6 W g c a z v ty l tm w)(hi:i≠c∧i≠g)(j:t≠a)(hb:Below w.heap.size w w2):V6 W g c a z v ty (l.setIfInBounds i true) (tm.setIfInBounds t x) w2:=by
 refine ⟨h.below.trans (hb.mono h.below.size),fun h1 h2=>?_,fun h1=>?_⟩
 ·rw[A8 hi.1] at h1;rw[A8 hi.2] at h2
  obtain ⟨b,f,e,d⟩:=h.one h1 h2
  exact ⟨b,by rw[Bl j];exact f,e,(hb.block b (yd.1 d).1).trans d⟩
 ·rw[A8 hi.1] at h1
  obtain ⟨b,f,e,d⟩:=h.two h1
  exact ⟨b,by rw[Bl j];exact f,e,(hb.block b (yd.1 d).1).trans d⟩
def G4(W:World)(cs:LV)(m1 a b er:Int)(j:Nat)(v:Value)(w:World):Prop:=match j with
 |0=>v=.agg cs.toArray
 |1=>v=.agg #[.int .i64 1,.int .i64 3,.int .i64 1,.string ⟨#[]⟩,.int .i64 0,.slice none 0 0]
 |2=>v=.agg #[.int .i64 1,.int .i64 4,.int .i64 3,.string ⟨#[]⟩,.int .i64 0,.slice none 0 0]
 |3=>∃g:Nat,v=.agg #[.int .i64 3,.int .i64 0,.int .i64 0,.string ⟨#[]⟩,.int .i64 0,.slice (some ⟨g,0,none⟩) 2 2]∧w.heap[g]?=some (.cells #[.int .i64 1,.int .i64 3,.int .i64 1,.string ⟨#[]⟩,.int .i64 0,.slice none 0 0,.int .i64 1,.int .i64 4,.int .i64 3,.string ⟨#[]⟩,.int .i64 0,.slice none 0 0] 26 (0,0))
 |4=>v=.tuple #[.agg #[.int .i64 m1,.int .i64 a,.int .i64 b],.int .i64 er]
 |5=>v=.tuple #[.agg #[.int .i64 m1,.int .i64 a,.int .i64 b],.int .i64 er]
 |6=>v=.agg #[.int .i64 m1,.int .i64 a,.int .i64 b]
 |7=>v=.int .i64 er
 |10=>v=.int .i64 er
 |_=>True
theorem Tv(W:World)(cs:LV)(m1 a b er:Int)(j:Nat)(v:Value)(w w':World)(c:EN w w')(h:G4 W cs m1 a b er j v w):G4 W cs m1 a b er j v w':=by
 match j,h with
 |0,h=>exact h
 |1,h=>exact h
 |2,h=>exact h
 |3,h=>
  obtain ⟨g,h0,h1⟩:=h
  exact ⟨g,h0,c _ _ h1⟩
 |4,h=>exact h
 |5,h=>exact h
 |6,h=>exact h
 |7,h=>exact h
 |8,h=>exact h
 |9,h=>exact h
 |10,h=>exact h
 |_+11,h=>exact h
theorem RU{K:Act}{W0:World}{Q:QT}{B1:Nat}{cs:LV}{x:Ax}{m1 D L er:Int}(ops:Array Oper)(u:DH Tryz.f7 5=some ops)
 (a2:K.tmps.getD 1 undef=.pointer (some ⟨B1,0,none⟩))(V:K.tmps.size=141)(I:B1 < W0.heap.size)(l:W0.rangeAt B1 0 cs)(E:(Tryz.prog.info? 35).map (·.size)=some cs.length)(hS:DI W0 cs x)(hm:DY x (Ls 3 (Bo 3 1) (Bo 4 3))=(⟨⟨m1,D,L⟩,er⟩:Dm × Int))
 (hQ:∀(a:Act) w1 b,a.tmps.size=141->a.defers=K.defers->(∀t,t∉[36,37,38,39,40,35,41,42,7,8]->a.tmps.getD t undef=K.tmps.getD t undef)->a.tmps.getD 7 undef=.pointer (some ⟨b,0,none⟩)->a.tmps.getD 8 undef=.int .i64 er->Below W0.heap.size W0 w1->W0.heap.size<=b->w1.heap[b]?=some (.cells #[.int .i64 m1,.int .i64 D,.int .i64 L] 39 (0,0))->Q .normal a w1):
  (Code.region 5 ops true).wp Tryz.prog Q K W0:=by
 obtain rfl:=yi ((rfl:DH Tryz.f7 5=some _).symm.trans u)
 clear u
 have HM:=yb hm
 have HS:=yb hS
 have Z:=yb E
 clear hm hS E
 refine BN (by kernel_rfl) (V6 W0 8 9 7 j6 #[iV m1,iV D,iV L] 39) (G4 W0 cs m1 D L er) (fun _=>EN) (by kernel_rfl) (by rw[V];kernel_rfl) (by kernel_rfl) (fun _ j v w w' _ _ hl h=>Tv _ _ _ _ _ _ j v w w' hl h) ⟨(yg _ _).drew,fun _ h=>(by cases h),fun h=>(by cases h)⟩ ?_ ?_
 ·intro ix f a w' hM c o n
  have m:=yb hM.ext
  have T:=(yd.1 n).1
  have X:=hM.size
  have a0:Hid (a.tmps.size=141):=yb (hM.tmps.trans V)
  match ix,T with
  |0,_=>
   have d:=hM.old c 1 (by kernel_rfl) _ a2
   have W:=yb (A0 l (m.o.below.block _ I))
   clear l
   obtain rfl:=yi n
   refine xL 35 _ rfl B1 0 (by simpa[Act.eval] using d) cs _ W.o qP rfl Z.o ?_
   exact ⟨_,rfl,m.o.quiet (by decide) (by decide) (yg _ _),EN.refl _,rfl⟩
  |1,_=>
   clear l
   obtain rfl:=yi n
   go_simp
   refine (Bj 3 1 _).mono ?_
   rintro e w2 ⟨rfl,i⟩
   exact ⟨_,rfl,m.o.quiet (by decide) (by decide) i,EN.below i,rfl⟩
  |2,_=>
   clear l
   obtain rfl:=yi n
   go_simp
   refine (Bj 4 3 _).mono ?_
   rintro e w2 ⟨rfl,i⟩
   exact ⟨_,rfl,m.o.quiet (by decide) (by decide) i,EN.below i,rfl⟩
  |3,_=>
   have O:=hM.dep c 1 37 (by kernel_rfl) (by kernel_rfl)
   unfold G4 at O
   simp only at O
   have H:=hM.dep c 2 38 (by kernel_rfl) (by kernel_rfl)
   unfold G4 at H
   simp only at H
   clear l
   obtain rfl:=yi n
   go_simp
   refine (Ii 3 _ _ _ _ _ _ _ _ _ _ _ _ _ _ _ _ _).mono ?_
   rintro e w2 ⟨g,rfl,R,G,i⟩
   exact ⟨_,rfl,m.o.quiet (by decide) (by decide) i,EN.below i,g,rfl,G⟩
  |4,_=>
   have F:=hM.dep c 0 36 (by kernel_rfl) (by kernel_rfl)
   unfold G4 at F
   simp only at F
   have s:=hM.dep c 3 39 (by kernel_rfl) (by kernel_rfl)
   unfold G4 at s
   simp only at s
   obtain ⟨g,s,A⟩:=s
   have q:=IC (HS.o.up m.o.below) (Ij 3 (yd.1 A).1 (ca:=xC 1 3 1 G9 0) (cb:=xC 1 4 3 G9 0) A (BW 3 1) (BW 4 3):AH (fun b=>b < w'.heap.size) w' (Ls 3 (Bo 3 1) (Bo 4 3)) (tC 3 g))
   rw[HM.o] at q
   clear A l
   obtain rfl:=yi n
   go_simp
   refine q.mono ?_
   rintro e w2 ⟨rfl,i⟩
   exact ⟨_,rfl,m.o.quiet (by decide) (by decide) i,EN.below i,rfl⟩
  |5,_=>
   have M:=hM.dep c 4 40 (by kernel_rfl) (by kernel_rfl)
   unfold G4 at M
   simp only at M
   clear l
   obtain rfl:=yi n
   go_simp
   exact ⟨_,rfl,m.o.quiet (by decide) (by decide) (yg _ _),EN.refl _,rfl⟩
  |6,_=>
   have r:=hM.dep c 5 35 (by kernel_rfl) (by kernel_rfl)
   unfold G4 at r
   simp only at r
   clear l
   obtain rfl:=yi n
   go_simp
   exact ⟨_,rfl,m.o.quiet (by decide) (by decide) (yg _ _),EN.refl _,rfl⟩
  |7,_=>
   have r:=hM.dep c 5 35 (by kernel_rfl) (by kernel_rfl)
   unfold G4 at r
   simp only at r
   clear l
   obtain rfl:=yi n
   go_simp
   exact ⟨_,rfl,m.o.quiet (by decide) (by decide) (yg _ _),EN.refl _,rfl⟩
  |8,_=>
   have P:f.getD 9 false=false:=by
    rw[ym];intro U
    have:=A1 hM.down 12 9 8 (by kernel_rfl) U
    rw[hM.not_yet c] at this;cases this
   have HN:=yb P
   have HT:Hid (7 < a.tmps.size):=yb (by rw[a0.o];decide)
   clear l P
   obtain rfl:=yi n
   go_simp
   have J:Below w'.heap.size w' (w'.alloc (.cells j6 39)):=(yg _ _).alloc (yf _) _
   refine ⟨_,rfl,⟨m.o.below.trans (J.mono m.o.below.size),fun _ _=>⟨w'.heap.size,?_,m.o.below.size,World.alloc_heap_new _ _⟩,fun h4=>?_⟩,EN.below J,trivial⟩
   ·show (a.put (some 7) (pV w'.heap.size 0)).tmps.getD 7 undef=_
    exact Au _ HT.o
   ·rw[A8 (by decide),HN.o] at h4;cases h4
  |9,_=>
   have P:=hM.not_yet c
   have lA:f.getD 8 false=true:=hM.came c 8 (by kernel_rfl)
   obtain ⟨b,S,C,z⟩:=m.o.one P lA
   have B:=hM.dep c 6 41 (by kernel_rfl) (by kernel_rfl)
   unfold G4 at B
   simp only at B
   have HL:Hid (9 < f.size):=yb (by rw[X];show 9 < 11;omega)
   have Y:=S
   rw[yB] at S
   refine wp_store_row 39 (.tmp 7) (.tmp 41) (by obtain rfl:=yi n;rfl) b #[iV m1,iV D,iV L] (by simpa[Act.eval] using S) (by simpa[Act.eval] using B) 39 j6 z (by kernel_rfl) (by kernel_rfl) (by simp[Value.oneCell']) ?_
   obtain rfl:=yi n
   refine ⟨undef,rfl,⟨CH m.o.below C _,fun U=>?_,fun _=>⟨b,Y,C,qp _ _ _ _ _ _ z⟩⟩,fun g row R=>?_,trivial⟩
   ·simp[HL.o] at U
   ·rw[Cr _ _ (fun e=>by rw[e,z] at R;cases R)];exact R
  |10,_=>
   have N:=hM.dep c 7 42 (by kernel_rfl) (by kernel_rfl)
   unfold G4 at N
   simp only at N
   clear l
   obtain rfl:=yi n
   go_simp
   exact ⟨_,rfl,m.o.quiet (by decide) (by decide) (yg _ _),EN.refl _,rfl⟩
 ·intro f a w' y hM
  obtain ⟨b,k1,k2,k3⟩:=hM.ext.two (y 9 (show 9 < 11 by omega))
  have hE:=hM.done 10 (y 10 (show 10 < 11 by omega)) _ 8 rfl rfl
  unfold G4 at hE
  simp only at hE
  refine hQ a w' b (hM.tmps.trans V) hM.defers (fun t ht=>hM.free t fun mm a6 o n hd=>ht ?_) k1 hE hM.ext.below k2 k3
  have hs:=Hi (ops:=(Tryz.f7.body.bind (CK 5)).getD #[]) (p:=fun o=>match o.dst with|some k=>decide (k∈[36,37,38,39,40,35,41,42,7,8])|none=>true) (by kernel_rfl) n
  rw[hd] at hs
  exact yR hs
def G5(W:World)(cs:LV)(m1 a er:Int)(j:Nat)(v:Value)(w:World):Prop:=match j with
 |0=>v=.agg cs.toArray
 |1=>v=.agg #[.int .i64 1,.int .i64 1,.int .i64 4,.string ⟨#[]⟩,.int .i64 0,.slice none 0 0]
 |2=>v=.agg #[.int .i64 1,.int .i64 30,.int .i64 3,.string ⟨#[]⟩,.int .i64 0,.slice none 0 0]
 |3=>∃g:Nat,v=.agg #[.int .i64 4,.int .i64 0,.int .i64 0,.string ⟨#[]⟩,.int .i64 0,.slice (some ⟨g,0,none⟩) 2 2]∧w.heap[g]?=some (.cells #[.int .i64 1,.int .i64 1,.int .i64 4,.string ⟨#[]⟩,.int .i64 0,.slice none 0 0,.int .i64 1,.int .i64 30,.int .i64 3,.string ⟨#[]⟩,.int .i64 0,.slice none 0 0] 26 (0,0))
 |4=>v=.tuple #[.agg #[.int .i64 m1,.int .i64 a],.int .i64 er]
 |5=>v=.tuple #[.agg #[.int .i64 m1,.int .i64 a],.int .i64 er]
 |6=>v=.agg #[.int .i64 m1,.int .i64 a]
 |7=>v=.int .i64 er
 |10=>v=.int .i64 er
 |_=>True
theorem Tw(W:World)(cs:LV)(m1 a er:Int)(j:Nat)(v:Value)(w w':World)(b:EN w w')(h:G5 W cs m1 a er j v w):G5 W cs m1 a er j v w':=by
 match j,h with
 |0,h=>exact h
 |1,h=>exact h
 |2,h=>exact h
 |3,h=>
  obtain ⟨g,h0,h1⟩:=h
  exact ⟨g,h0,b _ _ h1⟩
 |4,h=>exact h
 |5,h=>exact h
 |6,h=>exact h
 |7,h=>exact h
 |8,h=>exact h
 |9,h=>exact h
 |10,h=>exact h
 |_+11,h=>exact h
theorem RW{M:Act}{W0:World}{Q:QT}{B1:Nat}{cs:LV}{x:Ax}{m1 F er:Int}(ops:Array Oper)(u:DH Tryz.f7 6=some ops)
 (a0:M.tmps.getD 1 undef=.pointer (some ⟨B1,0,none⟩))(U:M.tmps.size=141)(J:B1 < W0.heap.size)(l:W0.rangeAt B1 0 cs)(G:(Tryz.prog.info? 35).map (·.size)=some cs.length)(hS:DI W0 cs x)(hm:Bm x (Ls 4 (Bo 1 4) (Bo 30 3))=(⟨⟨m1,F⟩,er⟩:Rt × Int))
 (hQ:∀(a:Act) w1 b,a.tmps.size=141->a.defers=M.defers->(∀t,t∉[44,45,46,47,48,43,49,50,9,10]->a.tmps.getD t undef=M.tmps.getD t undef)->a.tmps.getD 9 undef=.pointer (some ⟨b,0,none⟩)->a.tmps.getD 10 undef=.int .i64 er->Below W0.heap.size W0 w1->W0.heap.size<=b->w1.heap[b]?=some (.cells #[.int .i64 m1,.int .i64 F] 44 (0,0))->Q .normal a w1):
  (Code.region 6 ops true).wp Tryz.prog Q M W0:=by
 obtain rfl:=yi ((rfl:DH Tryz.f7 6=some _).symm.trans u)
 clear u
 have HM:=yb hm
 have HS:=yb hS
 have Y:=yb G
 clear hm hS G
 refine BN (by kernel_rfl) (V6 W0 8 9 9 j5 #[iV m1,iV F] 44) (G5 W0 cs m1 F er) (fun _=>EN) (by kernel_rfl) (by rw[U];kernel_rfl) (by kernel_rfl) (fun _ j v w w' _ _ hl h=>Tw _ _ _ _ _ j v w w' hl h) ⟨(yg _ _).drew,fun _ h=>(by cases h),fun h=>(by cases h)⟩ ?_ ?_
 ·intro ix f a w' hM c o n
  have m:=yb hM.ext
  have S:=(yd.1 n).1
  have W:=hM.size
  have Z:Hid (a.tmps.size=141):=yb (hM.tmps.trans U)
  match ix,S with
  |0,_=>
   have d:=hM.old c 1 (by kernel_rfl) _ a0
   have V:=yb (A0 l (m.o.below.block _ J))
   clear l
   obtain rfl:=yi n
   refine xL 35 _ rfl B1 0 (by simpa[Act.eval] using d) cs _ V.o qP rfl Y.o ?_
   exact ⟨_,rfl,m.o.quiet (by decide) (by decide) (yg _ _),EN.refl _,rfl⟩
  |1,_=>
   clear l
   obtain rfl:=yi n
   go_simp
   refine (Bj 1 4 _).mono ?_
   rintro e w2 ⟨rfl,i⟩
   exact ⟨_,rfl,m.o.quiet (by decide) (by decide) i,EN.below i,rfl⟩
  |2,_=>
   clear l
   obtain rfl:=yi n
   go_simp
   refine (Bj 30 3 _).mono ?_
   rintro e w2 ⟨rfl,i⟩
   exact ⟨_,rfl,m.o.quiet (by decide) (by decide) i,EN.below i,rfl⟩
  |3,_=>
   have I:=hM.dep c 1 45 (by kernel_rfl) (by kernel_rfl)
   unfold G5 at I
   simp only at I
   have L:=hM.dep c 2 46 (by kernel_rfl) (by kernel_rfl)
   unfold G5 at L
   simp only at L
   clear l
   obtain rfl:=yi n
   go_simp
   refine (Ii 4 _ _ _ _ _ _ _ _ _ _ _ _ _ _ _ _ _).mono ?_
   rintro e w2 ⟨g,rfl,P,H,i⟩
   exact ⟨_,rfl,m.o.quiet (by decide) (by decide) i,EN.below i,g,rfl,H⟩
  |4,_=>
   have D:=hM.dep c 0 44 (by kernel_rfl) (by kernel_rfl)
   unfold G5 at D
   simp only at D
   have s:=hM.dep c 3 47 (by kernel_rfl) (by kernel_rfl)
   unfold G5 at s
   simp only at s
   obtain ⟨g,s,A⟩:=s
   have q:=DK (HS.o.up m.o.below) (Ij 4 (yd.1 A).1 (ca:=xC 1 1 4 G9 0) (cb:=xC 1 30 3 G9 0) A (BW 1 4) (BW 30 3):AH (fun b=>b < w'.heap.size) w' (Ls 4 (Bo 1 4) (Bo 30 3)) (tC 4 g))
   rw[HM.o] at q
   clear A l
   obtain rfl:=yi n
   go_simp
   refine q.mono ?_
   rintro e w2 ⟨rfl,i⟩
   exact ⟨_,rfl,m.o.quiet (by decide) (by decide) i,EN.below i,rfl⟩
  |5,_=>
   have C:=hM.dep c 4 48 (by kernel_rfl) (by kernel_rfl)
   unfold G5 at C
   simp only at C
   clear l
   obtain rfl:=yi n
   go_simp
   exact ⟨_,rfl,m.o.quiet (by decide) (by decide) (yg _ _),EN.refl _,rfl⟩
  |6,_=>
   have r:=hM.dep c 5 43 (by kernel_rfl) (by kernel_rfl)
   unfold G5 at r
   simp only at r
   clear l
   obtain rfl:=yi n
   go_simp
   exact ⟨_,rfl,m.o.quiet (by decide) (by decide) (yg _ _),EN.refl _,rfl⟩
  |7,_=>
   have r:=hM.dep c 5 43 (by kernel_rfl) (by kernel_rfl)
   unfold G5 at r
   simp only at r
   clear l
   obtain rfl:=yi n
   go_simp
   exact ⟨_,rfl,m.o.quiet (by decide) (by decide) (yg _ _),EN.refl _,rfl⟩
  |8,_=>
   have O:f.getD 9 false=false:=by
    rw[ym];intro T
    have:=A1 hM.down 12 9 8 (by kernel_rfl) T
    rw[hM.not_yet c] at this;cases this
   have HN:=yb O
   have HT:Hid (9 < a.tmps.size):=yb (by rw[Z.o];decide)
   clear l O
   obtain rfl:=yi n
   go_simp
   have K:Below w'.heap.size w' (w'.alloc (.cells j5 44)):=(yg _ _).alloc (yf _) _
   refine ⟨_,rfl,⟨m.o.below.trans (K.mono m.o.below.size),fun _ _=>⟨w'.heap.size,?_,m.o.below.size,World.alloc_heap_new _ _⟩,fun h4=>?_⟩,EN.below K,trivial⟩
   ·show (a.put (some 9) (pV w'.heap.size 0)).tmps.getD 9 undef=_
    exact Au _ HT.o
   ·rw[A8 (by decide),HN.o] at h4;cases h4
  |9,_=>
   have O:=hM.not_yet c
   have lA:f.getD 8 false=true:=hM.came c 8 (by kernel_rfl)
   obtain ⟨b,R,E,z⟩:=m.o.one O lA
   have B:=hM.dep c 6 49 (by kernel_rfl) (by kernel_rfl)
   unfold G5 at B
   simp only at B
   have HL:Hid (9 < f.size):=yb (by rw[W];show 9 < 11;omega)
   have X:=R
   rw[yB] at R
   refine wp_store_row 44 (.tmp 9) (.tmp 49) (by obtain rfl:=yi n;rfl) b #[iV m1,iV F] (by simpa[Act.eval] using R) (by simpa[Act.eval] using B) 44 j5 z (by kernel_rfl) (by kernel_rfl) (by simp[Value.oneCell']) ?_
   obtain rfl:=yi n
   refine ⟨undef,rfl,⟨CH m.o.below E _,fun T=>?_,fun _=>⟨b,X,E,qp _ _ _ _ _ _ z⟩⟩,fun g row P=>?_,trivial⟩
   ·simp[HL.o] at T
   ·rw[Cr _ _ (fun e=>by rw[e,z] at P;cases P)];exact P
  |10,_=>
   have N:=hM.dep c 7 50 (by kernel_rfl) (by kernel_rfl)
   unfold G5 at N
   simp only at N
   clear l
   obtain rfl:=yi n
   go_simp
   exact ⟨_,rfl,m.o.quiet (by decide) (by decide) (yg _ _),EN.refl _,rfl⟩
 ·intro f a w' y hM
  obtain ⟨b,k1,k2,k3⟩:=hM.ext.two (y 9 (show 9 < 11 by omega))
  have hE:=hM.done 10 (y 10 (show 10 < 11 by omega)) _ 10 rfl rfl
  unfold G5 at hE
  simp only at hE
  refine hQ a w' b (hM.tmps.trans U) hM.defers (fun t ht=>hM.free t fun mm a2 o n hd=>ht ?_) k1 hE hM.ext.below k2 k3
  have hs:=Hi (ops:=(Tryz.f7.body.bind (CK 6)).getD #[]) (p:=fun o=>match o.dst with|some k=>decide (k∈[44,45,46,47,48,43,49,50,9,10])|none=>true) (by kernel_rfl) n
  rw[hd] at hs
  exact yR hs
def G6(W:World)(cs:LV)(m1 a er:Int)(j:Nat)(v:Value)(w:World):Prop:=match j with
 |0=>v=.agg cs.toArray
 |1=>v=.agg #[.int .i64 1,.int .i64 1,.int .i64 0,.string ⟨#[]⟩,.int .i64 0,.slice none 0 0]
 |2=>v=.agg #[.int .i64 1,.int .i64 0,.int .i64 0,.string ⟨#[]⟩,.int .i64 0,.slice none 0 0]
 |3=>∃g:Nat,v=.agg #[.int .i64 6,.int .i64 0,.int .i64 0,.string ⟨#[]⟩,.int .i64 0,.slice (some ⟨g,0,none⟩) 2 2]∧w.heap[g]?=some (.cells #[.int .i64 1,.int .i64 1,.int .i64 0,.string ⟨#[]⟩,.int .i64 0,.slice none 0 0,.int .i64 1,.int .i64 0,.int .i64 0,.string ⟨#[]⟩,.int .i64 0,.slice none 0 0] 26 (0,0))
 |4=>v=.tuple #[.agg #[.int .i64 m1,.int .i64 a],.int .i64 er]
 |5=>v=.tuple #[.agg #[.int .i64 m1,.int .i64 a],.int .i64 er]
 |6=>v=.agg #[.int .i64 m1,.int .i64 a]
 |7=>v=.int .i64 er
 |10=>v=.int .i64 er
 |_=>True
theorem Tx(W:World)(cs:LV)(m1 a er:Int)(j:Nat)(v:Value)(w w':World)(b:EN w w')(h:G6 W cs m1 a er j v w):G6 W cs m1 a er j v w':=by
 match j,h with
 |0,h=>exact h
 |1,h=>exact h
 |2,h=>exact h
 |3,h=>
  obtain ⟨g,h0,h1⟩:=h
  exact ⟨g,h0,b _ _ h1⟩
 |4,h=>exact h
 |5,h=>exact h
 |6,h=>exact h
 |7,h=>exact h
 |8,h=>exact h
 |9,h=>exact h
 |10,h=>exact h
 |_+11,h=>exact h
theorem RX{L:Act}{W0:World}{Q:QT}{B1:Nat}{cs:LV}{x:Ax}{m1 E er:Int}(ops:Array Oper)(u:DH Tryz.f7 7=some ops)
 (a0:L.tmps.getD 1 undef=.pointer (some ⟨B1,0,none⟩))(U:L.tmps.size=141)(J:B1 < W0.heap.size)(l:W0.rangeAt B1 0 cs)(F:(Tryz.prog.info? 35).map (·.size)=some cs.length)(hS:DI W0 cs x)(hm:Bm x (Ls 6 (Bo 1 0) (Bo 0 0))=(⟨⟨m1,E⟩,er⟩:Rt × Int))
 (hQ:∀(a:Act) w1 b,a.tmps.size=141->a.defers=L.defers->(∀t,t∉[52,53,54,55,56,51,57,58,11,12]->a.tmps.getD t undef=L.tmps.getD t undef)->a.tmps.getD 11 undef=.pointer (some ⟨b,0,none⟩)->a.tmps.getD 12 undef=.int .i64 er->Below W0.heap.size W0 w1->W0.heap.size<=b->w1.heap[b]?=some (.cells #[.int .i64 m1,.int .i64 E] 44 (0,0))->Q .normal a w1):
  (Code.region 7 ops true).wp Tryz.prog Q L W0:=by
 obtain rfl:=yi ((rfl:DH Tryz.f7 7=some _).symm.trans u)
 clear u
 have HM:=yb hm
 have HS:=yb hS
 have Y:=yb F
 clear hm hS F
 refine BN (by kernel_rfl) (V6 W0 8 9 11 j5 #[iV m1,iV E] 44) (G6 W0 cs m1 E er) (fun _=>EN) (by kernel_rfl) (by rw[U];kernel_rfl) (by kernel_rfl) (fun _ j v w w' _ _ hl h=>Tx _ _ _ _ _ j v w w' hl h) ⟨(yg _ _).drew,fun _ h=>(by cases h),fun h=>(by cases h)⟩ ?_ ?_
 ·intro ix f a w' hM c o n
  have m:=yb hM.ext
  have S:=(yd.1 n).1
  have W:=hM.size
  have Z:Hid (a.tmps.size=141):=yb (hM.tmps.trans U)
  match ix,S with
  |0,_=>
   have d:=hM.old c 1 (by kernel_rfl) _ a0
   have V:=yb (A0 l (m.o.below.block _ J))
   clear l
   obtain rfl:=yi n
   refine xL 35 _ rfl B1 0 (by simpa[Act.eval] using d) cs _ V.o qP rfl Y.o ?_
   exact ⟨_,rfl,m.o.quiet (by decide) (by decide) (yg _ _),EN.refl _,rfl⟩
  |1,_=>
   clear l
   obtain rfl:=yi n
   go_simp
   refine (Bj 1 0 _).mono ?_
   rintro e w2 ⟨rfl,i⟩
   exact ⟨_,rfl,m.o.quiet (by decide) (by decide) i,EN.below i,rfl⟩
  |2,_=>
   clear l
   obtain rfl:=yi n
   go_simp
   refine (Bj 0 0 _).mono ?_
   rintro e w2 ⟨rfl,i⟩
   exact ⟨_,rfl,m.o.quiet (by decide) (by decide) i,EN.below i,rfl⟩
  |3,_=>
   have C:=hM.dep c 1 53 (by kernel_rfl) (by kernel_rfl)
   unfold G6 at C
   simp only at C
   have N:=hM.dep c 2 54 (by kernel_rfl) (by kernel_rfl)
   unfold G6 at N
   simp only at N
   clear l
   obtain rfl:=yi n
   go_simp
   refine (Ii 6 _ _ _ _ _ _ _ _ _ _ _ _ _ _ _ _ _).mono ?_
   rintro e w2 ⟨g,rfl,P,G,i⟩
   exact ⟨_,rfl,m.o.quiet (by decide) (by decide) i,EN.below i,g,rfl,G⟩
  |4,_=>
   have H:=hM.dep c 0 52 (by kernel_rfl) (by kernel_rfl)
   unfold G6 at H
   simp only at H
   have s:=hM.dep c 3 55 (by kernel_rfl) (by kernel_rfl)
   unfold G6 at s
   simp only at s
   obtain ⟨g,s,B⟩:=s
   have q:=DK (HS.o.up m.o.below) (Ij 6 (yd.1 B).1 (ca:=xC 1 1 0 G9 0) (cb:=xC 1 0 0 G9 0) B (BW 1 0) (BW 0 0):AH (fun b=>b < w'.heap.size) w' (Ls 6 (Bo 1 0) (Bo 0 0)) (tC 6 g))
   rw[HM.o] at q
   clear B l
   obtain rfl:=yi n
   go_simp
   refine q.mono ?_
   rintro e w2 ⟨rfl,i⟩
   exact ⟨_,rfl,m.o.quiet (by decide) (by decide) i,EN.below i,rfl⟩
  |5,_=>
   have M:=hM.dep c 4 56 (by kernel_rfl) (by kernel_rfl)
   unfold G6 at M
   simp only at M
   clear l
   obtain rfl:=yi n
   go_simp
   exact ⟨_,rfl,m.o.quiet (by decide) (by decide) (yg _ _),EN.refl _,rfl⟩
  |6,_=>
   have r:=hM.dep c 5 51 (by kernel_rfl) (by kernel_rfl)
   unfold G6 at r
   simp only at r
   clear l
   obtain rfl:=yi n
   go_simp
   exact ⟨_,rfl,m.o.quiet (by decide) (by decide) (yg _ _),EN.refl _,rfl⟩
  |7,_=>
   have r:=hM.dep c 5 51 (by kernel_rfl) (by kernel_rfl)
   unfold G6 at r
   simp only at r
   clear l
   obtain rfl:=yi n
   go_simp
   exact ⟨_,rfl,m.o.quiet (by decide) (by decide) (yg _ _),EN.refl _,rfl⟩
  |8,_=>
   have O:f.getD 9 false=false:=by
    rw[ym];intro T
    have:=A1 hM.down 12 9 8 (by kernel_rfl) T
    rw[hM.not_yet c] at this;cases this
   have HN:=yb O
   have HT:Hid (11 < a.tmps.size):=yb (by rw[Z.o];decide)
   clear l O
   obtain rfl:=yi n
   go_simp
   have K:Below w'.heap.size w' (w'.alloc (.cells j5 44)):=(yg _ _).alloc (yf _) _
   refine ⟨_,rfl,⟨m.o.below.trans (K.mono m.o.below.size),fun _ _=>⟨w'.heap.size,?_,m.o.below.size,World.alloc_heap_new _ _⟩,fun h4=>?_⟩,EN.below K,trivial⟩
   ·show (a.put (some 11) (pV w'.heap.size 0)).tmps.getD 11 undef=_
    exact Au _ HT.o
   ·rw[A8 (by decide),HN.o] at h4;cases h4
  |9,_=>
   have O:=hM.not_yet c
   have lA:f.getD 8 false=true:=hM.came c 8 (by kernel_rfl)
   obtain ⟨b,R,D,z⟩:=m.o.one O lA
   have A:=hM.dep c 6 57 (by kernel_rfl) (by kernel_rfl)
   unfold G6 at A
   simp only at A
   have HL:Hid (9 < f.size):=yb (by rw[W];show 9 < 11;omega)
   have X:=R
   rw[yB] at R
   refine wp_store_row 44 (.tmp 11) (.tmp 57) (by obtain rfl:=yi n;rfl) b #[iV m1,iV E] (by simpa[Act.eval] using R) (by simpa[Act.eval] using A) 44 j5 z (by kernel_rfl) (by kernel_rfl) (by simp[Value.oneCell']) ?_
   obtain rfl:=yi n
   refine ⟨undef,rfl,⟨CH m.o.below D _,fun T=>?_,fun _=>⟨b,X,D,qp _ _ _ _ _ _ z⟩⟩,fun g row P=>?_,trivial⟩
   ·simp[HL.o] at T
   ·rw[Cr _ _ (fun e=>by rw[e,z] at P;cases P)];exact P
  |10,_=>
   have I:=hM.dep c 7 58 (by kernel_rfl) (by kernel_rfl)
   unfold G6 at I
   simp only at I
   clear l
   obtain rfl:=yi n
   go_simp
   exact ⟨_,rfl,m.o.quiet (by decide) (by decide) (yg _ _),EN.refl _,rfl⟩
 ·intro f a w' y hM
  obtain ⟨b,k1,k2,k3⟩:=hM.ext.two (y 9 (show 9 < 11 by omega))
  have hE:=hM.done 10 (y 10 (show 10 < 11 by omega)) _ 12 rfl rfl
  unfold G6 at hE
  simp only at hE
  refine hQ a w' b (hM.tmps.trans U) hM.defers (fun t ht=>hM.free t fun mm a2 o n hd=>ht ?_) k1 hE hM.ext.below k2 k3
  have hs:=Hi (ops:=(Tryz.f7.body.bind (CK 7)).getD #[]) (p:=fun o=>match o.dst with|some k=>decide (k∈[52,53,54,55,56,51,57,58,11,12])|none=>true) (by kernel_rfl) n
  rw[hd] at hs
  exact yR hs
def H3(W:World)(cs:LV)(m1 a er:Int)(j:Nat)(v:Value)(w:World):Prop:=match j with
 |0=>v=.agg cs.toArray
 |1=>v=.agg #[.int .i64 1,.int .i64 1073741825,.int .i64 0,.string ⟨#[]⟩,.int .i64 0,.slice none 0 0]
 |2=>v=.tuple #[.agg #[.int .i64 m1,.int .i64 a],.int .i64 er]
 |3=>v=.tuple #[.agg #[.int .i64 m1,.int .i64 a],.int .i64 er]
 |4=>v=.agg #[.int .i64 m1,.int .i64 a]
 |5=>v=.int .i64 er
 |8=>v=.int .i64 er
 |_=>True
theorem Tz(W:World)(cs:LV)(m1 a er:Int)(j:Nat)(v:Value)(w w':World)(b:EN w w')(h:H3 W cs m1 a er j v w):H3 W cs m1 a er j v w':=by
 match j,h with
 |0,h=>exact h
 |1,h=>exact h
 |2,h=>exact h
 |3,h=>exact h
 |4,h=>exact h
 |5,h=>exact h
 |6,h=>exact h
 |7,h=>exact h
 |8,h=>exact h
 |_+9,h=>exact h
theorem RY{I:Act}{W0:World}{Q:QT}{B1:Nat}{cs:LV}{x:Ax}{m1 B er:Int}(ops:Array Oper)(s:DH Tryz.f7 8=some ops)
 (X:I.tmps.getD 1 undef=.pointer (some ⟨B1,0,none⟩))(O:I.tmps.size=141)(G:B1 < W0.heap.size)(i:W0.rangeAt B1 0 cs)(C:(Tryz.prog.info? 35).map (·.size)=some cs.length)(Z:DI W0 cs x)(hm:Bm x (Bo 1073741825 0)=(⟨⟨m1,B⟩,er⟩:Rt × Int))
 (hQ:∀(a:Act) w1 b,a.tmps.size=141->a.defers=I.defers->(∀t,t∉[60,61,62,59,63,64,13,14]->a.tmps.getD t undef=I.tmps.getD t undef)->a.tmps.getD 13 undef=.pointer (some ⟨b,0,none⟩)->a.tmps.getD 14 undef=.int .i64 er->Below W0.heap.size W0 w1->W0.heap.size<=b->w1.heap[b]?=some (.cells #[.int .i64 m1,.int .i64 B] 44 (0,0))->Q .normal a w1):
  (Code.region 8 ops true).wp Tryz.prog Q I W0:=by
 obtain rfl:=yi ((rfl:DH Tryz.f7 8=some _).symm.trans s)
 clear s
 have HM:=yb hm
 have HS:=yb Z
 have U:=yb C
 clear hm Z C
 refine BN (by kernel_rfl) (V6 W0 6 7 13 j5 #[iV m1,iV B] 44) (H3 W0 cs m1 B er) (fun _=>EN) (by kernel_rfl) (by rw[O];kernel_rfl) (by kernel_rfl) (fun _ j v w w' _ _ hl h=>Tz _ _ _ _ _ j v w w' hl h) ⟨(yg _ _).drew,fun _ h=>(by cases h),fun h=>(by cases h)⟩ ?_ ?_
 ·intro ix c a w' hM f o m
  have l:=yb hM.ext
  have M:=(yd.1 m).1
  have S:=hM.size
  have V:Hid (a.tmps.size=141):=yb (hM.tmps.trans O)
  match ix,M with
  |0,_=>
   have d:=hM.old f 1 (by kernel_rfl) _ X
   have P:=yb (A0 i (l.o.below.block _ G))
   clear i
   obtain rfl:=yi m
   refine xL 35 _ rfl B1 0 (by simpa[Act.eval] using d) cs _ P.o qP rfl U.o ?_
   exact ⟨_,rfl,l.o.quiet (by decide) (by decide) (yg _ _),EN.refl _,rfl⟩
  |1,_=>
   clear i
   obtain rfl:=yi m
   go_simp
   refine (Bj 1073741825 0 _).mono ?_
   rintro e w2 ⟨rfl,r⟩
   exact ⟨_,rfl,l.o.quiet (by decide) (by decide) r,EN.below r,rfl⟩
  |2,_=>
   have E:=hM.dep f 0 60 (by kernel_rfl) (by kernel_rfl)
   unfold H3 at E
   simp only at E
   have D:=hM.dep f 1 61 (by kernel_rfl) (by kernel_rfl)
   unfold H3 at D
   simp only at D
   have n:=DK (HS.o.up l.o.below) (BW 1073741825 0:AH (fun b=>b < w'.heap.size) w' (Bo 1073741825 0) (xC 1 1073741825 0 G9 0))
   rw[HM.o] at n
   skip
   clear i
   obtain rfl:=yi m
   go_simp
   refine n.mono ?_
   rintro e w2 ⟨rfl,r⟩
   exact ⟨_,rfl,l.o.quiet (by decide) (by decide) r,EN.below r,rfl⟩
  |3,_=>
   have F:=hM.dep f 2 62 (by kernel_rfl) (by kernel_rfl)
   unfold H3 at F
   simp only at F
   clear i
   obtain rfl:=yi m
   go_simp
   exact ⟨_,rfl,l.o.quiet (by decide) (by decide) (yg _ _),EN.refl _,rfl⟩
  |4,_=>
   have q:=hM.dep f 3 59 (by kernel_rfl) (by kernel_rfl)
   unfold H3 at q
   simp only at q
   clear i
   obtain rfl:=yi m
   go_simp
   exact ⟨_,rfl,l.o.quiet (by decide) (by decide) (yg _ _),EN.refl _,rfl⟩
  |5,_=>
   have q:=hM.dep f 3 59 (by kernel_rfl) (by kernel_rfl)
   unfold H3 at q
   simp only at q
   clear i
   obtain rfl:=yi m
   go_simp
   exact ⟨_,rfl,l.o.quiet (by decide) (by decide) (yg _ _),EN.refl _,rfl⟩
  |6,_=>
   have K:c.getD 7 false=false:=by
    rw[ym];intro N
    have:=A1 hM.down 12 7 6 (by kernel_rfl) N
    rw[hM.not_yet f] at this;cases this
   have HN:=yb K
   have HT:Hid (13 < a.tmps.size):=yb (by rw[V.o];decide)
   clear i K
   obtain rfl:=yi m
   go_simp
   have H:Below w'.heap.size w' (w'.alloc (.cells j5 44)):=(yg _ _).alloc (yf _) _
   refine ⟨_,rfl,⟨l.o.below.trans (H.mono l.o.below.size),fun _ _=>⟨w'.heap.size,?_,l.o.below.size,World.alloc_heap_new _ _⟩,fun Y=>?_⟩,EN.below H,trivial⟩
   ·show (a.put (some 13) (pV w'.heap.size 0)).tmps.getD 13 undef=_
    exact Au _ HT.o
   ·rw[A8 (by decide),HN.o] at Y;cases Y
  |7,_=>
   have K:=hM.not_yet f
   have lA:c.getD 6 false=true:=hM.came f 6 (by kernel_rfl)
   obtain ⟨b,L,A,y⟩:=l.o.one K lA
   have z:=hM.dep f 4 63 (by kernel_rfl) (by kernel_rfl)
   unfold H3 at z
   simp only at z
   have HL:Hid (7 < c.size):=yb (by rw[S];show 7 < 9;omega)
   have T:=L
   rw[yB] at L
   refine wp_store_row 44 (.tmp 13) (.tmp 63) (by obtain rfl:=yi m;rfl) b #[iV m1,iV B] (by simpa[Act.eval] using L) (by simpa[Act.eval] using z) 44 j5 y (by kernel_rfl) (by kernel_rfl) (by simp[Value.oneCell']) ?_
   obtain rfl:=yi m
   refine ⟨undef,rfl,⟨CH l.o.below A _,fun N=>?_,fun _=>⟨b,T,A,qp _ _ _ _ _ _ y⟩⟩,fun g row R=>?_,trivial⟩
   ·simp[HL.o] at N
   ·rw[Cr _ _ (fun e=>by rw[e,y] at R;cases R)];exact R
  |8,_=>
   have J:=hM.dep f 5 64 (by kernel_rfl) (by kernel_rfl)
   unfold H3 at J
   simp only at J
   clear i
   obtain rfl:=yi m
   go_simp
   exact ⟨_,rfl,l.o.quiet (by decide) (by decide) (yg _ _),EN.refl _,rfl⟩
 ·intro c a w' u hM
  obtain ⟨b,k1,k2,k3⟩:=hM.ext.two (u 7 (show 7 < 9 by omega))
  have W:=hM.done 8 (u 8 (show 8 < 9 by omega)) _ 14 rfl rfl
  unfold H3 at W
  simp only at W
  refine hQ a w' b (hM.tmps.trans O) hM.defers (fun t ht=>hM.free t fun mm a0 o m hd=>ht ?_) k1 W hM.ext.below k2 k3
  have hs:=Hi (ops:=(Tryz.f7.body.bind (CK 8)).getD #[]) (p:=fun o=>match o.dst with|some k=>decide (k∈[60,61,62,59,63,64,13,14])|none=>true) (by kernel_rfl) m
  rw[hd] at hs
  exact yR hs
set_option linter.unusedSimpArgs false
theorem RZ:∀e∈Ay (DO BO),AB e.1<=1000000:=fun e a=>
 yR (yU.1 (show (Ay (DO BO)).all (fun e=>decide (AB e.1<=1000000))=true by kernel_rfl) e a)
theorem PU:∀e∈Ay (DO (Bo 40 1)),AB e.1<=1000000:=fun e a=>
 yR (yU.1 (show (Ay (DO (Bo 40 1))).all (fun e=>decide (AB e.1<=1000000))=true by kernel_rfl) e a)
mutual
def Oy:Ex->Bool
 |.mk _ _ _ _ _ l=>decide (l.length<=100000)&&N7 l
def N7:List Ex->Bool
 |[]=>true
 |e::r=>Oy e&&N7 r
end
mutual
theorem N8:∀ {e:Ex},Oy e=true->FU e
 |.mk _ _ _ _ _ l,h=>by
  rw[Oy,yF,z7] at h
  rw[FU];exact ⟨h.1,Oz h.2⟩
theorem Oz:∀ {l:List Ex},N7 l=true->GP l
 |[],_=>by rw[GP];trivial
 |e::r,h=>by
  rw[N7,yF] at h
  rw[GP];exact ⟨N8 h.1,Oz h.2⟩
end
theorem S0:∀e∈Ay (DO BO),FU e.1:=fun e a=>N8 (yU.1 (show (Ay (DO BO)).all (fun e=>Oy e.1)=true by kernel_rfl) e a)
theorem PV:∀e∈Ay (DO (Bo 40 1)),FU e.1:=fun e a=>N8 (yU.1 (show (Ay (DO (Bo 40 1))).all (fun e=>Oy e.1)=true by kernel_rfl) e a)
theorem TA(cap:Ex)(h:∀e∈Ay (DO cap),FU e.1):MB (DO cap):=⟨by simp[DO],by simp[DO],by simp[DO],by simp[DO],by simp[DO],by simp[DO],by simp[DO],by simp[DO],h⟩
set_option linter.unusedSimpArgs false
set_option linter.unusedVariables false
theorem D3{ops:Array Oper}{rest:List Oper}{op:Oper}{a:Act}{w:World}{Q:QT}(i:Region.wanted op (yielded ops a.tmps)=true)(ty:TypeId)(x:Operand)(c:op.op=.load ty x)
 (b o:Nat)(g:a.eval x=.pointer (some ⟨b,o,none⟩))(cs:LV)(d:TypeDesc)(f:w.rangeAt b o cs)(e:Tryz.prog.underlying ty=some d)(hd:d.isRow=true)(hi:(Tryz.prog.info? ty).map (·.size)=some cs.length)
 (h:wpList Tryz.prog ops Q rest (a.put op.dst (.agg cs.toArray)) w):wpList Tryz.prog ops Q (op::rest) a w:=
 wpList_step fun K j=>by rw[yD i];exact xL ty x c b o g cs d f e hd hi (j _ _ h)
structure PW (lo:Nat) (W:World) (g13 g16 g18 g28 g31 g36:Nat) (capc:List Value):Prop where
 lo13:lo<=g13∧lo<=g16∧lo<=g18∧lo<=g28∧lo<=g31∧lo<=g36
 b13:W.heap[g13]?=some (.cells #[.string ⟨#[107]⟩,.int .i64 1,.int .i64 3,.int .i64 2,.string ⟨#[]⟩,.int .i64 0,.slice none 0 0] 50 (0,0))
 b16:W.heap[g16]?=some (.cells #[.int .i64 1,.int .i64 7,.int .i64 1,.string ⟨#[]⟩,.int .i64 0,.slice none 0 0,.int .i64 1,.int .i64 1,.int .i64 5,.string ⟨#[]⟩,.int .i64 0,.slice none 0 0] 26 (0,0))
 b18:W.heap[g18]?=some (.cells #[.string ⟨#[99]⟩,.int .i64 6,.int .i64 0,.int .i64 0,.string ⟨#[]⟩,.int .i64 0,.slice (some ⟨g16,0,none⟩) 2 2] 92 (0,0))
 b28:W.heap[g28]?=some (.cells #[.int .i64 1,.int .i64 1,.int .i64 0,.string ⟨#[]⟩,.int .i64 0,.slice none 0 0,.int .i64 1,.int .i64 8,.int .i64 0,.string ⟨#[]⟩,.int .i64 0,.slice none 0 0] 26 (0,0))
 b31:W.heap[g31]?=some (.cells (Lb++(capc++Ld g28)).toArray 66 (0,0))
 b36:W.heap[g36]?=some (.cells #[.string ⟨#[102]⟩,.string ⟨#[114]⟩,.int .i64 0,.bool false,.int .i64 1,.int .i64 20,.int .i64 5,.string ⟨#[]⟩,.int .i64 0,.slice none 0 0,.string ⟨#[99]⟩,.int .i64 0] 94 (0,0))
theorem PW.up{lo:Nat}{W W':World}{b f i c d e:Nat}{a:LV}(h:PW lo W b f i c d e a)(hb:Below W.heap.size W W'):PW lo W' b f i c d e a:=by
 have k:∀ {g:Nat} {o:Obj},W.heap[g]?=some o->W'.heap[g]?=some o:=fun j=>(hb.block _ (yd.1 j).1).trans j
 exact ⟨h.lo13,k h.b13,k h.b16,k h.b18,k h.b28,k h.b31,k h.b36⟩
theorem PW.ok{lo:Nat}{W:World}{f m j l c i:Nat}{a:LV}{cap:Ex}(h:PW lo W f m j l c i a)(d:AH (fun b=>b < W.heap.size) W cap a)(q:GV W)(p:GU W)(hs:∀e∈Ay (DO cap),FU e.1)(hd:∀e∈Ay (DO cap),AB e.1<=1000000):DI W (Le f j c i) (DO cap):=by
 have k:∀ {g:Nat} {o:Obj},W.heap[g]?=some o->g < W.heap.size:=fun n=>(yd.1 n).1
 exact ⟨⟨_,Ur d (k h.b13) (k h.b16) (k h.b18) (k h.b28) (k h.b31) (k h.b36) h.b13 h.b16 h.b18 h.b28 h.b31 h.b36⟩,TA cap hs,q,p,hd⟩
def Lf(W:World)(gf:Nat):Prop:=W.heap[gf]?=some (.cells #[.int .i64 1,.int .i64 40,.int .i64 1,.string ⟨#[]⟩,.int .i64 0,.slice none 0 0,.int .i64 1,.int .i64 1,.int .i64 3,.string ⟨#[]⟩,.int .i64 0,.slice none 0 0] 26 (0,0))
theorem Ut{W:World}{gf:Nat}(h:Lf W gf):AH (fun b=>b < W.heap.size) W BO (tC 6 gf):=
 Ij 6 (yd.1 h).1 (ca:=xC 1 40 1 G9 0) (cb:=xC 1 1 3 G9 0) h (BW 40 1) (BW 1 3)
theorem Lf.up{W W':World}{gf:Nat}(h:Lf W gf)(hb:Below W.heap.size W W'):Lf W' gf:=(hb.block _ (yd.1 h).1).trans h
theorem OA(w:World):Calls Tryz.prog 21 #[] w fun e w'=>∃(gf b g d f a c:Nat),e=.returned (.agg (Le b d a c).toArray)∧PW w.heap.size w' b g d f a c (tC 6 gf)∧Lf w' gf∧w.heap.size<=gf∧Below w.heap.size w w':=by
 refine (Ox w).mono ?_
 rintro e w' ⟨B,gf,cells,rfl,s,o,p,h,q,hb⟩
 unfold Cz at o
 simp only at o
 obtain ⟨b,g,d,f,a,c,r,j,i,m,k,n,l⟩:=o
 cases r
 refine ⟨gf,b,g,d,f,a,c,rfl,⟨⟨qm (xF h j.1),qm (xF h i.1),qm (xF h m.1),qm (xF h k.1),qm (xF h n.1),qm (xF h l.1)⟩,j.2,i.2,m.2,k.2,n.2,l.2⟩,p,q,hb⟩
theorem TB{w:World}(hv:GV w)(hu:GU w):Calls Tryz.prog 7 #[] w fun e w'=>e=.returned (.bool true)∧Below w.heap.size w w':=by
 have HV:=yb hv
 have HU:=yb hu
 clear hv hu
 go_enter Tryz.func7,Tryz.ntmps7
 refine Ae fun K k=>?_
 go_wp2
 refine k.o _ _ ?_
 clear k K
 refine Ae fun K k=>?_
 go_wp2_with (first
  |(go_at_call 21;go_loud ((with_reducible refine (OA _).mono ?_);rintro e w1 ⟨gf,an,dd,ak,ce,D,al,rfl,hm,hf,d6,hb⟩;have HA:=yb (And.intro hm (And.intro hf (And.intro d6 hb)));clear hm hf d6 hb;obtain ⟨B,aj⟩:∃B,B=Le an ak D al:=⟨_,rfl⟩;rw[<-aj];have ba:=yb aj;have HL:Hid (B.length=26):=yb (by cases aj;rfl);have cu:Hid (∀v∈B,v.oneCell'=true):=yb (by cases aj;exact yU.1 (show (Le an ak D al).all (fun v=>v.oneCell')=true by rfl));clear aj))
  |(with_reducible refine za rfl 35 _ _ rfl w1.heap.size B.toArray (by kernel_rfl) (by kernel_rfl) 35 _ (World.alloc_heap_new _ _) (by rw[yM,HL.o];kernel_rfl) (by simp[HL.o]) (z6 cu.o) ?_;rw[World.setRow_alloc_new]))
 refine k.o _ _ ?_
 clear k K
 have bh:=(yg w1.heap.size w1).alloc (yf _) (.cells B.toArray 35)
 have bg:=World.alloc_heap_new w1 (.cells B.toArray 35)
 have cl:Below w.heap.size w (w1.alloc (.cells B.toArray 35)):=HA.o.2.2.2.trans (bh.mono HA.o.2.2.2.size)
 have c9:=yb (HA.o.1.up bh)
 have ck:=yb (HA.o.2.1.up bh)
 have c8:Hid (w.heap.size<=w1.heap.size):=yb HA.o.2.2.2.size
 have e5:=yb HA.o.2.2.1
 generalize da:w1.heap.size=b1 at bg c8 ⊢
 clear da bh
 generalize w1.alloc _=U at bg cl c9 ck ⊢
 have cd:=yb bg;have ci:=yb cl
 clear bg cl HA
 refine Ae fun K k=>?_
 go_wp2_with (first
  |(go_at_call 23;with_reducible refine (Bj 3 2 _).mono ?_;rintro e w2 ⟨rfl,h2⟩;have HA:=yb h2;clear h2)
  |(go_at_call 23;with_reducible refine (Bj 2 3 _).mono ?_;rintro e w3 ⟨rfl,h3⟩;have HB:=yb h3;clear h3)
  |(go_at_call 22;with_reducible refine (Ii 6 _ _ _ _ _ _ _ _ _ _ _ _ _ _ _ _ _).mono ?_;rintro e w4 ⟨gr,rfl,hg,r,ct⟩;have HC:=yb (And.intro hg (And.intro r ct));clear hg r ct))
 refine k.o _ _ ?_
 clear k K
 have cg:Below U.heap.size U w4:=(HA.o.trans (HB.o.mono HA.o.size)).trans (HC.o.2.2.mono (by have:=HA.o.size;have:=HB.o.size;omega))
 have z:=(yg w4.heap.size w4).alloc (yf _) (.cells #[iV 6,iV 0,iV 0,.string ⟨#[]⟩,iV 0,.slice (some (aV gr 0)) 2 2] 26)
 have f:=World.alloc_heap_new w4 (.cells #[iV 6,iV 0,iV 0,.string ⟨#[]⟩,iV 0,.slice (some (aV gr 0)) 2 2] 26)
 have bd:=(z.block gr (yd.1 HC.o.2.1).1).trans HC.o.2.1
 have ab:=cg.trans (z.mono cg.size)
 generalize de:w4.heap.size=b2 at f ⊢
 clear de cg z HA HB HC
 generalize w4.alloc _=V at f bd ab ⊢
 have bi:Hid (Below w.heap.size w V):=yb (ci.o.trans (ab.mono ci.o.size))
 have cv:=yb (c9.o.up ab)
 have dg:=yb (ck.o.up ab)
 have cn:Hid (V.heap[b1]?=some (.cells B.toArray 35 (0,0))):=yb ((ab.block _ (yd.1 cd.o).1).trans cd.o)
 have HS:Hid (DI V B (DO BO)):=yb (by
  rw[ba.o]
  exact cv.o.ok (Ut dg.o) (HV.o.below bi.o HV.o.1) (HU.o.up bi.o) S0 RZ)
 have cr:Hid (AH (fun b=>b < V.heap.size) V Tq (tC 6 gr)):=yb (Ij 6 (yd.1 bd).1 (ca:=xC 1 3 2 G9 0) (cb:=xC 1 2 3 G9 0) bd (BW 3 2) (BW 2 3))
 have cy:Hid (V.rangeAt b2 0 (tC 6 gr)):=yb (AA (t:=26) f)
 have M:Hid (V.rangeAt b1 0 B):=yb (AA cn.o)
 have y:Hid (b1 < V.heap.size∧b2 < V.heap.size∧w.heap.size<=b1):=yb ⟨(yd.1 cn.o).1,(yd.1 f).1,c8.o⟩
 have N:Hid ((Tryz.prog.info? 35).map (·.size)=some B.length):=yb (by rw[HL.o];kernel_rfl)
 have bz:=yb (IC HS.o cr.o)
 rw[Tr] at bz
 clear f bd ab c9 ck cd ci c8
 refine Ae fun K k=>?_
 go_wp2_with (first
  |(with_reducible refine yj rfl 35 _ rfl b1 0 (by kernel_rfl) B _ M.o qP rfl N.o ?_)
  |(with_reducible refine yj rfl 26 _ rfl b2 0 (by kernel_rfl) (tC 6 gr) _ cy.o qG rfl (by kernel_rfl) ?_)
  |(go_at_call 9;go_loud ((with_reducible refine bz.o.mono ?_);rintro e m ⟨rfl,W⟩;have j:=yb W;clear W;unfold Dm.v;dsimp only)))
 refine k.o _ _ ?_
 clear k K bz
 have z:=(yg m.heap.size m).alloc (yf _) (.cells #[iV 1,iV (-1),iV 0] 39)
 have f:=World.alloc_heap_new m (.cells #[iV 1,iV (-1),iV 0] 39)
 have ch:=j.o.trans (z.mono j.o.size)
 have cp:Hid (V.heap.size<=m.heap.size):=yb j.o.size
 generalize dc:m.heap.size=b3 at f cp ⊢
 clear dc z j
 generalize m.alloc _=W3 at f ch ⊢
 have S:=yb ch
 have bx:=yb f
 clear ch f
 have q:Hid (W3.rangeAt b1 0 B):=yb (A0 M.o (S.o.block _ y.o.1))
 have bt:Hid (W3.rangeAt b2 0 (tC 6 gr)):=yb (A0 cy.o (S.o.block _ y.o.2.1))
 have E:=yb (DK (HS.o.up S.o) (cr.o.same (fun b hb=>yu hb S.o.size) (fun b hb=>S.o.block b hb)))
 rw[RR] at E
 refine Ae fun K k=>?_
 go_wp2_with (first
  |(with_reducible refine yj rfl 35 _ rfl b1 0 (by kernel_rfl) B _ q.o qP rfl N.o ?_)
  |(with_reducible refine yj rfl 26 _ rfl b2 0 (by kernel_rfl) (tC 6 gr) _ bt.o qG rfl (by kernel_rfl) ?_)
  |(go_at_call 10;(with_reducible refine E.o.mono ?_);rintro e m ⟨rfl,W⟩;have j:=yb W;clear W;unfold Rt.v;dsimp only))
 refine k.o _ _ ?_
 clear k K E q bt
 have z:=(yg m.heap.size m).alloc (yf _) (.cells #[iV 1500,iV 1] 44)
 have f:=World.alloc_heap_new m (.cells #[iV 1500,iV 1] 44)
 have bb:=j.o.trans (z.mono j.o.size)
 have cq:Hid (V.heap.size<=m.heap.size):=yb (by have:=j.o.size;have:=S.o.size;omega)
 generalize d8:m.heap.size=b5 at f cq ⊢
 clear d8 z j
 generalize m.alloc _=W4 at f bb ⊢
 have ee:Hid (Below V.heap.size V W4):=yb (S.o.trans (bb.mono S.o.size))
 have dw:Hid (W4.heap[b3]?=some (.cells #[iV 1,iV (-1),iV 0] 39 (0,0))):=yb ((bb.block _ (yd.1 bx.o).1).trans bx.o)
 have ek:=yb f
 clear bb f S bx
 rename Hid (Below V.heap.size V W4)=>R
 rename Hid (W4.heap[b3]?=_)=>au
 rename Hid (W4.heap[b5]?=_)=>b4
 refine Ae fun K k=>?_
 obtain ⟨m1,m2,m3,hm⟩:∃m1 m2 m3:Int,DY (DO BO) (Ls 3 (Bo 3 1) (Bo 4 3))=((⟨m1,m2,m3⟩:Dm),(180:Int)):=⟨(DY (DO BO) (Ls 3 (Bo 3 1) (Bo 4 3))).1.l,(DY (DO BO) (Ls 3 (Bo 3 1) (Bo 4 3))).1.h,(DY (DO BO) (Ls 3 (Bo 3 1) (Bo 4 3))).1.a,by rw[<-Up]⟩
 refine RU (W0:=W4) (B1:=b1) (cs:=B) (x:=DO BO) (er:=180) _ rfl rfl rfl (yu y.o.1 R.o.size) (A0 M.o (R.o.block _ y.o.1)) N.o (HS.o.up R.o) hm ?_
 intro u W5 b7 H L J F s hb T r
 have e:=Gk [36,37,38,39,40,35,41,42,7,8] (H.trans rfl) L J
 clear hm
 simp only[qi,List.foldl_nil,zS,xB,xD] at e
 rw[F,s] at e
 generalize u.tmps.getD 36 undef=di at e
 generalize u.tmps.getD 37 undef=e2 at e
 generalize u.tmps.getD 38 undef=dk at e
 generalize u.tmps.getD 39 undef=e3 at e
 generalize u.tmps.getD 40 undef=dr at e
 generalize u.tmps.getD 35 undef=dx at e
 generalize u.tmps.getD 41 undef=ei at e
 generalize u.tmps.getD 42 undef=e4 at e
 subst e
 clear H L J F s
 have P:Hid (Below V.heap.size V W5):=yb (R.o.trans (hb.mono R.o.size))
 have ah:Hid (W5.heap[b3]?=some (.cells #[iV 1,iV (-1),iV 0] 39 (0,0))):=yb ((hb.block _ (yd.1 au.o).1).trans au.o)
 have af:Hid (W5.heap[b5]?=some (.cells #[iV 1500,iV 1] 44 (0,0))):=yb ((hb.block _ (yd.1 b4.o).1).trans b4.o)
 clear hb T r au b4 R
 refine k.o _ _ ?_
 clear k K
 refine Ae fun K k=>?_
 refine RW (W0:=W5) (B1:=b1) (cs:=B) (x:=DO BO) (er:=0) _ rfl rfl rfl (yu y.o.1 P.o.size) (A0 M.o (P.o.block _ y.o.1)) N.o (HS.o.up P.o) Ts ?_
 intro u W6 b9 H L J F s hb T r
 have e:=Gk [44,45,46,47,48,43,49,50,9,10] (H.trans rfl) L J
 simp only[qi,List.foldl_nil,zS,xB,xD] at e
 rw[F,s] at e
 generalize u.tmps.getD 44 undef=ej at e
 generalize u.tmps.getD 45 undef=eh at e
 generalize u.tmps.getD 46 undef=v46 at e
 generalize u.tmps.getD 47 undef=ef at e
 generalize u.tmps.getD 48 undef=dq at e
 generalize u.tmps.getD 43 undef=dy at e
 generalize u.tmps.getD 49 undef=dl at e
 generalize u.tmps.getD 50 undef=dm at e
 subst e
 clear H L J F s
 have O:Hid (Below V.heap.size V W6):=yb (P.o.trans (hb.mono P.o.size))
 have ai:Hid (W6.heap[b3]?=some (.cells #[iV 1,iV (-1),iV 0] 39 (0,0))):=yb ((hb.block _ (yd.1 ah.o).1).trans ah.o)
 have ax:Hid (W6.heap[b5]?=some (.cells #[iV 1500,iV 1] 44 (0,0))):=yb ((hb.block _ (yd.1 af.o).1).trans af.o)
 have b0:=yb r
 have dz:Hid (W5.heap.size<=b9):=yb T
 clear hb T r ah af P
 refine k.o _ _ ?_
 clear k K
 refine Ae fun K k=>?_
 obtain ⟨m1,m2,hm⟩:∃m1 m2:Int,Bm (DO BO) (Ls 6 (Bo 1 0) (Bo 0 0))=((⟨m1,m2⟩:Rt),(120:Int)):=⟨(Bm (DO BO) (Ls 6 (Bo 1 0) (Bo 0 0))).1.n,(Bm (DO BO) (Ls 6 (Bo 1 0) (Bo 0 0))).1.d,by rw[<-Uq]⟩
 refine RX (W0:=W6) (B1:=b1) (cs:=B) (x:=DO BO) (er:=120) _ rfl rfl rfl (yu y.o.1 O.o.size) (A0 M.o (O.o.block _ y.o.1)) N.o (HS.o.up O.o) hm ?_
 intro u W7 e8 H L J F s hb T r
 have e:=Gk [52,53,54,55,56,51,57,58,11,12] (H.trans rfl) L J
 clear hm
 simp only[qi,List.foldl_nil,zS,xB,xD] at e
 rw[F,s] at e
 generalize u.tmps.getD 52 undef=e7 at e
 generalize u.tmps.getD 53 undef=dv at e
 generalize u.tmps.getD 54 undef=eb at e
 generalize u.tmps.getD 55 undef=dn at e
 generalize u.tmps.getD 56 undef=dt at e
 generalize u.tmps.getD 51 undef=v51 at e
 generalize u.tmps.getD 57 undef=dp at e
 generalize u.tmps.getD 58 undef=e6 at e
 subst e
 clear H L J F s
 have Q:Hid (Below V.heap.size V W7):=yb (O.o.trans (hb.mono O.o.size))
 have b8:Hid (W7.heap[b3]?=some (.cells #[iV 1,iV (-1),iV 0] 39 (0,0))):=yb ((hb.block _ (yd.1 ai.o).1).trans ai.o)
 have ae:Hid (W7.heap[b5]?=some (.cells #[iV 1500,iV 1] 44 (0,0))):=yb ((hb.block _ (yd.1 ax.o).1).trans ax.o)
 have aw:Hid (W7.heap[b9]?=some (.cells #[iV (-6),iV 1] 44 (0,0))):=yb ((hb.block _ (yd.1 b0.o).1).trans b0.o)
 clear hb T r ai ax b0 O
 refine k.o _ _ ?_
 clear k K
 refine Ae fun K k=>?_
 obtain ⟨m1,m2,hm⟩:∃m1 m2:Int,Bm (DO BO) (Bo 1073741825 0)=((⟨m1,m2⟩:Rt),(2:Int)):=⟨(Bm (DO BO) (Bo 1073741825 0)).1.n,(Bm (DO BO) (Bo 1073741825 0)).1.d,by rw[<-RS]⟩
 refine RY (W0:=W7) (B1:=b1) (cs:=B) (x:=DO BO) (er:=2) _ rfl rfl rfl (yu y.o.1 Q.o.size) (A0 M.o (Q.o.block _ y.o.1)) N.o (HS.o.up Q.o) hm ?_
 intro u W8 b13 H L J F s hb T r
 have e:=Gk [60,61,62,59,63,64,13,14] (H.trans rfl) L J
 clear hm
 simp only[qi,List.foldl_nil,zS,xB,xD] at e
 rw[F,s] at e
 generalize u.tmps.getD 60 undef=du at e
 generalize u.tmps.getD 61 undef=ec at e
 generalize u.tmps.getD 62 undef=ed at e
 generalize u.tmps.getD 59 undef=dj at e
 generalize u.tmps.getD 63 undef=e9 at e
 generalize u.tmps.getD 64 undef=eg at e
 subst e
 clear H L J F s
 have X:Hid (Below V.heap.size V W8):=yb (Q.o.trans (hb.mono Q.o.size))
 have az:Hid (W8.heap[b3]?=some (.cells #[iV 1,iV (-1),iV 0] 39 (0,0))):=yb ((hb.block _ (yd.1 b8.o).1).trans b8.o)
 have ao:Hid (W8.heap[b5]?=some (.cells #[iV 1500,iV 1] 44 (0,0))):=yb ((hb.block _ (yd.1 ae.o).1).trans ae.o)
 have ap:Hid (W8.heap[b9]?=some (.cells #[iV (-6),iV 1] 44 (0,0))):=yb ((hb.block _ (yd.1 aw.o).1).trans aw.o)
 clear hb T r b8 ae aw Q
 refine k.o _ _ ?_
 clear k K
 obtain ⟨z1,z2,cz⟩:∃z1 z2:Int,Bm (DO BO) La=((⟨z1,z2⟩:Rt),(180:Int)):=⟨(Bm (DO BO) La).1.n,(Bm (DO BO) La).1.d,by rw[<-Tt]⟩
 have E:=yb (DK (HS.o.up X.o) ((VH:AH (fun b=>b < W8.heap.size) W8 La (xC 0 0 0 G9 0))))
 rw[cz] at E
 clear cz
 unfold xC G9 at E
 have q:Hid (W8.rangeAt b1 0 B):=yb (A0 M.o (X.o.block _ y.o.1))
 refine Ae fun K k=>?_
 go_wp2_with (first
  |(with_reducible refine yj rfl 35 _ rfl b1 0 (by kernel_rfl) B _ q.o qP rfl N.o ?_)
  |(go_at_call 10;(with_reducible refine E.o.mono ?_);rintro e m ⟨rfl,W⟩;have j:=yb W;clear W;unfold Rt.v;dsimp only))
 refine k.o _ _ ?_
 clear k K E q
 have z:=(yg m.heap.size m).alloc (yf _) (.cells #[iV z1,iV z2] 44)
 have f:=World.alloc_heap_new m (.cells #[iV z1,iV z2] 44)
 have hb:=j.o.trans (z.mono j.o.size)
 have cm:Hid (W8.heap.size<=m.heap.size):=yb j.o.size
 generalize d7:m.heap.size=dh at f cm ⊢
 clear d7 z j
 generalize m.alloc _=W9 at f hb ⊢
 have Y:Hid (Below V.heap.size V W9):=yb (X.o.trans (hb.mono X.o.size))
 have ad:Hid (W9.heap[b3]?=some (.cells #[iV 1,iV (-1),iV 0] 39 (0,0))):=yb ((hb.block _ (yd.1 az.o).1).trans az.o)
 have am:Hid (W9.heap[b5]?=some (.cells #[iV 1500,iV 1] 44 (0,0))):=yb ((hb.block _ (yd.1 ao.o).1).trans ao.o)
 have aq:Hid (W9.heap[b9]?=some (.cells #[iV (-6),iV 1] 44 (0,0))):=yb ((hb.block _ (yd.1 ap.o).1).trans ap.o)
 clear hb f X az ao ap
 have E:=yb (DK (HS.o.up Y.o) ((K3 2 0 0 sK 0 (by decide):AH (fun b=>b < W9.heap.size) W9 (DO BO).start (xC 2 0 0 sK 0))))
 rw[show Bm (DO BO) (Ex.mk 2 0 0 sK 0 [])=(⟨3000,1⟩,0) from RT] at E
 have q:Hid (W9.rangeAt b1 0 B):=yb (A0 M.o (Y.o.block _ y.o.1))
 have df:Hid (W9.rangeAt b1 13 (xC 2 0 0 sK 0)):=yb (Dx ((Le an ak D al).take 13) (xC 2 0 0 sK 0) ((Le an ak D al).drop 19) q.o (by rw[ba.o];rfl) rfl)
 refine Ae fun K k=>?_
 go_wp2_with (first
  |(with_reducible refine yj rfl 35 _ rfl b1 0 (by kernel_rfl) B _ q.o qP rfl N.o ?_)
  |(with_reducible refine yj rfl 26 _ rfl b1 13 (by kernel_rfl) (xC 2 0 0 sK 0) _ df.o qG rfl (by kernel_rfl) ?_)
  |(go_at_call 10;(with_reducible refine E.o.mono ?_);rintro e m ⟨rfl,W⟩;have j:=yb W;clear W;unfold Rt.v;dsimp only))
 refine k.o _ _ ?_
 clear k K E q
 have z:=(yg m.heap.size m).alloc (yf _) (.cells #[iV 3000,iV 1] 44)
 have f:=World.alloc_heap_new m (.cells #[iV 3000,iV 1] 44)
 have hb:=j.o.trans (z.mono j.o.size)
 have cj:Hid (W9.heap.size<=m.heap.size):=yb j.o.size
 generalize d3:m.heap.size=cc at f cj ⊢
 clear d3 z j
 generalize m.alloc _=ar at f hb ⊢
 have G:Hid (Below V.heap.size V ar):=yb (Y.o.trans (hb.mono Y.o.size))
 have a6:Hid (ar.heap[b3]?=some (.cells #[iV 1,iV (-1),iV 0] 39 (0,0))):=yb ((hb.block _ (yd.1 ad.o).1).trans ad.o)
 have a2:Hid (ar.heap[b5]?=some (.cells #[iV 1500,iV 1] 44 (0,0))):=yb ((hb.block _ (yd.1 am.o).1).trans am.o)
 have a7:Hid (ar.heap[b9]?=some (.cells #[iV (-6),iV 1] 44 (0,0))):=yb ((hb.block _ (yd.1 aq.o).1).trans aq.o)
 have Z:=yb f
 clear hb f Y ad am aq
 have ac:=yb (L9 (HS.o.up G.o) rfl rfl rfl (by simp[DO]) (by simp[DO]) (by simp[DO]))
 rw[RQ] at ac
 have q:Hid (ar.rangeAt b1 0 B):=yb (A0 M.o (G.o.block _ y.o.1))
 refine Ae fun K k=>?_
 go_wp2_with (first
  |(refine D3 rfl 35 _ rfl b1 0 rfl B _ q.o qP rfl N.o ?_)
  |(go_at_call 24;(with_reducible refine ac.o.mono ?_);rintro e m ⟨rfl,W⟩;have j:=yb W;clear W))
 refine k.o _ _ ?_
 clear k K ac q
 have C:Hid (Below V.heap.size V m):=yb (G.o.trans (j.o.mono G.o.size))
 have bn:Hid (m.heap[b3]?=some (.cells #[iV 1,iV (-1),iV 0] 39 (0,0))):=yb ((j.o.block _ (yd.1 a6.o).1).trans a6.o)
 have bk:Hid (m.heap[b5]?=some (.cells #[iV 1500,iV 1] 44 (0,0))):=yb ((j.o.block _ (yd.1 a2.o).1).trans a2.o)
 have bu:Hid (m.heap[b9]?=some (.cells #[iV (-6),iV 1] 44 (0,0))):=yb ((j.o.block _ (yd.1 a7.o).1).trans a7.o)
 have bo:Hid (m.heap[cc]?=some (.cells #[iV 3000,iV 1] 44 (0,0))):=yb ((j.o.block _ (yd.1 Z.o).1).trans Z.o)
 clear j G a6 a2 a7 Z
 have bv:=yb (cv.o.up C.o)
 have bp:Hid (m.rangeAt b1 0 B):=yb (A0 M.o (C.o.block _ y.o.1))
 have cx:Hid (m.cell? (aV b1 21)=some (.slice (some (aV D 0)) 1 1)):=yb (by
  have:=bp.o 21 (.slice (some (aV D 0)) 1 1) (by rw[ba.o];rfl)
  simpa using this)
 have db:Hid (b1 < m.heap.size):=yb (yu y.o.1 C.o.size)
 refine Ae fun K k=>?_
 refine DG (by kernel_rfl) (fun W'=>Below m.heap.size m W') 5 ?_
 have be:Hid (Below m.heap.size m m.drew):=yb (yg _ _).drew
 refine Bd (i:=0) (v:=pV b1 21) rfl (by kernel_rfl) (by kernel_rfl) (by kernel_rfl) (fun _ _ _ h=>h) (by kernel_rfl) (Or.inl ⟨by rfl,?_⟩) be.o ?_
 ·intro w' _;go_simp
 refine Bd (i:=1) (v:=.slice (some (aV D 0)) 1 1) rfl (by kernel_rfl) (by kernel_rfl) (by kernel_rfl) (fun _ _ _ h=>h) (by kernel_rfl) (Or.inl ⟨by rfl,?_⟩) be.o ?_
 ·intro w' d9
  have c:=(d9.cell (p:=(aV b1 21)) db.o).trans cx.o
  go_simp
 refine Ak (i:=2) (by kernel_rfl) rfl (fun K k=>?_)
 go_simp
 refine (Bj 40 1 _).mono ?_
 rintro e w6 ⟨rfl,d5⟩
 have a0:Hid (Below m.heap.size m w6):=yb (be.o.trans d5)
 clear d5
 refine k.o _ _ (fun _=>a0.o) ?_
 clear k K
 refine Ak (i:=3) (by kernel_rfl) rfl (fun K k=>?_)
 go_simp
 refine k.o _ _ (fun _=>a0.o) ?_
 clear k K
 refine Ak (i:=4) (by kernel_rfl) rfl (fun K k=>?_)
 go_simp
 refine k.o _ _ (fun _=>a0.o) ?_
 clear k K
 have I:=yb (bv.o.up a0.o)
 refine Ak (i:=5) (by kernel_rfl) rfl (fun K k=>?_)
 rw[yD (by rfl)]
 refine wp_store_mid 26 _ _ rfl D 9 #[iV 1,iV 40,iV 1,.string ⟨#[]⟩,iV 0,.slice none 0 0] rfl rfl (J5 I.o.b31 (by simp[Lb,tC,Ld])) (by kernel_rfl) (by simp[Value.oneCell']) ?_
 have hw:=AE D 66 [iV 1,iV 40,iV 1,.string ⟨#[]⟩,iV 0,.slice none 0 0] 9 w6 Lb (tC 6 gf) (Ld ce) I.o.b31 rfl rfl
 have co:Dj w6 (w6.setCells D 9 (#[iV 1,iV 40,iV 1,.string ⟨#[]⟩,iV 0,.slice none 0 0]:Array Value).toList) D (Lb++(xC 1 40 1 G9 0++Ld ce)) 66:=hw
 clear hw
 generalize w6.setCells _ _ _=A at co ⊢
 have HW:=yb co
 clear co
 refine k.o _ _ (by intro h;cases h) ?_
 clear k K
 refine DF (by kernel_rfl) ?_
 refine k.o _ _ ?_
 clear k K
 have HO:Hid (∀(g:Nat) (row:Array Value) (ty:TypeId),w6.heap[g]?=some (.cells row ty (0,0))->ty≠66->A.heap[g]?=some (.cells row ty (0,0))):=yb (fun g row ty h cf=>(HW.o.block g (fun e=>by
  rw[e,I.o.b31] at h
  exact cf (by injection h with h;injection h with h1 h2;exact h2.symm))).trans h)
 have bw:PW w.heap.size A an dd ak ce D al (xC 1 40 1 G9 0):=⟨I.o.lo13,HO.o _ _ _ I.o.b13 (by decide),HO.o _ _ _ I.o.b16 (by decide),HO.o _ _ _ I.o.b18 (by decide),HO.o _ _ _ I.o.b28 (by decide),HW.o.row,HO.o _ _ _ I.o.b36 (by decide)⟩
 have aa:Below w.heap.size w A:=HW.o.below (bi.o.trans ((C.o.trans (a0.o.mono C.o.size)).mono bi.o.size)) I.o.lo13.2.2.2.2.1
 have bq:DI A B (DO (Bo 40 1)):=by
  rw[ba.o]
  exact bw.ok (BW 40 1) (HV.o.below aa HV.o.1) (HU.o.up aa) PV PU
 have bj:=yb aa
 have ac:=yb (L9 bq rfl rfl rfl (by simp[DO]) (by simp[DO]) (by simp[DO]))
 rw[PT] at ac
 have up:∀ {g:Nat} {row:Array Value} {ty:TypeId},m.heap[g]?=some (.cells row ty (0,0))->ty≠66->A.heap[g]?=some (.cells row ty (0,0)):=fun h cf=>HO.o _ _ _ ((a0.o.block _ (yd.1 h).1).trans h) cf
 have bm:=up ((C.o.block _ y.o.1).trans cn.o) (by decide)
 have a8:=up bn.o (by decide)
 have ay:=up bk.o (by decide)
 have ag:=up bu.o (by decide)
 have av:=up bo.o (by decide)
 have d4:Hid (A.rangeAt b1 0 B):=yb (AA bm)
 have d0:A.cell? (aV b3 0)=some (iV 1):=by simp[World.cell?,a8]
 have d1:A.cell? (aV b3 1)=some (iV (-1)):=by simp[World.cell?,a8]
 have d2:A.cell? (aV b3 2)=some (iV 0):=by simp[World.cell?,a8]
 have e0:A.cell? (aV b5 0)=some (iV 1500):=by simp[World.cell?,ay]
 have e1:A.cell? (aV b5 1)=some (iV 1):=by simp[World.cell?,ay]
 have f0:A.cell? (aV b9 0)=some (iV (-6)):=by simp[World.cell?,ag]
 have f1:A.cell? (aV b9 1)=some (iV 1):=by simp[World.cell?,ag]
 have k0:A.cell? (aV cc 0)=some (iV 3000):=by simp[World.cell?,av]
 have k1:A.cell? (aV cc 1)=some (iV 1):=by simp[World.cell?,av]
 clear bw aa bq up bm a8 ay ag av bn bk bu bo bv I bp a0 be HO HW
 go_wp2_with (first
  |(refine D3 rfl 35 _ rfl b1 0 rfl B _ d4.o qP rfl N.o ?_)
  |(go_at_call 24;(with_reducible refine ac.o.mono ?_);rintro e ea ⟨rfl,W⟩;have cw:=yb W;clear W))
 go_ret
 exact ⟨rfl,bj.o.trans (cw.o.mono bj.o.size)⟩
def VP(_:Nat):Prop:=False
theorem V8{w:World}{e:Ex}{cs:LV}(h:AH (fun b=>b < w.heap.size) w e cs):AH (GF VP w) w e cs:=h.same (fun _ hb=>⟨fun h=>h,hb⟩) (fun _ _=>rfl)
theorem V9{w:World}{e:Ex}{cs:LV}(h:AH (GF VP w) w e cs):AH (fun b=>b < w.heap.size) w e cs:=h.same (fun _ hb=>hb.2) (fun _ _=>rfl)
structure Jh (w:World) (cs xs:List Value) (x:Ax) (e:Ex) (W:World):Prop where
 below:Below w.heap.size w W
 rs:W.rangeAt w.heap.size 0 cs
 rx:W.rangeAt (w.heap.size+1) 0 xs
 sv:∃L,BP (fun b=>b < W.heap.size) W L cs x
 ev:AH (fun b=>b < W.heap.size) W e xs
 gv:GV W
 gu:GU W
 lt:w.heap.size+2<=W.heap.size
theorem Jh.up{w W W':World}{cs xs:LV}{x:Ax}{e:Ex}(h:Jh w cs xs x e W)(hb:Below W.heap.size W W'):Jh w cs xs x e W':=by
 obtain ⟨L,c⟩:=h.sv
 have d:=h.lt
 exact ⟨h.below.trans (hb.mono h.below.size),A0 h.rs (hb.block _ (by omega)),A0 h.rx (hb.block _ (by omega)),⟨L,c.same (fun b a=>yu a hb.size) (fun b a=>hb.block b a)⟩,
  h.ev.same (fun b a=>yu a hb.size) (fun b a=>hb.block b a),h.gv.below hb h.gv.1,h.gu.up hb,yt h.lt hb.size⟩
theorem Jh.ok{w W:World}{cs xs:LV}{x:Ax}{e:Ex}(h:Jh w cs xs x e W)(a:EK x=true):DI W cs x:=⟨h.sv,(OH a).1,h.gv,h.gu,(OH a).2⟩
theorem TK{w:World}{cs xs:LV}{x:Ax}{e:Ex}{N:NP}{L:Bq}(h:BP N w L cs x)(hN:∀b,N b->b < w.heap.size)(f:AH N w e xs)(c:GV w)(d:GU w):
  Jh w cs xs x e ((w.alloc (.cells cs.toArray 35)).alloc (.cells xs.toArray 26)):=by
 have b1:Below w.heap.size w (w.alloc (.cells cs.toArray 35)):=(yg _ _).alloc (yf _) _
 have b2:Below (w.heap.size+1) (w.alloc (.cells cs.toArray 35)) ((w.alloc (.cells cs.toArray 35)).alloc (.cells xs.toArray 26)):=(yg _ _).alloc (by simp) _
 have hb:=b1.trans (b2.mono (Nat.le_succ _))
 refine ⟨hb,?_,?_,⟨L,h.same (fun b a=>yu (hN b a) hb.size) (fun b a=>hb.block b (hN b a))⟩,f.same (fun b a=>yu (hN b a) hb.size) (fun b a=>hb.block b (hN b a)),c.below hb c.1,d.up hb,by simp⟩
 ·exact AA ((b2.block _ (xN _)).trans (World.alloc_heap_new _ _))
 ·have:=World.alloc_heap_new (w.alloc (.cells cs.toArray 35)) (.cells xs.toArray 26)
  exact AA (by simpa using this)
end Go.Proofs.YtjofgpfocadomaaGreatDoor
namespace Go.Proofs.YtjofgpfocadomaaGreatDoor
open Go.RowKit Go.ChangeShapes Go.WideShapes
theorem own:ownKnob Tryz.prog.godebug=none:=by kernel_rfl
theorem QW:laidOutB Tryz.prog=true:=by kernel_rfl
def IL:List (String × DataW Unit):=[("acequia/units.none",Rows.laid_acequia_units_none),("acequia/units.litres",Rows.laid_acequia_units_litres),("acequia/units.hours",Rows.laid_acequia_units_hours),("acequia/units.ares",Rows.laid_acequia_units_ares),("acequia/units.flow",Rows.laid_acequia_units_flow),("acequia/units.need",Rows.laid_acequia_units_need)]
theorem Sg:Tryz.prog.cellsOf 68=3:=by kernel_rfl
theorem DN{W:World}{name:String}{d:DataW Unit}{x y z:Int}{rest:List (String × DataW Unit)}{g:Nat}(b:Tryz.prog.globalNamed name=some g)(e:(Tryz.prog.globals[g]?).map (·.type)=some 68)
 (h:laidMet Tryz.prog ((name,d)::rest) W)(hd:d=Lib.tabData .i64 [x,y,z]):W.rangeAt g 0 (Dm.row ⟨x,y,z⟩):=by
 subst hd
 have c:=Lib.tabIs_of_head b e qX qK Hr Sg h
 intro j v a
 match j,a with
 |0,a=>cases a;exact c.cell b 0 (by simp)
 |1,a=>cases a;exact c.cell b 1 (by simp)
 |2,a=>cases a;exact c.cell b 2 (by simp)
theorem Wg:Tryz.prog.globalNamed "acequia/units.hours" =some 0:=by kernel_rfl
theorem Wh:(Tryz.prog.globals[0]?).map (·.type)=some 68:=by kernel_rfl
theorem Wi:Tryz.prog.globalNamed "acequia/units.litres" =some 1:=by kernel_rfl
theorem Wj:(Tryz.prog.globals[1]?).map (·.type)=some 68:=by kernel_rfl
theorem Wk:Tryz.prog.globalNamed "acequia/units.need" =some 2:=by kernel_rfl
theorem Wl:(Tryz.prog.globals[2]?).map (·.type)=some 68:=by kernel_rfl
theorem Wm:Tryz.prog.globalNamed "acequia/units.flow" =some 3:=by kernel_rfl
theorem Wn:(Tryz.prog.globals[3]?).map (·.type)=some 68:=by kernel_rfl
theorem Wo:Tryz.prog.globalNamed "acequia/units.none" =some 4:=by kernel_rfl
theorem Wp:(Tryz.prog.globals[4]?).map (·.type)=some 68:=by kernel_rfl
theorem Wq:Tryz.prog.globalNamed "acequia/units.ares" =some 5:=by kernel_rfl
theorem Wr:(Tryz.prog.globals[5]?).map (·.type)=some 68:=by kernel_rfl
theorem JQ{W:World}(h:laidMetH Tryz.prog IL W)(c:GV W):GU W:=by
 rw[MakeChecks.laidMetH_plain _ _ _ (by kernel_rfl)] at h
 have h1:=laidMet.tail h
 have h2:=laidMet.tail h1
 have h3:=laidMet.tail h2
 have a:=laidMet.tail h3
 have b:=laidMet.tail a
 exact ⟨c.1,DN Wg Wh h2 rfl,DN Wi Wj h1 rfl,DN Wk Wl b rfl,DN Wm Wn a rfl,DN Wo Wp h rfl,DN Wq Wr h3 rfl⟩
theorem TM(os:Os)(args:Array Value):laidMetH Tryz.prog IL ((World.doorLaid Tryz.prog 400 os).forCall (fun _ _=>0) ⟨#[],args,[]⟩).memory:=
 laidMetH_of_parts3 (fuel:=8) (laidMet_of_run' 8 (by kernel_rfl) (by kernel_rfl)) (by kernel_rfl) (by kernel_rfl)
theorem Nb{W:World}(h:W.ShapedOpen Tryz.prog):GV W:=by
 obtain ⟨m,a⟩:∃m,W.cell? (aV 6 0)=some (iV m):=Tryz.laysM144.s1_3 W h
 exact ⟨QV a,m,a⟩
theorem GI{H:Type}{enc:TypeId × Value->H}{a:Assume}{C:Checked}{os:Os}{f:FuncId}{fn:Func}{s:ChangeSpec}{g:List PathCond}{apart h c k:Bool}{X:World->Array Value->Prop}
 (F:∀(w w':World) (args:Array Value),w.heap=w'.heap->X w args->X w' args)
 (own:ownKnob C.prog.godebug=none)(m:os.Started)(n:C.prog.inits.idxOf? f=none)(A:C.prog.funcs[f]?=some fn)
 (l:∃(w:World) (tape:Tape) (i:Input),w.os=os∧(w.forCall tape i).Shaped C.prog∧i.vars=[]∧Input.okWide C.prog (w.forCall tape i) .any w.heap.size f i∧
   ((s.pre enc C.prog fn g apart (w.forCall tape i).memory i.args∧X (w.forCall tape i).memory i.args)∧sizedMet enc C.prog fn (OpenSpec.ofChange s) apart (w.forCall tape i).memory i.args)∧a.holds C.prog (lone (Frame.enter C.prog f i.args .normal) [] (w.forCall tape i)))
 (d:∀(W:World) (base:Nat) (args:Array Value) (ds r:List (DataW H)) (b:List MemPlace),
   (∀(j:Nat) t v,fn.params[j]?=some t->args[j]?=some v->Value.okWide C.prog W .any base t v)->
   DataW.Whole enc C.prog fn.params.toList s.vars apart W args.toList ds r b->
   (DataW.weightsEach C.prog (fn.params.toList++s.plain.varTypes C.prog) (ds++r)).all (·<=reachBytes)=true->X W args->W.ShapedOpen C.prog->
   Calls C.prog f args W fun e W'=>∃v,e=.returned v∧s.post enc C.prog fn apart h c k W args v W'):
  ReturnsInHanded a C os f .any (fun w args=>(s.pre enc C.prog fn g apart w args∧X w args)∧sizedMet enc C.prog fn (OpenSpec.ofChange s) apart w args) (s.post enc C.prog fn apart h c k):=by
 refine returnsInHanded_of_calls own m n l ?_
 intro w tape i _ y _ x o _
 obtain ⟨_,_,_,z,p,_,_,_,_,q⟩:=x
 have e:z=fn:=yi (p.symm.trans A)
 subst e
 obtain ⟨⟨⟨ds,r,b,B,_⟩,G⟩,D⟩:=o
 have u:=DataW.Whole.of_heap (w':=w.forCall tape i) (by rfl) B
 refine (d (w.forCall tape i) w.heap.size i.args ds r b q u (D.weights B) (F _ _ _ (by rfl) G) y).mono fun e W' ⟨v,E,I⟩=>?_
 subst E
 exact ChangeSpec.post_blind I
end Go.Proofs.YtjofgpfocadomaaGreatDoor
namespace Go.Proofs.YtjofgpfocadomaaGreatDoor
open Go.RowKit
set_option linter.unusedSimpArgs false
theorem Qb{N:NP}{w:World}{L:Bq}{cs xs:LV}{x:Ax}{e:Ex}(h:BP N w L cs x)(hN:∀b,N b->b < w.heap.size)(hv:AH N w e xs)(hg:GV w)(hu:GU w)(A:I8 e):
  Calls Tryz.prog 6 #[.agg cs.toArray,.agg xs.toArray] w fun r w'=>r=.returned (.bool true)∧Below w.heap.size w w':=by
 have z:Hid ((Tryz.prog.info? 35).map (·.size)=some cs.length):=yb (KX h)
 have H6:Hid (xs.length=6):=yb hv.len
 have HT:=yb (TK h hN hv hg hu)
 have ba:=yb A
 clear h hN hv hg hu A
 go_enter Tryz.func6,Tryz.ntmps6
 refine Ae fun K l=>?_
 go_wp2_with (first|(with_reducible refine KZ rfl 35 _ rfl cs.toArray (by kernel_rfl) ?_)|(with_reducible refine KZ rfl 26 _ rfl xs.toArray (by kernel_rfl) ?_))
 refine l.o _ _ ?_
 clear l K
 generalize (w.alloc _).alloc _=w0 at HT ⊢
 refine Ae fun K l=>?_
 go_wp2_with (first|(go_at_call 7;with_reducible refine (TB HT.o.gv HT.o.gu).mono ?_;rintro r w1 ⟨rfl,an⟩;have t:=yb (HT.o.up an);clear an))
 refine l.o _ _ ?_
 clear l K HT
 refine Ae fun K l=>?_
 have E:Hid (Calls Tryz.prog 8 #[.agg cs.toArray] w1 fun r w'=>r=.returned (.bool (EK x))∧Below w1.heap.size w1 w'):=yb (by obtain ⟨L,hv⟩:=t.o.sv;exact S4 hv (fun _ h=>h))
 cases p:EK x
 ·rw[p] at E
  clear l p
  go_wp2_with (first
   |(with_reducible refine yj rfl 35 _ rfl w.heap.size 0 (by kernel_rfl) cs _ t.o.rs qP (by kernel_rfl) z.o ?_)
   |(go_at_call 8;with_reducible refine E.o.mono ?_;rintro r w2 ⟨rfl,u⟩;have n:=yb (t.o.up u);clear u))
  go_ret
  exact ⟨rfl,n.o.below⟩
 have HF:=yb p
 rw[p] at E
 clear p
 have az:=OL 9 e
 by_cases hd:Fg 9 e<=8
 rotate_left
 ·have e9:Fg 9 e=9:=by omega
  have a2:Hid (∀W,Jh w cs xs x e W->Calls Tryz.prog 16 #[.agg xs.toArray,iV 9] W fun r w'=>r=.returned (iV 9)∧Below W.heap.size W w'):=yb (fun W j=>by
   have h:=OM 9 (by omega) e j.ev
   rw[e9] at h
   exact h)
  clear l hd az e9
  go_wp2_with (first
   |(with_reducible refine yj rfl 35 _ rfl w.heap.size 0 (by kernel_rfl) cs _ t.o.rs qP (by kernel_rfl) z.o ?_)
   |(go_at_call 8;with_reducible refine E.o.mono ?_;rintro r w2 ⟨rfl,u⟩;have n:=yb (t.o.up u);clear u)
   |(with_reducible refine D3 (by kernel_rfl) 26 _ rfl (w.heap.size+1) 0 (by kernel_rfl) xs _ n.o.rx qG (by kernel_rfl) (EE H6.o) ?_)
   |(go_at_call 16;with_reducible refine (a2.o _ n.o).mono ?_;rintro r w3 ⟨rfl,I⟩;have F:=yb (n.o.up I);clear I))
  go_ret
  exact ⟨rfl,F.o.below⟩
 obtain ⟨dp,al⟩:∃dp,dp=Fg 9 e:=⟨_,rfl⟩
 rw[<-al] at hd
 have bd:decide (8 < (dp:Int))=false:=by simp;omega
 have a2:Hid (∀W,Jh w cs xs x e W->Calls Tryz.prog 16 #[.agg xs.toArray,iV 9] W fun r w'=>r=.returned (iV (dp:Int))∧Below W.heap.size W w'):=yb (fun W j=>by
  have h:=OM 9 (by omega) e j.ev
  rw[al]
  exact h)
 clear hd az al
 go_wp2_with (first
  |(with_reducible refine yj rfl 35 _ rfl w.heap.size 0 (by kernel_rfl) cs _ t.o.rs qP (by kernel_rfl) z.o ?_)
  |(go_at_call 8;with_reducible refine E.o.mono ?_;rintro r w2 ⟨rfl,u⟩;have n:=yb (t.o.up u);clear u)
  |(with_reducible refine D3 (by kernel_rfl) 26 _ rfl (w.heap.size+1) 0 (by kernel_rfl) xs _ n.o.rx qG (by kernel_rfl) (EE H6.o) ?_)
  |(go_at_call 16;with_reducible refine (a2.o _ n.o).mono ?_;rintro r w3 ⟨rfl,I⟩;have F:=yb (n.o.up I);clear I))
 refine l.o _ _ ?_
 clear l K a2 E t n bd
 have ag:Hid (∀W,Jh w cs xs x e W->Calls Tryz.prog 12 #[.agg xs.toArray,iV 8,.func (.func 20) #[] #[]] W fun r w'=>∃ay:LV,r=.returned (.agg ay.toArray)∧AH (GF VP w') w' (Fl F9 8 e) ay∧Below W.heap.size W w'):=yb (fun W j=>OU TJ 8 (by omega) e VP W xs ba.o trivial (V8 j.ev) (fun _ h=>h.elim))
 obtain ⟨y,hy⟩:∃y,y=(Fl F9 8 e):=⟨_,rfl⟩
 rw[<-hy] at ag
 have HY:=yb hy
 clear hy
 refine Ae fun K l=>?_
 go_wp2_with (first
  |(with_reducible refine yj rfl 26 _ rfl (w.heap.size+1) 0 (by kernel_rfl) xs _ F.o.rx qG (by kernel_rfl) (EE H6.o) ?_)
  |(go_at_call 12;with_reducible refine (ag.o _ F.o).mono ?_;rintro r w4 ⟨ys,rfl,ap,ao⟩;have au:=yb (F.o.up ao);have D:=yb ap;clear ap ao)
  |(with_reducible refine Ao rfl 26 _ _ rfl w4.heap.size (by kernel_rfl) ys (by kernel_rfl) (World.alloc_heap_new _ _) (by rw[D.o.len];kernel_rfl) (EE D.o.len) (BC D.o) ?_;intro J aq;have ai:=yb aq;clear aq))
 refine l.o _ _ ?_
 clear l K ag
 have b5:Hid (ys.length=6):=yb D.o.len
 have C:Hid (Below w4.heap.size w4 J):=yb (ai.o.below ((yg _ _).alloc (yf _) _) (yf _))
 have a8:=yb (au.o.up C.o)
 obtain ⟨q,p⟩:∃q,q=w4.heap.size:=⟨_,rfl⟩
 have d:=ai.o.row
 rw[<-p] at d ⊢
 have S:Hid (∀W,Below J.heap.size J W->W.rangeAt q 0 ys∧AH (fun b=>b < W.heap.size) W y ys):=yb (fun W j=>⟨AA ((j.block _ (yd.1 d).1).trans d),V9 (D.o.flux' ((Dg.below C.o).trans (Dg.below j)))⟩)
 clear d p ai D au C
 have ad:Hid (DY x y=DY x e∧Bm x y=Bm x e):=yb (by rw[HY.o];exact RI x e)
 obtain ⟨⟨⟨m1,U,m3⟩,er⟩,hm⟩:∃m,m=DY x e:=⟨_,rfl⟩
 obtain ⟨⟨⟨Q,Z⟩,vr⟩,hv⟩:∃m,m=Bm x e:=⟨_,rfl⟩
 have b9:DY x y=⟨⟨m1,U,m3⟩,er⟩:=by rw[ad.o.1,hm]
 have b8:Bm x y=⟨⟨Q,Z⟩,vr⟩:=by rw[ad.o.2,hv]
 have aa:Hid (∀W,Jh w cs xs x e W->Calls Tryz.prog 9 #[.agg cs.toArray,.agg xs.toArray] W (QL ⟨⟨m1,U,m3⟩,er⟩ W)):=yb (fun W j=>by rw[hm];exact IC (j.ok HF.o) j.ev)
 have T:Hid (∀W,Jh w cs xs x e W->Below J.heap.size J W->Calls Tryz.prog 9 #[.agg cs.toArray,.agg ys.toArray] W (QL ⟨⟨m1,U,m3⟩,er⟩ W)):=yb (fun W j hb=>by rw[<-b9];exact IC (j.ok HF.o) (S.o W hb).2)
 have Y:Hid (∀W,Jh w cs xs x e W->Calls Tryz.prog 10 #[.agg cs.toArray,.agg xs.toArray] W (Uk ⟨⟨Q,Z⟩,vr⟩ W)):=yb (fun W j=>by rw[hv];exact DK (j.ok HF.o) j.ev)
 have a6:Hid (∀W,Jh w cs xs x e W->Below J.heap.size J W->Calls Tryz.prog 10 #[.agg cs.toArray,.agg ys.toArray] W (Uk ⟨⟨Q,Z⟩,vr⟩ W)):=yb (fun W j hb=>by rw[<-b8];exact DK (j.ok HF.o) (S.o W hb).2)
 have b4:Hid (∀W,Below J.heap.size J W->W.rangeAt q 0 ys):=yb (fun W j=>(S.o W j).1)
 unfold QL at aa T
 unfold Uk at Y a6
 unfold Dm.v at aa T
 unfold Rt.v at Y a6
 dsimp only at aa T Y a6
 have C:=yb (yg J.heap.size J)
 clear S HY hm hv b9 b8 ad
 refine Ae fun K l=>?_
 go_wp2_with (first
  |(with_reducible refine yj rfl 35 _ rfl w.heap.size 0 (by kernel_rfl) cs _ a8.o.rs qP (by kernel_rfl) z.o ?_)
  |(with_reducible refine yj rfl 26 _ rfl (w.heap.size+1) 0 (by kernel_rfl) xs _ (a8.o.rx) qG (by kernel_rfl) (EE H6.o) ?_)
  |(go_at_call 9;with_reducible refine (aa.o _ a8.o).mono ?_;rintro r w6 ⟨rfl,hb⟩;have be:=yb (a8.o.up hb);have aw:=yb (C.o.trans (hb.mono C.o.size));have bp:=yb hb;clear hb)
  |(with_reducible refine Ao rfl 39 _ _ rfl w6.heap.size (by kernel_rfl) [iV m1,iV U,iV m3] (by kernel_rfl) (World.alloc_heap_new _ _) (by kernel_rfl) (by kernel_rfl) (by simp[Value.oneCell']) ?_;intro w7 A;have am:=yb A;clear A))
 refine l.o _ _ ?_
 clear l K
 have f:Below w6.heap.size w6 w7:=am.o.below ((yg _ _).alloc (yf _) _) (yf _)
 have ae:=yb (be.o.up f)
 have X:=yb (aw.o.trans (f.mono aw.o.size))
 obtain ⟨q6,p⟩:∃q,q=w6.heap.size:=⟨_,rfl⟩
 have d:=am.o.row
 rw[<-p] at d ⊢
 have bb:Hid (∀W,Below w7.heap.size w7 W->W.heap[q6]?=some (.cells [iV m1,iV U,iV m3].toArray 39 (0,0))):=yb (fun W j=>(j.block _ (yd.1 d).1).trans d)
 have bn:=yb f
 clear d p am f
 refine Ae fun K l=>?_
 go_wp2_with (first
  |(with_reducible refine yj rfl 35 _ rfl w.heap.size 0 (by kernel_rfl) cs _ ae.o.rs qP (by kernel_rfl) z.o ?_)
  |(with_reducible refine yj rfl 26 _ rfl q 0 (by kernel_rfl) ys _ (b4.o _ X.o) qG (by kernel_rfl) (EE b5.o) ?_)
  |(go_at_call 9;with_reducible refine (T.o _ ae.o X.o).mono ?_;rintro r w8 ⟨rfl,hb⟩;have bj:=yb (ae.o.up hb);have ar:=yb (X.o.trans (hb.mono X.o.size));have a:=yb hb;clear hb)
  |(with_reducible refine Ao rfl 39 _ _ rfl w8.heap.size (by kernel_rfl) [iV m1,iV U,iV m3] (by kernel_rfl) (World.alloc_heap_new _ _) (by kernel_rfl) (by kernel_rfl) (by simp[Value.oneCell']) ?_;intro w9 A;have ah:=yb A;clear A))
 refine l.o _ _ ?_
 clear l K
 have f:Below w8.heap.size w8 w9:=ah.o.below ((yg _ _).alloc (yf _) _) (yf _)
 have V:=yb (bj.o.up f)
 have b0:=yb (ar.o.trans (f.mono ar.o.size))
 obtain ⟨q7,p⟩:∃q,q=w8.heap.size:=⟨_,rfl⟩
 have d:=ah.o.row
 rw[<-p] at d ⊢
 have bh:Hid (∀W,Below w9.heap.size w9 W->W.heap[q7]?=some (.cells [iV m1,iV U,iV m3].toArray 39 (0,0))):=yb (fun W j=>(j.block _ (yd.1 d).1).trans d)
 have i:=yb f
 clear d p ah f
 refine Ae fun K l=>?_
 go_wp2_with (first
  |(with_reducible refine yj rfl 35 _ rfl w.heap.size 0 (by kernel_rfl) cs _ V.o.rs qP (by kernel_rfl) z.o ?_)
  |(with_reducible refine yj rfl 26 _ rfl (w.heap.size+1) 0 (by kernel_rfl) xs _ (V.o.rx) qG (by kernel_rfl) (EE H6.o) ?_)
  |(go_at_call 10;with_reducible refine (Y.o _ V.o).mono ?_;rintro r P ⟨rfl,hb⟩;have b7:=yb (V.o.up hb);have ac:=yb (b0.o.trans (hb.mono b0.o.size));have c:=yb hb;clear hb)
  |(with_reducible refine Ao rfl 44 _ _ rfl P.heap.size (by kernel_rfl) [iV Q,iV Z] (by kernel_rfl) (World.alloc_heap_new _ _) (by kernel_rfl) (by kernel_rfl) (by simp[Value.oneCell']) ?_;intro aj A;have O:=yb A;clear A))
 refine l.o _ _ ?_
 clear l K
 have f:Below P.heap.size P aj:=O.o.below ((yg _ _).alloc (yf _) _) (yf _)
 have M:=yb (b7.o.up f)
 have B:=yb (ac.o.trans (f.mono ac.o.size))
 obtain ⟨q8,p⟩:∃q,q=P.heap.size:=⟨_,rfl⟩
 have d:=O.o.row
 rw[<-p] at d ⊢
 have bg:Hid (∀W,Below aj.heap.size aj W->W.heap[q8]?=some (.cells [iV Q,iV Z].toArray 44 (0,0))):=yb (fun W j=>(j.block _ (yd.1 d).1).trans d)
 have k:=yb f
 clear d p O f
 refine Ae fun K l=>?_
 go_wp2_with (first
  |(with_reducible refine yj rfl 35 _ rfl w.heap.size 0 (by kernel_rfl) cs _ M.o.rs qP (by kernel_rfl) z.o ?_)
  |(with_reducible refine yj rfl 26 _ rfl q 0 (by kernel_rfl) ys _ (b4.o _ B.o) qG (by kernel_rfl) (EE b5.o) ?_)
  |(go_at_call 10;with_reducible refine (a6.o _ M.o B.o).mono ?_;rintro r R ⟨rfl,hb⟩;have ax:=yb (M.o.up hb);have ab:=yb (B.o.trans (hb.mono B.o.size));have s:=yb hb;clear hb)
  |(with_reducible refine Ao rfl 44 _ _ rfl R.heap.size (by kernel_rfl) [iV Q,iV Z] (by kernel_rfl) (World.alloc_heap_new _ _) (by kernel_rfl) (by kernel_rfl) (by simp[Value.oneCell']) ?_;intro g A;have G:=yb A;clear A))
 refine l.o _ _ ?_
 clear l K
 have f:Below R.heap.size R g:=G.o.below ((yg _ _).alloc (yf _) _) (yf _)
 have av:=yb (ax.o.up f)
 have bk:=yb (ab.o.trans (f.mono ab.o.size))
 obtain ⟨q9,p⟩:∃q,q=R.heap.size:=⟨_,rfl⟩
 have d:=G.o.row
 rw[<-p] at d ⊢
 have bi:Hid (∀W,Below g.heap.size g W->W.heap[q9]?=some (.cells [iV Q,iV Z].toArray 44 (0,0))):=yb (fun W j=>(j.block _ (yd.1 d).1).trans d)
 have H:=yb f
 clear d p G f
 have a7:=bb.o g (((((a.o.trans (i.o.mono a.o.size)).trans (c.o.mono (a.o.trans (i.o.mono a.o.size)).size)).trans (k.o.mono ((a.o.trans (i.o.mono a.o.size)).trans (c.o.mono (a.o.trans (i.o.mono a.o.size)).size)).size)).trans (s.o.mono (((a.o.trans (i.o.mono a.o.size)).trans (c.o.mono (a.o.trans (i.o.mono a.o.size)).size)).trans (k.o.mono ((a.o.trans (i.o.mono a.o.size)).trans (c.o.mono (a.o.trans (i.o.mono a.o.size)).size)).size)).size)).trans (H.o.mono ((((a.o.trans (i.o.mono a.o.size)).trans (c.o.mono (a.o.trans (i.o.mono a.o.size)).size)).trans (k.o.mono ((a.o.trans (i.o.mono a.o.size)).trans (c.o.mono (a.o.trans (i.o.mono a.o.size)).size)).size)).trans (s.o.mono (((a.o.trans (i.o.mono a.o.size)).trans (c.o.mono (a.o.trans (i.o.mono a.o.size)).size)).trans (k.o.mono ((a.o.trans (i.o.mono a.o.size)).trans (c.o.mono (a.o.trans (i.o.mono a.o.size)).size)).size)).size)).size))
 have a0:=bh.o g (((c.o.trans (k.o.mono c.o.size)).trans (s.o.mono (c.o.trans (k.o.mono c.o.size)).size)).trans (H.o.mono ((c.o.trans (k.o.mono c.o.size)).trans (s.o.mono (c.o.trans (k.o.mono c.o.size)).size)).size))
 have af:=bg.o g (s.o.trans (H.o.mono s.o.size))
 have ak:=bi.o g (yg _ _)
 have bo:g.cell? (aV q6 0)=some (iV m1):=by simp[World.cell?,a7]
 have bt:g.cell? (aV q6 1)=some (iV U):=by simp[World.cell?,a7]
 have bu:g.cell? (aV q6 2)=some (iV m3):=by simp[World.cell?,a7]
 have bv:g.cell? (aV q7 0)=some (iV m1):=by simp[World.cell?,a0]
 have bx:g.cell? (aV q7 1)=some (iV U):=by simp[World.cell?,a0]
 have bz:g.cell? (aV q7 2)=some (iV m3):=by simp[World.cell?,a0]
 have bq:g.cell? (aV q8 0)=some (iV Q):=by simp[World.cell?,af]
 have bm:g.cell? (aV q8 1)=some (iV Z):=by simp[World.cell?,af]
 have bw:g.cell? (aV q9 0)=some (iV Q):=by simp[World.cell?,ak]
 have c8:g.cell? (aV q9 1)=some (iV Z):=by simp[World.cell?,ak]
 clear a7 a0 af ak
 go_wp2
 go_ret
 exact ⟨rfl,av.o.below⟩
end Go.Proofs.YtjofgpfocadomaaGreatDoor
namespace Go.Proofs.YtjofgpfocadomaaGreatDoor
open Go.ChangeShapes Go.WideShapes Go.ChangeAt Go.WideMaps Go.WideElems Go.RowKit Go.ChangeMaps
theorem IM(os:Os)(f:os.Started)(H:Type)(enc:TypeId × Value->H):
  ReturnsInHanded {} Tryz.checked os 6 .any (fun w args=>(Rows.unitsSmallSpec.pre enc Tryz.prog Tryz.f6 [] false w args∧laidMetH Tryz.prog IL w)∧sizedMet enc Tryz.prog Tryz.f6 (OpenSpec.ofChange Rows.unitsSmallSpec) false w args)
   (Rows.unitsSmallSpec.post enc Tryz.prog Tryz.f6 false true false false):=by
 refine GI (C:=Tryz.checked) (X:=fun w _=>laidMetH Tryz.prog IL w) (fun _ _ _ U h=>h.of_heap U) own f (by kernel_rfl) Tryz.func6
  (ChangeSpec.witness_shaped (enc:=enc) (C:=Tryz.checked) (os:=os) (X:=fun w _=>laidMetH Tryz.prog IL w) false (World.doorLaid Tryz.prog 400 os) #[.agg #[.string ByteArray.empty,iV 0,iV 0,iV 0,.string ByteArray.empty,iV 0,.slice none 0 0,iV 0,iV 0,iV 0,.string ByteArray.empty,iV 0,.slice none 0 0,iV 0,iV 0,iV 0,.string ByteArray.empty,iV 0,.slice none 0 0,.slice none 0 0,.slice none 0 0,.slice none 0 0,.slice none 0 0,.slice none 0 0,.slice none 0 0,.slice none 0 0],.agg #[iV 0,iV 0,iV 0,.string ByteArray.empty,iV 0,.slice none 0 0]] 16 rfl (World.shaped_of_RefB (by kernel_rfl) (by kernel_rfl)) (by kernel_rfl) (by kernel_rfl) (by kernel_rfl) (TM os _)) ?_
 intro W base args ds Y s a G i Q A
 have m:(DataW.weightsEach Tryz.prog (Tryz.f6.params.toList++Rows.unitsSmallSpec.plain.varTypes Tryz.prog) (ds++Y)).all (·<=reachBytes)=true:=i
 have c:∀(j:Nat) t v,Tryz.f6.params[j]?=some t->args[j]?=some v->Value.okWide Tryz.prog W .any base t v:=a
 have g:=G
 obtain ⟨p,q,o,Z,rfl,_,_⟩:=G
 have J:DataW.TrodAll enc Tryz.prog W 0 (fun _=>true) true Tryz.f6.params.toList args.toList ds p:=o
 rw[Tryz.params6] at J c m
 obtain ⟨S,N,M,K,p0,p1,rfl,rfl,rfl,h0,h1⟩:=trodAll_two J
 obtain ⟨rfl,rfl⟩:=trodVars_none Z
 obtain ⟨cs,rfl,r⟩:=okWide_struct qP (c 0 35 S rfl rfl)
 obtain ⟨xs,rfl,a0⟩:=okWide_struct qG (c 1 26 N rfl rfl)
 rw[Na] at r
 have z:=h0
 have E:=h1
 obtain ⟨fuel,T⟩:=h0
 obtain ⟨l,y⟩:=h1
 clear o a i
 simp only[yS] at g
 have V:Wt 35 M:=fun n F=>by simpa using yU.1 m n (yz (j:=0) (t:=35) (d:=M) rfl rfl _ F)
 have u:Wt 26 K:=fun n F=>by simpa using yU.1 m n (yz (j:=1) (t:=26) (d:=K) rfl rfl _ F)
 obtain ⟨L,x,R,_,_⟩:=OS (H:=H) (enc:=enc) (W:=W) (cs:=cs.toList) T V (by simpa using r)
 obtain ⟨e,P,B⟩:=AM (H:=H) (enc:=enc) (W:=W) l xs.toList _ _ y u
 have I:=Nb A
 have k:=Qb R (fun b hb=>hb) P I (JQ Q I) B
 rw[show cs.toList.toArray=cs by simp,show xs.toList.toArray=xs by simp] at k
 refine k.mono fun e W' ⟨O,hb⟩=>?_
 subst O
 exact ⟨_,rfl,_,_,_,[],_,[],g,trodAll_mk1 (shut_bool qR true),trodAll_mk2 (Below.trod QW (by kernel_rfl) (yR (by kernel_rfl)) z hb (fun x D=>g.lt x (by simp[D]))) (Below.trod QW (by kernel_rfl) (yR (by kernel_rfl)) E hb (fun x D=>g.lt x (by simp[D]))),rfl,hb.frame _,fun h=>by cases h⟩
theorem unitsSmall_holds:Rows.UnitsSmallSaid:=
 OpenClaim.holds_of_wide 6 Tryz.f6 rfl rfl rfl rfl rfl rfl rfl ⟨rfl,rfl,rfl,rfl,rfl⟩ rfl rfl rfl rfl rfl (by kernel_rfl) Tryz.func6 (by kernel_rfl)
  (yR (by kernel_rfl)) (by unfold Func.isWrapper;rw[yq (of_decide_eq_false (by kernel_rfl))];exact ⟨rfl,rfl⟩)
  (fun os a H enc _=>IM os a H enc)
theorem unitsSmallCard_holds:Rows.UnitsSmallCardSaid:=
 Claim7.holds_tied_plain_at .later [] [.data,.data,.data,.data,.data,.data] true (true, "11f3996585834df42a1b22c8d320a2ae51f6086afdeb77c2ef291d0b945e9561") true
  unitsSmall_holds (fun _ h=>by cases h) (by kernel_rfl) (fun _ h=>by cases h) Im rfl ⟨rfl,rfl⟩ (by kernel_rfl) rfl
  (fun f fn d b=>by
   obtain rfl:f=6:=yi ((show Tryz.prog.funcNamed "acequia/acequialaw18.UnitsSmall" =some 6 by kernel_rfl).symm.trans d) |>.symm
   obtain rfl:fn=Tryz.f6:=(yi (Tryz.func6.symm.trans b)).symm
   exact ⟨by kernel_rfl,fun j t c=>by
    rw[Tryz.params6] at c
    have e:t∈[35,26]:=by simpa using zY c
    have a:([35,26].all fun u=>!Tryz.prog.wantsStandIn u)=true:=by kernel_rfl
    exact (show Tryz.prog.wantsStandIn t=false by simpa using yU.1 a t e)⟩)
  (by kernel_rfl)
#print axioms unitsSmallCard_holds
end Go.Proofs.YtjofgpfocadomaaGreatDoor
