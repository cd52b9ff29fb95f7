/- Parts of the proof, in short words: Hb Hc Hd He Hf Hm Ia Hs Ht Hu Hv Ie -/
import Derived.Test.YtjofgpfocadomaaGreatDoorUc0
import Derived.Test.YtjofgpfocadomaaGreatDoorUc17
import Derived.Test.YtjofgpfocadomaaGreatDoorUc9
import Derived.Test.YtjofgpfocadomaaGreatDoorUc16
import Derived.Test.YtjofgpfocadomaaGreatDoorUc14
import Derived.Test.YtjofgpfocadomaaGreatDoorUc12
import Derived.Test.YtjofgpfocadomaaGreatDoorTie
import Derived.ProofKit
import Derived.LaidMore
import Derived.LaidLaws
import Derived.Stop.LaidErr
import Derived.Lib.LaidTab
import Derived.HandedShaped
import Derived.Test.YtjofgpfocadomaaGreatDoorCards
import Derived.SevenTiedAt
import Derived.Carry
set_option maxRecDepth 100000
set_option maxHeartbeats 64000000
set_option linter.unusedSimpArgs false
namespace Go.Proofs.YtjofgpfocadomaaGreatDoor
open Go.RowKit
set_option linter.unusedSimpArgs false
theorem Pg(w:World):Calls Tryz.prog 21 #[] w fun e w'=>∃(B gf:Nat) (cells:Array Value),e=.returned (.agg cells)∧cells.size=26∧CJ B gf 30 (.agg cells) w'∧w'.heap[gf]?=some (.cells #[.int .i64 1,.int .i64 40,.int .i64 1,.string ⟨#[]⟩,.int .i64 0,.slice none 0 0,.int .i64 1,.int .i64 1,.int .i64 3,.string ⟨#[]⟩,.int .i64 0,.slice none 0 0] 26 (0,0))∧w.heap.size<=B∧w.heap.size<=gf∧Below w.heap.size w w':=by
 go_enter Tryz.func21,Tryz.ntmps21
 refine Ab fun K v=>?_
 go_wp2
 refine v.o _ _ ?_
 clear v K
 have h0:=World.alloc_heap_new w (.cells #[.string ⟨#[]⟩,iV 0,iV 0,iV 0,.string ⟨#[]⟩,iV 0,.slice none 0 0,iV 0,iV 0,iV 0,.string ⟨#[]⟩,iV 0,.slice none 0 0,iV 0,iV 0,iV 0,.string ⟨#[]⟩,iV 0,.slice none 0 0,.slice none 0 0,.slice none 0 0,.slice none 0 0,.slice none 0 0,.slice none 0 0,.slice none 0 0,.slice none 0 0] 35)
 have E:=(yg w.heap.size w).alloc (yf _) (.cells #[.string ⟨#[]⟩,iV 0,iV 0,iV 0,.string ⟨#[]⟩,iV 0,.slice none 0 0,iV 0,iV 0,iV 0,.string ⟨#[]⟩,iV 0,.slice none 0 0,iV 0,iV 0,iV 0,.string ⟨#[]⟩,iV 0,.slice none 0 0,.slice none 0 0,.slice none 0 0,.slice none 0 0,.slice none 0 0,.slice none 0 0,.slice none 0 0,.slice none 0 0] 35)
 generalize w.alloc _=W at h0 E ⊢
 have U:=yb (And.intro h0 E)
 clear h0 E
 refine Ab fun K v=>?_
 go_wp2_with (first
  |(go_at_call 23;with_reducible refine (Bo 40 1 _).mono ?_;rintro e w2 ⟨rfl,h2⟩;have n:=yb h2;clear h2)
  |(go_at_call 23;with_reducible refine (Bo 1 3 _).mono ?_;rintro e w3 ⟨rfl,h3⟩;have V:=yb h3;clear h3)
  |(go_at_call 22;with_reducible refine (IG 6 _ _ _ _ _ _ _ _ _ _ _ _ _ _ _ _ _).mono ?_;rintro e w4 ⟨gf,rfl,hg,d,J⟩;have L:=yb (And.intro hg (And.intro d J));clear hg d J))
 refine v.o _ _ ?_
 clear v K
 have q:Below W.heap.size W w4:=(n.o.trans (V.o.mono n.o.size)).trans (L.o.2.2.mono (by have:=n.o.size;have:=V.o.size;omega))
 have i:=(yg w4.heap.size w4).alloc (yf _) (.cells #[iV 6,iV 0,iV 0,.string ⟨#[]⟩,iV 0,.slice (some (aV gf 0)) 2 2] 26)
 have b:=World.alloc_heap_new w4 (.cells #[iV 6,iV 0,iV 0,.string ⟨#[]⟩,iV 0,.slice (some (aV gf 0)) 2 2] 26)
 have R:=(yd.1 L.o.2.1).1
 have g:=(i.block gf R).trans L.o.2.1
 have N:W.heap.size<=gf:=by have:=n.o.size;have:=V.o.size;have:=L.o.1;omega
 have C:=q.trans (i.mono q.size)
 have u:=q.size
 have HZ:Hid (W.heap.size<=w4.heap.size):=yb u
 generalize M:w4.heap.size=B1 at b ⊢
 rw[M] at HZ
 clear M
 generalize w4.alloc _=W5 at b g C ⊢
 have A:=yb (And.intro b (And.intro g (And.intro N C)))
 clear q i b R g N C u n V L
 refine Ab fun K v=>?_
 go_wp2_with (first
  |(go_at_call 23;with_reducible refine (Bo 0 0 _).mono ?_;rintro e H ⟨rfl,h2⟩;have n:=yb h2;clear h2))
 refine v.o _ _ ?_
 clear v K
 have i:=(yg H.heap.size H).alloc (yf _) (.cells #[iV 1,iV 0,iV 0,.string ⟨#[]⟩,iV 0,.slice none 0 0] 26)
 have b:=World.alloc_heap_new H (.cells #[iV 1,iV 0,iV 0,.string ⟨#[]⟩,iV 0,.slice none 0 0] 26)
 have j:=n.o.trans (i.mono n.o.size)
 have O:Hid (W5.heap.size<=H.heap.size):=yb n.o.size
 generalize a2:H.heap.size=B2 at b O ⊢
 clear a2
 generalize H.alloc _=F at b j ⊢
 have Z:=yb b
 have h:=yb j
 clear i b j n
 have G:=(yd.1 A.o.1).1
 have D:=(yd.1 U.o.1).1
 have l:=A.o.2.2.2
 have f:Hid (w.heap.size < W.heap.size∧W.heap.size<=W5.heap.size∧W5.heap.size<=F.heap.size∧B1 < W5.heap.size∧B2 < F.heap.size):=yb ⟨D,l.size,h.o.size,G,(yd.1 Z.o).1⟩
 have m:Hid (F.heap[w.heap.size]?=some (.cells #[.string ⟨#[]⟩,iV 0,iV 0,iV 0,.string ⟨#[]⟩,iV 0,.slice none 0 0,iV 0,iV 0,iV 0,.string ⟨#[]⟩,iV 0,.slice none 0 0,iV 0,iV 0,iV 0,.string ⟨#[]⟩,iV 0,.slice none 0 0,.slice none 0 0,.slice none 0 0,.slice none 0 0,.slice none 0 0,.slice none 0 0,.slice none 0 0,.slice none 0 0] 35 (0,0))):=yb ((h.o.block _ (by have:=f.o;omega)).trans ((l.block _ D).trans U.o.1))
 have I:Hid (F.heap[gf]?=some (.cells #[iV 1,iV 40,iV 1,.string ⟨#[]⟩,iV 0,.slice none 0 0,iV 1,iV 1,iV 3,.string ⟨#[]⟩,iV 0,.slice none 0 0] 26 (0,0))):=yb ((h.o.block _ (yd.1 A.o.2.1).1).trans A.o.2.1)
 have P:Hid (Below w.heap.size w F):=yb (U.o.2.trans ((l.trans (h.o.mono l.size)).mono (by have:=f.o;omega)))
 have Y:Hid (F.rangeAt B1 0 [iV 6,iV 0,iV 0,.string ⟨#[]⟩,iV 0,.slice (some (aV gf 0)) 2 2]):=yb (Ax (t:=26) ((h.o.block _ G).trans A.o.1))
 have a0:Hid (F.rangeAt B2 0 [iV 1,iV 0,iV 0,.string ⟨#[]⟩,iV 0,.slice none 0 0]):=yb (Ax (t:=26) Z.o)
 have T:Hid (w.heap.size < gf):=yb (by have:=A.o.2.2.1;have:=f.o;omega)
 clear G D l A h Z O U HZ
 refine wp_seq ?_
 refine VD (B:=w.heap.size) (B1:=B1) (B2:=B2) (gf:=gf) (row0:=#[.string ⟨#[]⟩,iV 0,iV 0,iV 0,.string ⟨#[]⟩,iV 0,.slice none 0 0,iV 0,iV 0,iV 0,.string ⟨#[]⟩,iV 0,.slice none 0 0,iV 0,iV 0,iV 0,.string ⟨#[]⟩,iV 0,.slice none 0 0,.slice none 0 0,.slice none 0 0,.slice none 0 0,.slice none 0 0,.slice none 0 0,.slice none 0 0,.slice none 0 0]) _ ?_ ?_ ?_ ?_ ?_ ?_ ?_ ?_ ?_ ?_ ?_ ?_ ?_
 ·rfl
 ·rfl
 ·rfl
 ·rfl
 ·rfl
 ·have:=f.o;omega
 ·have:=f.o;omega
 ·have:=f.o;omega
 ·exact m.o
 ·rfl
 ·exact Y.o
 ·exact a0.o
 ·intro a w1 cells a7 a6 S hp p
  obtain ⟨tm,df⟩:=a
  obtain rfl:df=[]:=a6
  have h0:tm.getD 0 undef=pV w.heap.size 0:=(S 0 (by omega)).trans rfl
  have z:cells.size=26:=by
   have y:=hp
   unfold CJ at y
   simp only at y
   obtain ⟨ac,ad,aa,a8,ae,ab,hq,_⟩:=y
   cases hq;rfl
  have X:=f.o
  have d:w1.heap[w.heap.size]?=some (.cells #[.string ⟨#[]⟩,iV 0,iV 0,iV 0,.string ⟨#[]⟩,iV 0,.slice none 0 0,iV 0,iV 0,iV 0,.string ⟨#[]⟩,iV 0,.slice none 0 0,iV 0,iV 0,iV 0,.string ⟨#[]⟩,iV 0,.slice none 0 0,.slice none 0 0,.slice none 0 0,.slice none 0 0,.slice none 0 0,.slice none 0 0,.slice none 0 0,.slice none 0 0] 35 (0,0)):=(p.block _ (by omega)).trans m.o
  have s:=qD w1 w.heap.size _ cells _ _ d
  have r:Below w.heap.size w (w1.setRow w.heap.size cells):=CQ (P.o.trans (p.mono P.o.size)) (yf _) cells
  have Q:CJ w.heap.size gf 30 (.agg cells) (w1.setRow w.heap.size cells):=RW _ _ _ _ (fun k o hk ho=>by rw[Cy _ _ (by omega)];exact ho) hp
  have g:(w1.setRow w.heap.size cells).heap[gf]?=some (.cells #[iV 1,iV 40,iV 1,.string ⟨#[]⟩,iV 0,.slice none 0 0,iV 1,iV 1,iV 3,.string ⟨#[]⟩,iV 0,.slice none 0 0] 26 (0,0)):=by
   have:=T.o
   rw[Cy _ _ (by omega)]
   exact (p.block _ (yd.1 I.o).1).trans I.o
  have x:Hid (bodyPost Tryz.prog Tryz.f21 (fun e w'=>∃(B gf:Nat) (cells:Array Value),e=.returned (.agg cells)∧cells.size=26∧CJ B gf 30 (.agg cells) w'∧w'.heap[gf]?=some (.cells #[iV 1,iV 40,iV 1,.string ⟨#[]⟩,iV 0,.slice none 0 0,iV 1,iV 1,iV 3,.string ⟨#[]⟩,iV 0,.slice none 0 0] 26 (0,0))∧w.heap.size<=B∧w.heap.size<=gf∧Below w.heap.size w w') .ret {tmps:=tm,defers:=[]} (w1.setRow w.heap.size cells)):=yb (by
   refine Bl (c:=cells.toList) rfl h0 (by rw[Array.toArray_toList];exact s) qY rfl (by rw[Array.length_toList,z];kernel_rfl) ⟨w.heap.size,gf,cells,by rw[Array.toArray_toList],z,Q,g,yf _,by have:=T.o;omega,r⟩)
  clear h0 z X d s r Q g hp p a7 S
  first
  |exact x.o
  |(go_wp2;exact x.o)
set_option linter.unusedSimpArgs false
theorem JE{w:World}{g:Nat}{row:Array Value}{ty:TypeId}(b:w.heap[g]?=some (.cells row ty (0,0)))(o:Nat){cs:LV}(h:(row.toList.drop o).take cs.length=cs):w.rangeAt g o cs:=fun j v a=>by
 have c:=(yx.1 a).1
 rw[<-h,xg,yw c,List.getElem?_drop] at a
 simp only[World.cell?,b]
 simpa using a
def xC(op n u:Int)(rn:ByteArray)(ri:Int):LV:=[.int .i64 op,.int .i64 n,.int .i64 u,.string rn,.int .i64 ri,.slice none 0 0]
def tC(op:Int)(g:Nat):LV:=[.int .i64 op,.int .i64 0,.int .i64 0,.string Gr,.int .i64 0,.slice (some ⟨g,0,none⟩) 2 2]
theorem V1(s:ByteArray)(h:s.size<=1000):s.size<=maxLen:=yu h (by unfold maxLen;omega)
section
variable{N:NP}{w:World}
theorem KE(op n u:Int)(rn:ByteArray)(ri:Int)(h:rn.size<=1000):AI N w (.mk op n u rn ri []) (xC op n u rn ri):=by
 rw[AI];exact ⟨none,0,rfl,by simp,V1 _ h,by rw[Df];trivial⟩
theorem BY(n u:Int):AI N w (Bw n u) (xC 1 n u Gr 0):=KE 1 n u Gr 0 (by decide)
theorem Xk:AI N w LL (xC 0 0 0 Gr 0):=KE 0 0 0 Gr 0 (by decide)
theorem II{g:Nat}{a b:Ex}{ca cb:LV}{ty:TypeId}(o:Int)(hN:N g)(hr:w.heap[g]?=some (.cells (ca++cb).toArray ty (0,0)))(d:AI N w a ca)(hb:AI N w b cb):AI N w (M8 o a b) (tC o g):=by
 have c:=d.is6.len
 have e:=hb.is6.len
 unfold M8
 rw[AI]
 refine ⟨some (aV g 0),2,rfl,by simp,V1 _ (by decide),?_⟩
 rw[Df,Df,Df]
 exact ⟨⟨g,0,ca,rfl,hN,JE hr _ (by simp),d⟩,⟨g,0,cb,rfl,hN,JE hr _ (by simp[c]),hb⟩,trivial⟩
theorem Uz{α:Type}{sz:Nat}{P:LV->α->Prop}:BF N w sz P ⟨none,0,0⟩ []:=⟨rfl,by simp,fun i hi=>absurd hi (by simp)⟩
theorem NQ{α:Type}{sz g:Nat}{P:LV->α->Prop}{d:α}{cs:LV}{ty:TypeId}(hN:N g)(hr:w.heap[g]?=some (.cells cs.toArray ty (0,0)))(b:cs.length=sz)(a:P cs d):BF N w sz P ⟨some ⟨g,0,none⟩,1,1⟩ [d]:=by
 refine ⟨rfl,by simp,fun i hi=>?_⟩
 obtain rfl:i=0:=by simpa using hi
 exact ⟨g,0,cs,rfl,hN,b,JE hr _ (by simp),a⟩
end
def LM:LV:=[.string ⟨#[114]⟩,.string ⟨#[]⟩,.int .i64 0,.int .i64 1,.int .i64 1,.int .i64 3,.string ⟨#[]⟩,.int .i64 0,.slice none 0 0]
def LN(a:Nat):LV:=[.int .i64 1,.int .i64 90,.int .i64 1,.string ⟨#[]⟩,.int .i64 0,.slice none 0 0,.int .i64 0,.int .i64 0,.int .i64 0,.string ⟨#[]⟩,.int .i64 0,.slice none 0 0,.int .i64 1,.int .i64 0,.int .i64 1,.string ⟨#[]⟩,.int .i64 0,.slice none 0 0,.int .i64 1,.int .i64 2,.int .i64 1,.string ⟨#[]⟩,.int .i64 0,.slice none 0 0,.int .i64 1,.int .i64 0,.int .i64 0,.string ⟨#[]⟩,.int .i64 0,.slice none 0 0,.int .i64 6,.int .i64 0,.int .i64 0,.string ⟨#[]⟩,.int .i64 0,.slice (some ⟨a,0,none⟩) 2 2]
def Xz(d b a c:Nat):Bt:={s:=0,lets:=⟨some ⟨d,0,none⟩,1,1⟩,crops:=⟨some ⟨b,0,none⟩,1,1⟩,reaches:=⟨some ⟨a,0,none⟩,1,1⟩,farms:=⟨some ⟨c,0,none⟩,1,1⟩,rots:=⟨none,0,0⟩,rights:=⟨none,0,0⟩,duties:=⟨none,0,0⟩,turns:=[]}
def LO(d b a c:Nat):LV:=[.string ⟨#[119]⟩,.int .i64 1,.int .i64 1,.int .i64 4,.string ⟨#[]⟩,.int .i64 0,.slice none 0 0,.int .i64 1,.int .i64 5,.int .i64 2,.string ⟨#[]⟩,.int .i64 0,.slice none 0 0,.int .i64 2,.int .i64 0,.int .i64 0,.string ⟨#[107]⟩,.int .i64 0,.slice none 0 0,.slice (some ⟨d,0,none⟩) 1 1,.slice (some ⟨b,0,none⟩) 1 1,.slice (some ⟨a,0,none⟩) 1 1,.slice (some ⟨c,0,none⟩) 1 1,.slice none 0 0,.slice none 0 0,.slice none 0 0]
theorem VH{N:NP}{w:World}{e g d f c b:Nat}{a:LV}{cap:Ex}(h:AI N w cap a)
 (l:N e)(n:N g)(p:N d)(o:N f)(m:N c)(j:N b)
 (b13:w.heap[e]?=some (.cells #[.string ⟨#[107]⟩,.int .i64 1,.int .i64 3,.int .i64 2,.string ⟨#[]⟩,.int .i64 0,.slice none 0 0] 50 (0,0)))(b16:w.heap[g]?=some (.cells #[.int .i64 1,.int .i64 7,.int .i64 1,.string ⟨#[]⟩,.int .i64 0,.slice none 0 0,.int .i64 1,.int .i64 1,.int .i64 5,.string ⟨#[]⟩,.int .i64 0,.slice none 0 0] 26 (0,0)))(b18:w.heap[d]?=some (.cells #[.string ⟨#[99]⟩,.int .i64 6,.int .i64 0,.int .i64 0,.string ⟨#[]⟩,.int .i64 0,.slice (some ⟨g,0,none⟩) 2 2] 92 (0,0)))(b28:w.heap[f]?=some (.cells #[.int .i64 1,.int .i64 1,.int .i64 0,.string ⟨#[]⟩,.int .i64 0,.slice none 0 0,.int .i64 1,.int .i64 8,.int .i64 0,.string ⟨#[]⟩,.int .i64 0,.slice none 0 0] 26 (0,0)))(b31:w.heap[c]?=some (.cells (LM++(a++LN f)).toArray 66 (0,0)))(b36:w.heap[b]?=some (.cells #[.string ⟨#[102]⟩,.string ⟨#[114]⟩,.int .i64 0,.bool false,.int .i64 1,.int .i64 20,.int .i64 5,.string ⟨#[]⟩,.int .i64 0,.slice none 0 0,.string ⟨#[99]⟩,.int .i64 0] 94 (0,0))):BH N w (Xz e d c b) (LO e d c b) (DW cap):=by
 have k:=h.is6.len
 refine ⟨V1 sW (by decide),⟨xC 1 1 4 Gr 0,xC 1 5 2 Gr 0,xC 2 0 0 sK 0,rfl,BY 1 4,BY 5 2,KE 2 0 0 sK 0 (by decide)⟩,
  NQ l (cs:=.string sK::xC 1 3 2 Gr 0) b13 rfl ⟨V1 _ (by decide),_,rfl,BY 3 2⟩,
  NQ p (cs:=.string sC::tC 6 g) b18 rfl ⟨V1 _ (by decide),_,rfl,II 6 n (ca:=xC 1 7 1 Gr 0) (cb:=xC 1 1 5 Gr 0) b16 (BY 7 1) (BY 1 5)⟩,
  NQ m (cs:=.string sR::(AU ⟨Gr,0⟩++(xC 1 1 3 Gr 0++(a++(xC 1 90 1 Gr 0++(xC 0 0 0 Gr 0++(xC 1 0 1 Gr 0++(xC 1 2 1 Gr 0++(xC 1 0 0 Gr 0++tC 6 f))))))))) b31 (by simp[AU,xC,tC,k]) ⟨V1 sR (by decide),V1 Gr (by decide),_,_,_,_,_,_,_,_,rfl,BY 1 3,h,BY 90 1,Xk,BY 0 1,BY 2 1,BY 0 0,II 6 o (ca:=xC 1 1 0 Gr 0) (cb:=xC 1 8 0 Gr 0) b28 (BY 1 0) (BY 8 0)⟩,
  NQ j (cs:=.string sF::(AU ⟨sR,0⟩++(.bool false::(xC 1 20 5 Gr 0++AU ⟨sC,0⟩)))) b36 rfl ⟨V1 _ (by decide),V1 _ (by decide),V1 _ (by decide),_,rfl,BY 20 5⟩,
  ⟨rfl,yI _,fun i hi=>absurd hi (by simp[DW])⟩,Uz,Uz⟩
set_option linter.unusedSimpArgs false
set_option linter.unusedVariables false
def F3(w w':World):Prop:=∀(b:Nat) (row:Array Value),w.heap[b]?=some (.cells row 26 (0,0))->w'.heap[b]?=some (.cells row 26 (0,0))
theorem F3.below{w w':World}(h:Below w.heap.size w w'):F3 w w':=fun b _ hb=>(h.block b (yd.1 hb).1).trans hb
theorem F3.refl(w:World):F3 w w:=fun _ _ h=>h
structure WH (W:World) (ia ist slot:Nat) (z v:Array Value) (ty:TypeId) (l:Array Bool) (tm:Array Value) (w:World):Prop where
 below:Below W.heap.size W w
 one:l.getD ist false=false->l.getD ia false=true->∃b,tm.getD slot undef=.pointer (some ⟨b,0,none⟩)∧W.heap.size<=b∧w.heap[b]?=some (.cells z ty (0,0))
 two:l.getD ist false=true->∃b,tm.getD slot undef=.pointer (some ⟨b,0,none⟩)∧W.heap.size<=b∧w.heap[b]?=some (.cells v ty (0,0))
theorem WH.quiet{W:World}{f c a:Nat}{z v:Array Value}{ty:TypeId}{l:Array Bool}{tm:Array Value}{w w2:World}{i t:Nat}{x:Value}(h:WH W f c a z v ty l tm w)(hi:i≠c∧i≠f)(j:t≠a)(hb:Below w.heap.size w w2):WH W f c a z v ty (l.setIfInBounds i true) (tm.setIfInBounds t x) w2:=by
 refine ⟨h.below.trans (hb.mono h.below.size),fun h1 h2=>?_,fun h1=>?_⟩
 ·rw[A8 hi.1] at h1;rw[A8 hi.2] at h2
  obtain ⟨b,e,g,d⟩:=h.one h1 h2
  exact ⟨b,by rw[Bp j];exact e,g,(hb.block b (yd.1 d).1).trans d⟩
 ·rw[A8 hi.1] at h1
  obtain ⟨b,e,g,d⟩:=h.two h1
  exact ⟨b,by rw[Bp j];exact e,g,(hb.block b (yd.1 d).1).trans d⟩
def Gl(W:World)(cs:LV)(m1 b a er:Int)(j:Nat)(v:Value)(w:World):Prop:=match j with
 |0=>v=.agg cs.toArray
 |1=>v=.agg #[.int .i64 1,.int .i64 3,.int .i64 1,.string ⟨#[]⟩,.int .i64 0,.slice none 0 0]
 |2=>v=.agg #[.int .i64 1,.int .i64 4,.int .i64 3,.string ⟨#[]⟩,.int .i64 0,.slice none 0 0]
 |3=>∃g:Nat,v=.agg #[.int .i64 3,.int .i64 0,.int .i64 0,.string ⟨#[]⟩,.int .i64 0,.slice (some ⟨g,0,none⟩) 2 2]∧w.heap[g]?=some (.cells #[.int .i64 1,.int .i64 3,.int .i64 1,.string ⟨#[]⟩,.int .i64 0,.slice none 0 0,.int .i64 1,.int .i64 4,.int .i64 3,.string ⟨#[]⟩,.int .i64 0,.slice none 0 0] 26 (0,0))
 |4=>v=.tuple #[.agg #[.int .i64 m1,.int .i64 b,.int .i64 a],.int .i64 er]
 |5=>v=.tuple #[.agg #[.int .i64 m1,.int .i64 b,.int .i64 a],.int .i64 er]
 |6=>v=.agg #[.int .i64 m1,.int .i64 b,.int .i64 a]
 |7=>v=.int .i64 er
 |10=>v=.int .i64 er
 |_=>True
theorem UA(W:World)(cs:LV)(m1 b a er:Int)(j:Nat)(v:Value)(w w':World)(c:F3 w w')(h:Gl W cs m1 b a er j v w):Gl W cs m1 b a er j v w':=by
 match j,h with
 |0,h=>exact h
 |1,h=>exact h
 |2,h=>exact h
 |3,h=>
  obtain ⟨g,h0,h1⟩:=h
  exact ⟨g,h0,c _ _ h1⟩
 |4,h=>exact h
 |5,h=>exact h
 |6,h=>exact h
 |7,h=>exact h
 |8,h=>exact h
 |9,h=>exact h
 |10,h=>exact h
 |_+11,h=>exact h
theorem SX{G:Act}{W0:World}{Q:QT}{B1:Nat}{cs:LV}{x:Ar}{m1 F N er:Int}(ops:Array Oper)(u:DP Tryz.f7 5=some ops)
 (T:G.tmps.getD 1 undef=.pointer (some ⟨B1,0,none⟩))(Z:G.tmps.size=141)(M:B1 < W0.heap.size)(l:W0.rangeAt B1 0 cs)(C:(Tryz.prog.info? 35).map (·.size)=some cs.length)(hS:Dv W0 cs x)(hm:Du x (M8 3 (Bw 3 1) (Bw 4 3))=(⟨⟨m1,F,N⟩,er⟩:Dm × Int))
 (hQ:∀(a:Act) w1 b,a.tmps.size=141->a.defers=G.defers->(∀t,t∉[36,37,38,39,40,35,41,42,7,8]->a.tmps.getD t undef=G.tmps.getD t undef)->a.tmps.getD 7 undef=.pointer (some ⟨b,0,none⟩)->a.tmps.getD 8 undef=.int .i64 er->Below W0.heap.size W0 w1->W0.heap.size<=b->w1.heap[b]?=some (.cells #[.int .i64 m1,.int .i64 F,.int .i64 N] 39 (0,0))->Q .normal a w1):
  (Code.region 5 ops true).wp Tryz.prog Q G W0:=by
 obtain rfl:=yi ((rfl:DP Tryz.f7 5=some _).symm.trans u)
 clear u
 have HM:=yb hm
 have HS:=yb hS
 have a0:=yb C
 clear hm hS C
 refine BP (by kernel_rfl) (WH W0 8 9 7 ji #[iV m1,iV F,iV N] 39) (Gl W0 cs m1 F N er) (fun _=>F3) (by kernel_rfl) (by rw[Z];kernel_rfl) (by kernel_rfl) (fun _ j v w w' _ _ hl h=>UA _ _ _ _ _ _ j v w w' hl h) ⟨(yg _ _).drew,fun _ h=>(by cases h),fun h=>(by cases h)⟩ ?_ ?_
 ·intro ix f a w' hM c o n
  have m:=yb hM.ext
  have U:=(yd.1 n).1
  have W:=hM.size
  have S:Hid (a.tmps.size=141):=yb (hM.tmps.trans Z)
  match ix,U with
  |0,_=>
   have d:=hM.old c 1 (by kernel_rfl) _ T
   have Y:=yb (A0 l (m.o.below.block _ M))
   clear l
   obtain rfl:=yi n
   refine xU 35 _ rfl B1 0 (by simpa[Act.eval] using d) cs _ Y.o qY rfl a0.o ?_
   exact ⟨_,rfl,m.o.quiet (by decide) (by decide) (yg _ _),F3.refl _,rfl⟩
  |1,_=>
   clear l
   obtain rfl:=yi n
   go_simp
   refine (Bo 3 1 _).mono ?_
   rintro e w2 ⟨rfl,i⟩
   exact ⟨_,rfl,m.o.quiet (by decide) (by decide) i,F3.below i,rfl⟩
  |2,_=>
   clear l
   obtain rfl:=yi n
   go_simp
   refine (Bo 4 3 _).mono ?_
   rintro e w2 ⟨rfl,i⟩
   exact ⟨_,rfl,m.o.quiet (by decide) (by decide) i,F3.below i,rfl⟩
  |3,_=>
   have L:=hM.dep c 1 37 (by kernel_rfl) (by kernel_rfl)
   unfold Gl at L
   simp only at L
   have K:=hM.dep c 2 38 (by kernel_rfl) (by kernel_rfl)
   unfold Gl at K
   simp only at K
   clear l
   obtain rfl:=yi n
   go_simp
   refine (IG 3 _ _ _ _ _ _ _ _ _ _ _ _ _ _ _ _ _).mono ?_
   rintro e w2 ⟨g,rfl,R,J,i⟩
   exact ⟨_,rfl,m.o.quiet (by decide) (by decide) i,F3.below i,g,rfl,J⟩
  |4,_=>
   have D:=hM.dep c 0 36 (by kernel_rfl) (by kernel_rfl)
   unfold Gl at D
   simp only at D
   have s:=hM.dep c 3 39 (by kernel_rfl) (by kernel_rfl)
   unfold Gl at s
   simp only at s
   obtain ⟨g,s,B⟩:=s
   have q:=J7 (HS.o.up m.o.below) (II 3 (yd.1 B).1 (ca:=xC 1 3 1 Gr 0) (cb:=xC 1 4 3 Gr 0) B (BY 3 1) (BY 4 3):AI (fun b=>b < w'.heap.size) w' (M8 3 (Bw 3 1) (Bw 4 3)) (tC 3 g))
   rw[HM.o] at q
   clear B l
   obtain rfl:=yi n
   go_simp
   refine q.mono ?_
   rintro e w2 ⟨rfl,i⟩
   exact ⟨_,rfl,m.o.quiet (by decide) (by decide) i,F3.below i,rfl⟩
  |5,_=>
   have O:=hM.dep c 4 40 (by kernel_rfl) (by kernel_rfl)
   unfold Gl at O
   simp only at O
   clear l
   obtain rfl:=yi n
   go_simp
   exact ⟨_,rfl,m.o.quiet (by decide) (by decide) (yg _ _),F3.refl _,rfl⟩
  |6,_=>
   have r:=hM.dep c 5 35 (by kernel_rfl) (by kernel_rfl)
   unfold Gl at r
   simp only at r
   clear l
   obtain rfl:=yi n
   go_simp
   exact ⟨_,rfl,m.o.quiet (by decide) (by decide) (yg _ _),F3.refl _,rfl⟩
  |7,_=>
   have r:=hM.dep c 5 35 (by kernel_rfl) (by kernel_rfl)
   unfold Gl at r
   simp only at r
   clear l
   obtain rfl:=yi n
   go_simp
   exact ⟨_,rfl,m.o.quiet (by decide) (by decide) (yg _ _),F3.refl _,rfl⟩
  |8,_=>
   have P:f.getD 9 false=false:=by
    rw[ym];intro h6
    have:=A1 hM.down 12 9 8 (by kernel_rfl) h6
    rw[hM.not_yet c] at this;cases this
   have HN:=yb P
   have HT:Hid (7 < a.tmps.size):=yb (by rw[S.o];decide)
   clear l P
   obtain rfl:=yi n
   go_simp
   have I:Below w'.heap.size w' (w'.alloc (.cells ji 39)):=(yg _ _).alloc (yf _) _
   refine ⟨_,rfl,⟨m.o.below.trans (I.mono m.o.below.size),fun _ _=>⟨w'.heap.size,?_,m.o.below.size,World.alloc_heap_new _ _⟩,fun h4=>?_⟩,F3.below I,trivial⟩
   ·show (a.put (some 7) (pV w'.heap.size 0)).tmps.getD 7 undef=_
    exact Az _ HT.o
   ·rw[A8 (by decide),HN.o] at h4;cases h4
  |9,_=>
   have P:=hM.not_yet c
   have lA:f.getD 8 false=true:=hM.came c 8 (by kernel_rfl)
   obtain ⟨b,X,E,z⟩:=m.o.one P lA
   have A:=hM.dep c 6 41 (by kernel_rfl) (by kernel_rfl)
   unfold Gl at A
   simp only at A
   have HL:Hid (9 < f.size):=yb (by rw[W];show 9 < 11;omega)
   have a2:=X
   rw[yB] at X
   refine wp_store_row 39 (.tmp 7) (.tmp 41) (by obtain rfl:=yi n;rfl) b #[iV m1,iV F,iV N] (by simpa[Act.eval] using X) (by simpa[Act.eval] using A) 39 ji z (by kernel_rfl) (by kernel_rfl) (by simp[Value.oneCell']) ?_
   obtain rfl:=yi n
   refine ⟨undef,rfl,⟨CQ m.o.below E _,fun h6=>?_,fun _=>⟨b,a2,E,qD _ _ _ _ _ _ z⟩⟩,fun g row R=>?_,trivial⟩
   ·simp[HL.o] at h6
   ·rw[Cy _ _ (fun e=>by rw[e,z] at R;cases R)];exact R
  |10,_=>
   have H:=hM.dep c 7 42 (by kernel_rfl) (by kernel_rfl)
   unfold Gl at H
   simp only at H
   clear l
   obtain rfl:=yi n
   go_simp
   exact ⟨_,rfl,m.o.quiet (by decide) (by decide) (yg _ _),F3.refl _,rfl⟩
 ·intro f a w' y hM
  obtain ⟨b,k1,k2,k3⟩:=hM.ext.two (y 9 (show 9 < 11 by omega))
  have V:=hM.done 10 (y 10 (show 10 < 11 by omega)) _ 8 rfl rfl
  unfold Gl at V
  simp only at V
  refine hQ a w' b (hM.tmps.trans Z) hM.defers (fun t ht=>hM.free t fun mm a6 o n hd=>ht ?_) k1 V hM.ext.below k2 k3
  have hs:=I4 (ops:=(Tryz.f7.body.bind (CV 5)).getD #[]) (p:=fun o=>match o.dst with|some k=>decide (k∈[36,37,38,39,40,35,41,42,7,8])|none=>true) (by kernel_rfl) n
  rw[hd] at hs
  exact yR hs
def Gm(W:World)(cs:LV)(m1 a er:Int)(j:Nat)(v:Value)(w:World):Prop:=match j with
 |0=>v=.agg cs.toArray
 |1=>v=.agg #[.int .i64 1,.int .i64 1,.int .i64 4,.string ⟨#[]⟩,.int .i64 0,.slice none 0 0]
 |2=>v=.agg #[.int .i64 1,.int .i64 30,.int .i64 3,.string ⟨#[]⟩,.int .i64 0,.slice none 0 0]
 |3=>∃g:Nat,v=.agg #[.int .i64 4,.int .i64 0,.int .i64 0,.string ⟨#[]⟩,.int .i64 0,.slice (some ⟨g,0,none⟩) 2 2]∧w.heap[g]?=some (.cells #[.int .i64 1,.int .i64 1,.int .i64 4,.string ⟨#[]⟩,.int .i64 0,.slice none 0 0,.int .i64 1,.int .i64 30,.int .i64 3,.string ⟨#[]⟩,.int .i64 0,.slice none 0 0] 26 (0,0))
 |4=>v=.tuple #[.agg #[.int .i64 m1,.int .i64 a],.int .i64 er]
 |5=>v=.tuple #[.agg #[.int .i64 m1,.int .i64 a],.int .i64 er]
 |6=>v=.agg #[.int .i64 m1,.int .i64 a]
 |7=>v=.int .i64 er
 |10=>v=.int .i64 er
 |_=>True
theorem UB(W:World)(cs:LV)(m1 a er:Int)(j:Nat)(v:Value)(w w':World)(b:F3 w w')(h:Gm W cs m1 a er j v w):Gm W cs m1 a er j v w':=by
 match j,h with
 |0,h=>exact h
 |1,h=>exact h
 |2,h=>exact h
 |3,h=>
  obtain ⟨g,h0,h1⟩:=h
  exact ⟨g,h0,b _ _ h1⟩
 |4,h=>exact h
 |5,h=>exact h
 |6,h=>exact h
 |7,h=>exact h
 |8,h=>exact h
 |9,h=>exact h
 |10,h=>exact h
 |_+11,h=>exact h
theorem SY{H:Act}{W0:World}{Q:QT}{B1:Nat}{cs:LV}{x:Ar}{m1 G er:Int}(ops:Array Oper)(u:DP Tryz.f7 6=some ops)
 (S:H.tmps.getD 1 undef=.pointer (some ⟨B1,0,none⟩))(Y:H.tmps.size=141)(N:B1 < W0.heap.size)(l:W0.rangeAt B1 0 cs)(D:(Tryz.prog.info? 35).map (·.size)=some cs.length)(hS:Dv W0 cs x)(hm:B7 x (M8 4 (Bw 1 4) (Bw 30 3))=(⟨⟨m1,G⟩,er⟩:Rt × Int))
 (hQ:∀(a:Act) w1 b,a.tmps.size=141->a.defers=H.defers->(∀t,t∉[44,45,46,47,48,43,49,50,9,10]->a.tmps.getD t undef=H.tmps.getD t undef)->a.tmps.getD 9 undef=.pointer (some ⟨b,0,none⟩)->a.tmps.getD 10 undef=.int .i64 er->Below W0.heap.size W0 w1->W0.heap.size<=b->w1.heap[b]?=some (.cells #[.int .i64 m1,.int .i64 G] 44 (0,0))->Q .normal a w1):
  (Code.region 6 ops true).wp Tryz.prog Q H W0:=by
 obtain rfl:=yi ((rfl:DP Tryz.f7 6=some _).symm.trans u)
 clear u
 have HM:=yb hm
 have HS:=yb hS
 have Z:=yb D
 clear hm hS D
 refine BP (by kernel_rfl) (WH W0 8 9 9 jh #[iV m1,iV G] 44) (Gm W0 cs m1 G er) (fun _=>F3) (by kernel_rfl) (by rw[Y];kernel_rfl) (by kernel_rfl) (fun _ j v w w' _ _ hl h=>UB _ _ _ _ _ j v w w' hl h) ⟨(yg _ _).drew,fun _ h=>(by cases h),fun h=>(by cases h)⟩ ?_ ?_
 ·intro ix f a w' hM c o n
  have m:=yb hM.ext
  have T:=(yd.1 n).1
  have V:=hM.size
  have R:Hid (a.tmps.size=141):=yb (hM.tmps.trans Y)
  match ix,T with
  |0,_=>
   have d:=hM.old c 1 (by kernel_rfl) _ S
   have X:=yb (A0 l (m.o.below.block _ N))
   clear l
   obtain rfl:=yi n
   refine xU 35 _ rfl B1 0 (by simpa[Act.eval] using d) cs _ X.o qY rfl Z.o ?_
   exact ⟨_,rfl,m.o.quiet (by decide) (by decide) (yg _ _),F3.refl _,rfl⟩
  |1,_=>
   clear l
   obtain rfl:=yi n
   go_simp
   refine (Bo 1 4 _).mono ?_
   rintro e w2 ⟨rfl,i⟩
   exact ⟨_,rfl,m.o.quiet (by decide) (by decide) i,F3.below i,rfl⟩
  |2,_=>
   clear l
   obtain rfl:=yi n
   go_simp
   refine (Bo 30 3 _).mono ?_
   rintro e w2 ⟨rfl,i⟩
   exact ⟨_,rfl,m.o.quiet (by decide) (by decide) i,F3.below i,rfl⟩
  |3,_=>
   have I:=hM.dep c 1 45 (by kernel_rfl) (by kernel_rfl)
   unfold Gm at I
   simp only at I
   have C:=hM.dep c 2 46 (by kernel_rfl) (by kernel_rfl)
   unfold Gm at C
   simp only at C
   clear l
   obtain rfl:=yi n
   go_simp
   refine (IG 4 _ _ _ _ _ _ _ _ _ _ _ _ _ _ _ _ _).mono ?_
   rintro e w2 ⟨g,rfl,P,M,i⟩
   exact ⟨_,rfl,m.o.quiet (by decide) (by decide) i,F3.below i,g,rfl,M⟩
  |4,_=>
   have K:=hM.dep c 0 44 (by kernel_rfl) (by kernel_rfl)
   unfold Gm at K
   simp only at K
   have s:=hM.dep c 3 47 (by kernel_rfl) (by kernel_rfl)
   unfold Gm at s
   simp only at s
   obtain ⟨g,s,B⟩:=s
   have q:=DS (HS.o.up m.o.below) (II 4 (yd.1 B).1 (ca:=xC 1 1 4 Gr 0) (cb:=xC 1 30 3 Gr 0) B (BY 1 4) (BY 30 3):AI (fun b=>b < w'.heap.size) w' (M8 4 (Bw 1 4) (Bw 30 3)) (tC 4 g))
   rw[HM.o] at q
   clear B l
   obtain rfl:=yi n
   go_simp
   refine q.mono ?_
   rintro e w2 ⟨rfl,i⟩
   exact ⟨_,rfl,m.o.quiet (by decide) (by decide) i,F3.below i,rfl⟩
  |5,_=>
   have E:=hM.dep c 4 48 (by kernel_rfl) (by kernel_rfl)
   unfold Gm at E
   simp only at E
   clear l
   obtain rfl:=yi n
   go_simp
   exact ⟨_,rfl,m.o.quiet (by decide) (by decide) (yg _ _),F3.refl _,rfl⟩
  |6,_=>
   have r:=hM.dep c 5 43 (by kernel_rfl) (by kernel_rfl)
   unfold Gm at r
   simp only at r
   clear l
   obtain rfl:=yi n
   go_simp
   exact ⟨_,rfl,m.o.quiet (by decide) (by decide) (yg _ _),F3.refl _,rfl⟩
  |7,_=>
   have r:=hM.dep c 5 43 (by kernel_rfl) (by kernel_rfl)
   unfold Gm at r
   simp only at r
   clear l
   obtain rfl:=yi n
   go_simp
   exact ⟨_,rfl,m.o.quiet (by decide) (by decide) (yg _ _),F3.refl _,rfl⟩
  |8,_=>
   have O:f.getD 9 false=false:=by
    rw[ym];intro h6
    have:=A1 hM.down 12 9 8 (by kernel_rfl) h6
    rw[hM.not_yet c] at this;cases this
   have HN:=yb O
   have HT:Hid (9 < a.tmps.size):=yb (by rw[R.o];decide)
   clear l O
   obtain rfl:=yi n
   go_simp
   have J:Below w'.heap.size w' (w'.alloc (.cells jh 44)):=(yg _ _).alloc (yf _) _
   refine ⟨_,rfl,⟨m.o.below.trans (J.mono m.o.below.size),fun _ _=>⟨w'.heap.size,?_,m.o.below.size,World.alloc_heap_new _ _⟩,fun h4=>?_⟩,F3.below J,trivial⟩
   ·show (a.put (some 9) (pV w'.heap.size 0)).tmps.getD 9 undef=_
    exact Az _ HT.o
   ·rw[A8 (by decide),HN.o] at h4;cases h4
  |9,_=>
   have O:=hM.not_yet c
   have lA:f.getD 8 false=true:=hM.came c 8 (by kernel_rfl)
   obtain ⟨b,W,F,z⟩:=m.o.one O lA
   have A:=hM.dep c 6 49 (by kernel_rfl) (by kernel_rfl)
   unfold Gm at A
   simp only at A
   have HL:Hid (9 < f.size):=yb (by rw[V];show 9 < 11;omega)
   have a0:=W
   rw[yB] at W
   refine wp_store_row 44 (.tmp 9) (.tmp 49) (by obtain rfl:=yi n;rfl) b #[iV m1,iV G] (by simpa[Act.eval] using W) (by simpa[Act.eval] using A) 44 jh z (by kernel_rfl) (by kernel_rfl) (by simp[Value.oneCell']) ?_
   obtain rfl:=yi n
   refine ⟨undef,rfl,⟨CQ m.o.below F _,fun h6=>?_,fun _=>⟨b,a0,F,qD _ _ _ _ _ _ z⟩⟩,fun g row P=>?_,trivial⟩
   ·simp[HL.o] at h6
   ·rw[Cy _ _ (fun e=>by rw[e,z] at P;cases P)];exact P
  |10,_=>
   have L:=hM.dep c 7 50 (by kernel_rfl) (by kernel_rfl)
   unfold Gm at L
   simp only at L
   clear l
   obtain rfl:=yi n
   go_simp
   exact ⟨_,rfl,m.o.quiet (by decide) (by decide) (yg _ _),F3.refl _,rfl⟩
 ·intro f a w' y hM
  obtain ⟨b,k1,k2,k3⟩:=hM.ext.two (y 9 (show 9 < 11 by omega))
  have U:=hM.done 10 (y 10 (show 10 < 11 by omega)) _ 10 rfl rfl
  unfold Gm at U
  simp only at U
  refine hQ a w' b (hM.tmps.trans Y) hM.defers (fun t ht=>hM.free t fun mm a2 o n hd=>ht ?_) k1 U hM.ext.below k2 k3
  have hs:=I4 (ops:=(Tryz.f7.body.bind (CV 6)).getD #[]) (p:=fun o=>match o.dst with|some k=>decide (k∈[44,45,46,47,48,43,49,50,9,10])|none=>true) (by kernel_rfl) n
  rw[hd] at hs
  exact yR hs
def Gn(W:World)(cs:LV)(m1 a er:Int)(j:Nat)(v:Value)(w:World):Prop:=match j with
 |0=>v=.agg cs.toArray
 |1=>v=.agg #[.int .i64 1,.int .i64 1,.int .i64 0,.string ⟨#[]⟩,.int .i64 0,.slice none 0 0]
 |2=>v=.agg #[.int .i64 1,.int .i64 0,.int .i64 0,.string ⟨#[]⟩,.int .i64 0,.slice none 0 0]
 |3=>∃g:Nat,v=.agg #[.int .i64 6,.int .i64 0,.int .i64 0,.string ⟨#[]⟩,.int .i64 0,.slice (some ⟨g,0,none⟩) 2 2]∧w.heap[g]?=some (.cells #[.int .i64 1,.int .i64 1,.int .i64 0,.string ⟨#[]⟩,.int .i64 0,.slice none 0 0,.int .i64 1,.int .i64 0,.int .i64 0,.string ⟨#[]⟩,.int .i64 0,.slice none 0 0] 26 (0,0))
 |4=>v=.tuple #[.agg #[.int .i64 m1,.int .i64 a],.int .i64 er]
 |5=>v=.tuple #[.agg #[.int .i64 m1,.int .i64 a],.int .i64 er]
 |6=>v=.agg #[.int .i64 m1,.int .i64 a]
 |7=>v=.int .i64 er
 |10=>v=.int .i64 er
 |_=>True
theorem UC(W:World)(cs:LV)(m1 a er:Int)(j:Nat)(v:Value)(w w':World)(b:F3 w w')(h:Gn W cs m1 a er j v w):Gn W cs m1 a er j v w':=by
 match j,h with
 |0,h=>exact h
 |1,h=>exact h
 |2,h=>exact h
 |3,h=>
  obtain ⟨g,h0,h1⟩:=h
  exact ⟨g,h0,b _ _ h1⟩
 |4,h=>exact h
 |5,h=>exact h
 |6,h=>exact h
 |7,h=>exact h
 |8,h=>exact h
 |9,h=>exact h
 |10,h=>exact h
 |_+11,h=>exact h
theorem SZ{I:Act}{W0:World}{Q:QT}{B1:Nat}{cs:LV}{x:Ar}{m1 H er:Int}(ops:Array Oper)(u:DP Tryz.f7 7=some ops)
 (S:I.tmps.getD 1 undef=.pointer (some ⟨B1,0,none⟩))(Y:I.tmps.size=141)(N:B1 < W0.heap.size)(l:W0.rangeAt B1 0 cs)(D:(Tryz.prog.info? 35).map (·.size)=some cs.length)(hS:Dv W0 cs x)(hm:B7 x (M8 6 (Bw 1 0) (Bw 0 0))=(⟨⟨m1,H⟩,er⟩:Rt × Int))
 (hQ:∀(a:Act) w1 b,a.tmps.size=141->a.defers=I.defers->(∀t,t∉[52,53,54,55,56,51,57,58,11,12]->a.tmps.getD t undef=I.tmps.getD t undef)->a.tmps.getD 11 undef=.pointer (some ⟨b,0,none⟩)->a.tmps.getD 12 undef=.int .i64 er->Below W0.heap.size W0 w1->W0.heap.size<=b->w1.heap[b]?=some (.cells #[.int .i64 m1,.int .i64 H] 44 (0,0))->Q .normal a w1):
  (Code.region 7 ops true).wp Tryz.prog Q I W0:=by
 obtain rfl:=yi ((rfl:DP Tryz.f7 7=some _).symm.trans u)
 clear u
 have HM:=yb hm
 have HS:=yb hS
 have Z:=yb D
 clear hm hS D
 refine BP (by kernel_rfl) (WH W0 8 9 11 jh #[iV m1,iV H] 44) (Gn W0 cs m1 H er) (fun _=>F3) (by kernel_rfl) (by rw[Y];kernel_rfl) (by kernel_rfl) (fun _ j v w w' _ _ hl h=>UC _ _ _ _ _ j v w w' hl h) ⟨(yg _ _).drew,fun _ h=>(by cases h),fun h=>(by cases h)⟩ ?_ ?_
 ·intro ix f a w' hM c o n
  have m:=yb hM.ext
  have T:=(yd.1 n).1
  have V:=hM.size
  have R:Hid (a.tmps.size=141):=yb (hM.tmps.trans Y)
  match ix,T with
  |0,_=>
   have d:=hM.old c 1 (by kernel_rfl) _ S
   have X:=yb (A0 l (m.o.below.block _ N))
   clear l
   obtain rfl:=yi n
   refine xU 35 _ rfl B1 0 (by simpa[Act.eval] using d) cs _ X.o qY rfl Z.o ?_
   exact ⟨_,rfl,m.o.quiet (by decide) (by decide) (yg _ _),F3.refl _,rfl⟩
  |1,_=>
   clear l
   obtain rfl:=yi n
   go_simp
   refine (Bo 1 0 _).mono ?_
   rintro e w2 ⟨rfl,i⟩
   exact ⟨_,rfl,m.o.quiet (by decide) (by decide) i,F3.below i,rfl⟩
  |2,_=>
   clear l
   obtain rfl:=yi n
   go_simp
   refine (Bo 0 0 _).mono ?_
   rintro e w2 ⟨rfl,i⟩
   exact ⟨_,rfl,m.o.quiet (by decide) (by decide) i,F3.below i,rfl⟩
  |3,_=>
   have E:=hM.dep c 1 53 (by kernel_rfl) (by kernel_rfl)
   unfold Gn at E
   simp only at E
   have M:=hM.dep c 2 54 (by kernel_rfl) (by kernel_rfl)
   unfold Gn at M
   simp only at M
   clear l
   obtain rfl:=yi n
   go_simp
   refine (IG 6 _ _ _ _ _ _ _ _ _ _ _ _ _ _ _ _ _).mono ?_
   rintro e w2 ⟨g,rfl,P,L,i⟩
   exact ⟨_,rfl,m.o.quiet (by decide) (by decide) i,F3.below i,g,rfl,L⟩
  |4,_=>
   have F:=hM.dep c 0 52 (by kernel_rfl) (by kernel_rfl)
   unfold Gn at F
   simp only at F
   have s:=hM.dep c 3 55 (by kernel_rfl) (by kernel_rfl)
   unfold Gn at s
   simp only at s
   obtain ⟨g,s,B⟩:=s
   have q:=DS (HS.o.up m.o.below) (II 6 (yd.1 B).1 (ca:=xC 1 1 0 Gr 0) (cb:=xC 1 0 0 Gr 0) B (BY 1 0) (BY 0 0):AI (fun b=>b < w'.heap.size) w' (M8 6 (Bw 1 0) (Bw 0 0)) (tC 6 g))
   rw[HM.o] at q
   clear B l
   obtain rfl:=yi n
   go_simp
   refine q.mono ?_
   rintro e w2 ⟨rfl,i⟩
   exact ⟨_,rfl,m.o.quiet (by decide) (by decide) i,F3.below i,rfl⟩
  |5,_=>
   have K:=hM.dep c 4 56 (by kernel_rfl) (by kernel_rfl)
   unfold Gn at K
   simp only at K
   clear l
   obtain rfl:=yi n
   go_simp
   exact ⟨_,rfl,m.o.quiet (by decide) (by decide) (yg _ _),F3.refl _,rfl⟩
  |6,_=>
   have r:=hM.dep c 5 51 (by kernel_rfl) (by kernel_rfl)
   unfold Gn at r
   simp only at r
   clear l
   obtain rfl:=yi n
   go_simp
   exact ⟨_,rfl,m.o.quiet (by decide) (by decide) (yg _ _),F3.refl _,rfl⟩
  |7,_=>
   have r:=hM.dep c 5 51 (by kernel_rfl) (by kernel_rfl)
   unfold Gn at r
   simp only at r
   clear l
   obtain rfl:=yi n
   go_simp
   exact ⟨_,rfl,m.o.quiet (by decide) (by decide) (yg _ _),F3.refl _,rfl⟩
  |8,_=>
   have O:f.getD 9 false=false:=by
    rw[ym];intro h6
    have:=A1 hM.down 12 9 8 (by kernel_rfl) h6
    rw[hM.not_yet c] at this;cases this
   have HN:=yb O
   have HT:Hid (11 < a.tmps.size):=yb (by rw[R.o];decide)
   clear l O
   obtain rfl:=yi n
   go_simp
   have J:Below w'.heap.size w' (w'.alloc (.cells jh 44)):=(yg _ _).alloc (yf _) _
   refine ⟨_,rfl,⟨m.o.below.trans (J.mono m.o.below.size),fun _ _=>⟨w'.heap.size,?_,m.o.below.size,World.alloc_heap_new _ _⟩,fun h4=>?_⟩,F3.below J,trivial⟩
   ·show (a.put (some 11) (pV w'.heap.size 0)).tmps.getD 11 undef=_
    exact Az _ HT.o
   ·rw[A8 (by decide),HN.o] at h4;cases h4
  |9,_=>
   have O:=hM.not_yet c
   have lA:f.getD 8 false=true:=hM.came c 8 (by kernel_rfl)
   obtain ⟨b,W,G,z⟩:=m.o.one O lA
   have A:=hM.dep c 6 57 (by kernel_rfl) (by kernel_rfl)
   unfold Gn at A
   simp only at A
   have HL:Hid (9 < f.size):=yb (by rw[V];show 9 < 11;omega)
   have a0:=W
   rw[yB] at W
   refine wp_store_row 44 (.tmp 11) (.tmp 57) (by obtain rfl:=yi n;rfl) b #[iV m1,iV H] (by simpa[Act.eval] using W) (by simpa[Act.eval] using A) 44 jh z (by kernel_rfl) (by kernel_rfl) (by simp[Value.oneCell']) ?_
   obtain rfl:=yi n
   refine ⟨undef,rfl,⟨CQ m.o.below G _,fun h6=>?_,fun _=>⟨b,a0,G,qD _ _ _ _ _ _ z⟩⟩,fun g row P=>?_,trivial⟩
   ·simp[HL.o] at h6
   ·rw[Cy _ _ (fun e=>by rw[e,z] at P;cases P)];exact P
  |10,_=>
   have C:=hM.dep c 7 58 (by kernel_rfl) (by kernel_rfl)
   unfold Gn at C
   simp only at C
   clear l
   obtain rfl:=yi n
   go_simp
   exact ⟨_,rfl,m.o.quiet (by decide) (by decide) (yg _ _),F3.refl _,rfl⟩
 ·intro f a w' y hM
  obtain ⟨b,k1,k2,k3⟩:=hM.ext.two (y 9 (show 9 < 11 by omega))
  have U:=hM.done 10 (y 10 (show 10 < 11 by omega)) _ 12 rfl rfl
  unfold Gn at U
  simp only at U
  refine hQ a w' b (hM.tmps.trans Y) hM.defers (fun t ht=>hM.free t fun mm a2 o n hd=>ht ?_) k1 U hM.ext.below k2 k3
  have hs:=I4 (ops:=(Tryz.f7.body.bind (CV 7)).getD #[]) (p:=fun o=>match o.dst with|some k=>decide (k∈[52,53,54,55,56,51,57,58,11,12])|none=>true) (by kernel_rfl) n
  rw[hd] at hs
  exact yR hs
def Hk(W:World)(cs:LV)(m1 a er:Int)(j:Nat)(v:Value)(w:World):Prop:=match j with
 |0=>v=.agg cs.toArray
 |1=>v=.agg #[.int .i64 1,.int .i64 1073741825,.int .i64 0,.string ⟨#[]⟩,.int .i64 0,.slice none 0 0]
 |2=>v=.tuple #[.agg #[.int .i64 m1,.int .i64 a],.int .i64 er]
 |3=>v=.tuple #[.agg #[.int .i64 m1,.int .i64 a],.int .i64 er]
 |4=>v=.agg #[.int .i64 m1,.int .i64 a]
 |5=>v=.int .i64 er
 |8=>v=.int .i64 er
 |_=>True
theorem UD(W:World)(cs:LV)(m1 a er:Int)(j:Nat)(v:Value)(w w':World)(b:F3 w w')(h:Hk W cs m1 a er j v w):Hk W cs m1 a er j v w':=by
 match j,h with
 |0,h=>exact h
 |1,h=>exact h
 |2,h=>exact h
 |3,h=>exact h
 |4,h=>exact h
 |5,h=>exact h
 |6,h=>exact h
 |7,h=>exact h
 |8,h=>exact h
 |_+9,h=>exact h
theorem T0{E:Act}{W0:World}{Q:QT}{B1:Nat}{cs:LV}{x:Ar}{m1 D er:Int}(ops:Array Oper)(s:DP Tryz.f7 8=some ops)
 (M:E.tmps.getD 1 undef=.pointer (some ⟨B1,0,none⟩))(T:E.tmps.size=141)(J:B1 < W0.heap.size)(i:W0.rangeAt B1 0 cs)(A:(Tryz.prog.info? 35).map (·.size)=some cs.length)(Y:Dv W0 cs x)(Z:B7 x (Bw 1073741825 0)=(⟨⟨m1,D⟩,er⟩:Rt × Int))
 (hQ:∀(a:Act) w1 b,a.tmps.size=141->a.defers=E.defers->(∀t,t∉[60,61,62,59,63,64,13,14]->a.tmps.getD t undef=E.tmps.getD t undef)->a.tmps.getD 13 undef=.pointer (some ⟨b,0,none⟩)->a.tmps.getD 14 undef=.int .i64 er->Below W0.heap.size W0 w1->W0.heap.size<=b->w1.heap[b]?=some (.cells #[.int .i64 m1,.int .i64 D] 44 (0,0))->Q .normal a w1):
  (Code.region 8 ops true).wp Tryz.prog Q E W0:=by
 obtain rfl:=yi ((rfl:DP Tryz.f7 8=some _).symm.trans s)
 clear s
 have HM:=yb Z
 have HS:=yb Y
 have U:=yb A
 clear Z Y A
 refine BP (by kernel_rfl) (WH W0 6 7 13 jh #[iV m1,iV D] 44) (Hk W0 cs m1 D er) (fun _=>F3) (by kernel_rfl) (by rw[T];kernel_rfl) (by kernel_rfl) (fun _ j v w w' _ _ hl h=>UD _ _ _ _ _ j v w w' hl h) ⟨(yg _ _).drew,fun _ h=>(by cases h),fun h=>(by cases h)⟩ ?_ ?_
 ·intro ix c a w' hM f o m
  have l:=yb hM.ext
  have N:=(yd.1 m).1
  have P:=hM.size
  have L:Hid (a.tmps.size=141):=yb (hM.tmps.trans T)
  match ix,N with
  |0,_=>
   have d:=hM.old f 1 (by kernel_rfl) _ M
   have S:=yb (A0 i (l.o.below.block _ J))
   clear i
   obtain rfl:=yi m
   refine xU 35 _ rfl B1 0 (by simpa[Act.eval] using d) cs _ S.o qY rfl U.o ?_
   exact ⟨_,rfl,l.o.quiet (by decide) (by decide) (yg _ _),F3.refl _,rfl⟩
  |1,_=>
   clear i
   obtain rfl:=yi m
   go_simp
   refine (Bo 1073741825 0 _).mono ?_
   rintro e w2 ⟨rfl,n⟩
   exact ⟨_,rfl,l.o.quiet (by decide) (by decide) n,F3.below n,rfl⟩
  |2,_=>
   have F:=hM.dep f 0 60 (by kernel_rfl) (by kernel_rfl)
   unfold Hk at F
   simp only at F
   have H:=hM.dep f 1 61 (by kernel_rfl) (by kernel_rfl)
   unfold Hk at H
   simp only at H
   have q:=DS (HS.o.up l.o.below) (BY 1073741825 0:AI (fun b=>b < w'.heap.size) w' (Bw 1073741825 0) (xC 1 1073741825 0 Gr 0))
   rw[HM.o] at q
   skip
   clear i
   obtain rfl:=yi m
   go_simp
   refine q.mono ?_
   rintro e w2 ⟨rfl,n⟩
   exact ⟨_,rfl,l.o.quiet (by decide) (by decide) n,F3.below n,rfl⟩
  |3,_=>
   have I:=hM.dep f 2 62 (by kernel_rfl) (by kernel_rfl)
   unfold Hk at I
   simp only at I
   clear i
   obtain rfl:=yi m
   go_simp
   exact ⟨_,rfl,l.o.quiet (by decide) (by decide) (yg _ _),F3.refl _,rfl⟩
  |4,_=>
   have r:=hM.dep f 3 59 (by kernel_rfl) (by kernel_rfl)
   unfold Hk at r
   simp only at r
   clear i
   obtain rfl:=yi m
   go_simp
   exact ⟨_,rfl,l.o.quiet (by decide) (by decide) (yg _ _),F3.refl _,rfl⟩
  |5,_=>
   have r:=hM.dep f 3 59 (by kernel_rfl) (by kernel_rfl)
   unfold Hk at r
   simp only at r
   clear i
   obtain rfl:=yi m
   go_simp
   exact ⟨_,rfl,l.o.quiet (by decide) (by decide) (yg _ _),F3.refl _,rfl⟩
  |6,_=>
   have K:c.getD 7 false=false:=by
    rw[ym];intro X
    have:=A1 hM.down 12 7 6 (by kernel_rfl) X
    rw[hM.not_yet f] at this;cases this
   have HN:=yb K
   have HT:Hid (13 < a.tmps.size):=yb (by rw[L.o];decide)
   clear i K
   obtain rfl:=yi m
   go_simp
   have G:Below w'.heap.size w' (w'.alloc (.cells jh 44)):=(yg _ _).alloc (yf _) _
   refine ⟨_,rfl,⟨l.o.below.trans (G.mono l.o.below.size),fun _ _=>⟨w'.heap.size,?_,l.o.below.size,World.alloc_heap_new _ _⟩,fun h4=>?_⟩,F3.below G,trivial⟩
   ·show (a.put (some 13) (pV w'.heap.size 0)).tmps.getD 13 undef=_
    exact Az _ HT.o
   ·rw[A8 (by decide),HN.o] at h4;cases h4
  |7,_=>
   have K:=hM.not_yet f
   have lA:c.getD 6 false=true:=hM.came f 6 (by kernel_rfl)
   obtain ⟨b,R,C,y⟩:=l.o.one K lA
   have z:=hM.dep f 4 63 (by kernel_rfl) (by kernel_rfl)
   unfold Hk at z
   simp only at z
   have HL:Hid (7 < c.size):=yb (by rw[P];show 7 < 9;omega)
   have W:=R
   rw[yB] at R
   refine wp_store_row 44 (.tmp 13) (.tmp 63) (by obtain rfl:=yi m;rfl) b #[iV m1,iV D] (by simpa[Act.eval] using R) (by simpa[Act.eval] using z) 44 jh y (by kernel_rfl) (by kernel_rfl) (by simp[Value.oneCell']) ?_
   obtain rfl:=yi m
   refine ⟨undef,rfl,⟨CQ l.o.below C _,fun X=>?_,fun _=>⟨b,W,C,qD _ _ _ _ _ _ y⟩⟩,fun g row V=>?_,trivial⟩
   ·simp[HL.o] at X
   ·rw[Cy _ _ (fun e=>by rw[e,y] at V;cases V)];exact V
  |8,_=>
   have B:=hM.dep f 5 64 (by kernel_rfl) (by kernel_rfl)
   unfold Hk at B
   simp only at B
   clear i
   obtain rfl:=yi m
   go_simp
   exact ⟨_,rfl,l.o.quiet (by decide) (by decide) (yg _ _),F3.refl _,rfl⟩
 ·intro c a w' u hM
  obtain ⟨b,k1,k2,k3⟩:=hM.ext.two (u 7 (show 7 < 9 by omega))
  have O:=hM.done 8 (u 8 (show 8 < 9 by omega)) _ 14 rfl rfl
  unfold Hk at O
  simp only at O
  refine hQ a w' b (hM.tmps.trans T) hM.defers (fun t ht=>hM.free t fun mm a0 o m hd=>ht ?_) k1 O hM.ext.below k2 k3
  have hs:=I4 (ops:=(Tryz.f7.body.bind (CV 8)).getD #[]) (p:=fun o=>match o.dst with|some k=>decide (k∈[60,61,62,59,63,64,13,14])|none=>true) (by kernel_rfl) m
  rw[hd] at hs
  exact yR hs
set_option linter.unusedSimpArgs false
theorem T1:∀e∈As (DW BQ),At e.1<=1000000:=fun e a=>
 yR (yW.1 (show (As (DW BQ)).all (fun e=>decide (At e.1<=1000000))=true by kernel_rfl) e a)
theorem QR:∀e∈As (DW (Bw 40 1)),At e.1<=1000000:=fun e a=>
 yR (yW.1 (show (As (DW (Bw 40 1))).all (fun e=>decide (At e.1<=1000000))=true by kernel_rfl) e a)
mutual
def Ph:Ex->Bool
 |.mk _ _ _ _ _ l=>decide (l.length<=100000)&&NR l
def NR:List Ex->Bool
 |[]=>true
 |e::r=>Ph e&&NR r
end
mutual
theorem NS:∀ {e:Ex},Ph e=true->Dt e
 |.mk _ _ _ _ _ l,h=>by
  rw[Ph,yE,yT] at h
  rw[Dt];exact ⟨h.1,Pj h.2⟩
theorem Pj:∀ {l:List Ex},NR l=true->EK l
 |[],_=>by rw[EK];trivial
 |e::r,h=>by
  rw[NR,yE] at h
  rw[EK];exact ⟨NS h.1,Pj h.2⟩
end
theorem T2:∀e∈As (DW BQ),Dt e.1:=fun e a=>NS (yW.1 (show (As (DW BQ)).all (fun e=>Ph e.1)=true by kernel_rfl) e a)
theorem QS:∀e∈As (DW (Bw 40 1)),Dt e.1:=fun e a=>NS (yW.1 (show (As (DW (Bw 40 1))).all (fun e=>Ph e.1)=true by kernel_rfl) e a)
theorem UE(cap:Ex)(h:∀e∈As (DW cap),Dt e.1):Kf (DW cap):=⟨by simp[DW],by simp[DW],by simp[DW],by simp[DW],by simp[DW],by simp[DW],by simp[DW],by simp[DW],h⟩
set_option linter.unusedSimpArgs false
set_option linter.unusedVariables false
theorem FO{ops:Array Oper}{rest:List Oper}{op:Oper}{a:Act}{w:World}{Q:QT}(f:Region.wanted op (yielded ops a.tmps)=true)(ty:TypeId)(x:Operand)(c:op.op=.load ty x)
 (b o:Nat)(i:a.eval x=.pointer (some ⟨b,o,none⟩))(cs:LV)(d:TypeDesc)(j:w.rangeAt b o cs)(e:Tryz.prog.underlying ty=some d)(hd:d.isRow=true)(hi:(Tryz.prog.info? ty).map (·.size)=some cs.length)
 (h:wpList Tryz.prog ops Q rest (a.put op.dst (.agg cs.toArray)) w):wpList Tryz.prog ops Q (op::rest) a w:=
 wpList_step fun K g=>by rw[yw f];exact xU ty x c b o i cs d j e hd hi (g _ _ h)
structure QU (lo:Nat) (W:World) (g13 g16 g18 g28 g31 g36:Nat) (capc:List Value):Prop where
 lo13:lo<=g13∧lo<=g16∧lo<=g18∧lo<=g28∧lo<=g31∧lo<=g36
 b13:W.heap[g13]?=some (.cells #[.string ⟨#[107]⟩,.int .i64 1,.int .i64 3,.int .i64 2,.string ⟨#[]⟩,.int .i64 0,.slice none 0 0] 50 (0,0))
 b16:W.heap[g16]?=some (.cells #[.int .i64 1,.int .i64 7,.int .i64 1,.string ⟨#[]⟩,.int .i64 0,.slice none 0 0,.int .i64 1,.int .i64 1,.int .i64 5,.string ⟨#[]⟩,.int .i64 0,.slice none 0 0] 26 (0,0))
 b18:W.heap[g18]?=some (.cells #[.string ⟨#[99]⟩,.int .i64 6,.int .i64 0,.int .i64 0,.string ⟨#[]⟩,.int .i64 0,.slice (some ⟨g16,0,none⟩) 2 2] 92 (0,0))
 b28:W.heap[g28]?=some (.cells #[.int .i64 1,.int .i64 1,.int .i64 0,.string ⟨#[]⟩,.int .i64 0,.slice none 0 0,.int .i64 1,.int .i64 8,.int .i64 0,.string ⟨#[]⟩,.int .i64 0,.slice none 0 0] 26 (0,0))
 b31:W.heap[g31]?=some (.cells (LM++(capc++LN g28)).toArray 66 (0,0))
 b36:W.heap[g36]?=some (.cells #[.string ⟨#[102]⟩,.string ⟨#[114]⟩,.int .i64 0,.bool false,.int .i64 1,.int .i64 20,.int .i64 5,.string ⟨#[]⟩,.int .i64 0,.slice none 0 0,.string ⟨#[99]⟩,.int .i64 0] 94 (0,0))
theorem QU.up{lo:Nat}{W W':World}{c i b e d f:Nat}{a:LV}(h:QU lo W c i b e d f a)(hb:Below W.heap.size W W'):QU lo W' c i b e d f a:=by
 have k:∀ {g:Nat} {o:Obj},W.heap[g]?=some o->W'.heap[g]?=some o:=fun j=>(hb.block _ (yd.1 j).1).trans j
 exact ⟨h.lo13,k h.b13,k h.b16,k h.b18,k h.b28,k h.b31,k h.b36⟩
theorem QU.ok{lo:Nat}{W:World}{j m f l d c:Nat}{a:LV}{cap:Ex}(h:QU lo W j m f l d c a)(i:AI (fun b=>b < W.heap.size) W cap a)(p:GV W)(n:GU W)(hs:∀e∈As (DW cap),Dt e.1)(hd:∀e∈As (DW cap),At e.1<=1000000):Dv W (LO j f d c) (DW cap):=by
 have k:∀ {g:Nat} {o:Obj},W.heap[g]?=some o->g < W.heap.size:=fun q=>(yd.1 q).1
 exact ⟨⟨_,VH i (k h.b13) (k h.b16) (k h.b18) (k h.b28) (k h.b31) (k h.b36) h.b13 h.b16 h.b18 h.b28 h.b31 h.b36⟩,UE cap hs,p,n,hd⟩
def LP(W:World)(gf:Nat):Prop:=W.heap[gf]?=some (.cells #[.int .i64 1,.int .i64 40,.int .i64 1,.string ⟨#[]⟩,.int .i64 0,.slice none 0 0,.int .i64 1,.int .i64 1,.int .i64 3,.string ⟨#[]⟩,.int .i64 0,.slice none 0 0] 26 (0,0))
theorem VI{W:World}{gf:Nat}(h:LP W gf):AI (fun b=>b < W.heap.size) W BQ (tC 6 gf):=
 II 6 (yd.1 h).1 (ca:=xC 1 40 1 Gr 0) (cb:=xC 1 1 3 Gr 0) h (BY 40 1) (BY 1 3)
theorem LP.up{W W':World}{gf:Nat}(h:LP W gf)(hb:Below W.heap.size W W'):LP W' gf:=(hb.block _ (yd.1 h).1).trans h
theorem Pk(w:World):Calls Tryz.prog 21 #[] w fun e w'=>∃(gf d g c f b a:Nat),e=.returned (.agg (LO d c b a).toArray)∧QU w.heap.size w' d g c f b a (tC 6 gf)∧LP w' gf∧w.heap.size<=gf∧Below w.heap.size w w':=by
 refine (Pg w).mono ?_
 rintro e w' ⟨B,gf,cells,rfl,q,p,o,h,r,hb⟩
 unfold CJ at p
 simp only at p
 obtain ⟨d,g,c,f,b,a,s,i,m,j,n,k,l⟩:=p
 cases s
 refine ⟨gf,d,g,c,f,b,a,rfl,⟨⟨qw (xN h i.1),qw (xN h m.1),qw (xN h j.1),qw (xN h n.1),qw (xN h k.1),qw (xN h l.1)⟩,i.2,m.2,j.2,n.2,k.2,l.2⟩,o,r,hb⟩
theorem UF{w:World}(hv:GV w)(hu:GU w):Calls Tryz.prog 7 #[] w fun e w'=>e=.returned (.bool true)∧Below w.heap.size w w':=by
 have HV:=yb hv
 have HU:=yb hu
 clear hv hu
 go_enter Tryz.func7,Tryz.ntmps7
 refine Ab fun K k=>?_
 go_wp2
 refine k.o _ _ ?_
 clear k K
 refine Ab fun K k=>?_
 go_wp2_with (first
  |(go_at_call 21;go_loud ((with_reducible refine (Pk _).mono ?_);rintro e w1 ⟨gf,ar,dg,aj,cc,E,al,rfl,hm,hf,cp,hb⟩;have HA:=yb (And.intro hm (And.intro hf (And.intro cp hb)));clear hm hf cp hb;obtain ⟨B,ao⟩:∃B,B=LO ar aj E al:=⟨_,rfl⟩;rw[<-ao];have bd:=yb ao;have HL:Hid (B.length=26):=yb (by cases ao;rfl);have d7:Hid (∀v∈B,v.oneCell'=true):=yb (by cases ao;exact yW.1 (show (LO ar aj E al).all (fun v=>v.oneCell')=true by rfl));clear ao))
  |(with_reducible refine ze rfl 35 _ _ rfl w1.heap.size B.toArray (by kernel_rfl) (by kernel_rfl) 35 _ (World.alloc_heap_new _ _) (by rw[yM,HL.o];kernel_rfl) (by simp[HL.o]) (zb d7.o) ?_;rw[World.setRow_alloc_new]))
 refine k.o _ _ ?_
 clear k K
 have bg:=(yg w1.heap.size w1).alloc (yf _) (.cells B.toArray 35)
 have bb:=World.alloc_heap_new w1 (.cells B.toArray 35)
 have cg:Below w.heap.size w (w1.alloc (.cells B.toArray 35)):=HA.o.2.2.2.trans (bg.mono HA.o.2.2.2.size)
 have co:=yb (HA.o.1.up bg)
 have bz:=yb (HA.o.2.1.up bg)
 have cj:Hid (w.heap.size<=w1.heap.size):=yb HA.o.2.2.2.size
 have di:=yb HA.o.2.2.1
 generalize da:w1.heap.size=b1 at bb cj ⊢
 clear da bg
 generalize w1.alloc _=U at bb cg co bz ⊢
 have cl:=yb bb;have ce:=yb cg
 clear bb cg HA
 refine Ab fun K k=>?_
 go_wp2_with (first
  |(go_at_call 23;with_reducible refine (Bo 3 2 _).mono ?_;rintro e w2 ⟨rfl,h2⟩;have HA:=yb h2;clear h2)
  |(go_at_call 23;with_reducible refine (Bo 2 3 _).mono ?_;rintro e w3 ⟨rfl,h3⟩;have HB:=yb h3;clear h3)
  |(go_at_call 22;with_reducible refine (IG 6 _ _ _ _ _ _ _ _ _ _ _ _ _ _ _ _ _).mono ?_;rintro e w4 ⟨gr,rfl,hg,s,cq⟩;have HC:=yb (And.intro hg (And.intro s cq));clear hg s cq))
 refine k.o _ _ ?_
 clear k K
 have cd:Below U.heap.size U w4:=(HA.o.trans (HB.o.mono HA.o.size)).trans (HC.o.2.2.mono (by have:=HA.o.size;have:=HB.o.size;omega))
 have z:=(yg w4.heap.size w4).alloc (yf _) (.cells #[iV 6,iV 0,iV 0,.string ⟨#[]⟩,iV 0,.slice (some (aV gr 0)) 2 2] 26)
 have f:=World.alloc_heap_new w4 (.cells #[iV 6,iV 0,iV 0,.string ⟨#[]⟩,iV 0,.slice (some (aV gr 0)) 2 2] 26)
 have bh:=(z.block gr (yd.1 HC.o.2.1).1).trans HC.o.2.1
 have ac:=cd.trans (z.mono cd.size)
 generalize d9:w4.heap.size=b2 at f ⊢
 clear d9 cd z HA HB HC
 generalize w4.alloc _=V at f bh ac ⊢
 have bi:Hid (Below w.heap.size w V):=yb (ce.o.trans (ac.mono ce.o.size))
 have cx:=yb (co.o.up ac)
 have de:=yb (bz.o.up ac)
 have cm:Hid (V.heap[b1]?=some (.cells B.toArray 35 (0,0))):=yb ((ac.block _ (yd.1 cl.o).1).trans cl.o)
 have HS:Hid (Dv V B (DW BQ)):=yb (by
  rw[bd.o]
  exact cx.o.ok (VI de.o) (HV.o.below bi.o HV.o.1) (HU.o.up bi.o) T2 T1)
 have d3:Hid (AI (fun b=>b < V.heap.size) V Uv (tC 6 gr)):=yb (II 6 (yd.1 bh).1 (ca:=xC 1 3 2 Gr 0) (cb:=xC 1 2 3 Gr 0) bh (BY 3 2) (BY 2 3))
 have cv:Hid (V.rangeAt b2 0 (tC 6 gr)):=yb (Ax (t:=26) f)
 have M:Hid (V.rangeAt b1 0 B):=yb (Ax cm.o)
 have y:Hid (b1 < V.heap.size∧b2 < V.heap.size∧w.heap.size<=b1):=yb ⟨(yd.1 cm.o).1,(yd.1 f).1,cj.o⟩
 have N:Hid ((Tryz.prog.info? 35).map (·.size)=some B.length):=yb (by rw[HL.o];kernel_rfl)
 have ch:=yb (J7 HS.o d3.o)
 rw[Uw] at ch
 clear f bh ac co bz cl ce cj
 refine Ab fun K k=>?_
 go_wp2_with (first
  |(with_reducible refine yj rfl 35 _ rfl b1 0 (by kernel_rfl) B _ M.o qY rfl N.o ?_)
  |(with_reducible refine yj rfl 26 _ rfl b2 0 (by kernel_rfl) (tC 6 gr) _ cv.o qP rfl (by kernel_rfl) ?_)
  |(go_at_call 9;go_loud ((with_reducible refine ch.o.mono ?_);rintro e m ⟨rfl,W⟩;have j:=yb W;clear W;unfold Dm.v;dsimp only)))
 refine k.o _ _ ?_
 clear k K ch
 have z:=(yg m.heap.size m).alloc (yf _) (.cells #[iV 1,iV (-1),iV 0] 39)
 have f:=World.alloc_heap_new m (.cells #[iV 1,iV (-1),iV 0] 39)
 have bx:=j.o.trans (z.mono j.o.size)
 have cr:Hid (V.heap.size<=m.heap.size):=yb j.o.size
 generalize dd:m.heap.size=b3 at f cr ⊢
 clear dd z j
 generalize m.alloc _=W3 at f bx ⊢
 have S:=yb bx
 have ck:=yb f
 clear bx f
 have q:Hid (W3.rangeAt b1 0 B):=yb (A0 M.o (S.o.block _ y.o.1))
 have bq:Hid (W3.rangeAt b2 0 (tC 6 gr)):=yb (A0 cv.o (S.o.block _ y.o.2.1))
 have D:=yb (DS (HS.o.up S.o) (d3.o.same (fun b hb=>yt hb S.o.size) (fun b hb=>S.o.block b hb)))
 rw[SU] at D
 refine Ab fun K k=>?_
 go_wp2_with (first
  |(with_reducible refine yj rfl 35 _ rfl b1 0 (by kernel_rfl) B _ q.o qY rfl N.o ?_)
  |(with_reducible refine yj rfl 26 _ rfl b2 0 (by kernel_rfl) (tC 6 gr) _ bq.o qP rfl (by kernel_rfl) ?_)
  |(go_at_call 10;(with_reducible refine D.o.mono ?_);rintro e m ⟨rfl,W⟩;have j:=yb W;clear W;unfold Rt.v;dsimp only))
 refine k.o _ _ ?_
 clear k K D q bq
 have z:=(yg m.heap.size m).alloc (yf _) (.cells #[iV 1500,iV 1] 44)
 have f:=World.alloc_heap_new m (.cells #[iV 1500,iV 1] 44)
 have ba:=j.o.trans (z.mono j.o.size)
 have cz:Hid (V.heap.size<=m.heap.size):=yb (by have:=j.o.size;have:=S.o.size;omega)
 generalize db:m.heap.size=b5 at f cz ⊢
 clear db z j
 generalize m.alloc _=W4 at f ba ⊢
 have ed:Hid (Below V.heap.size V W4):=yb (S.o.trans (ba.mono S.o.size))
 have ec:Hid (W4.heap[b3]?=some (.cells #[iV 1,iV (-1),iV 0] 39 (0,0))):=yb ((ba.block _ (yd.1 ck.o).1).trans ck.o)
 have dq:=yb f
 clear ba f S ck
 rename Hid (Below V.heap.size V W4)=>P
 rename Hid (W4.heap[b3]?=_)=>ak
 rename Hid (W4.heap[b5]?=_)=>b0
 refine Ab fun K k=>?_
 obtain ⟨m1,m2,m3,hm⟩:∃m1 m2 m3:Int,Du (DW BQ) (M8 3 (Bw 3 1) (Bw 4 3))=((⟨m1,m2,m3⟩:Dm),(180:Int)):=⟨(Du (DW BQ) (M8 3 (Bw 3 1) (Bw 4 3))).1.l,(Du (DW BQ) (M8 3 (Bw 3 1) (Bw 4 3))).1.h,(Du (DW BQ) (M8 3 (Bw 3 1) (Bw 4 3))).1.a,by rw[<-VF]⟩
 refine SX (W0:=W4) (B1:=b1) (cs:=B) (x:=DW BQ) (er:=180) _ rfl rfl rfl (yt y.o.1 P.o.size) (A0 M.o (P.o.block _ y.o.1)) N.o (HS.o.up P.o) hm ?_
 intro u W5 b7 I G J F r hb X s
 have e:=Gz [36,37,38,39,40,35,41,42,7,8] (I.trans rfl) G J
 clear hm
 simp only[qt,List.foldl_nil,zX,xK,xL] at e
 rw[F,r] at e
 generalize u.tmps.getD 36 undef=dv at e
 generalize u.tmps.getD 37 undef=ee at e
 generalize u.tmps.getD 38 undef=e3 at e
 generalize u.tmps.getD 39 undef=dx at e
 generalize u.tmps.getD 40 undef=dw at e
 generalize u.tmps.getD 35 undef=dk at e
 generalize u.tmps.getD 41 undef=dh at e
 generalize u.tmps.getD 42 undef=du at e
 subst e
 clear I G J F r
 have Q:Hid (Below V.heap.size V W5):=yb (P.o.trans (hb.mono P.o.size))
 have az:Hid (W5.heap[b3]?=some (.cells #[iV 1,iV (-1),iV 0] 39 (0,0))):=yb ((hb.block _ (yd.1 ak.o).1).trans ak.o)
 have ah:Hid (W5.heap[b5]?=some (.cells #[iV 1500,iV 1] 44 (0,0))):=yb ((hb.block _ (yd.1 b0.o).1).trans b0.o)
 clear hb X s ak b0 P
 refine k.o _ _ ?_
 clear k K
 refine Ab fun K k=>?_
 refine SY (W0:=W5) (B1:=b1) (cs:=B) (x:=DW BQ) (er:=0) _ rfl rfl rfl (yt y.o.1 Q.o.size) (A0 M.o (Q.o.block _ y.o.1)) N.o (HS.o.up Q.o) Ux ?_
 intro u W6 b9 I G J F r hb X s
 have e:=Gz [44,45,46,47,48,43,49,50,9,10] (I.trans rfl) G J
 simp only[qt,List.foldl_nil,zX,xK,xL] at e
 rw[F,r] at e
 generalize u.tmps.getD 44 undef=e7 at e
 generalize u.tmps.getD 45 undef=eh at e
 generalize u.tmps.getD 46 undef=v46 at e
 generalize u.tmps.getD 47 undef=e5 at e
 generalize u.tmps.getD 48 undef=ef at e
 generalize u.tmps.getD 43 undef=ei at e
 generalize u.tmps.getD 49 undef=eg at e
 generalize u.tmps.getD 50 undef=e9 at e
 subst e
 clear I G J F r
 have R:Hid (Below V.heap.size V W6):=yb (Q.o.trans (hb.mono Q.o.size))
 have ap:Hid (W6.heap[b3]?=some (.cells #[iV 1,iV (-1),iV 0] 39 (0,0))):=yb ((hb.block _ (yd.1 az.o).1).trans az.o)
 have au:Hid (W6.heap[b5]?=some (.cells #[iV 1500,iV 1] 44 (0,0))):=yb ((hb.block _ (yd.1 ah.o).1).trans ah.o)
 have ay:=yb s
 have dr:Hid (W5.heap.size<=b9):=yb X
 clear hb X s az ah Q
 refine k.o _ _ ?_
 clear k K
 refine Ab fun K k=>?_
 obtain ⟨m1,m2,hm⟩:∃m1 m2:Int,B7 (DW BQ) (M8 6 (Bw 1 0) (Bw 0 0))=((⟨m1,m2⟩:Rt),(120:Int)):=⟨(B7 (DW BQ) (M8 6 (Bw 1 0) (Bw 0 0))).1.n,(B7 (DW BQ) (M8 6 (Bw 1 0) (Bw 0 0))).1.d,by rw[<-VG]⟩
 refine SZ (W0:=W6) (B1:=b1) (cs:=B) (x:=DW BQ) (er:=120) _ rfl rfl rfl (yt y.o.1 R.o.size) (A0 M.o (R.o.block _ y.o.1)) N.o (HS.o.up R.o) hm ?_
 intro u W7 b11 I G J F r hb X s
 have e:=Gz [52,53,54,55,56,51,57,58,11,12] (I.trans rfl) G J
 clear hm
 simp only[qt,List.foldl_nil,zX,xK,xL] at e
 rw[F,r] at e
 generalize u.tmps.getD 52 undef=e4 at e
 generalize u.tmps.getD 53 undef=ej at e
 generalize u.tmps.getD 54 undef=e8 at e
 generalize u.tmps.getD 55 undef=dy at e
 generalize u.tmps.getD 56 undef=dp at e
 generalize u.tmps.getD 51 undef=v51 at e
 generalize u.tmps.getD 57 undef=ea at e
 generalize u.tmps.getD 58 undef=dj at e
 subst e
 clear I G J F r
 have O:Hid (Below V.heap.size V W7):=yb (R.o.trans (hb.mono R.o.size))
 have ax:Hid (W7.heap[b3]?=some (.cells #[iV 1,iV (-1),iV 0] 39 (0,0))):=yb ((hb.block _ (yd.1 ap.o).1).trans ap.o)
 have av:Hid (W7.heap[b5]?=some (.cells #[iV 1500,iV 1] 44 (0,0))):=yb ((hb.block _ (yd.1 au.o).1).trans au.o)
 have ad:Hid (W7.heap[b9]?=some (.cells #[iV (-6),iV 1] 44 (0,0))):=yb ((hb.block _ (yd.1 ay.o).1).trans ay.o)
 clear hb X s ap au ay R
 refine k.o _ _ ?_
 clear k K
 refine Ab fun K k=>?_
 obtain ⟨m1,m2,hm⟩:∃m1 m2:Int,B7 (DW BQ) (Bw 1073741825 0)=((⟨m1,m2⟩:Rt),(2:Int)):=⟨(B7 (DW BQ) (Bw 1073741825 0)).1.n,(B7 (DW BQ) (Bw 1073741825 0)).1.d,by rw[<-SV]⟩
 refine T0 (W0:=W7) (B1:=b1) (cs:=B) (x:=DW BQ) (er:=2) _ rfl rfl rfl (yt y.o.1 O.o.size) (A0 M.o (O.o.block _ y.o.1)) N.o (HS.o.up O.o) hm ?_
 intro u W8 b13 I G J F r hb X s
 have e:=Gz [60,61,62,59,63,64,13,14] (I.trans rfl) G J
 clear hm
 simp only[qt,List.foldl_nil,zX,xK,xL] at e
 rw[F,r] at e
 generalize u.tmps.getD 60 undef=dn at e
 generalize u.tmps.getD 61 undef=dz at e
 generalize u.tmps.getD 62 undef=eb at e
 generalize u.tmps.getD 59 undef=dl at e
 generalize u.tmps.getD 63 undef=e6 at e
 generalize u.tmps.getD 64 undef=e2 at e
 subst e
 clear I G J F r
 have T:Hid (Below V.heap.size V W8):=yb (O.o.trans (hb.mono O.o.size))
 have ae:Hid (W8.heap[b3]?=some (.cells #[iV 1,iV (-1),iV 0] 39 (0,0))):=yb ((hb.block _ (yd.1 ax.o).1).trans ax.o)
 have aw:Hid (W8.heap[b5]?=some (.cells #[iV 1500,iV 1] 44 (0,0))):=yb ((hb.block _ (yd.1 av.o).1).trans av.o)
 have ag:Hid (W8.heap[b9]?=some (.cells #[iV (-6),iV 1] 44 (0,0))):=yb ((hb.block _ (yd.1 ad.o).1).trans ad.o)
 clear hb X s ax av ad O
 refine k.o _ _ ?_
 clear k K
 obtain ⟨z1,z2,cw⟩:∃z1 z2:Int,B7 (DW BQ) LL=((⟨z1,z2⟩:Rt),(180:Int)):=⟨(B7 (DW BQ) LL).1.n,(B7 (DW BQ) LL).1.d,by rw[<-Uy]⟩
 have D:=yb (DS (HS.o.up T.o) ((Xk:AI (fun b=>b < W8.heap.size) W8 LL (xC 0 0 0 Gr 0))))
 rw[cw] at D
 clear cw
 unfold xC Gr at D
 have q:Hid (W8.rangeAt b1 0 B):=yb (A0 M.o (T.o.block _ y.o.1))
 refine Ab fun K k=>?_
 go_wp2_with (first
  |(with_reducible refine yj rfl 35 _ rfl b1 0 (by kernel_rfl) B _ q.o qY rfl N.o ?_)
  |(go_at_call 10;(with_reducible refine D.o.mono ?_);rintro e m ⟨rfl,W⟩;have j:=yb W;clear W;unfold Rt.v;dsimp only))
 refine k.o _ _ ?_
 clear k K D q
 have z:=(yg m.heap.size m).alloc (yf _) (.cells #[iV z1,iV z2] 44)
 have f:=World.alloc_heap_new m (.cells #[iV z1,iV z2] 44)
 have hb:=j.o.trans (z.mono j.o.size)
 have ci:Hid (W8.heap.size<=m.heap.size):=yb j.o.size
 generalize d6:m.heap.size=dm at f ci ⊢
 clear d6 z j
 generalize m.alloc _=W9 at f hb ⊢
 have Y:Hid (Below V.heap.size V W9):=yb (T.o.trans (hb.mono T.o.size))
 have aq:Hid (W9.heap[b3]?=some (.cells #[iV 1,iV (-1),iV 0] 39 (0,0))):=yb ((hb.block _ (yd.1 ae.o).1).trans ae.o)
 have ai:Hid (W9.heap[b5]?=some (.cells #[iV 1500,iV 1] 44 (0,0))):=yb ((hb.block _ (yd.1 aw.o).1).trans aw.o)
 have b8:Hid (W9.heap[b9]?=some (.cells #[iV (-6),iV 1] 44 (0,0))):=yb ((hb.block _ (yd.1 ag.o).1).trans ag.o)
 clear hb f T ae aw ag
 have D:=yb (DS (HS.o.up Y.o) ((KE 2 0 0 sK 0 (by decide):AI (fun b=>b < W9.heap.size) W9 (DW BQ).start (xC 2 0 0 sK 0))))
 rw[show B7 (DW BQ) (Ex.mk 2 0 0 sK 0 [])=(⟨3000,1⟩,0) from SW] at D
 have q:Hid (W9.rangeAt b1 0 B):=yb (A0 M.o (Y.o.block _ y.o.1))
 have dc:Hid (W9.rangeAt b1 13 (xC 2 0 0 sK 0)):=yb (DI ((LO ar aj E al).take 13) (xC 2 0 0 sK 0) ((LO ar aj E al).drop 19) q.o (by rw[bd.o];rfl) rfl)
 refine Ab fun K k=>?_
 go_wp2_with (first
  |(with_reducible refine yj rfl 35 _ rfl b1 0 (by kernel_rfl) B _ q.o qY rfl N.o ?_)
  |(with_reducible refine yj rfl 26 _ rfl b1 13 (by kernel_rfl) (xC 2 0 0 sK 0) _ dc.o qP rfl (by kernel_rfl) ?_)
  |(go_at_call 10;(with_reducible refine D.o.mono ?_);rintro e m ⟨rfl,W⟩;have j:=yb W;clear W;unfold Rt.v;dsimp only))
 refine k.o _ _ ?_
 clear k K D q
 have z:=(yg m.heap.size m).alloc (yf _) (.cells #[iV 3000,iV 1] 44)
 have f:=World.alloc_heap_new m (.cells #[iV 3000,iV 1] 44)
 have hb:=j.o.trans (z.mono j.o.size)
 have cn:Hid (W9.heap.size<=m.heap.size):=yb j.o.size
 generalize cu:m.heap.size=c9 at f cn ⊢
 clear cu z j
 generalize m.alloc _=an at f hb ⊢
 have L:Hid (Below V.heap.size V an):=yb (Y.o.trans (hb.mono Y.o.size))
 have a0:Hid (an.heap[b3]?=some (.cells #[iV 1,iV (-1),iV 0] 39 (0,0))):=yb ((hb.block _ (yd.1 aq.o).1).trans aq.o)
 have Z:Hid (an.heap[b5]?=some (.cells #[iV 1500,iV 1] 44 (0,0))):=yb ((hb.block _ (yd.1 ai.o).1).trans ai.o)
 have a6:Hid (an.heap[b9]?=some (.cells #[iV (-6),iV 1] 44 (0,0))):=yb ((hb.block _ (yd.1 b8.o).1).trans b8.o)
 have a2:=yb f
 clear hb f Y aq ai b8
 have ab:=yb (LK (HS.o.up L.o) rfl rfl rfl (by simp[DW]) (by simp[DW]) (by simp[DW]))
 rw[SS] at ab
 have q:Hid (an.rangeAt b1 0 B):=yb (A0 M.o (L.o.block _ y.o.1))
 refine Ab fun K k=>?_
 go_wp2_with (first
  |(refine FO rfl 35 _ rfl b1 0 rfl B _ q.o qY rfl N.o ?_)
  |(go_at_call 24;(with_reducible refine ab.o.mono ?_);rintro e m ⟨rfl,W⟩;have j:=yb W;clear W))
 refine k.o _ _ ?_
 clear k K ab q
 have C:Hid (Below V.heap.size V m):=yb (L.o.trans (j.o.mono L.o.size))
 have bw:Hid (m.heap[b3]?=some (.cells #[iV 1,iV (-1),iV 0] 39 (0,0))):=yb ((j.o.block _ (yd.1 a0.o).1).trans a0.o)
 have bv:Hid (m.heap[b5]?=some (.cells #[iV 1500,iV 1] 44 (0,0))):=yb ((j.o.block _ (yd.1 Z.o).1).trans Z.o)
 have bk:Hid (m.heap[b9]?=some (.cells #[iV (-6),iV 1] 44 (0,0))):=yb ((j.o.block _ (yd.1 a6.o).1).trans a6.o)
 have bp:Hid (m.heap[c9]?=some (.cells #[iV 3000,iV 1] 44 (0,0))):=yb ((j.o.block _ (yd.1 a2.o).1).trans a2.o)
 clear j L a0 Z a6 a2
 have bj:=yb (cx.o.up C.o)
 have bo:Hid (m.rangeAt b1 0 B):=yb (A0 M.o (C.o.block _ y.o.1))
 have d5:Hid (m.cell? (aV b1 21)=some (.slice (some (aV E 0)) 1 1)):=yb (by
  have:=bo.o 21 (.slice (some (aV E 0)) 1 1) (by rw[bd.o];rfl)
  simpa using this)
 have df:Hid (b1 < m.heap.size):=yb (yt y.o.1 C.o.size)
 refine Ab fun K k=>?_
 refine Di (by kernel_rfl) (fun W'=>Below m.heap.size m W') 5 ?_
 have be:Hid (Below m.heap.size m m.drew):=yb (yg _ _).drew
 refine AO (i:=0) (v:=pV b1 21) rfl (by kernel_rfl) (by kernel_rfl) (by kernel_rfl) (fun _ _ _ h=>h) (by kernel_rfl) (Or.inl ⟨by rfl,?_⟩) be.o ?_
 ·intro w' _;go_simp
 refine AO (i:=1) (v:=.slice (some (aV E 0)) 1 1) rfl (by kernel_rfl) (by kernel_rfl) (by kernel_rfl) (fun _ _ _ h=>h) (by kernel_rfl) (Or.inl ⟨by rfl,?_⟩) be.o ?_
 ·intro w' d8
  have c:=(d8.cell (p:=(aV b1 21)) df.o).trans d5.o
  go_simp
 refine Ag (i:=2) (by kernel_rfl) rfl (fun K k=>?_)
 go_simp
 refine (Bo 40 1 _).mono ?_
 rintro e w6 ⟨rfl,ct⟩
 have a7:Hid (Below m.heap.size m w6):=yb (be.o.trans ct)
 clear ct
 refine k.o _ _ (fun _=>a7.o) ?_
 clear k K
 refine Ag (i:=3) (by kernel_rfl) rfl (fun K k=>?_)
 go_simp
 refine k.o _ _ (fun _=>a7.o) ?_
 clear k K
 refine Ag (i:=4) (by kernel_rfl) rfl (fun K k=>?_)
 go_simp
 refine k.o _ _ (fun _=>a7.o) ?_
 clear k K
 have H:=yb (bj.o.up a7.o)
 refine Ag (i:=5) (by kernel_rfl) rfl (fun K k=>?_)
 rw[yw (by rfl)]
 refine wp_store_mid 26 _ _ rfl E 9 #[iV 1,iV 40,iV 1,.string ⟨#[]⟩,iV 0,.slice none 0 0] rfl rfl (Jz H.o.b31 (by simp[LM,tC,LN])) (by kernel_rfl) (by simp[Value.oneCell']) ?_
 have hw:=AA E 66 [iV 1,iV 40,iV 1,.string ⟨#[]⟩,iV 0,.slice none 0 0] 9 w6 LM (tC 6 gf) (LN cc) H.o.b31 rfl rfl
 have c8:D3 w6 (w6.setCells E 9 (#[iV 1,iV 40,iV 1,.string ⟨#[]⟩,iV 0,.slice none 0 0]:Array Value).toList) E (LM++(xC 1 40 1 Gr 0++LN cc)) 66:=hw
 clear hw
 generalize w6.setCells _ _ _=A at c8 ⊢
 have HW:=yb c8
 clear c8
 refine k.o _ _ (by intro h;cases h) ?_
 clear k K
 refine Dh (by kernel_rfl) ?_
 refine k.o _ _ ?_
 clear k K
 have HO:Hid (∀(g:Nat) (row:Array Value) (ty:TypeId),w6.heap[g]?=some (.cells row ty (0,0))->ty≠66->A.heap[g]?=some (.cells row ty (0,0))):=yb (fun g row ty h cf=>(HW.o.block g (fun e=>by
  rw[e,H.o.b31] at h
  exact cf (by injection h with h;injection h with h1 h2;exact h2.symm))).trans h)
 have bn:QU w.heap.size A ar dg aj cc E al (xC 1 40 1 Gr 0):=⟨H.o.lo13,HO.o _ _ _ H.o.b13 (by decide),HO.o _ _ _ H.o.b16 (by decide),HO.o _ _ _ H.o.b18 (by decide),HO.o _ _ _ H.o.b28 (by decide),HW.o.row,HO.o _ _ _ H.o.b36 (by decide)⟩
 have aa:Below w.heap.size w A:=HW.o.below (bi.o.trans ((C.o.trans (a7.o.mono C.o.size)).mono bi.o.size)) H.o.lo13.2.2.2.2.1
 have bt:Dv A B (DW (Bw 40 1)):=by
  rw[bd.o]
  exact bn.ok (BY 40 1) (HV.o.below aa HV.o.1) (HU.o.up aa) QS QR
 have bu:=yb aa
 have ab:=yb (LK bt rfl rfl rfl (by simp[DW]) (by simp[DW]) (by simp[DW]))
 rw[QQ] at ab
 have up:∀ {g:Nat} {row:Array Value} {ty:TypeId},m.heap[g]?=some (.cells row ty (0,0))->ty≠66->A.heap[g]?=some (.cells row ty (0,0)):=fun h cf=>HO.o _ _ _ ((a7.o.block _ (yd.1 h).1).trans h) cf
 have bm:=up ((C.o.block _ y.o.1).trans cm.o) (by decide)
 have a8:=up bw.o (by decide)
 have b4:=up bv.o (by decide)
 have af:=up bk.o (by decide)
 have am:=up bp.o (by decide)
 have d4:Hid (A.rangeAt b1 0 B):=yb (Ax bm)
 have d0:A.cell? (aV b3 0)=some (iV 1):=by simp[World.cell?,a8]
 have d1:A.cell? (aV b3 1)=some (iV (-1)):=by simp[World.cell?,a8]
 have d2:A.cell? (aV b3 2)=some (iV 0):=by simp[World.cell?,a8]
 have e0:A.cell? (aV b5 0)=some (iV 1500):=by simp[World.cell?,b4]
 have e1:A.cell? (aV b5 1)=some (iV 1):=by simp[World.cell?,b4]
 have f0:A.cell? (aV b9 0)=some (iV (-6)):=by simp[World.cell?,af]
 have f1:A.cell? (aV b9 1)=some (iV 1):=by simp[World.cell?,af]
 have k0:A.cell? (aV c9 0)=some (iV 3000):=by simp[World.cell?,am]
 have k1:A.cell? (aV c9 1)=some (iV 1):=by simp[World.cell?,am]
 clear bn aa bt up bm a8 b4 af am bw bv bk bp bj H bo a7 be HO HW
 go_wp2_with (first
  |(refine FO rfl 35 _ rfl b1 0 rfl B _ d4.o qY rfl N.o ?_)
  |(go_at_call 24;(with_reducible refine ab.o.mono ?_);rintro e dt ⟨rfl,W⟩;have cy:=yb W;clear W))
 go_ret
 exact ⟨rfl,bu.o.trans (cy.o.mono bu.o.size)⟩
def V6(_:Nat):Prop:=False
theorem WK{w:World}{e:Ex}{cs:LV}(h:AI (fun b=>b < w.heap.size) w e cs):AI (GF V6 w) w e cs:=h.same (fun _ hb=>⟨fun h=>h,hb⟩) (fun _ _=>rfl)
theorem WL{w:World}{e:Ex}{cs:LV}(h:AI (GF V6 w) w e cs):AI (fun b=>b < w.heap.size) w e cs:=h.same (fun _ hb=>hb.2) (fun _ _=>rfl)
structure PG (w:World) (cs xs:List Value) (x:Ar) (e:Ex) (W:World):Prop where
 below:Below w.heap.size w W
 rs:W.rangeAt w.heap.size 0 cs
 rx:W.rangeAt (w.heap.size+1) 0 xs
 sv:∃L,BH (fun b=>b < W.heap.size) W L cs x
 ev:AI (fun b=>b < W.heap.size) W e xs
 gv:GV W
 gu:GU W
 lt:w.heap.size+2<=W.heap.size
theorem PG.up{w W W':World}{cs xs:LV}{x:Ar}{e:Ex}(h:PG w cs xs x e W)(hb:Below W.heap.size W W'):PG w cs xs x e W':=by
 obtain ⟨L,c⟩:=h.sv
 have d:=h.lt
 exact ⟨h.below.trans (hb.mono h.below.size),A0 h.rs (hb.block _ (by omega)),A0 h.rx (hb.block _ (by omega)),⟨L,c.same (fun b a=>yt a hb.size) (fun b a=>hb.block b a)⟩,
  h.ev.same (fun b a=>yt a hb.size) (fun b a=>hb.block b a),h.gv.below hb h.gv.1,h.gu.up hb,yu h.lt hb.size⟩
theorem PG.ok{w W:World}{cs xs:LV}{x:Ar}{e:Ex}(h:PG w cs xs x e W)(a:Ey x=true):Dv W cs x:=⟨h.sv,(Jc a).1,h.gv,h.gu,(Jc a).2⟩
theorem UO{w:World}{cs xs:LV}{x:Ar}{e:Ex}{N:NP}{L:Bt}(h:BH N w L cs x)(hN:∀b,N b->b < w.heap.size)(d:AI N w e xs)(c:GV w)(f:GU w):
  PG w cs xs x e ((w.alloc (.cells cs.toArray 35)).alloc (.cells xs.toArray 26)):=by
 have b1:Below w.heap.size w (w.alloc (.cells cs.toArray 35)):=(yg _ _).alloc (yf _) _
 have b2:Below (w.heap.size+1) (w.alloc (.cells cs.toArray 35)) ((w.alloc (.cells cs.toArray 35)).alloc (.cells xs.toArray 26)):=(yg _ _).alloc (by simp) _
 have hb:=b1.trans (b2.mono (Nat.le_succ _))
 refine ⟨hb,?_,?_,⟨L,h.same (fun b a=>yt (hN b a) hb.size) (fun b a=>hb.block b (hN b a))⟩,d.same (fun b a=>yt (hN b a) hb.size) (fun b a=>hb.block b (hN b a)),c.below hb c.1,f.up hb,by simp⟩
 ·exact Ax ((b2.block _ (xW _)).trans (World.alloc_heap_new _ _))
 ·have:=World.alloc_heap_new (w.alloc (.cells cs.toArray 35)) (.cells xs.toArray 26)
  exact Ax (by simpa using this)
end Go.Proofs.YtjofgpfocadomaaGreatDoor
namespace Go.Proofs.YtjofgpfocadomaaGreatDoor
open Go.RowKit Go.ChangeShapes Go.WideShapes
theorem own:ownKnob Tryz.prog.godebug=none:=by kernel_rfl
theorem Ji:laidOutB Tryz.prog=true:=by kernel_rfl
def Jj:List (String × DataW Unit):=[("acequia/units.none",Rows.laid_acequia_units_none),("acequia/units.litres",Rows.laid_acequia_units_litres),("acequia/units.hours",Rows.laid_acequia_units_hours),("acequia/units.ares",Rows.laid_acequia_units_ares),("acequia/units.flow",Rows.laid_acequia_units_flow),("acequia/units.need",Rows.laid_acequia_units_need)]
theorem Th:Tryz.prog.cellsOf 68=3:=by kernel_rfl
theorem DV{W:World}{name:String}{d:DataW Unit}{x y z:Int}{rest:List (String × DataW Unit)}{g:Nat}(b:Tryz.prog.globalNamed name=some g)(e:(Tryz.prog.globals[g]?).map (·.type)=some 68)
 (h:laidMet Tryz.prog ((name,d)::rest) W)(hd:d=Lib.tabData .i64 [x,y,z]):W.rangeAt g 0 (Dm.row ⟨x,y,z⟩):=by
 subst hd
 have c:=Lib.tabIs_of_head b e j9 qT If Th h
 intro j v a
 match j,a with
 |0,a=>cases a;exact c.cell b 0 (by simp)
 |1,a=>cases a;exact c.cell b 1 (by simp)
 |2,a=>cases a;exact c.cell b 2 (by simp)
theorem XI:Tryz.prog.globalNamed "acequia/units.hours" =some 0:=by kernel_rfl
theorem XJ:(Tryz.prog.globals[0]?).map (·.type)=some 68:=by kernel_rfl
theorem XK:Tryz.prog.globalNamed "acequia/units.litres" =some 1:=by kernel_rfl
theorem XL:(Tryz.prog.globals[1]?).map (·.type)=some 68:=by kernel_rfl
theorem XM:Tryz.prog.globalNamed "acequia/units.need" =some 2:=by kernel_rfl
theorem XN:(Tryz.prog.globals[2]?).map (·.type)=some 68:=by kernel_rfl
theorem XO:Tryz.prog.globalNamed "acequia/units.flow" =some 3:=by kernel_rfl
theorem XP:(Tryz.prog.globals[3]?).map (·.type)=some 68:=by kernel_rfl
theorem XQ:Tryz.prog.globalNamed "acequia/units.none" =some 4:=by kernel_rfl
theorem XR:(Tryz.prog.globals[4]?).map (·.type)=some 68:=by kernel_rfl
theorem XS:Tryz.prog.globalNamed "acequia/units.ares" =some 5:=by kernel_rfl
theorem XT:(Tryz.prog.globals[5]?).map (·.type)=some 68:=by kernel_rfl
theorem Ks{W:World}(h:laidMetH Tryz.prog Jj W)(b:GV W):GU W:=by
 rw[MakeChecks.laidMetH_plain _ _ _ (by kernel_rfl)] at h
 have h1:=laidMet.tail h
 have h2:=laidMet.tail h1
 have h3:=laidMet.tail h2
 have a:=laidMet.tail h3
 have c:=laidMet.tail a
 exact ⟨b.1,DV XI XJ h2 rfl,DV XK XL h1 rfl,DV XM XN c rfl,DV XO XP a rfl,DV XQ XR h rfl,DV XS XT h3 rfl⟩
theorem UP(os:Os)(args:Array Value):laidMetH Tryz.prog Jj ((World.doorLaid Tryz.prog 400 os).forCall (fun _ _=>0) ⟨#[],args,[]⟩).memory:=
 laidMetH_of_parts3 (fuel:=8) (laidMet_of_run' 8 (by kernel_rfl) (by kernel_rfl)) (by kernel_rfl) (by kernel_rfl)
theorem NX{W:World}(h:W.ShapedOpen Tryz.prog):GV W:=by
 obtain ⟨m,a⟩:∃m,W.cell? (aV 6 0)=some (iV m):=Tryz.laysM144.s1_3 W h
 exact ⟨Jg a,m,a⟩
theorem GZ{H:Type}{enc:TypeId × Value->H}{a:Assume}{C:Checked}{os:Os}{f:FuncId}{fn:Func}{s:ChangeSpec}{l:List PathCond}{apart g c k:Bool}{X:World->Array Value->Prop}
 (F:∀(w w':World) (args:Array Value),w.heap=w'.heap->X w args->X w' args)
 (own:ownKnob C.prog.godebug=none)(m:os.Started)(n:C.prog.inits.idxOf? f=none)(A:C.prog.funcs[f]?=some fn)
 (h:∃(w:World) (tape:Tape) (i:Input),w.os=os∧(w.forCall tape i).Shaped C.prog∧i.vars=[]∧Input.okWide C.prog (w.forCall tape i) .any w.heap.size f i∧
   ((s.pre enc C.prog fn l apart (w.forCall tape i).memory i.args∧X (w.forCall tape i).memory i.args)∧sizedMet enc C.prog fn (OpenSpec.ofChange s) apart (w.forCall tape i).memory i.args)∧a.holds C.prog (lone (Frame.enter C.prog f i.args .normal) [] (w.forCall tape i)))
 (d:∀(W:World) (base:Nat) (args:Array Value) (ds r:List (DataW H)) (b:List MemPlace),
   (∀(j:Nat) t v,fn.params[j]?=some t->args[j]?=some v->Value.okWide C.prog W .any base t v)->
   DataW.Whole enc C.prog fn.params.toList s.vars apart W args.toList ds r b->
   (DataW.weightsEach C.prog (fn.params.toList++s.plain.varTypes C.prog) (ds++r)).all (·<=reachBytes)=true->X W args->W.ShapedOpen C.prog->
   Calls C.prog f args W fun e W'=>∃v,e=.returned v∧s.post enc C.prog fn apart g c k W args v W'):
  ReturnsInHanded a C os f .any (fun w args=>(s.pre enc C.prog fn l apart w args∧X w args)∧sizedMet enc C.prog fn (OpenSpec.ofChange s) apart w args) (s.post enc C.prog fn apart g c k):=by
 refine returnsInHanded_of_calls own m n h ?_
 intro w tape i _ z _ x o _
 obtain ⟨_,_,_,u,p,_,_,_,_,q⟩:=x
 have e:u=fn:=yi (p.symm.trans A)
 subst e
 obtain ⟨⟨⟨ds,r,b,B,_⟩,I⟩,D⟩:=o
 have y:=DataW.Whole.of_heap (w':=w.forCall tape i) (by rfl) B
 refine (d (w.forCall tape i) w.heap.size i.args ds r b q y (D.weights B) (F _ _ _ (by rfl) I) z).mono fun e W' ⟨v,G,E⟩=>?_
 subst G
 exact ChangeSpec.post_blind E
end Go.Proofs.YtjofgpfocadomaaGreatDoor
namespace Go.Proofs.YtjofgpfocadomaaGreatDoor
open Go.RowKit
set_option linter.unusedSimpArgs false
mutual
theorem NY:∀e:Ex,Dt (nz e)↔Dt e
 |.mk op n u rn ri args=>by rw[nz,Dt,Dt,KI,PK args]
theorem PK:∀l:List Ex,EK (JN l)↔EK l
 |[]=>by rw[JN]
 |e::r=>by rw[JN,EK,EK,NY e,PK r]
end
theorem UU(a b c:Int)(e:Ex):Dt (Cr (AX a b c) 8 e)↔Dt e:=by rw[<-NY,Hv,NY]
theorem Tl(a b c:Int)(e:Ex):At (Cr (AX a b c) 8 e)=At e:=by rw[<-Hu,Hv,Hu]
mutual
theorem Ng:∀e:Ex,Dt e->Ft e
 |.mk op n u rn ri args,h=>by
  rw[Dt] at h
  rw[Ft]
  exact ⟨by have:=h.1;omega,M4 args h.2⟩
theorem M4:∀l:List Ex,EK l->Ht l
 |[],_=>by rw[Ht];trivial
 |e::r,h=>by
  rw[EK] at h
  rw[Ht]
  exact ⟨Ng e h.1,M4 r h.2⟩
end
theorem UW{a b c:Int}{s:Ar}{p:Ex->Prop}(g:∀e,p e->p (Cr (AX a b c) 8 e))(h:∀e∈As s,p e.1):∀e∈As (Hw a b c s),p e.1:=by
 intro e f
 rw[M2] at f
 rw[Ig] at h
 rcases yv.1 f with f|f
 ·exact h e (yv.2 (.inl f))
 ·rcases yv.1 f with f|f
  ·obtain ⟨d,hd,rfl⟩:=xJ.1 f
   exact g _ (h d (yv.2 (.inr (yv.2 (.inl hd)))))
  ·exact h e (yv.2 (.inr (yv.2 (.inr f))))
theorem UX{a b c:Int}{s:Ar}(h:Kf s):Kf (Hw a b c s):=
 ⟨by unfold Hw;simpa using h.lets,h.crops,h.reaches,h.farms,h.rots,h.rights,h.duties,h.turns,UW (fun e d=>(UU a b c e).2 d) h.exprs⟩
theorem Tm{a b c:Int}{s:Ar}(h:∀e∈As s,At e.1<=1000000):∀e∈As (Hw a b c s),At e.1<=1000000:=UW (p:=fun e=>At e<=1000000) (fun e d=>by rw[Tl];exact d) h
theorem Tn{s:Ar}(h:Kf s):∀d∈s.lets,Dt d.value:=fun d hd=>by
 have h2:=h.exprs
 rw[Ig] at h2
 obtain ⟨i,hi,a⟩:=zc.1 hd
 refine h2 (d.value,1+(i:Int)) (yv.2 (.inr (yv.2 (.inl ?_))))
 unfold Ff
 refine yX.2 ⟨(d,i),?_,by simp⟩
 rw[List.mem_zipIdx_iff_getElem?]
 rw[<-a]
 simp
theorem M5(w:World)(v:Value)(t:TypeId):(w.alloc (.cells #[v] t)).cell? ⟨w.heap.size,0,none⟩=some v:=by
 have h:=World.alloc_heap_new w (.cells #[v] t)
 simp only[World.cell?,h]
 rfl
theorem IP{w:World}{b q:Nat}{v:Value}(h:w.cell? ⟨b,q,none⟩=some v)(o:Obj):(w.alloc o).cell? ⟨b,q,none⟩=some v:=by
 have c:b < w.heap.size:=by
  rcases zO b w.heap.size with a|a
  ·exact a
  ·simp[World.cell?,xz a] at h
 unfold World.cell? at h ⊢
 simp only at h ⊢
 rw[yA _ _ _ c];exact h
theorem To(a b c:Int)(w:World):Calls Tryz.prog 11 #[.int .i64 a,.int .i64 b,.int .i64 c] w fun e w'=>∃p q r,e=.returned (.func (.func 27) #[] #[.pointer (some ⟨p,0,none⟩),.pointer (some ⟨q,0,none⟩),.pointer (some ⟨r,0,none⟩)])∧
  (w.heap.size<=p∧w.heap.size<=q∧w.heap.size<=r)∧(w'.cell? ⟨p,0,none⟩=some (.int .i64 a)∧w'.cell? ⟨q,0,none⟩=some (.int .i64 b)∧w'.cell? ⟨r,0,none⟩=some (.int .i64 c))∧Below w.heap.size w w':=by
 go_enter Tryz.func11,Tryz.ntmps11
 go_wp2
 go_ret
 refine ⟨w.heap.size,w.heap.size+1,w.heap.size+1+1,rfl,⟨yf _,Nat.le_succ _,by omega⟩,⟨?_,?_,?_⟩,((((yg _ _).alloc (yf _) _).alloc (by simp) _).alloc (by simp;omega) _)⟩
 ·exact IP (IP (M5 w _ _) _) _
 ·have h:=M5 (w.alloc (.cells #[iV a] 3)) (iV b) 3
  rw[show (w.alloc (.cells #[iV a] 3)).heap.size=w.heap.size+1 by simp] at h
  exact IP h _
 ·have h:=M5 ((w.alloc (.cells #[iV a] 3)).alloc (.cells #[iV b] 3)) (iV c) 3
  rw[show ((w.alloc (.cells #[iV a] 3)).alloc (.cells #[iV b] 3)).heap.size=w.heap.size+1+1 by simp] at h
  exact h
set_option linter.unusedSimpArgs false
set_option linter.unusedVariables false
def Rh(u:Nat->Value):Array Value:=((List.range 188).map u).toArray
theorem S8(u:Nat->Value):Rh u=#[u 0,u 1,u 2,u 3,u 4,u 5,u 6,u 7,u 8,u 9,u 10,u 11,u 12,u 13,u 14,u 15,u 16,u 17,u 18,u 19,u 20,u 21,u 22,u 23,u 24,u 25,u 26,u 27,u 28,u 29,u 30,u 31,u 32,u 33,u 34,u 35,u 36,u 37,u 38,u 39,u 40,u 41,u 42,u 43,u 44,u 45,u 46,u 47,u 48,u 49,u 50,u 51,u 52,u 53,u 54,u 55,u 56,u 57,u 58,u 59,u 60,u 61,u 62,u 63,u 64,u 65,u 66,u 67,u 68,u 69,u 70,u 71,u 72,u 73,u 74,u 75,u 76,u 77,u 78,u 79,u 80,u 81,u 82,u 83,u 84,u 85,u 86,u 87,u 88,u 89,u 90,u 91,u 92,u 93,u 94,u 95,u 96,u 97,u 98,u 99,u 100,u 101,u 102,u 103,u 104,u 105,u 106,u 107,u 108,u 109,u 110,u 111,u 112,u 113,u 114,u 115,u 116,u 117,u 118,u 119,u 120,u 121,u 122,u 123,u 124,u 125,u 126,u 127,u 128,u 129,u 130,u 131,u 132,u 133,u 134,u 135,u 136,u 137,u 138,u 139,u 140,u 141,u 142,u 143,u 144,u 145,u 146,u 147,u 148,u 149,u 150,u 151,u 152,u 153,u 154,u 155,u 156,u 157,u 158,u 159,u 160,u 161,u 162,u 163,u 164,u 165,u 166,u 167,u 168,u 169,u 170,u 171,u 172,u 173,u 174,u 175,u 176,u 177,u 178,u 179,u 180,u 181,u 182,u 183,u 184,u 185,u 186,u 187]:=rfl
theorem S9{P:Array Value->Prop}{l:Array Value}(hs:l.size=188)(h:P (Rh fun i=>l.getD i undef)):P l:=by
 have e:(Rh fun i=>l.getD i undef)=l:=by
  refine Array.ext (by simp[Rh,hs]) fun i h1 h2=>?_
  simp[Rh,yB,h2]
 rwa [e] at h
structure VU (w:World) (xs ts:List Value) (x:Ar) (e:Ex) (b11 b13 b19 p q r:Nat) (l h a v1 v2 fa fb fc:Int) (W:World):Prop where
 below:Below w.heap.size w W
 rx:W.rangeAt (w.heap.size+1) 0 xs
 ev:AI (fun b=>b < W.heap.size) W e xs
 d:W.heap[b11]?=some (.cells [.int .i64 l,.int .i64 h,.int .i64 a].toArray 39 (0,0))
 v:W.heap[b13]?=some (.cells [.int .i64 v1,.int .i64 v2].toArray 44 (0,0))
 rt:W.rangeAt b19 0 ts
 ok:Dv W ts (Hw fa fb fc x)
 j:Xs p q r fa fb fc V6 W
 lt:w.heap.size+1 < W.heap.size
 l19:b19 < W.heap.size
theorem VU.up{w:World}{xs f:LV}{x:Ar}{e:Ex}{b11 b13 b19 p q r:Nat}{l h a v1 v2 fa fb fc:Int}{W W':World}(k:VU w xs f x e b11 b13 b19 p q r l h a v1 v2 fa fb fc W)(hb:Below W.heap.size W W'):VU w xs f x e b11 b13 b19 p q r l h a v1 v2 fa fb fc W':=
 ⟨k.below.trans (hb.mono k.below.size),A0 k.rx (hb.block _ k.lt),k.ev.same (fun b c=>yt c hb.size) (fun b c=>hb.block b c),(hb.block _ (yd.1 k.d).1).trans k.d,(hb.block _ (yd.1 k.v).1).trans k.v,
  A0 k.rt (hb.block _ k.l19),k.ok.up hb,⟨k.j.l.up (CG.below hb) (fun _ h=>.inl h),k.j.h.up (CG.below hb) (fun _ h=>.inl h),k.j.a.up (CG.below hb) (fun _ h=>.inl h)⟩,yt k.lt hb.size,yt k.l19 hb.size⟩
theorem Nh{f e:Int}(h1:1<=f)(h3:f<=3)(a:e<=4):1<=Bz f e∧Bz f e<=81:=⟨by have:=Dn h1 e;omega,IM h1 h3 a⟩
theorem Wo{x y:Int}(b:1<=x∧x<=81)(a:1<=y∧y<=81):1<=x*y∧x*y<=6561:=by
 have h1:1*1<=x*y:=qk b.1 a.1 (by omega) (by omega)
 have h2:x*y<=81*81:=qk b.2 a.2 (by omega) (by omega)
 omega
theorem Sa{x y:Int}(b:1<=x∧x<=6561)(a:1<=y∧y<=81):1<=x*y∧x*y<=531441:=by
 have h1:1*1<=x*y:=qk b.1 a.1 (by omega) (by omega)
 have h2:x*y<=6561*81:=qk b.2 a.2 (by omega) (by omega)
 omega
theorem PL{w W:World}{xs I:LV}{x:Ar}{e:Ex}{b11 b13 b19 p q r:Nat}{l h a v1 v2 fa fb fc:Int}{u:Nat->Value}(hf:QY fa fb fc)(t:Ft e)(bx:I.length=26)
 (hm:Du x e=(⟨l,h,a⟩,0))(hv:B7 x e=(⟨v1,v2⟩,0))(hS:VU w xs I x e b11 b13 b19 p q r l h a v1 v2 fa fb fc W)
 (cv:u 6=.pointer (some ⟨w.heap.size+1,0,none⟩))(ag:u 11=.pointer (some ⟨b11,0,none⟩))(ak:u 13=.pointer (some ⟨b13,0,none⟩))(al:u 15=.int .i64 fa)(ai:u 16=.int .i64 fb)(ac:u 17=.int .i64 fc)
 (am:u 18=.func (.func 27) #[] #[.pointer (some ⟨p,0,none⟩),.pointer (some ⟨q,0,none⟩),.pointer (some ⟨r,0,none⟩)])(af:u 19=.pointer (some ⟨b19,0,none⟩)):
  Code.wp Tryz.prog (Gf 12 (Tryz.f3.body.getD .skip)) (bodyPost Tryz.prog Tryz.f3 fun r w'=>r=.returned (.bool true)∧Below w.heap.size w w') {tmps:=Rh u,defers:=[]} W:=by
 have cr:Hid ((Tryz.prog.info? 35).map (·.size)=some I.length):=yb (by rw[bx];kernel_rfl)
 have H6:Hid (xs.length=6):=yb hS.ev.len
 have HS:=yb hS
 have P:=M3 hf (s:=x) (x:=e) (by rw[hv])
 rw[hm,hv] at P
 dsimp only at P
 obtain ⟨ab, -,av,G,E⟩:=P
 have hD:(-4<=l∧l<=4)∧(-4<=h∧h<=4)∧(-4<=a∧a<=4):=by
  unfold Fv Qu at av
  simpa using av
 have b5:Hid (∀V,VU w xs I x e b11 b13 b19 p q r l h a v1 v2 fa fb fc V->Calls Tryz.prog 12 #[.agg xs.toArray,iV 8,.func (.func 27) #[] #[pV p 0,pV q 0,pV r 0]] V fun r w'=>∃bv:LV,r=.returned (.agg bv.toArray)∧AI (GF V6 w') w' (Cr (AX fa fb fc) 8 e) bv∧Below V.heap.size V w'):=yb (fun V hV=>Kb (PF hf) 8 (by omega) e V6 V xs t hV.j (WK hV.ev) (fun _ h=>h.elim))
 obtain ⟨y,hy⟩:∃y,y=Cr (AX fa fb fc) 8 e:=⟨_,rfl⟩
 obtain ⟨sx,aq⟩:∃sx,sx=Hw fa fb fc x:=⟨_,rfl⟩
 rw[<-hy] at b5 ab G E
 rw[<-aq] at ab G E
 have bd:Hid (∀V,VU w xs I x e b11 b13 b19 p q r l h a v1 v2 fa fb fc V->Dv V I sx):=yb (fun V hV=>by rw[aq];exact hV.ok)
 obtain ⟨⟨⟨z1,z2⟩,vr⟩,ar⟩:∃m,m=B7 sx y:=⟨_,rfl⟩
 rw[<-ar] at G E
 dsimp only at G E
 have ah:=yb ab;have bm:=yb ar;have k:=yb E;have HD:=yb hD;have i:=yb hf;have cw:=yb G
 clear hS hy aq ab ar E av hm hv t G hD hf bx
 rw[S8,cv,ag,ak,al,ai,ac,am,af]
 clear cv ag ak al ai ac am af
 refine Ab fun K f=>?_
 go_wp2_with (first
  |(with_reducible refine yj rfl 26 _ rfl (w.heap.size+1) 0 (by kernel_rfl) xs _ HS.o.rx qP (by kernel_rfl) (F7 H6.o) ?_)
  |(go_at_call 12;with_reducible refine (b5.o _ HS.o).mono ?_;rintro r w4 ⟨ys,rfl,be,bi⟩;have co:=yb (HS.o.up bi);have D:=yb be;clear be bi)
  |(with_reducible refine Al rfl 26 _ _ rfl w4.heap.size (by kernel_rfl) ys (by kernel_rfl) (World.alloc_heap_new _ _) (by rw[D.o.len];kernel_rfl) (F7 D.o.len) (BA D.o) ?_;intro L bh;have ao:=yb bh;clear bh))
 refine f.o _ _ ?_
 clear f K b5
 have cu:Hid (ys.length=6):=yb D.o.len
 have U:Hid (Below w4.heap.size w4 L):=yb (ao.o.below ((yg _ _).alloc (yf _) _) (yf _))
 have b0:=yb (co.o.up U.o)
 obtain ⟨bq,B⟩:∃q,q=w4.heap.size:=⟨_,rfl⟩
 have g:=ao.o.row
 rw[<-B] at g ⊢
 have aa:Hid (∀W,Below L.heap.size L W->W.rangeAt bq 0 ys∧AI (fun b=>b < W.heap.size) W y ys):=yb (fun W J=>⟨Ax ((J.block _ (yd.1 g).1).trans g),WL (D.o.flux' ((CG.below U.o).trans (CG.below J)))⟩)
 clear g B ao D co U
 have O:Hid (∀W,VU w xs I x e b11 b13 b19 p q r l h a v1 v2 fa fb fc W->Below L.heap.size L W->Calls Tryz.prog 9 #[.agg I.toArray,.agg ys.toArray] W (Pa (⟨l,h,a⟩,0) W)):=yb (fun W J hb=>by rw[<-ah.o];exact J7 (bd.o _ J) (aa.o W hb).2)
 have N:Hid (∀W,VU w xs I x e b11 b13 b19 p q r l h a v1 v2 fa fb fc W->Below L.heap.size L W->Calls Tryz.prog 10 #[.agg I.toArray,.agg ys.toArray] W (Un (⟨z1,z2⟩,vr) W)):=yb (fun W J hb=>by rw[bm.o];exact DS (bd.o _ J) (aa.o W hb).2)
 have bw:Hid (∀W,Below L.heap.size L W->W.rangeAt bq 0 ys):=yb (fun W J=>(aa.o W J).1)
 unfold Pa at O
 unfold Un at N
 unfold Dm.v at O
 unfold Rt.v at N
 dsimp only at O N
 have a7:=yb (yg L.heap.size L)
 clear aa ah bm
 refine Ab fun K f=>?_
 go_wp2_with (first
  |(with_reducible refine yj rfl 35 _ rfl b19 0 (by kernel_rfl) I _ b0.o.rt qY (by kernel_rfl) cr.o ?_)
  |(with_reducible refine yj rfl 26 _ rfl bq 0 (by kernel_rfl) ys _ (bw.o _ a7.o) qP (by kernel_rfl) (F7 cu.o) ?_)
  |(go_at_call 9;with_reducible refine (O.o _ b0.o a7.o).mono ?_;rintro r w6 ⟨rfl,hb⟩;have d0:=yb (b0.o.up hb);have cf:=yb (a7.o.trans (hb.mono a7.o.size));have d7:=yb hb;clear hb)
  |(with_reducible refine Al rfl 39 _ _ rfl w6.heap.size (by kernel_rfl) [iV l,iV h,iV a] (by kernel_rfl) (World.alloc_heap_new _ _) (by kernel_rfl) (by kernel_rfl) (by simp[Value.oneCell']) ?_;intro w7 t;have ay:=yb t;clear t))
 refine f.o _ _ ?_
 clear f K
 have c:Below w6.heap.size w6 w7:=ay.o.below ((yg _ _).alloc (yf _) _) (yf _)
 have ax:=yb (d0.o.up c)
 have a0:=yb (cf.o.trans (c.mono cf.o.size))
 obtain ⟨a6,B⟩:∃q,q=w6.heap.size:=⟨_,rfl⟩
 have g:=ay.o.row
 rw[<-B] at g ⊢
 have an:Hid (∀W,Below w7.heap.size w7 W->W.heap[a6]?=some (.cells [iV l,iV h,iV a].toArray 39 (0,0))):=yb (fun W J=>(J.block _ (yd.1 g).1).trans g)
 have d5:=yb c
 clear g B ay c
 refine Ab fun K f=>?_
 go_wp2_with (first
  |(with_reducible refine yj rfl 35 _ rfl b19 0 (by kernel_rfl) I _ ax.o.rt qY (by kernel_rfl) cr.o ?_)
  |(with_reducible refine yj rfl 26 _ rfl bq 0 (by kernel_rfl) ys _ (bw.o _ a0.o) qP (by kernel_rfl) (F7 cu.o) ?_)
  |(go_at_call 10;with_reducible refine (N.o _ ax.o a0.o).mono ?_;rintro r w8 ⟨rfl,hb⟩;have cy:=yb (ax.o.up hb);have c8:=yb (a0.o.trans (hb.mono a0.o.size));have cm:=yb hb;clear hb)
  |(with_reducible refine Al rfl 44 _ _ rfl w8.heap.size (by kernel_rfl) [iV z1,iV z2] (by kernel_rfl) (World.alloc_heap_new _ _) (by kernel_rfl) (by kernel_rfl) (by simp[Value.oneCell']) ?_;intro Y t;have b4:=yb t;clear t))
 refine f.o _ _ ?_
 clear f K
 have c:Below w8.heap.size w8 Y:=b4.o.below ((yg _ _).alloc (yf _) _) (yf _)
 have ap:=yb (cy.o.up c)
 have d6:=yb (c8.o.trans (c.mono c8.o.size))
 obtain ⟨b8,B⟩:∃q,q=w8.heap.size:=⟨_,rfl⟩
 have g:=b4.o.row
 rw[<-B] at g ⊢
 have cg:Hid (∀W,Below Y.heap.size Y W->W.heap[b8]?=some (.cells [iV z1,iV z2].toArray 44 (0,0))):=yb (fun W J=>(J.block _ (yd.1 g).1).trans g)
 have cz:=yb c
 clear g B b4 c
 have C:=an.o Y (cm.o.trans (cz.o.mono cm.o.size))
 have A:=ap.o.d
 have cp:Y.cell? (aV a6 0)=some (iV l):=by simp[World.cell?,C]
 have ck:Y.cell? (aV a6 1)=some (iV h):=by simp[World.cell?,C]
 have cd:Y.cell? (aV a6 2)=some (iV a):=by simp[World.cell?,C]
 have cj:Y.cell? (aV b11 0)=some (iV l):=by simp[World.cell?,A]
 have ci:Y.cell? (aV b11 1)=some (iV h):=by simp[World.cell?,A]
 have bg:Y.cell? (aV b11 2)=some (iV a):=by simp[World.cell?,A]
 clear C A O N an
 refine Ab fun K f=>?_
 go_wp2
 refine f.o _ _ ?_
 clear f K
 refine Ab fun K f=>?_
 by_cases bk:vr=0
 rotate_left
 ·obtain rfl:vr=2:=cw.o.resolve_left bk
  clear f
  go_wp2
  go_ret
  exact ⟨rfl,ap.o.below⟩
 subst bk
 clear cw
 go_wp2
 refine f.o _ _ ?_
 clear f K
 have HP:=yb (k.o trivial)
 clear k
 obtain ⟨⟨ch,b9⟩,⟨ct,au⟩,⟨bj,az⟩⟩:=HD.o
 have ba:=Nh i.o.a1 i.o.a3 b9
 have cn:=Nh (e:= -l) i.o.a1 i.o.a3 (by omega)
 have bb:=Nh i.o.b1 i.o.b3 au
 have bp:=Nh (e:= -h) i.o.b1 i.o.b3 (by omega)
 have bc:=Nh i.o.c1 i.o.c3 az
 have cc:=Nh (e:= -a) i.o.c1 i.o.c3 (by omega)
 have bt:=yb (fun W=>JK 1 1 fa l (by omega) (by omega) ⟨i.o.a1,i.o.a3⟩ ⟨ch,b9⟩ W)
 have m1:=Wo (x:=1*Bz fa l) (y:=Bz fb h) (by rw[qp];exact ba) bb
 have aw:=Wo (x:=1*Bz fa (-l)) (y:=Bz fb (-h)) (by rw[qp];exact cn) bp
 have ce:=yb (fun W=>JK (1*Bz fa l) (1*Bz fa (-l)) fb h (by rw[qp];omega) (by rw[qp];omega) ⟨i.o.b1,i.o.b3⟩ ⟨ct,au⟩ W)
 have bu:=yb (fun W=>JK (1*Bz fa l*Bz fb h) (1*Bz fa (-l)*Bz fb (-h)) fc a m1 aw ⟨i.o.c1,i.o.c3⟩ ⟨bj,az⟩ W)
 have m2:=Sa m1 bc
 have d4:=Sa aw cc
 obtain ⟨b7,Z⟩:=HP.o
 have eP:Ko fa fb fc ⟨l,h,a⟩=1*Bz fa l*Bz fb h*Bz fc a:=by unfold Ko;rw[qp,Int.mul_assoc]
 have eQ:JJ fa fb fc ⟨l,h,a⟩=1*Bz fa (-l)*Bz fb (-h)*Bz fc (-a):=by unfold JJ;rw[qp,Int.mul_assoc]
 rw[eP,eQ] at b7 Z
 have k:=yb (fun W=>MV (1*Bz fa l*Bz fb h*Bz fc a) (1*Bz fa (-l)*Bz fb (-h)*Bz fc (-a)) (by omega) (by omega) (by omega) (by omega) W)
 generalize 1*Bz fa l*Bz fb h*Bz fc a=n3 at*
 generalize 1*Bz fa (-l)*Bz fb (-h)*Bz fc (-a)=d3 at*
 generalize 1*Bz fa l*Bz fb h=n2 at*
 generalize 1*Bz fa (-l)*Bz fb (-h)=d2 at*
 generalize 1*Bz fa l=n1 at*
 generalize 1*Bz fa (-l)=d1 at*
 generalize C8 n3 d3=M at*
 obtain ⟨⟨k1,k2⟩,ke⟩:=M
 dsimp only at b7 Z
 subst b7
 have H:=yb (fun W=>(Lo ⟨v1,v2⟩ ⟨k1,k2⟩ W).2.2.1)
 unfold Wj at H
 rw[Z] at H
 unfold Rt.v at H k
 dsimp only at H k
 clear Z eP eQ m1 aw m2 d4 ba cn bb bp bc cc ch b9 ct au bj az HP HD i
 refine Ab fun K f=>?_
 go_wp2_with (first|(go_at_call 13;with_reducible refine (bt.o _).mono ?_;rintro r w' ⟨rfl,rfl⟩))
 refine f.o _ _ ?_
 clear f K bt
 refine Ab fun K f=>?_
 go_wp2_with (first|(go_at_call 13;with_reducible refine (ce.o _).mono ?_;rintro r w' ⟨rfl,rfl⟩))
 refine f.o _ _ ?_
 clear f K ce
 refine Ab fun K f=>?_
 go_wp2_with (first|(go_at_call 13;with_reducible refine (bu.o _).mono ?_;rintro r w' ⟨rfl,rfl⟩))
 refine f.o _ _ ?_
 clear f K bu
 refine Ab fun K f=>?_
 go_wp2_with (first
  |(go_at_call 14;with_reducible refine (k.o _).mono ?_;rintro r a8 ⟨rfl,hb⟩;have c9:=yb (ap.o.up hb);have ad:=yb hb;clear hb)
  |(with_reducible refine Al rfl 44 _ _ rfl a8.heap.size (by kernel_rfl) [iV k1,iV k2] (by kernel_rfl) (World.alloc_heap_new _ _) (by kernel_rfl) (by kernel_rfl) (by simp[Value.oneCell']) ?_;intro S t;have T:=yb t;clear t))
 refine f.o _ _ ?_
 clear f K k
 have c:Below a8.heap.size a8 S:=T.o.below ((yg _ _).alloc (yf _) _) (yf _)
 have ae:=yb (c9.o.up c)
 have aj:=yb c
 have z:=T.o.row
 obtain ⟨cl,B⟩:∃q,q=a8.heap.size:=⟨_,rfl⟩
 rw[<-B] at z ⊢
 have k0:S.cell? (aV cl 0)=some (iV k1):=by simp[World.cell?,z]
 have cx:S.cell? (aV cl 1)=some (iV k2):=by simp[World.cell?,z]
 have X:=ae.o.v
 have g0:S.cell? (aV b13 0)=some (iV v1):=by simp[World.cell?,X]
 have g1:S.cell? (aV b13 1)=some (iV v2):=by simp[World.cell?,X]
 clear B z c X T cp ck cd cj ci bg
 refine Ab fun K f=>?_
 go_wp2_with (first
  |(go_at_call 15;with_reducible refine (H.o _).mono ?_;rintro r a2 ⟨rfl,hb⟩;have bz:=yb (ae.o.up hb);have bn:=yb hb;clear hb)
  |(with_reducible refine Al rfl 44 _ _ rfl a2.heap.size (by kernel_rfl) [iV z1,iV z2] (by kernel_rfl) (World.alloc_heap_new _ _) (by kernel_rfl) (by kernel_rfl) (by simp[Value.oneCell']) ?_;intro F t;have R:=yb t;clear t))
 refine f.o _ _ ?_
 clear f K H
 have c:Below a2.heap.size a2 F:=R.o.below ((yg _ _).alloc (yf _) _) (yf _)
 have cq:=yb (bz.o.up c)
 have n:=R.o.row
 obtain ⟨bo,B⟩:∃q,q=a2.heap.size:=⟨_,rfl⟩
 rw[<-B] at n ⊢
 have s1:=aj.o.trans (bn.o.mono aj.o.size)
 have s2:=s1.trans (c.mono s1.size)
 have s3:=ad.o.trans (s2.mono ad.o.size)
 have Q:=cg.o F s3
 have y0:F.cell? (aV bo 0)=some (iV z1):=by simp[World.cell?,n]
 have y1:F.cell? (aV bo 1)=some (iV z2):=by simp[World.cell?,n]
 have x0:F.cell? (aV b8 0)=some (iV z1):=by simp[World.cell?,Q]
 have x1:F.cell? (aV b8 1)=some (iV z2):=by simp[World.cell?,Q]
 clear B n Q c R k0 cx g0 g1 s1 s2 s3
 go_wp2
 go_ret
 exact ⟨rfl,cq.o.below⟩
set_option linter.unusedSimpArgs false
set_option linter.unusedVariables false
theorem PM{o:Oper}{a:Act}{K:Act->World->Prop}{Q:QT}{W:World}{t e:TypeId}(A:Tryz.prog.underlying t=some (.slice e))(s x:Operand)(D:o.op=.call {callee:=.builtin .append,args:=#[s,x],argTypes:=#[t,t]})
 (size:Nat)(b:((Tryz.prog.info? e).bind fun i=>i.zero.map fun z=>(i.size,z.cells.size,decide (i.bytes<=88)))=some (size,size,true))(r:0 < size)
 (B:Nat)(v:Value)(n:Nat)(xs:LV)(hs:a.eval s=v)(k:W.ownsRow B e size v n xs)(g c:Nat)(row:LV)(F:a.eval x=.slice (some ⟨g,0,none⟩) 1 c)(C:W.heap[g]?=some (.cells row.toArray e (0,0)))(y:row.length=size)(l:∀u∈row,u.oneCell'=true)(q:(n+1)*88<=140737488355328)(m:B<=W.heap.size)
 (h:∀v' w',w'.ownsRow B e size v' (n+1) (xs++row)->W.grownBy w' v.ownBlock->(v'.ownBlock=v.ownBlock∨v'.ownBlock=some W.heap.size)->K (a.put o.dst v') w'):Oper.wp Tryz.prog o a W K Q:=by
 cases d:Tryz.prog.info? e with
 |none=>simp[d] at b
 |some i0=>
  cases w:i0.zero with
  |none=>simp[d,w] at b
  |some z=>
   simp only[d,w,xi,xx,yZ,zq,yT] at b
   obtain ⟨h1,h2,h3⟩:=b
   have f:(n+1)*i0.bytes<=140737488355328:=yu (Nat.mul_le_mul_left _ h3) q
   have p:∀j u,row[j]?=some u->W.cell? (((aV g 0):Addr).add j)=some u:=fun j u H=>by
    rw[zA]
    simp only[World.cell?,C]
    simpa using H
   obtain ⟨v',w',hr,G,E,_⟩:=run_append_own (P:=Tryz.prog) W B t o.type e i0 z size i0.bytes A d w h1 rfl h2 r v n xs k (aV g 0) 1 c row (by rw[y,qo]) p l (by unfold maxLen;omega) f m
   have hb:=K8 (ty:=o.type) A d w h1 k C y l f (by omega) hr
   unfold Oper.wp
   simp[execOp,D,resolve,invoke,builtin,hs,F,hr,Result.andThen]
   exact h v' w' G E hb
structure PU (W0 W:World) (b:Nat):Prop where
 os:W.os=W0.os
 tape:W.tape=W0.tape
 output:W.output=W0.output
 size:W0.heap.size<=W.heap.size
 block:∀k,k < W0.heap.size->k≠b->W.heap[k]?=W0.heap[k]?
section
variable{w W0 W W':World}{b:Nat}
theorem PU.refl(W:World)(b:Nat):PU W W b:=⟨rfl,rfl,rfl,yf _,fun _ _ _=>rfl⟩
theorem PU.up(h:PU W0 W b)(hb:Below W0.heap.size W W'):PU W0 W' b:=⟨hb.os.trans h.os,hb.tape.trans h.tape,hb.output.trans h.output,yu h.size hb.size,fun k a c=>(hb.block k a).trans (h.block k a c)⟩
theorem PU.wrote(h:PU W0 W b){c:LV}{t:TypeId}(a:D3 W W' b c t):PU W0 W' b:=⟨a.os.trans h.os,a.tape.trans h.tape,a.output.trans h.output,by rw[a.size];exact h.size,fun k e d=>(a.block k d).trans (h.block k e d)⟩
theorem PU.below(h:PU W0 W b)(a:Below w.heap.size w W0)(hb:w.heap.size<=b):Below w.heap.size w W:=
 a.trans ⟨h.os,h.tape,h.output,h.size,fun k c=>h.block k (yt c a.size) (by omega)⟩
end
def PN(fa fb fc:Int)(d:F9):F9:={d with value:=Cr (AX fa fb fc) 8 d.value}
def XG(x:Ar)(W0:World)(b19:Nat)(P Q:LV)(fa fb fc:Int)(i:Nat)(W:World):Prop:=
 ∃v,PU W0 W b19∧W.heap[b19]?=some (.cells (P++(v::Q)).toArray 35 (0,0))∧IL H7 50 7 W0.heap.size V6 [b19] W v ((x.lets.take i).map (PN fa fb fc))
structure WT (w:World) (cs xs P Q:List Value) (x:Ar) (L:Bt) (e:Ex) (N:Nat->Prop) (b11 b13 b19 p q r:Nat) (l h a v1 v2 fa fb fc:Int) (W0:World):Prop where
 sv:BH N w L cs x
 hN:∀b,N b->b < w.heap.size
 hcs:cs=P++(L.lets.v::Q)
 hP:P.length=19
 gv:GV w
 gu:GU w
 ev:AI N w e xs
 below:Below w.heap.size w W0
 rs:W0.rangeAt w.heap.size 0 cs
 rx:W0.rangeAt (w.heap.size+1) 0 xs
 d:W0.heap[b11]?=some (.cells [.int .i64 l,.int .i64 h,.int .i64 a].toArray 39 (0,0))
 v:W0.heap[b13]?=some (.cells [.int .i64 v1,.int .i64 v2].toArray 44 (0,0))
 l19:w.heap.size+2<=b19
 ne:b11≠b19∧b13≠b19∧p≠b19∧q≠b19∧r≠b19
 lt:p < W0.heap.size∧q < W0.heap.size∧r < W0.heap.size
 j:W0.cell? ⟨p,0,none⟩=some (.int .i64 fa)∧W0.cell? ⟨q,0,none⟩=some (.int .i64 fb)∧W0.cell? ⟨r,0,none⟩=some (.int .i64 fc)
 t:W0.heap[b19]?=some (.cells (P++(Value.slice none 0 0::Q)).toArray 35 (0,0))
theorem UY{W:World}{b:Nat}{v:Value}{c:LV}(h:W.rangeAt b 0 (v::c)):W.rangeAt b 1 c:=fun j u a=>by
 have:=h (j+1) u (by simpa using a)
 rw[show 1+j=0+(j+1) by omega];exact this
theorem Ez{W W':World}{b q:Nat}{v:Value}(h:W.cell? ⟨b,q,none⟩=some v)(hb:W'.heap[b]?=W.heap[b]?):W'.cell? ⟨b,q,none⟩=some v:=by
 unfold World.cell? at h ⊢
 simp only at h ⊢
 rw[hb];exact h
section
variable{w:World}{cs xs P Q:LV}{x:Ar}{L:Bt}{e:Ex}{N:NP}{b11 b13 b19 p q r:Nat}{l h a v1 v2 fa fb fc:Int}{W0 W:World}
theorem WT.XU(k:WT w cs xs P Q x L e N b11 b13 b19 p q r l h a v1 v2 fa fb fc W0)(hr:PU W0 W b19){G:NP}(c:∀b,G b->b=b19∨W0.heap.size<=b):Xs p q r fa fb fc G W:=by
 obtain ⟨n1,n2,n,u,f⟩:=k.ne
 obtain ⟨i,m,t⟩:=k.lt
 obtain ⟨d,o,s⟩:=k.j
 have hs:=hr.size
 refine ⟨⟨⟨fun g=>by have:=c _ g;omega,by omega⟩,Ez d (hr.block _ i n)⟩,⟨⟨fun g=>by have:=c _ g;omega,by omega⟩,Ez o (hr.block _ m u)⟩,⟨⟨fun g=>by have:=c _ g;omega,by omega⟩,Ez s (hr.block _ t f)⟩⟩
theorem WT.done(k:WT w cs xs P Q x L e N b11 b13 b19 p q r l h a v1 v2 fa fb fc W0)(B:Ey x=true){hd:Aw}(hr:PU W0 W b19)(A:W.heap[b19]?=some (.cells (P++(hd.v::Q)).toArray 35 (0,0)))(g:BF (GF V6 W) W 7 (H7 (GF V6 W) W) hd (x.lets.map (PN fa fb fc))):
  VU w xs (P++(hd.v::Q)) x e b11 b13 b19 p q r l h a v1 v2 fa fb fc W∧(P++(hd.v::Q)).length=26:=by
 have f:=hr.below k.below (by have:=k.l19;omega)
 have hN:∀b,N b->b < W.heap.size:=fun b hb=>yt (k.hN b hb) f.size
 have z:∀b,N b->W.heap[b]?=w.heap[b]?:=fun b hb=>f.block b (k.hN b hb)
 have c:=k.sv.same (w':=W) (N':=fun b=>b < W.heap.size) hN z
 have n:=Jc B
 have o:w.heap.size+1 < W.heap.size:=by have:=(yd.1 k.t).1;have:=k.l19;have:=hr.size;omega
 have i:b19 < W.heap.size:=(yd.1 A).1
 obtain ⟨n1,n2, -, -, -⟩:=k.ne
 obtain ⟨c0,c1,c2,hcs,y,g1,u⟩:=c.cells
 have hP:P=.string x.name::(c0++(c1++c2))∧L.lets.v::Q=[L.lets.v,L.crops.v,L.reaches.v,L.farms.v,L.rots.v,L.rights.v,L.duties.v]:=by
  have h1:P++(L.lets.v::Q)=(.string x.name::(c0++(c1++c2)))++[L.lets.v,L.crops.v,L.reaches.v,L.farms.v,L.rots.v,L.rights.v,L.duties.v]:=by rw[<-k.hcs,hcs];simp[yG]
  exact List.append_inj h1 (by rw[k.hP];simp[y.len,g1.len,u.len])
 obtain ⟨j,C⟩:=hP
 have m:Q=[L.crops.v,L.reaches.v,L.farms.v,L.rots.v,L.rights.v,L.duties.v]:=(zT C).2
 have s:BH (fun b=>b < W.heap.size) W {L with lets:=hd} (P++(hd.v::Q)) (Hw fa fb fc x):=by
  refine ⟨c.name,⟨c0,c1,c2,by rw[j,m];simp[yG,Hw],y,g1,u⟩,?_,c.crops,c.reaches,c.farms,c.rots,c.rights,c.duties⟩
  exact g.same (fun _ hb=>hb.2) (fun _ _=>rfl) (fun cs d hd=>Hn _ _ _ _ _ _ (fun _ hb=>hb.2) (fun _ _=>rfl) hd)
 refine ⟨⟨f,A0 k.rx (hr.block _ (by have:=(yd.1 k.t).1;have:=k.l19;omega) (by have:=k.l19;omega)),k.ev.same hN z,(hr.block _ (yd.1 k.d).1 n1).trans k.d,(hr.block _ (yd.1 k.v).1 n2).trans k.v,Ax A,⟨⟨_,s⟩,UX n.1,k.gv.below f k.gv.1,k.gu.up f,Tm n.2⟩,k.XU hr (fun b hb=>hb.elim),o,i⟩,?_⟩
 rw[j,m];simp[y.len,g1.len,u.len]
end
theorem PO{w W0:World}{cs xs P Q:LV}{x:Ar}{L:Bt}{e:Ex}{N:NP}{b11 b13 b19 p q r:Nat}{l h a v1 v2 fa fb fc:Int}{u:Nat->Value}(hf:QY fa fb fc)(hw:Ft e)(O:Ey x=true)
 (hm:Du x e=(⟨l,h,a⟩,0))(hv:B7 x e=(⟨v1,v2⟩,0))(hS:WT w cs xs P Q x L e N b11 b13 b19 p q r l h a v1 v2 fa fb fc W0)
 (cj:u 5=.pointer (some ⟨w.heap.size,0,none⟩))(cu:u 6=.pointer (some ⟨w.heap.size+1,0,none⟩))(ag:u 11=.pointer (some ⟨b11,0,none⟩))(al:u 13=.pointer (some ⟨b13,0,none⟩))(am:u 15=.int .i64 fa)(aj:u 16=.int .i64 fb)(ae:u 17=.int .i64 fc)
 (ao:u 18=.func (.func 27) #[] #[.pointer (some ⟨p,0,none⟩),.pointer (some ⟨q,0,none⟩),.pointer (some ⟨r,0,none⟩)])(af:u 19=.pointer (some ⟨b19,0,none⟩)):
  Code.wp Tryz.prog (Gf 11 (Tryz.f3.body.getD .skip)) (bodyPost Tryz.prog Tryz.f3 fun r w'=>r=.returned (.bool true)∧Below w.heap.size w w') {tmps:=Rh u,defers:=[]} W0:=by
 have y:=yb hS
 obtain ⟨⟨la,m,lc⟩,ax⟩:∃hd,L.lets=hd:=⟨_,rfl⟩
 have ar:W0.cell? (aV w.heap.size 19)=some (.slice la m lc):=by
  have h1:=hS.rs 19 (.slice la m lc) (by rw[hS.hcs,ax,yN (by rw[hS.hP];exact yf _),hS.hP];rfl)
  simpa using h1
 have be:Hid (BF N w 7 (H7 N w) ⟨la,m,lc⟩ x.lets):=yb (ax▸hS.sv.lets)
 have HM:Hid (m=x.lets.length):=yb be.o.1
 have az:=yb (Jc O).1
 have ak:Hid (m<=100000):=yb (by rw[HM.o];exact az.o.lets)
 obtain ⟨I,hI⟩:∃I:Nat->World->Prop,I=XG x W0 b19 P Q fa fb fc:=⟨_,rfl⟩
 have HI:=yb hI
 have cq:Hid (I 0 W0):=yb (by rw[hI];exact ⟨_,PU.refl _ _,hS.t,by simpa using Pw⟩)
 have HF:=yb hf;have cx:=yb hw;have c9:=yb O;have de:=yb hm;have d5:=yb hv
 clear hI hS ax hf hw O hm hv
 rw[S8,cj,cu,ag,al,am,aj,ae,ao,af]
 clear cj cu ag al am aj ae ao af
 refine Ab fun K f=>?_
 go_wp2
 clear ar
 go_loopw [97] (fun iv wr=>∃i:Nat,iv=iV i∧i<=m∧Hid (I i wr)) (fun iv _=>m - (intOf iv).toNat)
 case atStart=>exact ⟨0,rfl,yI _,cq⟩
 case round=>
  clear cq
  obtain ⟨i,rfl,hi,bz⟩:=hrel
  obtain ⟨v,hR,hT,aq⟩:XG x W0 b19 P Q fa fb fc i wr:=by have h:=bz.o;rw[HI.o] at h;exact h
  obtain ⟨va,F,H,rfl⟩:=aq.slice
  have HR:=yb hR;have HT:=yb hT;have C:=yb aq
  clear bz hR hT aq
  have aw:m<=140737488355328:=by have:=ak.o;omega
  by_cases Y:i < m
  ·have a2:i < x.lets.length:=by rw[<-HM.o];exact Y
   have bp:(i:Int) < (m:Int):=by omega
   obtain ⟨bq,oq,M,he,bt,b4,b5,bi⟩:=be.o.2.2 i a2
   obtain rfl:la=some (aV bq oq):=he
   have cd:Hid ((x.lets.take (i+1)).map (PN fa fb fc)=(x.lets.take i).map (PN fa fb fc)++[PN fa fb fc x.lets[i]]):=yb (by rw[yF a2,zC];rfl)
   have dd:Hid ((i+1)*88<=140737488355328):=yb (by have:=ak.o;omega)
   have bm:Hid (Ft x.lets[i].value):=yb (Ng _ (Tn az.o _ (yJ a2)))
   have d1:Hid (((x.lets.take i).map (PN fa fb fc)).length=i):=yb (by simp;omega)
   generalize hD:x.lets[i]=D at bi cd bm
   clear hD
   obtain ⟨cc,c,rfl,ac⟩:=bi
   have df:=yb ac;have cv:=yb cc
   have dc:Hid (c.length=6):=yb ac.len
   obtain ⟨M,A⟩:∃M:LV,M=.string D.name::c:=⟨_,rfl⟩
   rw[<-A] at b5 b4
   have b7:Hid (M.length=7):=yb b4
   have d4:Hid (∀v∈M,v.oneCell'=true):=yb (by rw[A];exact BZ rfl (BA ac))
   have ck:=yb A
   have d0:Hid (Below w.heap.size w wr):=yb (HR.o.below y.o.below (by have:=y.o.l19;omega))
   have d6:Hid (wr.rangeAt bq (oq+i*7) M):=yb (A0 b5 (d0.o.block bq (y.o.hN _ bt)))
   have cz:=yb (S0 Y aw)
   have cl:Hid (i < m):=yb Y
   clear b5 ac cc bt a2 b4 A
   go_upto_region 18 with (first
    |((with_reducible refine yj rfl 50 _ rfl bq (oq+i*7) (by kernel_rfl) M _ d6.o j6 (by kernel_rfl) (by rw[b7.o];kernel_rfl) ?_))
    |((with_reducible refine Al rfl 50 _ _ rfl wr.heap.size (by kernel_rfl) M (by kernel_rfl) (World.alloc_heap_new _ _) (by rw[yM,b7.o];kernel_rfl) (by rw[b7.o];kernel_rfl) d4.o ?_);intro J bj;have av:=yb bj;clear bj))
   have a8:Hid (Below wr.heap.size wr J):=yb (av.o.below ((yg _ _).alloc (yf _) _) (yf _))
   have bb:Hid (wr.heap.size < J.heap.size):=yb (by rw[av.o.size];simp)
   obtain ⟨G,ad⟩:∃G:NP,G=FL V6 ([b19]++ob (.slice va F H)):=⟨_,rfl⟩
   have cg:=yb ad
   have ah:b19 < W0.heap.size:=(yd.1 y.o.t).1
   have ce:Hid (∀b,G b->b=b19∨W0.heap.size<=b):=yb (fun b hb=>by
    rw[ad] at hb
    rcases hb with hb|hb
    ·exact hb.elim
    ·rcases yv.1 hb with hb|hb
     ·exact .inl (by simpa using hb)
     ·exact .inr (C.o.lt b hb).1)
   have bn:Hid (∀b,G b->b < wr.heap.size):=yb (fun b hb=>by
    rw[ad] at hb
    rcases hb with hb|hb
    ·exact hb.elim
    ·rcases yv.1 hb with hb|hb
     ·have:=HR.o.size;simp at hb;omega
     ·exact (C.o.lt b hb).2)
   have bx:=yb (HR.o.up (a8.o.mono HR.o.size))
   have ap:Hid (∀V,Below J.heap.size J V->Calls Tryz.prog 12 #[.agg c.toArray,iV 8,.func (.func 27) #[] #[pV p 0,pV q 0,pV r 0]] V fun x w'=>∃bo:LV,x=.returned (.agg bo.toArray)∧AI (GF G w') w' (Cr (AX fa fb fc) 8 D.value) bo∧Below V.heap.size V w'):=yb (fun V hV=>by
    have bw:=bx.o.up (hV.mono bx.o.size)
    have co:=bw.below y.o.below (by have:=y.o.l19;omega)
    refine Kb (PF HF.o) 8 (by omega) D.value G V c bm.o (y.o.XU bw ce.o) (df.o.same (fun b hb=>⟨fun g=>?_,yt (y.o.hN b hb) co.size⟩) (fun b hb=>co.block b (y.o.hN b hb))) (fun k hk=>by have:=bn.o k hk;have:=bb.o;have:=hV.size;omega)
    have h1:=ce.o b g;have h2:=y.o.hN b hb;have h3:=y.o.l19;have h4:=y.o.below.size
    omega)
   have aa:Hid (Below J.heap.size J J.drew):=yb (yg _ _).drew
   have b9:=(a8.o.block b19 (by have:=HR.o.size;omega)).trans HT.o
   have a7:Hid (J.heap[wr.heap.size]?=some (.cells M.toArray 50 (0,0))∧J.heap[b19]?=some (.cells (P++(Value.slice va F H::Q)).toArray 35 (0,0))):=yb ⟨av.o.row,b9⟩
   clear b9 ad
   have z:Hid ((fun V:World=>V.heap[wr.heap.size]?=some (.cells M.toArray 50 (0,0))∧V.heap[b19]?=some (.cells (P++(Value.slice va F H::Q)).toArray 35 (0,0))) J.drew):=yb a7.o
   refine Di (by kernel_rfl) (fun V=>V.heap[wr.heap.size]?=some (.cells M.toArray 50 (0,0))∧V.heap[b19]?=some (.cells (P++(Value.slice va F H::Q)).toArray 35 (0,0))) 11 ?_
   have bh:Hid (∀V:World,V.heap[b19]?=some (.cells (P++(Value.slice va F H::Q)).toArray 35 (0,0))->V.cell? (aV b19 19)=some (.slice va F H)∧V.frozen? (aV b19 19)=false):=yb (fun V hV=>⟨by
    have h1:=Ax hV 19 (.slice va F H) (by rw[yN (by rw[y.o.hP];exact yf _),y.o.hP];rfl)
    simpa using h1,by simp[World.frozen?,hV]⟩)
   refine Af (i:=0) (v:=pV b19 19) rfl (by kernel_rfl) (by kernel_rfl) (by kernel_rfl) (fun _ _ _ h=>h) (by kernel_rfl) (Or.inl ⟨by rfl,?_⟩) (fun _=>z.o) ?_
   ·intro W _;go_simp
   refine AO (i:=1) (v:=.slice va F H) rfl (by kernel_rfl) (by kernel_rfl) (by kernel_rfl) (fun _ _ _ h=>h) (by kernel_rfl) (Or.inl ⟨by rfl,?_⟩) z.o ?_
   ·intro W hW;have d9:=(bh.o W hW.2).1;go_simp
   refine Af (i:=2) (v:=pV wr.heap.size 0) rfl (by kernel_rfl) (by kernel_rfl) (by kernel_rfl) (fun _ _ _ h=>h) (by kernel_rfl) (Or.inl ⟨by rfl,?_⟩) (fun _=>z.o) ?_
   ·intro W _;go_simp
   refine AO (i:=3) (v:=.string D.name) rfl (by kernel_rfl) (by kernel_rfl) (by kernel_rfl) (fun _ _ _ h=>h) (by kernel_rfl) (Or.inl ⟨by rfl,?_⟩) z.o ?_
   ·intro W hW;have d9:W.cell? (aV wr.heap.size 0)=some (.string D.name):=(by have h:=hW.1;rw[ck.o] at h;simp[World.cell?,h]);go_simp
   refine Af (i:=4) (v:=pV wr.heap.size 1) rfl (by kernel_rfl) (by kernel_rfl) (by kernel_rfl) (fun _ _ _ h=>h) (by kernel_rfl) (Or.inl ⟨by rfl,?_⟩) (fun _=>z.o) ?_
   ·intro W _;go_simp
   refine AO (i:=5) (v:=.agg c.toArray) rfl (by kernel_rfl) (by kernel_rfl) (by kernel_rfl) (fun _ _ _ h=>h) (by kernel_rfl) (yieldsIf_load_mid (by rfl) 26 _ rfl wr.heap.size 1 (by kernel_rfl) c _ (fun W hW=>(by have h:=Ax hW.1;rw[ck.o] at h;exact UY h)) qP rfl (F7 dc.o)) z.o ?_
   refine Af (i:=6) (v:=.func (.func 27) #[] #[pV p 0,pV q 0,pV r 0]) rfl (by kernel_rfl) (by kernel_rfl) (by kernel_rfl) (fun _ _ _ h=>h) (by kernel_rfl) (Or.inl ⟨by rfl,?_⟩) (fun _=>z.o) ?_
   ·intro W _;go_simp
   refine Ag (i:=7) (by kernel_rfl) rfl (fun K f=>?_)
   go_simp
   refine (ap.o _ aa.o).mono ?_
   rintro e U ⟨res,rfl,au,bd⟩
   have b0:Hid (Below J.heap.size J U):=yb (aa.o.trans (bd.mono aa.o.size))
   have d:Hid (U.heap[wr.heap.size]?=some (.cells M.toArray 50 (0,0))∧U.heap[b19]?=some (.cells (P++(Value.slice va F H::Q)).toArray 35 (0,0))):=yb ⟨(b0.o.block _ bb.o).trans a7.o.1,(b0.o.block _ (yd.1 a7.o.2).1).trans a7.o.2⟩
   refine f.o _ _ (fun _=>d.o) ?_
   clear f K bd ap aa
   have ai:H7 (GF G U) U (.string D.name::res) (PN fa fb fc D):=⟨cv.o,res,rfl,au⟩
   have R:=yb ai
   obtain ⟨ra,rc,B, -, -, -⟩:=au.cells
   obtain ⟨E,hE⟩:∃E,E=Cr (AX fa fb fc) 8 D.value:=⟨_,rfl⟩
   rw[<-hE] at B
   clear hE ai au
   obtain ⟨d3,en,eu,dh,db,b8⟩:=E
   simp only[Ex.op,Ex.n,Ex.u,Ex.rn,Ex.ri,Ex.args] at B
   generalize b8.length=el at B
   subst B
   obtain ⟨s,j⟩:∃s:LV,s=.string D.name::[iV d3,iV en,iV eu,.string dh,iV db,.slice ra el rc]:=⟨_,rfl⟩
   rw[<-j] at R
   have c8:=yb j
   have ay:Hid (s.length=7):=yb (by rw[j];rfl)
   have dg:Hid (∀v∈s,v.oneCell'=true):=yb (by rw[j];simp[Value.oneCell'])
   clear j
   have a6:Hid (Below wr.heap.size wr U):=yb (a8.o.trans (b0.o.mono a8.o.size))
   rw[cg.o] at R
   obtain ⟨rows,Z,bv,X⟩:=(C.o.up Hn (CG.below a6.o) (fun k hk=>a6.o.block k (C.o.lt k hk).2) (fun _ h=>.inl h)).own
   have cw:=yb Z;have cy:=yb bv;have ba:=yb X
   have an:Hid (W0.heap.size<=U.heap.size):=yb (yu HR.o.size a6.o.size)
   have bk:Hid ((U.alloc (.cells s.toArray 50)).ownsRow W0.heap.size 50 7 (.slice va F H) rows.length rows.flatten):=yb (G1 Z fun k hk=>((yg _ _).alloc (yf _) _).block k (NV Z k hk).2)
   have bu:Hid ((rows.length+1)*88<=140737488355328):=yb (by rw[AD.length X,d1.o];exact dd.o)
   have di:Hid (W0.heap.size<=(U.alloc (.cells s.toArray 50)).heap.size):=yb (by have:=an.o;simp;omega)
   clear Z bv X
   refine Ag (i:=8) (by kernel_rfl) rfl (fun K f=>?_)
   go_simp
   refine f.o _ _ (fun _=>d.o) ?_
   clear f K
   refine Ag (i:=9) (by kernel_rfl) rfl (fun K f=>?_)
   rw[yw (by kernel_rfl)]
   refine Nc 27 50 _ rfl s (by rw[c8.o];kernel_rfl) 7 qQ (by kernel_rfl) ay.o (by omega) (by omega) ?_
   refine f.o _ _ (fun _=>⟨(yA _ _ _ (yd.1 d.o.1).1).trans d.o.1,(yA _ _ _ (yd.1 d.o.2).1).trans d.o.2⟩) ?_
   clear f K
   refine Ag (i:=10) (by kernel_rfl) rfl (fun K f=>?_)
   rw[yw (by kernel_rfl)]
   refine PM qQ _ _ rfl 7 (by kernel_rfl) (by omega) W0.heap.size (.slice va F H) rows.length rows.flatten (by kernel_rfl) bk.o U.heap.size 1 s (by kernel_rfl) (World.alloc_heap_new _ _) ay.o dg.o bu.o di.o ?_
   intro vx x8 S cm bg
   obtain ⟨xa,xn,xc,rfl⟩:=JL S
   have T:=yb (K9 Hn ba.o cy.o cw.o R.o ay.o S cm bg an.o)
   clear S cm bg
   have d8:=yb ((HR.o.up (a6.o.mono HR.o.size)).up T.o.below)
   have a0:=(T.o.below.block b19 ah).trans d.o.2
   have ch:x8.heap[wr.heap.size]?=U.heap[wr.heap.size]?:=T.o.flux.2 _ (yd.1 d.o.1).1 (fun hh=>by
    have:=bn.o wr.heap.size (by rw[cg.o];exact hh)
    omega)
   refine f.o _ _ (fun _=>⟨ch.trans d.o.1,a0⟩) ?_
   clear f K ch
   obtain ⟨d7,da⟩:=bh.o x8 a0
   refine Ag (i:=11) (by kernel_rfl) rfl (fun K f=>?_)
   go_simp
   refine f.o _ _ (by intro h;cases h) ?_
   clear f K
   refine Ag (i:=12) (by kernel_rfl) rfl (fun K f=>?_)
   go_simp
   refine f.o _ _ (by intro h;cases h) ?_
   clear f K
   refine Dh (by kernel_rfl) ?_
   have cp:D3 x8 (x8.setCell (aV b19 19) (.slice xa xn xc)) b19 (P++(Value.slice xa xn xc::Q)) 35:=AA _ _ [.slice xa xn xc] 19 x8 P [.slice va F H] Q a0 y.o.hP rfl
   have ab:=yb cp
   clear cp d7 da a0 hi Y bp ah
   go_wp2
   have d2:Hid (I (i+1) (x8.setCell (aV b19 19) (.slice xa xn xc))):=yb (by
    rw[HI.o]
    refine ⟨.slice xa xn xc,d8.o.wrote ab.o,ab.o.row,?_⟩
    have h:=T.o.grow.up (l':=[b19]) Hn (ab.o.flux (.inr (by simp))) (fun k hk=>ab.o.block k (by have:=(T.o.grow.lt k hk).1;have:=(yd.1 y.o.t).1;omega)) (fun _ h=>.inl h)
    rw[<-cd.o] at h
    exact h)
   rw[cz.o]
   exact ⟨⟨i+1,rfl,cl.o,d2⟩,S1 cl.o⟩
  ·obtain rfl:i=m:=by omega
   have bp:decide ((i:Int) < (i:Int))=false:=by simp
   have cn:IL H7 50 7 W0.heap.size V6 [b19] wr (.slice va F H) (x.lets.map (PN fa fb fc)):=by have h:=C.o;rw[HM.o,yS] at h;exact h
   obtain ⟨hd,cr,cf⟩:=cn.row Hn (CG.refl _ _) (fun _ _=>rfl) (fun k hk=>hk.elim) (by have:=az.o.lets;simp;omega)
   have ht:=HT.o
   rw[cr] at ht
   have ci:=yb (y.o.done c9.o HR.o ht cf)
   clear cn cr cf ht C
   go_wp2
   refine f.o _ _ ?_
   refine S9 (P:=fun l=>Code.wp Tryz.prog _ _ ⟨l,[]⟩ wr) rfl ?_
   exact PL HF.o cx.o ci.o.2 de.o d5.o ci.o.1 rfl rfl rfl rfl rfl rfl rfl rfl
set_option linter.unusedSimpArgs false
set_option linter.unusedVariables false
theorem UZ(P:Program)(k k':IntKind)(x y:Int)(w:World):(Builtin.max2 (.int k x) (.int k' y)).run P w=.ok (.int k (max x y)) w:=by
 simp only[Builtin.max2,Sem.run_pure]
 congr 2
 rw[Int.max_def]
 split<;>split<;>omega
theorem V0(P:Program)(t:Array TypeId)(ty:TypeId)(a b c d e f:Int)(w:World):(Builtin.max_ t ty #[.int .i64 a,.int .i64 b,.int .i64 c,.int .i64 d,.int .i64 e,.int .i64 f]).run P w=.ok (.int .i64 (max (max (max (max (max a b) c) d) e) f)) w:=by
 simp only[Builtin.max_,List.foldlM_cons,List.foldlM_nil,xj,UZ,xQ,Sem.run_pure]
theorem VV{N:NP}{w:World}{L:Bt}{cs:LV}{x:Ar}(h:BH N w L cs x):cs.length=26:=by
 obtain ⟨c0,c1,c2,rfl,a,g1,b⟩:=h.cells
 simp[a.len,g1.len,b.len]
theorem VW{N:NP}{w:World}{L:Bt}{cs:LV}{x:Ar}(h:BH N w L cs x):∀v∈cs,v.oneCell'=true:=by
 obtain ⟨c0,c1,c2,rfl,a,g1,b⟩:=h.cells
 exact BZ rfl (AG (BA a) (AG (BA g1) (AG (BA b) (by simp[Aw.v,Value.oneCell']))))
theorem VX{x:Ar}{e:Ex}{m:Rt × Int}(h:m=B7 x e)(h0:m.2≠0):m.1=It:=by
 subst h
 unfold B7 at h0 ⊢
 split at h0
 ·exact absurd rfl h0
 ·rename_i h1
  rw[yq h1]
theorem PQ{N:NP}{w:World}{L:Bt}{cs xs:LV}{x:Ar}{e:Ex}(h:BH N w L cs x)(hN:∀b,N b->b < w.heap.size)(R:AI N w e xs)(hg:GV w)(hu:GU w)(hw:Ft e){m2 m3 m4:Nat}(bp:m2 < 256)(bv:m3 < 256)(bu:m4 < 256):
  Calls Tryz.prog 3 #[.agg cs.toArray,.agg xs.toArray,.int .u8 m2,.int .u8 m3,.int .u8 m4] w fun r w'=>r=.returned (.bool true)∧Below w.heap.size w w':=by
 have D:Hid ((Tryz.prog.info? 35).map (·.size)=some cs.length):=yb (Ly h)
 have H6:Hid (xs.length=6):=yb R.len
 have HT:=yb (UO h hN R hg hu)
 have b9:=yb hw
 have T:=yb h;have HN:=yb hN;have bi:=yb R;have ba:=yb hg;have bd:=yb hu
 clear h hN R hg hu hw
 go_enter Tryz.func3,Tryz.ntmps3
 refine Ab fun K c=>?_
 go_wp2_with (first|(with_reducible refine LA rfl 35 _ rfl cs.toArray (by kernel_rfl) ?_)|(with_reducible refine LA rfl 26 _ rfl xs.toArray (by kernel_rfl) ?_))
 refine c.o _ _ ?_
 clear c K
 generalize (w.alloc _).alloc _=w0 at HT ⊢
 refine Ab fun K c=>?_
 go_wp2_with (first|(go_at_call 7;with_reducible refine (UF HT.o.gv HT.o.gu).mono ?_;rintro r w1 ⟨rfl,ag⟩;have A:=yb (HT.o.up ag);clear ag))
 refine c.o _ _ ?_
 clear c K HT
 refine Ab fun K c=>?_
 have I:Hid (Calls Tryz.prog 8 #[.agg cs.toArray] w1 fun r w'=>r=.returned (.bool (Ey x))∧Below w1.heap.size w1 w'):=yb (by obtain ⟨L,R⟩:=A.o.sv;exact T6 R (fun _ h=>h))
 cases C:Ey x
 ·rw[C] at I
  clear c C
  go_wp2_with (first
   |(with_reducible refine yj rfl 35 _ rfl w.heap.size 0 (by kernel_rfl) cs _ A.o.rs qY (by kernel_rfl) D.o ?_)
   |(go_at_call 8;with_reducible refine I.o.mono ?_;rintro r w2 ⟨rfl,E⟩;have bk:=yb (A.o.up E);clear E))
  go_ret
  exact ⟨rfl,bk.o.below⟩
 have HF:=yb C
 rw[C] at I
 clear C
 go_wp2_with (first
  |(with_reducible refine yj rfl 35 _ rfl w.heap.size 0 (by kernel_rfl) cs _ A.o.rs qY (by kernel_rfl) D.o ?_)
  |(go_at_call 8;with_reducible refine I.o.mono ?_;rintro r w3 ⟨rfl,E⟩;have a6:=yb (A.o.up E);clear E))
 refine c.o _ _ ?_
 clear c K I A
 obtain ⟨⟨⟨l,h,a⟩,er⟩,hm⟩:∃m,m=Du x e:=⟨_,rfl⟩
 obtain ⟨⟨⟨v1,v2⟩,vr⟩,R⟩:∃m,m=B7 x e:=⟨_,rfl⟩
 have X:Hid (∀W,PG w cs xs x e W->Calls Tryz.prog 9 #[.agg cs.toArray,.agg xs.toArray] W (Pa ⟨⟨l,h,a⟩,er⟩ W)):=yb (fun W V=>by rw[hm];exact J7 (V.ok HF.o) V.ev)
 have a2:Hid (∀W,PG w cs xs x e W->Calls Tryz.prog 10 #[.agg cs.toArray,.agg xs.toArray] W (Un ⟨⟨v1,v2⟩,vr⟩ W)):=yb (fun W V=>by rw[R];exact DS (V.ok HF.o) V.ev)
 unfold Pa at X
 unfold Un at a2
 unfold Dm.v at X
 unfold Rt.v at a2
 dsimp only at X a2
 have aw:=yb hm;have ab:=yb R
 clear hm R
 refine Ab fun K c=>?_
 go_wp2_with (first
  |(with_reducible refine yj rfl 35 _ rfl w.heap.size 0 (by kernel_rfl) cs _ a6.o.rs qY (by kernel_rfl) D.o ?_)
  |(with_reducible refine yj rfl 26 _ rfl (w.heap.size+1) 0 (by kernel_rfl) xs _ a6.o.rx qP (by kernel_rfl) (F7 H6.o) ?_)
  |(go_at_call 9;with_reducible refine (X.o _ a6.o).mono ?_;rintro r w4 ⟨rfl,hb⟩;have au:=yb (a6.o.up hb);have bq:=yb hb;clear hb)
  |(with_reducible refine Al rfl 39 _ _ rfl w4.heap.size (by kernel_rfl) [iV l,iV h,iV a] (by kernel_rfl) (World.alloc_heap_new _ _) (by kernel_rfl) (by kernel_rfl) (by simp[Value.oneCell']) ?_;intro w5 hw;have aa:=yb hw;clear hw))
 refine c.o _ _ ?_
 clear c K
 have k:Below w4.heap.size w4 w5:=aa.o.below ((yg _ _).alloc (yf _) _) (yf _)
 have a0:=yb (au.o.up k)
 obtain ⟨b11,C⟩:∃q,q=w4.heap.size:=⟨_,rfl⟩
 have b5:Hid (w.heap.size+2<=b11):=yb (by rw[C];exact au.o.lt)
 have f:=aa.o.row
 rw[<-C] at f ⊢
 have j:Hid (∀W,Below w5.heap.size w5 W->W.heap[b11]?=some (.cells [iV l,iV h,iV a].toArray 39 (0,0))∧b11 < w5.heap.size):=yb (fun W V=>⟨(V.block _ (yd.1 f).1).trans f,(yd.1 f).1⟩)
 have bn:=yb k
 clear f C aa k
 refine Ab fun K c=>?_
 go_wp2_with (first
  |(with_reducible refine yj rfl 35 _ rfl w.heap.size 0 (by kernel_rfl) cs _ a0.o.rs qY (by kernel_rfl) D.o ?_)
  |(with_reducible refine yj rfl 26 _ rfl (w.heap.size+1) 0 (by kernel_rfl) xs _ a0.o.rx qP (by kernel_rfl) (F7 H6.o) ?_)
  |(go_at_call 10;with_reducible refine (a2.o _ a0.o).mono ?_;rintro r w6 ⟨rfl,hb⟩;have b0:=yb (a0.o.up hb);have Y:=yb hb;clear hb)
  |(with_reducible refine Al rfl 44 _ _ rfl w6.heap.size (by kernel_rfl) [iV v1,iV v2] (by kernel_rfl) (World.alloc_heap_new _ _) (by kernel_rfl) (by kernel_rfl) (by simp[Value.oneCell']) ?_;intro n hw;have ad:=yb hw;clear hw))
 refine c.o _ _ ?_
 clear c K
 have k:Below w6.heap.size w6 n:=ad.o.below ((yg _ _).alloc (yf _) _) (yf _)
 have ac:=yb (b0.o.up k)
 obtain ⟨b13,C⟩:∃q,q=w6.heap.size:=⟨_,rfl⟩
 have b4:Hid (w.heap.size+2<=b13):=yb (by rw[C];exact b0.o.lt)
 have f:=ad.o.row
 rw[<-C] at f ⊢
 have i:Hid (∀W,Below n.heap.size n W->W.heap[b13]?=some (.cells [iV v1,iV v2].toArray 44 (0,0))∧b13 < n.heap.size):=yb (fun W V=>⟨(V.block _ (yd.1 f).1).trans f,(yd.1 f).1⟩)
 have ai:=yb k
 clear f C ad k
 have J:=(i.o n (yg _ _)).1
 have c0:n.cell? (aV b13 0)=some (iV v1):=by simp[World.cell?,J]
 have c1:n.cell? (aV b13 1)=some (iV v2):=by simp[World.cell?,J]
 clear J
 refine Ab fun K c=>?_
 by_cases S:vr=0
 rotate_left
 ·have hz:=VX ab.o S
  unfold It at hz
  simp only[Rt.mk.injEq] at hz
  obtain ⟨rfl,rfl⟩:=hz
  have bt:(vr !=0)=true:=by simpa using S
  clear c S
  go_wp2
  go_ret
  exact ⟨rfl,ac.o.below⟩
 subst S
 go_wp2
 refine c.o _ _ ?_
 clear c K c0 c1
 obtain ⟨fa,az⟩:∃fa:Int,fa=1+(m2:Int) % 3:=⟨_,rfl⟩
 obtain ⟨fb,ah⟩:∃fb:Int,fb=1+(m3:Int) % 3:=⟨_,rfl⟩
 obtain ⟨fc,ao⟩:∃fc:Int,fc=1+(m4:Int) % 3:=⟨_,rfl⟩
 have am:Hid (QY fa fb fc):=yb ⟨by omega,by omega,by omega,by omega,by omega,by omega⟩
 have ar:=M3 am.o (s:=x) (x:=e) (by rw[<-ab.o])
 obtain ⟨-,af,G, -, -⟩:=ar
 rw[<-aw.o] at af G
 dsimp only at af G
 subst af
 have hD:(-4<=l∧l<=4)∧(-4<=h∧h<=4)∧(-4<=a∧a<=4):=by
  unfold Fv Qu at G
  simpa using G
 have HD:=yb hD
 have nl:wrap64 (-l)= -l:=AH (by omega)
 have nh:wrap64 (-h)= -h:=AH (by omega)
 have na:wrap64 (-a)= -a:=AH (by omega)
 obtain ⟨M,hM⟩:∃M,M=max (max (max (max (max l (-l)) h) (-h)) a) (-a):=⟨_,rfl⟩
 have bb:decide (4 < M)=false:=by rw[hM];simp;omega
 have HM:=yb hM
 clear hM
 have y:=(j.o n (Y.o.trans (ai.o.mono Y.o.size))).1
 have c0:n.cell? (aV b11 0)=some (iV l):=by simp[World.cell?,y]
 have c1:n.cell? (aV b11 1)=some (iV h):=by simp[World.cell?,y]
 have c2:n.cell? (aV b11 2)=some (iV a):=by simp[World.cell?,y]
 clear y G hD
 refine Ab fun K c=>?_
 go_wp2
 rw[V0,<-HM.o]
 go_wp2
 refine c.o _ _ ?_
 clear c K c0 c1 c2 nl nh na bb
 refine Ab fun K c=>?_
 go_wp2
 refine c.o _ _ ?_
 clear c K
 rw[<-az,<-ah,<-ao]
 clear az ah ao
 refine Ab fun K c=>?_
 go_wp2_with (first|(go_at_call 11;with_reducible refine (To fa fb fc n).mono ?_;rintro r w8 ⟨p,q,rr,rfl,aj,u,an⟩;have bo:=yb aj;have z:=yb u;have H:=yb an;clear aj u an))
 refine c.o _ _ ?_
 clear c K
 have B:=yb (ac.o.up H.o)
 obtain ⟨P,Q,hcs,hP⟩:∃P Q:LV,cs=P++(L.lets.v::Q)∧P.length=19:=by
  obtain ⟨c0,c1,c2,hc,g0,g1,g2⟩:=T.o.cells
  exact ⟨.string x.name::(c0++(c1++c2)),[L.crops.v,L.reaches.v,L.farms.v,L.rots.v,L.rights.v,L.duties.v],by rw[hc];simp[yG],by simp[g0.len,g1.len,g2.len]⟩
 have al:=yb hcs;have ap:=yb hP
 have HO:Hid (∀v∈cs,v.oneCell'=true):=yb (VW T.o)
 have av:Hid (cs.length=26):=yb (VV T.o)
 clear hcs hP
 refine Ab fun K c=>?_
 go_wp2_with (first
  |(with_reducible refine yj rfl 35 _ rfl w.heap.size 0 (by kernel_rfl) cs _ B.o.rs qY (by kernel_rfl) D.o ?_)
  |((with_reducible refine Al rfl 35 _ _ rfl w8.heap.size (by kernel_rfl) cs (by kernel_rfl) (World.alloc_heap_new _ _) (by rw[av.o];kernel_rfl) D.o HO.o ?_);intro w9 ax;have ay:=yb ax;clear ax))
 refine c.o _ _ ?_
 clear c K
 have g:Hid (Below w8.heap.size w8 w9):=yb (ay.o.below ((yg _ _).alloc (yf _) _) (yf _))
 have O:=ay.o.row
 rw[al.o] at O
 have a8:=yb O
 clear O
 refine Ab fun K c=>?_
 go_wp2_with (first
  |((with_reducible refine FP rfl 27 _ _ rfl w8.heap.size 19 (by kernel_rfl) (.slice none 0 0) (by kernel_rfl) (by kernel_rfl) (p:=P) (m:=L.lets.v) (q:=Q) (t:=35) a8.o ap.o (by kernel_rfl) (by kernel_rfl) ?_);intro ae a7;have F:=yb a7;clear a7))
 refine c.o _ _ ?_
 clear c K
 have d:Hid (PU w9 ae w8.heap.size):=yb ((PU.refl w9 w8.heap.size).wrote F.o)
 have U:=Y.o.trans (ai.o.mono Y.o.size)
 have Z:=U.trans (H.o.mono U.size)
 have aq:=Z.trans (g.o.mono Z.size)
 have ak:=H.o.trans (g.o.mono H.o.size)
 have bj:w8.heap.size < w9.heap.size:=(yd.1 a8.o).1
 have z7:=(j.o n U).2
 have z8:=(i.o n (yg _ _)).2
 have z9:=Z.size
 have b7:=H.o.size
 have bm:=B.o.lt
 have bg:=ac.o.lt
 have be:=F.o.size
 have b8:=g.o.size
 have p1:=Jg z.o.1;have p2:=Jg z.o.2.1;have p3:=Jg z.o.2.2
 simp only at p1 p2 p3
 have hS:WT w cs xs P Q x L e N b11 b13 w8.heap.size p q rr l h a v1 v2 fa fb fc ae:=by
  refine ⟨T.o,HN.o,al.o,ap.o,ba.o,bd.o,bi.o,d.o.below (B.o.below.trans (g.o.mono B.o.below.size)) (by omega),?_,?_,?_,?_,by omega,⟨by omega,by omega,by omega,by omega,by omega⟩,⟨by omega,by omega,by omega⟩,⟨?_,?_,?_⟩,F.o.row⟩
  ·exact A0 (A0 B.o.rs (g.o.block _ (by omega))) (d.o.block _ (by omega) (by omega))
  ·exact A0 (A0 B.o.rx (g.o.block _ (by omega))) (d.o.block _ (by omega) (by omega))
  ·exact (d.o.block _ (by omega) (by omega)).trans (j.o w9 aq).1
  ·exact (d.o.block _ (by omega) (by omega)).trans (i.o w9 ak).1
  ·exact Ez z.o.1 ((d.o.block _ (by omega) (by omega)).trans (g.o.block _ p1))
  ·exact Ez z.o.2.1 ((d.o.block _ (by omega) (by omega)).trans (g.o.block _ p2))
  ·exact Ez z.o.2.2 ((d.o.block _ (by omega) (by omega)).trans (g.o.block _ p3))
 have bh:=yb hS
 clear hS U Z aq ak bj z7 z8 z9 b7 bm bg be b8 p1 p2 p3
 refine S9 (P:=fun l=>Code.wp Tryz.prog _ _ ⟨l,[]⟩ ae) rfl ?_
 exact PO am.o b9.o HF.o aw.o.symm ab.o.symm bh.o rfl rfl rfl rfl rfl rfl rfl rfl rfl
end Go.Proofs.YtjofgpfocadomaaGreatDoor
namespace Go.Proofs.YtjofgpfocadomaaGreatDoor
open Go.ChangeShapes Go.WideShapes Go.ChangeAt Go.WideMaps Go.WideElems Go.RowKit Go.ChangeMaps
section
variable{H:Type}{enc:TypeId × Value->H}{P:Program}{w:World}{base:Nat}{spare:Nat->Bool}{held:Bool}
theorem NZ{t t1 t2 t3 t4:TypeId}{args:Array Value}{ds:List (DataW H)}{ps:List MemPlace}(h:DataW.TrodAll enc P w base spare held [t,t1,t2,t3,t4] args.toList ds ps):
  ∃v v1 v2 v3 v4 d b f a i p e j c g,args=#[v,v1,v2,v3,v4]∧ds=[d,b,f,a,i]∧ps=p++e++j++c++g∧DataW.Trod enc P w base spare held t v d p∧DataW.Trod enc P w base spare held t1 v1 b e∧DataW.Trod enc P w base spare held t2 v2 f j∧DataW.Trod enc P w base spare held t3 v3 a c∧DataW.Trod enc P w base spare held t4 v4 i g:=by
 obtain ⟨v,C,d,D,p,q,o,rfl,rfl,hd,B⟩:=trodAll_cons h
 obtain ⟨v1,r,b,J,e,G,rfl,rfl,rfl,l,g1⟩:=trodAll_cons B
 obtain ⟨v2,s,f,E,j,M,rfl,rfl,rfl,m,A⟩:=trodAll_cons g1
 obtain ⟨v3,u,a,I,c,F,rfl,rfl,rfl,n,z⟩:=trodAll_cons A
 obtain ⟨v4,x,i,L,g,K,rfl,rfl,rfl,k,y⟩:=trodAll_cons z
 obtain ⟨rfl,rfl,rfl⟩:=trodAll_nil y
 exact ⟨v,v1,v2,v3,v4,d,b,f,a,i,p,e,j,c,g,by cases args;simp_all,rfl,by simp,hd,l,m,n,k⟩
theorem PR{t t1 t2 t3 t4:TypeId}{v v1 v2 v3 v4:Value}{d g i f j:DataW H}{p a e c b:List MemPlace}(h:DataW.Trod enc P w base spare held t v d p)(h1:DataW.Trod enc P w base spare held t1 v1 g a)
 (h2:DataW.Trod enc P w base spare held t2 v2 i e)(h3:DataW.Trod enc P w base spare held t3 v3 f c)(k:DataW.Trod enc P w base spare held t4 v4 j b):DataW.TrodAll enc P w base spare held [t,t1,t2,t3,t4] [v,v1,v2,v3,v4] [d,g,i,f,j] (p++(a++(e++(c++b)))):=
 ⟨p,a++(e++(c++b)),h,trodAll_mk4 h1 h2 h3 k,rfl⟩
end
theorem IQ(os:Os)(f:os.Started)(H:Type)(enc:TypeId × Value->H):
  ReturnsInHanded {} Tryz.checked os 3 .any (fun w args=>(Rows.unitsScaledSpec.pre enc Tryz.prog Tryz.f3 [] false w args∧laidMetH Tryz.prog Jj w)∧sizedMet enc Tryz.prog Tryz.f3 (OpenSpec.ofChange Rows.unitsScaledSpec) false w args)
   (Rows.unitsScaledSpec.post enc Tryz.prog Tryz.f3 false true false false):=by
 refine GZ (C:=Tryz.checked) (X:=fun w _=>laidMetH Tryz.prog Jj w) (fun _ _ _ Y h=>h.of_heap Y) own f (by kernel_rfl) Tryz.func3
  (ChangeSpec.witness_shaped (enc:=enc) (C:=Tryz.checked) (os:=os) (X:=fun w _=>laidMetH Tryz.prog Jj w) false (World.doorLaid Tryz.prog 400 os) #[.agg #[.string ByteArray.empty,iV 0,iV 0,iV 0,.string ByteArray.empty,iV 0,.slice none 0 0,iV 0,iV 0,iV 0,.string ByteArray.empty,iV 0,.slice none 0 0,iV 0,iV 0,iV 0,.string ByteArray.empty,iV 0,.slice none 0 0,.slice none 0 0,.slice none 0 0,.slice none 0 0,.slice none 0 0,.slice none 0 0,.slice none 0 0,.slice none 0 0],.agg #[iV 0,iV 0,iV 0,.string ByteArray.empty,iV 0,.slice none 0 0],.int .u8 0,.int .u8 0,.int .u8 0] 16 rfl (World.shaped_of_RefB (by kernel_rfl) (by kernel_rfl)) (by kernel_rfl) (by kernel_rfl) (by kernel_rfl) (UP os _)) ?_
 intro W base args ds gs A c S k hL E
 have o:(DataW.weightsEach Tryz.prog (Tryz.f3.params.toList++Rows.unitsScaledSpec.plain.varTypes Tryz.prog) (ds++gs)).all (·<=reachBytes)=true:=k
 have a:∀(j:Nat) t v,Tryz.f3.params[j]?=some t->args[j]?=some v->Value.okWide Tryz.prog W .any base t v:=c
 have i:=S
 obtain ⟨p,q,u,hV,rfl,_,_⟩:=S
 have R:DataW.TrodAll enc Tryz.prog W 0 (fun _=>true) true Tryz.f3.params.toList args.toList ds p:=u
 rw[Tryz.params3] at R a o
 obtain ⟨v0,v1,v2,v3,v4,Q,O,d2,d3,d4,p0,p1,p2,p3,p4,rfl,rfl,rfl,h0,h1,h2,h3,V⟩:=NZ R
 obtain ⟨rfl,rfl⟩:=trodVars_none hV
 obtain ⟨cs,rfl,hcs⟩:=okWide_struct qY (a 0 35 v0 rfl rfl)
 obtain ⟨xs,rfl,a0⟩:=okWide_struct qP (a 1 26 v1 rfl rfl)
 rw[NW] at hcs
 have F:=h0
 have J:=h1
 obtain ⟨fuel,hf⟩:=h0
 obtain ⟨r,M⟩:=h1
 obtain ⟨n2,rfl,rfl,rfl,s⟩:=qz j5 (a 2 5 v2 rfl rfl) h2
 obtain ⟨m2,rfl,D⟩:∃m:Nat,n2=(m:Int)∧m < 256:=by
  simp only[Lit.wf,yE,yT] at s
  rw[show IntKind.u8.min=0 by decide,show IntKind.u8.max=255 by decide] at s
  exact ⟨n2.toNat,by omega,by omega⟩
 obtain ⟨P,rfl,rfl,rfl,z⟩:=qz j5 (a 3 5 v3 rfl rfl) h3
 obtain ⟨m3,rfl,K⟩:∃m:Nat,P=(m:Int)∧m < 256:=by
  simp only[Lit.wf,yE,yT] at z
  rw[show IntKind.u8.min=0 by decide,show IntKind.u8.max=255 by decide] at z
  exact ⟨P.toNat,by omega,by omega⟩
 obtain ⟨T,rfl,rfl,rfl,y⟩:=qz j5 (a 4 5 v4 rfl rfl) V
 obtain ⟨m4,rfl,I⟩:∃m:Nat,T=(m:Int)∧m < 256:=by
  simp only[Lit.wf,yE,yT] at y
  rw[show IntKind.u8.min=0 by decide,show IntKind.u8.max=255 by decide] at y
  exact ⟨T.toNat,by omega,by omega⟩
 clear u c k
 simp only[yU] at i
 have hw:Wt 35 Q:=fun n N=>by simpa using yW.1 o n (yC (j:=0) (t:=35) (d:=Q) rfl rfl _ N)
 have B:Wt 26 O:=fun n N=>by simpa using yW.1 o n (yC (j:=1) (t:=26) (d:=O) rfl rfl _ N)
 obtain ⟨L,x,Z,_,_⟩:=PC (H:=H) (enc:=enc) (W:=W) (cs:=cs.toList) hf hw (by simpa using hcs)
 obtain ⟨e,hE,G⟩:=AM (H:=H) (enc:=enc) (W:=W) r xs.toList _ _ M B
 have U:=NX E
 have l:=PQ Z (fun b hb=>hb) hE U (Ks hL U) G D K I
 rw[show cs.toList.toArray=cs by simp,show xs.toList.toArray=xs by simp] at l
 refine l.mono fun e W' ⟨he,hb⟩=>?_
 subst he
 exact ⟨_,rfl,_,_,_,[],_,[],i,trodAll_mk1 (shut_bool j0 true),PR (Below.trod Ji (by kernel_rfl) (yR (by kernel_rfl)) F hb (fun x g=>i.lt x (by simp[g]))) (Below.trod Ji (by kernel_rfl) (yR (by kernel_rfl)) J hb (fun x g=>i.lt x (by simp[g]))) (Below.trod Ji (by kernel_rfl) (yR (by kernel_rfl)) h2 hb (fun x g=>by cases g)) (Below.trod Ji (by kernel_rfl) (yR (by kernel_rfl)) h3 hb (fun x g=>by cases g)) (Below.trod Ji (by kernel_rfl) (yR (by kernel_rfl)) V hb (fun x g=>by cases g)),rfl,hb.frame _,fun h=>by cases h⟩
theorem unitsScaled_holds:Rows.UnitsScaledSaid:=
 OpenClaim.holds_of_wide 3 Tryz.f3 rfl rfl rfl rfl rfl rfl rfl ⟨rfl,rfl,rfl,rfl,rfl⟩ rfl rfl rfl rfl rfl (by kernel_rfl) Tryz.func3 (by kernel_rfl)
  (yR (by kernel_rfl)) (by unfold Func.isWrapper;rw[yq (of_decide_eq_false (by kernel_rfl))];exact ⟨rfl,rfl⟩)
  (fun os a H enc _=>IQ os a H enc)
theorem unitsScaledCard_holds:Rows.UnitsScaledCardSaid:=
 Claim7.holds_tied_plain_at .later [] [.data,.data,.data,.data,.data,.data] true (true, "11f3996585834df42a1b22c8d320a2ae51f6086afdeb77c2ef291d0b945e9561") true
  unitsScaled_holds (fun _ h=>by cases h) (by kernel_rfl) (fun _ h=>by cases h) unitsScaled_row_tie rfl ⟨rfl,rfl⟩ (by kernel_rfl) rfl
  (fun f fn d b=>by
   obtain rfl:f=3:=yi ((show Tryz.prog.funcNamed "acequia/acequialaw18.UnitsScaled" =some 3 by kernel_rfl).symm.trans d) |>.symm
   obtain rfl:fn=Tryz.f3:=(yi (Tryz.func3.symm.trans b)).symm
   exact ⟨by kernel_rfl,fun j t c=>by
    rw[Tryz.params3] at c
    have e:t∈[35,26,5,5,5]:=by simpa using xf c
    have a:([35,26,5,5,5].all fun u=>!Tryz.prog.wantsStandIn u)=true:=by kernel_rfl
    exact (show Tryz.prog.wantsStandIn t=false by simpa using yW.1 a t e)⟩)
  (by kernel_rfl)
#print axioms unitsScaledCard_holds
end Go.Proofs.YtjofgpfocadomaaGreatDoor
