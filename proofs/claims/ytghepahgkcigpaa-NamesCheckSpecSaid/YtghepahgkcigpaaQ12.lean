/- Parts of the proof, in short words: Sg Sh Yi Si Vd -/
import Derived.Test.YtghepahgkcigpaaQ0
import Derived.Test.YtghepahgkcigpaaQ11
import Derived.Test.YtghepahgkcigpaaQ8
set_option maxRecDepth 100000
set_option maxHeartbeats 16000000
set_option linter.unusedSimpArgs false
namespace Go.Proofs.Ytghepahgkcigpaa
open Go.RowKit
attribute [local go_sem] Oper.semAt_some
theorem Dl.low{B b:Nat}{w:World}{v:Value}{l:List Rf}(h:Dl B w v l)(hb:b<=B):Dl b w v l:=by
 obtain ⟨h1,h2⟩:=h
 refine ⟨h1,h2.imp id ?_⟩
 rintro ⟨g,cap,a,e,h4,h5⟩
 exact ⟨g,cap,a,e,by omega,h5⟩
theorem El.below{W0 V V':World}{Bx:Nat}{l:List Rf}{O:NP}(h:El W0 Bx l O V)(hb:Below V.heap.size V V'):El W0 Bx l O V':=by
 obtain ⟨v,r1,r2,d⟩:=h.row
 exact ⟨⟨hb.os.trans h.grown.os,hb.tape.trans h.grown.tape,hb.output.trans h.grown.output,yo h.grown.size hb.size,fun b a c=>(hb.block b (yk a h.grown.size)).trans (h.grown.block b a c)⟩,h.ownO,v,(hb.block _ (yd.1 r1).1).trans r1,r2.up (fun g _ a=>hb.block g a),d⟩
theorem WV{Q:QT}{w V:World}{x:AA}{L1 L2:BL}{dd cv:LV}{N1 N2:NP}{base B3 B4 B5 D1:Nat}(hQ:Sp Q w x)(hw:AK x=0)
 (h1:DK V w.heap.size B4 x L1 dd N1)(h2:DK V B3 B4 (Ao x) L2 cv N2)(S:B4 < B5)(h5:B5 < base)(hb:Below w.heap.size w V)(J:base<=V.heap.size)
 (b7:∃va,V.heap[B4]?=some (.cells #[va] 127 (0,0))∧Dl base V va (BB x))(A:V.heap[B5]?=some (.cells #[.slice none 0 0] 127 (0,0)))
 (M:w.heap.size<=D1)(m:V.heap[D1]?=some (.deferred (some [])))(q:(CJ x).length<=900000000)(i:(CJ (Ao x)).length<=900000000)
 (u0 u6 u7 u8 u9 bb ap bz cl c3 c4 aj bu cj bn bd ar cc cq cd ct d0 d2 ak cm ca cn c7 aq cg af ag ba bm co am au ah ce ax b3 ad cp ae bv bo b9 c5 ay ao b4 cf bs bk bg c8 bw ck be:Value):
  I3 14 Try.prog (DM 5 (Try.f14.body.getD .skip)) Q {tmps:=#[u0,.pointer (some ⟨w.heap.size,0,none⟩),.int .i64 0,.pointer (some ⟨B3,0,none⟩),.pointer (some ⟨B4,0,none⟩),.pointer (some ⟨B5,0,none⟩),u6,u7,u8,u9,bb,ap,bz,cl,c3,c4,aj,bu,cj,bn,bd,ar,cc,cq,cd,ct,d0,d2,ak,cm,ca,cn,c7,aq,cg,af,ag,ba,bm,co,am,au,ah,ce,ax,b3,ad,cp,ae,bv,bo,b9,c5,ay,ao,b4,cf,bs,bk,bg,c8,bw,ck,be],defers:=[Le D1]} V:=by
 obtain ⟨x0,t⟩:∃x0:AA,x0=Ao x:=⟨_,rfl⟩
 obtain ⟨L,cs,NN,W⟩:∃L cs NN,DK V B3 B4 x0 L cs NN:=by rw[t];exact ⟨_,_,_,h2⟩
 have T:BX x0=true:=by rw[t];exact So (Gq hw).1
 have b5:Dc (Tb.of x) x0=true:=by rw[t];exact NJ (Gq hw).2.2.2.2
 have bq:(BB x0).length<=900000000:=by
  rw[t];have:=i;unfold CJ at this;rw[yi] at this;omega
 have bi:B3 < B4:=W.lt _ (.inl rfl)
 obtain ⟨W5,G⟩:∃W5,W5=(V.alloc (.cells #[pV B3 0] 52)):=⟨_,rfl⟩
 have j:Below V.heap.size V W5:=by rw[G];exact (yc _ _).alloc (ye _) _
 have Z:W5.heap.size=V.heap.size+1:=by rw[G];simp
 have P:DK W5 B3 B4 x0 L cs NN:=W.up (fun b hb=>j.block b (by omega))
 have az:W5.cell? (aV V.heap.size 0)=some (pV L.s 0):=by
  rw[W.at0,G]
  have h:=World.alloc_heap_new V (.cells #[pV B3 0] 52)
  simp only[World.cell?,h]
  rfl
 have a2:W5.rangeAt L.s 0 cs:=by rw[W.at0];exact P.range
 have hU:=Q1 P.src a2 az T
 obtain ⟨hR,hM⟩:=NI P.src a2
 have aa:(CG W5 L x0).2=true:=((Hp (Tb.of x) hU).2 b5).1
 have ac:=hM aa
 have bt:(CG W5 L x0).1.length=(BB x0).length:=by rw[<-ac,yI]
 have av:∀k O U,El W5 B5 ((BB x0).take k) O U->∀b,(VP NN L.s b∨b=V.heap.size)->U.heap[b]?=W5.heap[b]?:=fun k O U h b hb=>by
  rcases hb with hb|rfl
  ·rw[W.at0] at hb
   have:=W.lt b hb
   exact h.same (by omega) (by omega)
  ·exact h.same (by omega) (by omega)
 have HU:=ya hU;have HR:=ya hR;have HM:=ya ac;have d8:=ya bt;have ai:=ya av;have cw:=ya aa;have bh:=ya Z;have d5:=ya j
 have HP:=ya W;have d4:=ya bq
 have ci:Hid (B5 < V.heap.size∧∃u:Value,W5.heap[B5]?=some (.cells #[u] 127 (0,0))):=ya ⟨by omega,by
  rw[j.block _ (by omega)];exact ⟨_,A⟩⟩
 have p:Hid (B5 < W5.heap.size):=ya (by omega)
 have cy:Hid (El W5 B5 ((BB x0).take 0) (fun _=>False) W5):=ya (by
  rw[zN]
  exact El.start W5 (by rw[j.block _ (by omega)];exact A))
 have cu:=ya G;have d6:=ya t;have d3:=ya bi
 have Y:=ya (And.intro hQ (And.intro hw (And.intro h1 (And.intro h2 (And.intro S (And.intro h5 (And.intro hb J)))))))
 have a8:=ya (And.intro b7 (And.intro A (And.intro M m)))
 have a7:=ya (And.intro q i)
 clear G hQ hw h1 h2 S h5 hb J T b5 bq bi j Z P az a2 hU hR hM ac aa bt av W t q i b7 A M m
 unfold Le
 refine Aq (Aq (Af ?_))
 go_wp2_with (first|(go_at_call 51;refine (Ma _ _).mono ?_;rintro e w2 ⟨rfl,rfl⟩))
 rw[<-cu.o]
 refine F9 ?_
 refine EF (n:=10) Try.func14 rfl (fun _ _=>rfl) (LW 9 (by omega) HU.o) (fun a ha=>by
   obtain ⟨u,_,rfl⟩:=xH.1 ha
   rfl)
  (fun k O U=>El W5 B5 ((BB x0).take k) O U) (fun _ _ _=>False) (fun _ _ _=>False)
  (fun k a O U=>El W5 B5 ((BB x0).take k) O U∧∃(ub uo:Nat) (f c:Int) (d:ByteArray) (C:Int) (g:Nat),(CG W5 L x0).1[k]?=some ⟨ub,uo,f,c,d,C⟩∧¬ O g∧g < U.heap.size∧U.heap[g]?=some (.cells #[pV ub uo,iV f,iV c] 106 (0,0))∧a={tmps:=#[u0,pV w.heap.size 0,iV 0,pV B3 0,pV B4 0,pV B5 0,u6,pV g 0,u8,u9,bb,ap,bz,cl,c3,c4,aj,bu,cj,bn,bd,ar,cc,cq,cd,ct,.func (.func 81) #[] #[pV V.heap.size 0],.agg #[pV ub uo,iV f,iV c],ak,cm,ca,cn,c7,aq,cg,af,ag,ba,bm,co,am,au,ah,ce,ax,b3,ad,cp,ae,bv,bo,b9,c5,ay,ao,b4,cf,bs,bk,bg,c8,bw,ck,be],defers:=[]})
  (El.stays (W0:=W5) p.o (fun k=>(BB x0).take k)) (fun _ _ _ _ _ _ h=>h.elim) (fun _ _ _ _ _ _ h=>h.elim) ?_ (fun k O U h=>PZ (ai.o k O U h)) (fun _ _ _ h=>h.elim) ?_ cy.o ?_ ?_ ?_ (fun _ _ _ _ _ _ h=>h.elim) (fun _ _ _ _ _ _ h=>h.elim)
 ·rintro a k O U O' U' ⟨h1,ub,uo,f,c,d,C,g,h2,h3,h4,h5,h6⟩ hz ho ht hu X hO
  exact ⟨El.stays (W0:=W5) p.o (fun k=>(BB x0).take k) k O U O' U' h1 hz ho ht hu X hO,ub,uo,f,c,d,C,g,h2,fun h=>(hO g h).elim h3 (fun h=>by omega),by omega,(X g h3 h4).trans h5,h6⟩
 ·intro ch he O U H
  rw[cw.o] at he
  cases he
 ·intro k X O U lo H hO hl F
  have c9:k < (CG W5 L x0).1.length:=by rw[yI] at X;exact X
  rw[xf]
  have R:=ya (yl c9)
  generalize (CG W5 L x0).1[k]=u at R ⊢
  obtain ⟨ub,uo,f,c,d,C⟩:=u
  have HJ:=ya H;have N:=ya F
  clear H hO hl F X c9
  unfold Us.v
  simp only
  gi_wp2
  have ab:Cd O U (U.alloc (.cells #[pV ub uo,iV f,iV c] 106)):=⟨by simp,fun b hb=>yT _ _ _ (N.o b hb)⟩
  have K:El W5 B5 ((BB x0).take k) O (U.alloc (.cells #[pV ub uo,iV f,iV c] 106)):=HJ.o.below ((yc U.heap.size U).alloc (ye _) _)
  have E:¬ O U.heap.size:=fun h=>Nat.lt_irrefl _ (N.o _ h)
  first
  |exact ⟨ab,K,ub,uo,f,c,d,C,U.heap.size,R.o,E,by simp,World.alloc_heap_new _ _,rfl⟩
  |(rename_i hK;exact hK _ _ ⟨ab,K,ub,uo,f,c,d,C,U.heap.size,R.o,E,by simp,World.alloc_heap_new _ _,rfl⟩)
  |(rename_i hK _;exact hK _ _ ⟨ab,K,ub,uo,f,c,d,C,U.heap.size,R.o,E,by simp,World.alloc_heap_new _ _,rfl⟩)
  |fail
 ·rintro k X O U lo a1 hl b8 F ⟨H,ub,uo,f,c,d,C,g,hu,de,bp,cr,rfl⟩
  have l:=HR.o _ (xv hu)
  have a0:=ai.o k O U H ub (.inl l.inS)
  have bj:(BB x0)[k]?=some (⟨d,C⟩:Rf):=by
   rw[<-HM.o,List.getElem?_map,hu];rfl
  obtain ⟨va,r1,r2,r3⟩:=H.row
  have HJ:=ya H
  have d1:Hid (∀U',El W5 B5 ((BB x0).take k++[⟨d,C⟩]) O U'->El W5 B5 ((BB x0).take (k+1)) O U'):=ya (fun U' h=>by rw[Jn bj] at h;exact h)
  have d9:Hid (((BB x0).take k).length+1<=1000000000):=ya (by
   have:=d4.o
   rw[yP];omega)
  have c6:Hid (U.cell? (aV B5 0)=some va):=ya (by simp[World.cell?,r1])
  have an:Hid (∃u,U.heap[B5]?=some (.cells #[u] 127 (0,0))):=ya ⟨_,r1⟩
  have aw:=ya r2
  have cb:Hid (U.cell? (aV g 0)=some (pV ub uo)):=ya (by simp[World.cell?,cr])
  have cx:Hid (U.cell? (aV ub uo)=some (.string d)):=ya ((Ap a0).trans l.name)
  have db:Hid (U.cell? (aV ub (uo+1))=some (iV C)):=ya ((Ap a0).trans l.n)
  have I:Hid (B5 < W5.heap.size∧W5.heap.size<=U.heap.size∧g < U.heap.size∧ub < W5.heap.size):=ya ⟨p.o,H.grown.size,bp,by
   have h1:=l.inS
   rw[HP.o.at0] at h1
   have:=HP.o.lt ub h1
   have:=ci.o.1
   have:=bh.o
   have:=Y.o.2.2.2.2.1
   simp only at*
   omega⟩
  have N:=ya F
  clear l a0 bj r1 r2 r3 H hu de bp cr hl b8 X F
  gi_wp2_with fail
  refine WQ (W0:=U) (Bx:=B5) (b6:=g) (ub:=ub) (uo:=uo) (base:=W5.heap.size) (va:=va) (ls:=(BB x0).take k) (r:=⟨d,C⟩) _ ?_ ?_ ?_ ?_ ?_ ?_ ?_ ?_ ?_ ?_ ?_ ?_ ?_ ?_ ?_ ?_ ?_
  ·rfl
  ·rfl
  ·rfl
  ·rfl
  ·have:=I.o;omega
  ·have:=I.o;omega
  ·have:=I.o;omega
  ·exact an.o
  ·exact c6.o
  ·exact cb.o
  ·exact cx.o
  ·exact db.o
  ·exact aw.o
  ·exact d9.o
  ·exact I.o.2.1
  ·exact I.o.1
  ·intro a w1 v _ _ _ hp
   have h:=HJ.o.put p.o N.o c6.o hp
   exact ⟨h.2,d1.o _ h.1⟩
 ·intro _ D O U hD dh H cz
  obtain ⟨hQ,hw,h1,h2,S,h5,hb,J⟩:=Y.o
  obtain ⟨q,i⟩:=a7.o
  have Z:=bh.o
  have j:=d5.o
  have df:=d3.o
  have di:=ci.o.1
  have B:El W5 B5 (BB (Ao x)) O U:=by
   have h:=H
   rw[yI,d8.o,yx,d6.o] at h
   exact h
  obtain ⟨v2,q1,q2,q3⟩:=B.row
  have y:∀b,b < V.heap.size->b≠B5->U.heap[b]?=V.heap[b]?:=fun b z a6=>(B.same (by omega) a6).trans (j.block b z)
  have dg:=B.grown.size
  have dc:Below w.heap.size w U:=hb.trans ⟨B.grown.os.trans j.os,B.grown.tape.trans j.tape,B.grown.output.trans j.output,by omega,fun b z=>y b (by have:=hb.size;omega) (by have:=h1.lt _ (.inl rfl);omega)⟩
  have d7:=h1.up (fun b z=>y b (by omega) (by omega))
  have da:=h2.up (fun b z=>y b (by omega) (by omega))
  obtain ⟨⟨va,p1,p2⟩,A,M,m⟩:=a8.o
  have a6:D1≠B5:=fun e=>by rw[e,A] at m;cases m
  have al:=(yd.1 m).1
  have hL:FQ U base B4 B5 (BB x) (BB (Ao x)) U:=⟨rfl,rfl,rfl,ye _,by omega,fun _ _ _ _ h _=>h,fun _ _ _ _=>rfl,va,v2,(y B4 (by omega) (by omega)).trans p1,q1,yc _ _,by omega,p2.up (fun g hg z=>y g z (by have:=(p2.lt hg).1;omega)),q2.low (by omega),fun g e1 e2=>by have:=(p2.lt e1).2;have:=(q2.lt e2).1;omega,fun _ _ h _=>h⟩
  exact WU (base:=base) hQ hw d7 da S h5 dc hL ⟨by omega,M,by have:=hb.size;omega⟩ ((y D1 al a6).trans m) cz q i _ _ _ _ _ _ _ _ _ _ _ _ _ _ _ _ _ _ _ _ _ _ _ _ _ _ _ _ _ _ _ _ _ _ _ _ _ _ _ _ _ _ _ _ _ _ _ _ _ _ _ _ _ _ _ _ _ _ _
theorem WW{Q:QT}{w V:World}{x:AA}{L1 L2:BL}{db cr:LV}{N1 N2:NP}{base B3 B4 B5:Nat}(hQ:Sp Q w x)(hw:AK x=0)
 (h1:DK V w.heap.size B4 x L1 db N1)(h2:DK V B3 B4 (Ao x) L2 cr N2)(R:B4 < B5)(h5:B5 < base)(hb:Below w.heap.size w V)(G:base<=V.heap.size)
 (b3:∃u:Value,V.heap[B4]?=some (.cells #[u] 127 (0,0)))(q:V.heap[B4]?=some (.cells #[.slice none 0 0] 127 (0,0)))(N:V.heap[B5]?=some (.cells #[.slice none 0 0] 127 (0,0)))
 (m:(CJ x).length<=900000000)(j:(CJ (Ao x)).length<=900000000)
 (u0 u6 u7 u8 u9 b8 am bv ci bw bz ah d0 d6 bk b9 ao ca cn cb cp ba bm ai cj c8 ck c5 an ce ad ae b7 bj cl aj ap af cc au ax ab cm ac bt bn b5 c3 av al ay cd bq bi bd c6 bu cg bb:Value):
  I3 14 Try.prog (DM 4 (Try.f14.body.getD .skip)) Q {tmps:=#[u0,.pointer (some ⟨w.heap.size,0,none⟩),.int .i64 0,.pointer (some ⟨B3,0,none⟩),.pointer (some ⟨B4,0,none⟩),.pointer (some ⟨B5,0,none⟩),u6,u7,u8,u9,b8,am,bv,ci,bw,bz,ah,d0,d6,bk,b9,ao,ca,cn,cb,cp,ba,bm,ai,cj,c8,ck,c5,an,ce,ad,ae,b7,bj,cl,aj,ap,af,cc,au,ax,ab,cm,ac,bt,bn,b5,c3,av,al,ay,cd,bq,bi,bd,c6,bu,cg,bb],defers:=[]} V:=by
 obtain ⟨x0,t⟩:∃x0:AA,x0=x:=⟨_,rfl⟩
 obtain ⟨L,cs,NN,T⟩:∃L cs NN,DK V w.heap.size B4 x0 L cs NN:=by rw[t];exact ⟨_,_,_,h1⟩
 have S:BX x0=true:=by rw[t];exact (Gq hw).1
 have az:Dc (Tb.of x) x0=true:=by rw[t];exact (Gq hw).2.2.2.2
 have bp:(BB x0).length<=900000000:=by
  rw[t];have:=m;unfold CJ at this;rw[yi] at this;omega
 have bg:w.heap.size < B4:=T.lt _ (.inl rfl)
 obtain ⟨W5,C⟩:∃W5,W5=(V.alloc (.cells #[pV w.heap.size 0] 52)):=⟨_,rfl⟩
 have i:Below V.heap.size V W5:=by rw[C];exact (yc _ _).alloc (ye _) _
 have Y:W5.heap.size=V.heap.size+1:=by rw[C];simp
 have J:DK W5 w.heap.size B4 x0 L cs NN:=T.up (fun b hb=>i.block b (by omega))
 have aw:W5.cell? (aV V.heap.size 0)=some (pV L.s 0):=by
  rw[T.at0,C]
  have h:=World.alloc_heap_new V (.cells #[pV w.heap.size 0] 52)
  simp only[World.cell?,h]
  rfl
 have a0:W5.rangeAt L.s 0 cs:=by rw[T.at0];exact J.range
 have hU:=Q1 J.src a0 aw S
 obtain ⟨hR,hM⟩:=NI J.src a0
 have a7:(CG W5 L x0).2=true:=((Hp (Tb.of x) hU).2 az).1
 have aa:=hM a7
 have bs:(CG W5 L x0).1.length=(BB x0).length:=by rw[<-aa,yI]
 have aq:∀k O U,El W5 B4 ((BB x0).take k) O U->∀b,(VP NN L.s b∨b=V.heap.size)->U.heap[b]?=W5.heap[b]?:=fun k O U h b hb=>by
  rcases hb with hb|rfl
  ·rw[T.at0] at hb
   have:=T.lt b hb
   exact h.same (by omega) (by omega)
  ·exact h.same (by omega) (by omega)
 have HU:=ya hU;have HR:=ya hR;have HM:=ya aa;have d5:=ya bs;have ag:=ya aq;have ct:=ya a7;have be:=ya Y;have d2:=ya i
 have HP:=ya T;have d1:=ya bp
 have cf:Hid (B4 < V.heap.size∧∃u:Value,W5.heap[B4]?=some (.cells #[u] 127 (0,0))):=ya ⟨by omega,by
  rw[i.block _ (by omega)];exact b3⟩
 have p:Hid (B4 < W5.heap.size):=ya (by omega)
 have cv:Hid (El W5 B4 ((BB x0).take 0) (fun _=>False) W5):=ya (by
  rw[zN]
  exact El.start W5 (by rw[i.block _ (by omega)];exact q))
 have cq:=ya C;have d3:=ya t;have cz:=ya bg
 have X:=ya (And.intro hQ (And.intro hw (And.intro h1 (And.intro h2 (And.intro R (And.intro h5 (And.intro hb G)))))))
 have a6:=ya (And.intro q N)
 have a2:=ya (And.intro m j)
 clear C hQ hw h1 h2 R h5 hb G S az bp bg i Y J aw a0 hU hR hM aa a7 bs aq T t m j b3 q N
 refine Aq (Aq (Af ?_))
 go_wp2_with (first|(go_at_call 51;refine (Ma _ _).mono ?_;rintro e w2 ⟨rfl,rfl⟩))
 rw[<-cq.o]
 refine F9 ?_
 refine EF (n:=10) Try.func14 rfl (fun _ _=>rfl) (LW 9 (by omega) HU.o) (fun a ha=>by
   obtain ⟨u,_,rfl⟩:=xH.1 ha
   rfl)
  (fun k O U=>El W5 B4 ((BB x0).take k) O U) (fun _ _ _=>False) (fun _ _ _=>False)
  (fun k a O U=>El W5 B4 ((BB x0).take k) O U∧∃(ub uo:Nat) (f c:Int) (d:ByteArray) (z:Int) (g:Nat),(CG W5 L x0).1[k]?=some ⟨ub,uo,f,c,d,z⟩∧¬ O g∧g < U.heap.size∧U.heap[g]?=some (.cells #[pV ub uo,iV f,iV c] 106 (0,0))∧a={tmps:=#[u0,pV w.heap.size 0,iV 0,pV B3 0,pV B4 0,pV B5 0,pV g 0,u7,u8,u9,b8,am,bv,ci,bw,bz,ah,.func (.func 81) #[] #[pV V.heap.size 0],.agg #[pV ub uo,iV f,iV c],bk,b9,ao,ca,cn,cb,cp,ba,bm,ai,cj,c8,ck,c5,an,ce,ad,ae,b7,bj,cl,aj,ap,af,cc,au,ax,ab,cm,ac,bt,bn,b5,c3,av,al,ay,cd,bq,bi,bd,c6,bu,cg,bb],defers:=[]})
  (El.stays (W0:=W5) p.o (fun k=>(BB x0).take k)) (fun _ _ _ _ _ _ h=>h.elim) (fun _ _ _ _ _ _ h=>h.elim) ?_ (fun k O U h=>PZ (ag.o k O U h)) (fun _ _ _ h=>h.elim) ?_ cv.o ?_ ?_ ?_ (fun _ _ _ _ _ _ h=>h.elim) (fun _ _ _ _ _ _ h=>h.elim)
 ·rintro a k O U O' U' ⟨h1,ub,uo,f,c,d,z,g,h2,h3,h4,h5,h6⟩ hz ho ht hu W hO
  exact ⟨El.stays (W0:=W5) p.o (fun k=>(BB x0).take k) k O U O' U' h1 hz ho ht hu W hO,ub,uo,f,c,d,z,g,h2,fun h=>(hO g h).elim h3 (fun h=>by omega),by omega,(W g h3 h4).trans h5,h6⟩
 ·intro ch he O U E
  rw[ct.o] at he
  cases he
 ·intro k W O U lo E hO hl B
  have c7:k < (CG W5 L x0).1.length:=by rw[yI] at W;exact W
  rw[xf]
  have P:=ya (yl c7)
  generalize (CG W5 L x0).1[k]=u at P ⊢
  obtain ⟨ub,uo,f,c,d,z⟩:=u
  have HJ:=ya E;have I:=ya B
  clear E hO hl B W c7
  unfold Us.v
  simp only
  gi_wp2
  have a8:Cd O U (U.alloc (.cells #[pV ub uo,iV f,iV c] 106)):=⟨by simp,fun b hb=>yT _ _ _ (I.o b hb)⟩
  have H:El W5 B4 ((BB x0).take k) O (U.alloc (.cells #[pV ub uo,iV f,iV c] 106)):=HJ.o.below ((yc U.heap.size U).alloc (ye _) _)
  have A:¬ O U.heap.size:=fun h=>Nat.lt_irrefl _ (I.o _ h)
  first
  |exact ⟨a8,H,ub,uo,f,c,d,z,U.heap.size,P.o,A,by simp,World.alloc_heap_new _ _,rfl⟩
  |(rename_i hK;exact hK _ _ ⟨a8,H,ub,uo,f,c,d,z,U.heap.size,P.o,A,by simp,World.alloc_heap_new _ _,rfl⟩)
  |(rename_i hK _;exact hK _ _ ⟨a8,H,ub,uo,f,c,d,z,U.heap.size,P.o,A,by simp,World.alloc_heap_new _ _,rfl⟩)
  |fail
 ·rintro k W O U lo a1 hl b4 B ⟨E,ub,uo,f,c,d,z,g,hu,dc,bo,co,rfl⟩
  have l:=HR.o _ (xv hu)
  have Z:=ag.o k O U E ub (.inl l.inS)
  have bh:(BB x0)[k]?=some (⟨d,z⟩:Rf):=by
   rw[<-HM.o,List.getElem?_map,hu];rfl
  obtain ⟨va,r1,r2,r3⟩:=E.row
  have HJ:=ya E
  have cx:Hid (∀U',El W5 B4 ((BB x0).take k++[⟨d,z⟩]) O U'->El W5 B4 ((BB x0).take (k+1)) O U'):=ya (fun U' h=>by rw[Jn bh] at h;exact h)
  have d7:Hid (((BB x0).take k).length+1<=1000000000):=ya (by
   have:=d1.o
   rw[yP];omega)
  have c4:Hid (U.cell? (aV B4 0)=some va):=ya (by simp[World.cell?,r1])
  have ak:Hid (∃u,U.heap[B4]?=some (.cells #[u] 127 (0,0))):=ya ⟨_,r1⟩
  have ar:=ya r2
  have c9:Hid (U.cell? (aV g 0)=some (pV ub uo)):=ya (by simp[World.cell?,co])
  have cu:Hid (U.cell? (aV ub uo)=some (.string d)):=ya ((Ap Z).trans l.name)
  have d9:Hid (U.cell? (aV ub (uo+1))=some (iV z)):=ya ((Ap Z).trans l.n)
  have F:Hid (B4 < W5.heap.size∧W5.heap.size<=U.heap.size∧g < U.heap.size∧ub < W5.heap.size):=ya ⟨p.o,E.grown.size,bo,by
   have h1:=l.inS
   rw[HP.o.at0] at h1
   have:=HP.o.lt ub h1
   have:=cf.o.1
   have:=be.o
   have:=X.o.2.2.2.2.1
   simp only at*
   omega⟩
  have I:=ya B
  clear l Z bh r1 r2 r3 E hu dc bo co hl b4 W B
  gi_wp2_with fail
  refine Xe (W0:=U) (Bx:=B4) (b6:=g) (ub:=ub) (uo:=uo) (base:=W5.heap.size) (va:=va) (ls:=(BB x0).take k) (r:=⟨d,z⟩) _ ?_ ?_ ?_ ?_ ?_ ?_ ?_ ?_ ?_ ?_ ?_ ?_ ?_ ?_ ?_ ?_ ?_
  ·rfl
  ·rfl
  ·rfl
  ·rfl
  ·have:=F.o;omega
  ·have:=F.o;omega
  ·have:=F.o;omega
  ·exact ak.o
  ·exact c4.o
  ·exact c9.o
  ·exact cu.o
  ·exact d9.o
  ·exact ar.o
  ·exact d7.o
  ·exact F.o.2.1
  ·exact F.o.1
  ·intro a w1 v _ _ _ hp
   have h:=HJ.o.put p.o I.o c4.o hp
   exact ⟨h.2,cx.o _ h.1⟩
 ·intro _ D O U hD df E cw
  obtain ⟨hQ,hw,h1,h2,R,h5,hb,G⟩:=X.o
  obtain ⟨m,j⟩:=a2.o
  have Y:=be.o
  have i:=d2.o
  have dd:=cz.o
  have dg:=cf.o.1
  have y:El W5 B4 (BB (x)) O U:=by
   have h:=E
   rw[yI,d5.o,yx,d3.o] at h
   exact h
  obtain ⟨v2,q1,q2,q3⟩:=y.row
  have K:∀b,b < V.heap.size->b≠B4->U.heap[b]?=V.heap[b]?:=fun b M cy=>(y.same (by omega) cy).trans (i.block b M)
  have de:=y.grown.size
  have da:Below w.heap.size w U:=hb.trans ⟨y.grown.os.trans i.os,y.grown.tape.trans i.tape,y.grown.output.trans i.output,by omega,fun b M=>K b (by have:=hb.size;omega) (by have:=h1.lt _ (.inl rfl);omega)⟩
  have d4:=h1.up (fun b M=>K b (by omega) (by omega))
  have d8:=h2.up (fun b M=>K b (by omega) (by omega))
  obtain ⟨q,N⟩:=a6.o
  exact WV (base:=base) (D1:=D) hQ hw d4 d8 R h5 da (by omega) ⟨v2,q1,q2.low (by omega)⟩ ((K B5 (by omega) (by omega)).trans N) (by have:=hb.size;omega) cw m j _ _ _ _ _ _ _ _ _ _ _ _ _ _ _ _ _ _ _ _ _ _ _ _ _ _ _ _ _ _ _ _ _ _ _ _ _ _ _ _ _ _ _ _ _ _ _ _ _ _ _ _ _ _ _ _ _ _ _
end Go.Proofs.Ytghepahgkcigpaa
namespace Go.Proofs.Ytghepahgkcigpaa
open Go.RowKit
theorem B6{α β:Type}{f:α->List β}{c:Nat}:∀ {l:List α},(∀a∈l,(f a).length<=c)->(l.flatMap f).length<=l.length*c
 |[],_=>by simp
 |a::l,h=>by
  rw[yY,yi,yC,Nat.succ_mul]
  have:=h a (by simp)
  have:=B6 (l:=l) (fun b hb=>h b (by simp[hb]))
  omega
theorem FR{α β:Type}{f:α × Nat->List β}{c:Nat}{l:List α}(h:∀a∈l,∀i,(f (a,i)).length<=c):(l.zipIdx.flatMap f).length<=l.length*c:=by
 have:=B6 (l:=l.zipIdx) (f:=f) (c:=c) (fun p b=>by
  obtain ⟨a,i⟩:=p
  obtain ⟨_,h2,h3⟩:=List.mem_zipIdx (x:=a) (i:=i) b
  exact h a (h3▸yw _) i)
 rwa [zy] at this
section
variable{t:Tb}
mutual
theorem Q5(lt:Int):∀e:Ex,TC t lt e=true->(GU e).length+1<=2 ^ (AV e+1)
 |.mk op n u rn ri args,h=>by
  rw[TC,ym,ym] at h
  obtain ⟨h1,_,h3⟩:=h
  have ih:=NK lt args h3
  rw[GU,AV,yC]
  unfold Kq at h1
  simp only[ym,yR] at h1
  obtain ⟨_,_,h2⟩:=h1
  rw[Nat.pow_succ]
  split at h2
  ·have h2:args.length=2:=yt h2
   rw[h2] at ih;omega
  ·have h2:args.length=0:=yt h2
   obtain rfl:=yX.1 h2
   simp[Eo,BK]
theorem NK(lt:Int):∀l:List Ex,S7 t lt l=true->(Eo l).length+l.length<=l.length*2 ^ BK l
 |[],_=>by simp[Eo]
 |e::r,h=>by
  rw[S7,ym] at h
  have a:=Q5 lt e h.1
  have b:=NK lt r h.2
  rw[Eo,BK,yi,yC]
  have e1:2 ^ (AV e+1)<=2 ^ max (1+AV e) (BK r):=Nat.pow_le_pow_right (by omega) (by omega)
  have e2:r.length*2 ^ BK r<=r.length*2 ^ max (1+AV e) (BK r):=Nat.mul_le_mul_left _ (Nat.pow_le_pow_right (by omega) (by omega))
  rw[Nat.succ_mul]
  omega
end
theorem Vu{x:AA}(a:BX x=true):(Bb x).length<=20000:=by
 obtain ⟨c,n,j,f,m,e,k,b,_⟩:=FE a
 unfold Bb JB Gb Eb Gc EM EN
 have e1:(x.lets.zipIdx.flatMap fun p=> [(p.1.value,1+(p.2:Int))]).length<=x.lets.length*1:=FR fun _ _ _=>by simp
 have e2:(x.crops.zipIdx.flatMap fun p=> [(p.1.need,(0:Int))]).length<=x.crops.length*1:=FR fun _ _ _=>by simp
 have q:(x.reaches.zipIdx.flatMap fun p=> [(p.1.delay,(0:Int)),(p.1.cap,0),(p.1.bank,0),(p.1.siphon,0),(p.1.evap0,0),(p.1.evap1,0),(p.1.seep0,0),(p.1.seep1,0)]).length<=x.reaches.length*8:=FR fun _ _ _=>by simp
 have o:(x.farms.zipIdx.flatMap fun p=> [(p.1.area,(0:Int))]).length<=x.farms.length*1:=FR fun _ _ _=>by simp
 have g:(Iv x.rots).length<=x.rots.length*67:=by
  unfold Iv
  refine FR fun d hd i=>?_
  have h1:(DY d.turns).length<=d.turns.length*1:=by unfold DY;exact FR fun _ _ _=>by simp
  have:=b d hd
  simp only[yi,yC,yK]
  omega
 have h:(x.rights.zipIdx.flatMap fun p=> [(p.1.flow,(0:Int)),(p.1.frm,0),(p.1.to,0),(p.1.every,0),(p.1.len,0)]).length<=x.rights.length*5:=FR fun _ _ _=>by simp
 have l:(x.duties.zipIdx.flatMap fun p=> [(p.1.due,(0:Int))]).length<=x.duties.length*1:=FR fun _ _ _=>by simp
 simp only[yi,yC,yK]
 omega
theorem Q6{x:AA}(b:BX x=true)(a:Dc t x=true):(CJ x).length<=900000000:=by
 obtain ⟨h,p,m,j,o,i,n,g,f⟩:=FE b
 have l:=Vu b
 unfold Dc at a
 simp only[ym] at a
 have h1:=a.1
 rw[yM] at h1
 have e0:((Bb x).flatMap Dk).length<=(Bb x).length*511:=B6 fun e c=>by
  unfold Dk
  split
  ·simp
  ·rename_i hl
   have h2:=h1 e c
   unfold Bd at h2
   rw[Bool.or_eq_true,or_iff_right hl] at h2
   have h3:=Q5 e.2 e.1 h2
   have h4:2 ^ (AV e.1+1)<=2 ^ 9:=Nat.pow_le_pow_right (by omega) (by have:=f e c;omega)
   omega
 have e1:(x.farms.flatMap DS).length<=x.farms.length*2:=B6 fun _ _=>by simp[DS]
 have e2:(x.rots.flatMap D9).length<=x.rots.length*65:=B6 fun d hd=>by
  have h1:(d.turns.flatMap fun k:BM=> [k.farm]).length<=d.turns.length*1:=B6 fun _ _=>by simp
  have:=g d hd
  unfold D9
  rw[yC];omega
 have r:(x.rights.flatMap De).length<=x.rights.length*2:=B6 fun _ _=>by simp[De]
 have q:(x.duties.flatMap DT).length<=x.duties.length*2:=B6 fun _ _=>by simp[DT]
 unfold CJ BB
 simp only[yi,yI]
 omega
end
theorem Kc{w w':World}{x:AA}{e:Ending}(h:GN w x e w'):∃cs:LV,e=.returned (.tuple #[.agg cs.toArray,.int .i64 (AK x)])∧cs.length=26∧(∀v∈cs,v.oneCell'=true)∧Below w.heap.size w w'∧(AK x=0->∃(L:BL) (N:NP),Ba N w' L cs (Ao x)∧∀b,N b->w.heap.size<=b∧b < w'.heap.size):=by
 obtain ⟨hb,⟨h0,rfl⟩|⟨h0,cs,rfl,L,N,hl,hs,hN⟩⟩:=h
 ·exact ⟨Bp,rfl,rfl,fun v a=>yM.1 (show Bp.all (fun v=>v.oneCell')=true from rfl) v a,hb,fun h=>absurd h h0⟩
 ·exact ⟨cs,by rw[h0],hl,Om hs,hb,fun _=>⟨L,N,hs,hN⟩⟩
theorem Qa{d:BV}{F:NP}{w:World}{cs ls:LV}{h0 h1 h2 h3:AF}{t:Tb}(hv:Er (GF F w) w cs d)(hs:MN w ls h0 h1 h2 h3 t)(hF:∀b,F b->b < w.heap.size):
  Calls Try.prog 61 #[.agg cs.toArray,.agg ls.toArray] w (ES Er F w (Ci t d) (BP t d)):=by
 obtain ⟨B,a,dr,e0⟩:=d
 obtain ⟨h1,h2,h3,c0,rfl,hx⟩:=hv
 have V:=ya hs
 have HF:=ya hF
 clear hs hF
 go_enter Try.func61,Try.ntmps61
 go_upto_region 1 with (first|(refine AR rfl 70 _ rfl (.string B::(Ad a++(Ad dr++(c0)))).toArray rfl ?_)|(refine AR rfl 109 _ rfl ls.toArray rfl ?_))
 obtain ⟨w1,U⟩:∃z:World,z=((w.alloc (.cells (.string B::(Ad a++(Ad dr++(c0)))).toArray 70)).alloc (.cells ls.toArray 109)).alloc (.cells #[.string {data:=#[]},.string {data:=#[]},iV 0,.string {data:=#[]},iV 0,iV 0,iV 0,iV 0,.string {data:=#[]},iV 0,.slice none 0 0] 70):=⟨_,rfl⟩
 rw[<-U]
 have f:=ya (FF (n:=11) (row:=.string B::(Ad a++(Ad dr++(c0)))) U rfl rfl)
 clear U
 have G:Hid (VE F [w.heap.size,w.heap.size+2] w1 [c0] [e0]):=ya (FH ⟨hx,trivial⟩ f.o.below (by intro k hk;simp at hk;omega))
 have O:=ya (hx).len
 clear hx
 have H:Hid (.string B::(Ad a++(Ad dr++(c0)))=([.string B])++((Ad a)++(Ad dr++(c0)))):=ya (by first|rfl|simp[yg])
 have A:=ya (f.o.part H.o (off:=1) (by simp))
 obtain ⟨l0,l1,W,l3⟩:=f.o.scope V.o.cells
 generalize I:Dh t.farms a=J
 have R:=ya I
 clear I
 go_upto_region 3 with (first
  |(refine yf rfl 23 _ rfl w.heap.size 1 rfl (Ad a) _ A.o qD rfl (CK _) ?_)
  |(go_at_call 88;refine (DN (V.o.farms.up f.o.below) a).mono ?_;rintro e X ⟨rfl,l⟩;have h:=ya l;clear l;rw[R.o])
  |(refine A2 rfl 23 _ _ rfl X.heap.size rfl (Ad (Rf.mk a.name (Aj t.farms a))) rfl (World.alloc_heap_new _ _) rfl (CK _) (AO _) ?_;intro af y;have c:=ya y;clear y)
  |(refine yf rfl 23 _ rfl X.heap.size 0 rfl (Ad (Rf.mk a.name (Aj t.farms a))) _ (A6 c.o.row) qD rfl (CK _) ?_)
  |(refine A7 rfl 23 _ _ rfl w.heap.size 1 rfl (Ad (Rf.mk a.name (Aj t.farms a))) rfl (p:=([.string B])) (m:=(Ad a)) (q:=(Ad dr++(c0))) (t:=70) (CN f.o h.o c.o H.o) (by simp) rfl (CK _) (AO _) ?_;intro ag u;have s:Hid (AB af ag w.heap.size (.string B::(Ad (Rf.mk a.name (Aj t.farms a))++(Ad dr++(c0)))) 70):=ya (by simpa[yg] using u);clear u)
 )
 clear l0 l1 W l3
 obtain ⟨N,K,_⟩:=Ov f.o G.o (by simp) h.o c.o s.o
 clear f G h c s H A
 have f:=ya N;have G:=ya K
 clear N K
 have H:Hid (.string B::(Ad (Rf.mk a.name (Aj t.farms a))++(Ad dr++(c0)))=(.string B::(Ad (Rf.mk a.name (Aj t.farms a))))++((Ad dr)++(c0))):=ya (by first|rfl|simp[yg])
 have A:=ya (f.o.part H.o (off:=3) (by simp[A9]))
 obtain ⟨l0,l1,W,l3⟩:=f.o.scope V.o.cells
 generalize I:Dh t.reaches dr=q2
 have P:=ya I
 clear I
 go_upto_region 5 with (first
  |(refine yf rfl 23 _ rfl w.heap.size 3 rfl (Ad dr) _ A.o qD rfl (CK _) ?_)
  |(go_at_call 88;refine (DN (V.o.reaches.up f.o.below) dr).mono ?_;rintro e a0 ⟨rfl,l⟩;have h:=ya l;clear l;rw[P.o])
  |(refine A2 rfl 23 _ _ rfl a0.heap.size rfl (Ad (Rf.mk dr.name (Aj t.reaches dr))) rfl (World.alloc_heap_new _ _) rfl (CK _) (AO _) ?_;intro ak y;have c:=ya y;clear y)
  |(refine yf rfl 23 _ rfl a0.heap.size 0 rfl (Ad (Rf.mk dr.name (Aj t.reaches dr))) _ (A6 c.o.row) qD rfl (CK _) ?_)
  |(refine A7 rfl 23 _ _ rfl w.heap.size 3 rfl (Ad (Rf.mk dr.name (Aj t.reaches dr))) rfl (p:=(.string B::(Ad (Rf.mk a.name (Aj t.farms a))))) (m:=(Ad dr)) (q:=(c0)) (t:=70) (CN f.o h.o c.o H.o) (by simp[A9]) rfl (CK _) (AO _) ?_;intro ad u;have s:Hid (AB ak ad w.heap.size (.string B::(Ad (Rf.mk a.name (Aj t.farms a))++(Ad (Rf.mk dr.name (Aj t.reaches dr))++(c0)))) 70):=ya (by simpa[yg] using u);clear u)
 )
 clear l0 l1 W l3
 obtain ⟨N,K,_⟩:=Ov f.o G.o (by simp) h.o c.o s.o
 clear f G h c s H A
 have f:=ya N;have G:=ya K
 clear N K
 have H:Hid (.string B::(Ad (Rf.mk a.name (Aj t.farms a))++(Ad (Rf.mk dr.name (Aj t.reaches dr))++(c0)))=(.string B::(Ad (Rf.mk a.name (Aj t.farms a))++(Ad (Rf.mk dr.name (Aj t.reaches dr)))))++((c0)++([]))):=ya (by first|rfl|simp[yg])
 have A:=ya (f.o.part H.o (off:=5) (by simp[A9]))
 obtain ⟨l0,l1,W,l3⟩:=f.o.scope V.o.cells
 obtain ⟨v0,_⟩:=G.o
 have HC:=ya (BD (F:=FL F [w.heap.size,w.heap.size+2]) (V.o.lets.up f.o.below) v0 (Br HF.o f.o (by have h1:=f.o.size;intro k hk;simp at hk;omega)))
 generalize I:Dp t.lets e0=q3 at HC
 generalize hm:BR t.lets e0=m3 at HC
 have Y:=ya I;have ai:=ya hm
 clear I hm v0
 go_upto_region 7 with (first
  |(refine yf rfl 26 _ rfl w.heap.size 5 rfl c0 _ A.o qF rfl (AE O.o) ?_)
  |(go_at_call 87;refine HC.o.mono ?_;rintro e S ⟨D,aa,rfl,T,a7,l⟩;have C:=ya T;have ah:=ya a7;have h:=ya l;have E:=ya T.len;clear T a7 l)
  |(refine A2 rfl 26 _ _ rfl (S.heap.size) rfl D rfl (World.alloc_heap_new _ _) (by rw[C.o.len];rfl) (AE C.o.len) (A8 C.o) ?_;intro ae y;have c:=ya y;clear y)
  |(refine yf rfl 26 _ rfl (S.heap.size) 0 rfl D _ (A6 c.o.row) qF rfl (AE C.o.len) ?_)
  |(refine A7 rfl 26 _ _ rfl w.heap.size 5 rfl D rfl (p:=(.string B::(Ad (Rf.mk a.name (Aj t.farms a))++(Ad (Rf.mk dr.name (Aj t.reaches dr)))))) (m:=(c0)) (q:=([])) (t:=70) (CN f.o h.o c.o H.o) (by simp[A9]) (by rw[O.o,E.o]) (AE C.o.len) (A8 C.o) ?_;intro a2 u;have s:Hid (AB ae a2 w.heap.size (.string B::(Ad (Rf.mk a.name (Aj t.farms a))++(Ad (Rf.mk dr.name (Aj t.reaches dr))++(D)))) 70):=ya (by simpa[yg] using u);clear u)
 )
 clear l0 l1 W l3
 obtain ⟨N,hA,ab,K,hE⟩:=EB f.o G.o (by simp) h.o C.o rfl c.o s.o
 clear f G C h c s H A HC
 have f:=ya N;have HA:=ya hA;have am:=ya ab;have al:=E
 have G:Hid (VE F [w.heap.size,w.heap.size+2,S.heap.size] a2 [D] [aa]):=ya (by
  obtain ⟨v0,_⟩:=K
  exact ⟨hE,trivial⟩)
 clear N hA ab K hE
 obtain ⟨zr,a6,a1⟩:=f.o.r
 have HZ:=ya a6;have aj:=ya a1
 clear a6 a1
 obtain ⟨row,j⟩:∃r:LV,r=.string B::(Ad (Rf.mk a.name (Aj t.farms a))++(Ad (Rf.mk dr.name (Aj t.reaches dr))++(D))):=⟨_,rfl⟩
 rw[<-j] at f
 have HN:Hid (row.length=11):=ya (by rw[j];exact (by simp[A9,E.o]))
 have ac:Hid (∀v∈row,v.oneCell'=true):=ya (by
  obtain ⟨v0,_⟩:=G.o
  rw[j]
  exact (An rfl (Ai (AO _) (Ai (AO _) (A8 v0)))))
 have a8:=ya j
 clear j
 go_wp2_with (first
  |(refine yf rfl 70 _ rfl w.heap.size 0 rfl row _ (A6 f.o.x) j0 rfl (AX (n:=11) (by kernel_rfl) HN.o) ?_)
  |(refine A2 rfl 70 _ _ rfl (w.heap.size+2) rfl row rfl aj.o (by rw[yp,HZ.o,HN.o]) (AX (n:=11) (by kernel_rfl) HN.o) ac.o ?_;intro w9 Z;have Q:=ya Z;clear Z)
  |(refine Ae J rfl _ rfl rfl ?_)
  |(refine Ak (g:=J) rfl _ _ _ rfl rfl (.bool (J&&q2)) (by cases J<;>rfl) ?_;generalize i:(J&&q2)=b1;have L:=ya i;clear i)
  |(refine Ab (g:=J) z7 rfl ?_;simp only[CW,Aa])
  |(refine Ab (g:=J) (Av J) rfl ?_;simp only[CW,Aa])
  |(rw[AD J (q2)];generalize i:(J&&q2)=b1;have L:=ya i;clear i)
  |(refine Ae b1 rfl _ rfl rfl ?_)
  |(refine Ak (g:=b1) rfl _ _ _ rfl rfl (.bool (b1&&q3)) (by cases b1<;>rfl) ?_;generalize i:(b1&&q3)=b2;have M:=ya i;clear i)
  |(refine Ab (g:=b1) z7 rfl ?_;simp only[CW,Aa])
  |(refine Ab (g:=b1) (Av b1) rfl ?_;simp only[CW,Aa])
  |(rw[AD b1 (q3)];generalize i:(b1&&q3)=b2;have M:=ya i;clear i))
 refine At rfl rfl Q.o.row j0 rfl (AX (n:=11) (by kernel_rfl) HN.o) ?_
 obtain ⟨v0,_⟩:=FI G.o (by simp) Q.o
 refine ⟨row,⟨B,⟨a.name,Aj t.farms a⟩,⟨dr.name,Aj t.reaches dr⟩,aa⟩,BH rfl (yz Value.bool (by simp only[Ci,R.o,P.o,Y.o,L.o,M.o])),⟨h1,h2,h3,D,a8.o,v0⟩,?_,Q.o.below f.o.below (by omega)⟩
 intro I
 simp only[Ci,R.o,P.o,Y.o,ym] at I
 obtain ⟨⟨g1,g2⟩,g3⟩:=I
 simp only[BP,H6,ah.o g3,ai.o]
def X8(w:World)(cs:LV):World:=w.alloc (.cells cs.toArray 35)
theorem Wq{w w1 w2:World}{x y:AA}{L n:BL}{l a:LV}{N i:NP}(j:Below w.heap.size w w1)(q:w1.heap.size=w.heap.size+1)(hs:Ba N w1 L l x)(o:w1.rangeAt w.heap.size 0 l)(hN:∀b,N b->b < w.heap.size)(c:Below w1.heap.size w1 w2)(m:Ba i w2 n a y)(g:∀b,i b->b < w2.heap.size):
  DK (((w2.alloc (.cells a.toArray 35)).alloc (.cells #[.slice none 0 0] 127)).alloc (.cells #[.slice none 0 0] 127)) w.heap.size (w2.heap.size+1) x {L with s:=w.heap.size} l N∧
  DK (((w2.alloc (.cells a.toArray 35)).alloc (.cells #[.slice none 0 0] 127)).alloc (.cells #[.slice none 0 0] 127)) w2.heap.size (w2.heap.size+1) y {n with s:=w2.heap.size} a i∧
  Below w.heap.size w (((w2.alloc (.cells a.toArray 35)).alloc (.cells #[.slice none 0 0] 127)).alloc (.cells #[.slice none 0 0] 127))∧
  (((w2.alloc (.cells a.toArray 35)).alloc (.cells #[.slice none 0 0] 127)).alloc (.cells #[.slice none 0 0] 127)).heap[w2.heap.size+1]?=some (.cells #[.slice none 0 0] 127 (0,0))∧
  (((w2.alloc (.cells a.toArray 35)).alloc (.cells #[.slice none 0 0] 127)).alloc (.cells #[.slice none 0 0] 127)).heap[w2.heap.size+2]?=some (.cells #[.slice none 0 0] 127 (0,0)):=by
 have p:=c.size
 have q0:(w2.alloc (.cells a.toArray 35)).heap.size=w2.heap.size+1:=by simp
 have r:((w2.alloc (.cells a.toArray 35)).alloc (.cells jg 127)).heap.size=w2.heap.size+2:=by simp
 obtain ⟨W,e⟩:∃W,W=((w2.alloc (.cells a.toArray 35)).alloc (.cells jg 127)).alloc (.cells jg 127):=⟨_,rfl⟩
 rw[<-e]
 have d:Below w2.heap.size w2 W:=by
  rw[e];exact (((yc _ _).alloc (ye _) _).alloc (by simp) _).alloc (by simp;omega) _
 have h3:W.heap[w2.heap.size]?=some (.cells a.toArray 35 (0,0)):=by
  rw[e,yT _ _ _ (by omega),yT _ _ _ (by omega)]
  exact World.alloc_heap_new _ _
 have h4:W.heap[w2.heap.size+1]?=some (.cells jg 127 (0,0)):=by
  rw[e,yT _ _ _ (by omega)]
  have:=World.alloc_heap_new (w2.alloc (.cells a.toArray 35)) (.cells jg 127)
  rwa [q0] at this
 have h5:W.heap[w2.heap.size+2]?=some (.cells jg 127 (0,0)):=by
  rw[e]
  have:=World.alloc_heap_new ((w2.alloc (.cells a.toArray 35)).alloc (.cells jg 127)) (.cells jg 127)
  rwa [r] at this
 have f:∀b,b < w1.heap.size->W.heap[b]?=w1.heap[b]?:=fun b hb=>(d.block b (by omega)).trans (c.block b hb)
 have k:W.rangeAt w2.heap.size 0 a:=by
  have:=yV h3 0 a.length
  simpa using this
 refine ⟨⟨?_,rfl,A1 o (f _ (by omega)),fun b hb=>?_⟩,⟨?_,rfl,k,fun b hb=>?_⟩,?_,h4,h5⟩
 ·have h:=hs.same (N':=N) (w':=W) (fun _ h=>h) (fun b hb=>f b (by have:=hN b hb;omega))
  exact ⟨h.name,h.cells,h.lets,h.crops,h.reaches,h.farms,h.rots,h.rights,h.duties⟩
 ·rcases hb with rfl|hb
  ·omega
  ·have:=hN b hb;omega
 ·have h:=m.same (N':=i) (w':=W) (fun _ h=>h) (fun b hb=>d.block b (g b hb))
  exact ⟨h.name,h.cells,h.lets,h.crops,h.reaches,h.farms,h.rots,h.rights,h.duties⟩
 ·rcases hb with rfl|hb
  ·omega
  ·have:=g b hb;omega
 ·exact (j.trans (c.mono (by omega))).trans (d.mono (by omega))
theorem KF{w:World}{x:AA}{L:BL}{cs:LV}{N:NP}(h:Ba N w L cs x)(hN:∀b,N b->b < w.heap.size)(E:MU x)(R:GV w)(hd:∀e∈Bb x,AV e.1<=1000000):
  Calls Try.prog 14 #[.agg cs.toArray] w fun e w'=>e=.returned (.int .i64 (EC x))∧Below w.heap.size w w':=by
 obtain ⟨w1,d⟩:∃w1,w1=X8 w cs:=⟨_,rfl⟩
 have f:Below w.heap.size w w1:=by rw[d];exact (yc _ _).alloc (ye _) _
 have A:w1.heap.size=w.heap.size+1:=by rw[d];simp[X8]
 have C:w1.rangeAt w.heap.size 0 cs:=by
  rw[d];unfold X8
  have:=yV (World.alloc_heap_new w (.cells cs.toArray 35)) 0 cs.length
  simpa using this
 have l:Ba N w1 L cs x:=h.same (fun _ h=>h) (fun b hb=>f.block b (hN b hb))
 have y:=ya f;have r:=ya A;have p:=ya C;have F:=ya l;have HN:=ya hN
 have j:=ya (FO l (fun b hb=>by have:=hN b hb;omega) E (R.below f R.1) hd)
 have B:Hid ((Try.prog.info? 35).map (·.size)=some cs.length):=ya (by
  obtain ⟨c0,c1,c2,rfl,J,g1,M⟩:=h.cells
  obtain ⟨a0,p0,rfl,e0⟩:=J.cells
  obtain ⟨a1,p1,rfl,e1⟩:=g1.cells
  obtain ⟨X,p2,rfl,e2⟩:=M.cells
  kernel_rfl)
 have H:=ya d
 clear d f A C l hN E R hd
 obtain ⟨O,q⟩:∃O,O=cs:=⟨_,rfl⟩
 rw[<-q] at p F j B
 have V:=ya q
 obtain ⟨c0,c1,c2,rfl,J,g1,M⟩:=h.cells
 obtain ⟨a0,p0,rfl,e0⟩:=J.cells
 obtain ⟨a1,p1,rfl,e1⟩:=g1.cells
 obtain ⟨X,p2,rfl,e2⟩:=M.cells
 clear h J g1 M e0 e1 e2 q
 unfold AF.v at*
 simp only[yL,yE] at H V ⊢
 refine CM (n:=10) Try.func14 rfl ?_
 have P:=Uz w x
 generalize bodyPostM Fence.wide 10 Try.prog Try.f14 _=Q at P ⊢
 have U:=ya P
 clear P
 simp only[Try.ntmps14,yp,yC,yK,Nat.reduceAdd,Nat.reduceSub,zQ,zR,xl,xd,yE,yL]
 refine Aq (Af ?_)
 go_wp2
 have e1:=H.o
 unfold X8 at e1
 rw[<-e1,<-V.o]
 clear e1
 refine Aq (Af ?_)
 go_upto_region 1 with fail
 refine xo ?_
 refine yf rfl 35 _ rfl w.heap.size 0 rfl O _ p.o qO rfl B.o ?_
 refine yF rfl fun K a=>?_
 go_simp
 refine j.o.mono ?_
 intro e w2 k
 obtain ⟨rs,rfl,G,g,u,s⟩:=Kc k
 clear k
 refine a _ _ ?_
 clear a K
 have i:=ya G;have I:=ya (yy g);have m:=ya u;have S:=ya s
 clear G g u s
 iterate 4
  refine yF rfl fun K a=>?_
  go_simp
  refine a _ _ ?_
  clear a K
 refine z6 rfl 35 _ _ rfl w2.heap.size rs.toArray rfl rfl 35 _ (World.alloc_heap_new _ _) (by rw[yp,i.o];kernel_rfl) (by simp[i.o]) I.o ?_
 rw[World.setRow_alloc_new]
 refine yF rfl fun K a=>?_
 go_simp
 refine a _ _ ?_
 clear a K
 refine xQ ?_
 by_cases hc:AK x=0
 ·have t:=ya (S.o hc)
  have z:=ya hc
  simp only[hc]
  clear hc
  iterate 2
   refine Aq (Af ?_)
   go_wp2
  obtain ⟨L2,N2,Y,n2⟩:=t.o
  obtain ⟨k1,k2,Z,T,k5⟩:=Wq y.o r.o F.o p.o HN.o m.o Y (fun b hb=>(n2 b hb).2)
  obtain ⟨W,_,_,_,z5⟩:=Gq z.o
  exact WW (base:=w2.heap.size+3) U.o z.o k1 k2 (by omega) (by omega) Z (by simp) ⟨_,T⟩ T k5 (Q6 W z5) (Q6 (So W) (NJ z5)) _ _ _ _ _ _ _ _ _ _ _ _ _ _ _ _ _ _ _ _ _ _ _ _ _ _ _ _ _ _ _ _ _ _ _ _ _ _ _ _ _ _ _ _ _ _ _ _ _ _ _ _ _ _ _ _ _ _ _
 ·have D:Hid (EC x=AK x):=ya (by unfold EC;rw[yq hc])
  generalize AK x=c at hc D ⊢
  have a6:(c !=0)=true:=by simpa using hc
  refine Aq (Af ?_)
  go_wp2
  exact U.o.early c _ _ rfl ((y.o.trans (m.o.mono (by have:=r.o;omega))).alloc (by have:=m.o.size;have:=r.o;omega) _) D.o
section
variable{f:Int->Ex->Ex}{g:Int->Rf->Rf}
theorem F3{α β:Type}{p q:α->List β}:∀ {l:List α},(∀a∈l,(p a).length=(q a).length)->l.flatMap p=l.flatMap q->∀a∈l,p a=q a
 |[],_,_=>by simp
 |a::l,hl,h=>by
  rw[yY,yY] at h
  obtain ⟨h1,h2⟩:=xM h (hl a (by simp))
  intro b hb
  rcases yO.1 hb with rfl|hb
  ·exact h1
  ·exact F3 (fun c hc=>hl c (by simp[hc])) h2 b hb
theorem Cn{α β:Type}{p q:α->List β}:∀ {l:List α},(∀a∈l,(p a).length=(q a).length)->(l.flatMap p).length=(l.flatMap q).length
 |[],_=>rfl
 |a::l,hl=>by
  rw[yY,yY,yi,yi,hl a (by simp),Cn fun c hc=>hl c (by simp[hc])]
theorem D6{α β:Type}{p q:α->List β}:∀ {l:List α},(∀a∈l,p a=q a)->l.flatMap p=l.flatMap q
 |[],_=>rfl
 |a::l,h=>by rw[yY,yY,h a (by simp),D6 fun c hc=>h c (by simp[hc])]
theorem Dn{α β:Type}{F:Nat->α->α}{h:α->List β}(a:∀i d,F i d=F 0 d):∀l:List α,(l.mapIdx F).flatMap h=l.flatMap fun d=>h (F 0 d):=by
 intro l
 have e:l.mapIdx F=l.map (F 0):=by
  apply zw
  ·simp
  ·intro i h1 h2;simp;exact a i _
 rw[e,zS]
end
section
variable{t:Tb}
mutual
theorem KJ:∀e:Ex,(GU (Ih t e)).length=(GU e).length
 |.mk op n u rn ri args=>by rw[Ih,GU,GU,yC,yC,Oa args]
theorem Oa:∀l:List Ex,(Eo (GI t l)).length=(Eo l).length
 |[]=>rfl
 |e::r=>by rw[GI,Eo,Eo,yi,yi,KJ e,Oa r]
end
theorem Ob(e:Kp):(Dk (OG (fT t) e)).length=(Dk e).length:=by
 unfold Dk OG fT
 simp only
 by_cases h:Da e.1=true
 ·simp[h]
 ·rw[yq h,KE,yq h,yq h,KJ]
structure VU (t:Tb) (x:AA):Prop where
 exprs:∀e∈Bb x,Dk e=Dk (OG (fT t) e)
 farms:x.farms.flatMap DS=x.farms.flatMap fun d=>DS (BN.mp (fT t) (gT t) 0 d)
 rots:x.rots.flatMap D9=x.rots.flatMap fun d=>D9 (AS.mp (fT t) (gT t) 0 d)
 rights:∀d∈x.rights,De d=De (AJ.mp (fT t) (gT t) 0 d)
 duties:∀d∈x.duties,DT d=DT (BV.mp (fT t) (gT t) 0 d)
 reaches:x.reaches.map (·.frm)=(x.reaches.mapIdx (AI.mp (fT t) (gT t))).map (·.frm)
theorem Qv(x:AA):CJ (x.mp (fT t) (gT t))=((Bb x).flatMap fun e=>Dk (OG (fT t) e))++(((x.farms.flatMap fun d=>DS (BN.mp (fT t) (gT t) 0 d))++(x.rots.flatMap fun d=>D9 (AS.mp (fT t) (gT t) 0 d)))++(x.rights.flatMap fun d=>De (AJ.mp (fT t) (gT t) 0 d))++(x.duties.flatMap fun d=>DT (BV.mp (fT t) (gT t) 0 d)))++(x.reaches.mapIdx (AI.mp (fT t) (gT t))).map (·.frm):=by
 unfold CJ BB
 rw[OH,zS]
 unfold AA.mp
 simp only
 rw[Dn (fun _ _=>rfl) x.farms,Dn (fun _ _=>rfl) x.rots,Dn (fun _ _=>rfl) x.rights,Dn (fun _ _=>rfl) x.duties]
theorem L8(d:AS):(D9 d).length=(D9 (AS.mp (fT t) (gT t) 0 d)).length:=by
 unfold D9 AS.mp
 simp only[yC]
 rw[Dn (fun _ _=>rfl) d.turns,Cn (p:=fun k:BM=> [k.farm]) (q:=fun k=> [(BM.mp (fT t) (gT t) 0 k).farm]) (fun _ _=>rfl)]
theorem TB(x:AA):CJ x=CJ (x.mp (fT t) (gT t))↔VU t x:=by
 constructor
 ·intro h
  rw[Qv] at h
  unfold CJ BB at h
  have f:((Bb x).flatMap Dk).length=((Bb x).flatMap fun e=>Dk (OG (fT t) e)).length:=Cn fun e _=>(Ob e).symm
  have a:(x.farms.flatMap DS).length=(x.farms.flatMap fun d=>DS (BN.mp (fT t) (gT t) 0 d)).length:=Cn fun _ _=>rfl
  have b:(x.rots.flatMap D9).length=(x.rots.flatMap fun d=>D9 (AS.mp (fT t) (gT t) 0 d)).length:=Cn fun d _=>L8 d
  have c:(x.rights.flatMap De).length=(x.rights.flatMap fun d=>De (AJ.mp (fT t) (gT t) 0 d)).length:=Cn fun _ _=>rfl
  have g:(x.duties.flatMap DT).length=(x.duties.flatMap fun d=>DT (BV.mp (fT t) (gT t) 0 d)).length:=Cn fun _ _=>rfl
  obtain ⟨h1,h6⟩:=xM h (by simp only[yi,f,a,b,c,g])
  obtain ⟨h1,h2⟩:=xM h1 f
  obtain ⟨h2,h5⟩:=xM h2 (by simp only[yi,a,b,c])
  obtain ⟨h2,h4⟩:=xM h2 (by simp only[yi,a,b])
  obtain ⟨h2,h3⟩:=xM h2 a
  exact ⟨F3 (fun e _=>(Ob e).symm) h1,h2,h3,F3 (fun _ _=>rfl) h4,F3 (fun _ _=>rfl) h5,h6⟩
 ·intro h
  rw[Qv]
  unfold CJ BB
  rw[D6 h.exprs,h.farms,h.rots,D6 h.rights,D6 h.duties,h.reaches]
end
end Go.Proofs.Ytghepahgkcigpaa
