/- Parts of the proof, in short words: Ct Cu -/
import Derived.Test.YtbdfinegbjdblaaGreatDoorWq0
import Derived.Test.YtbdfinegbjdblaaGreatDoorWq29
import Derived.StillTailTactics
set_option maxRecDepth 100000
set_option maxHeartbeats 16000000
set_option linter.unusedSimpArgs false
namespace Go.Proofs.YtbdfinegbjdblaaGreatDoor
open Go.RowKit
theorem KZ{w:World}{g:Nat}{row:Array Value}{ty:TypeId}(hg:w.heap[g]?=some (.cells row ty (0,0)))(o:Nat){cs:LV}(h:(row.toList.drop o).take cs.length=cs):w.rangeAt g o cs:=λj v a=>by
 have b:=(yF.1 a).1
 rw[<-h,xO,yz b,List.getElem?_drop] at a
 simp only[World.cell?,hg]
 simpa using a
theorem aA(s:ByteArray)(h:s.size<=1000):s.size<=maxLen:=yG h (by unfold maxLen;omega)
section
variable{N:NP}{w:World}
theorem Cj(n u:Int):Bm N w (DZ n u) (AB n u):=by
 unfold DZ
 rw[Bm];exact ⟨none,0,rfl,by simp,aA _ (yW rfl),by rw[Ez];trivial⟩
theorem NR:Bm N w Vl z6:=by
 unfold Vl
 rw[Bm];exact ⟨none,0,rfl,by simp,aA _ (yW rfl),by rw[Ez];trivial⟩
theorem Pz{g:Nat}{a b:Ex}{c d:LV}{ty:TypeId}(hN:N g)(hr:w.heap[g]?=some (.cells (c++d).toArray ty (0,0)))(f:Bm N w a c)(hb:Bm N w b d):Bm N w (SA a b) (ES g):=by
 have e:=f.is6.len
 have h:=hb.is6.len
 unfold SA
 rw[Bm]
 refine ⟨some (aV g 0),2,rfl,by simp,aA _ (yW rfl),?_⟩
 rw[Ez,Ez,Ez]
 exact ⟨⟨g,0,c,rfl,hN,KZ hr _ (by simp),f⟩,⟨g,0,d,rfl,hN,KZ hr _ (by simp[e]),hb⟩,trivial⟩
theorem JX{α:Type}{sz:Nat}{P:LV->α->Prop}:Bg N w sz P ⟨none,0,0⟩ []:=⟨rfl,by simp,λi hi=>absurd hi (by simp)⟩
theorem PA{α:Type}{sz g:Nat}{P:LV->α->Prop}{d:α}{cs:LV}{ty:TypeId}(hN:N g)(hr:w.heap[g]?=some (.cells cs.toArray ty (0,0)))(b:cs.length=sz)(a:P cs d):Bg N w sz P ⟨some ⟨g,0,none⟩,1,1⟩ [d]:=by
 refine ⟨rfl,by simp,λi hi=>?_⟩
 obtain rfl:i=0:=by simpa using hi
 exact ⟨g,0,cs,rfl,hN,b,KZ hr _ (by simp),a⟩
theorem Xc{α:Type}{sz g:Nat}{P:LV->α->Prop}{d d':α}{cs cs':LV}{ty:TypeId}(hN:N g)(hr:w.heap[g]?=some (.cells (cs++cs').toArray ty (0,0)))(c:cs.length=sz)(a:cs'.length=sz)(e:P cs d)(b:P cs' d'):Bg N w sz P ⟨some ⟨g,0,none⟩,2,2⟩ [d,d']:=by
 refine ⟨rfl,by simp,λi hi=>?_⟩
 match i,hi with
 |0,_=>exact ⟨g,0,cs,rfl,hN,c,KZ hr _ (by simp),e⟩
 |1,_=>exact ⟨g,0,cs',rfl,hN,a,KZ hr _ (by simp[c,<-a]),b⟩
end
def cD(g:Xo):BQ:={s:=0,lets:=⟨none,0,0⟩,crops:=⟨some ⟨g.gc,0,none⟩,1,1⟩,reaches:=⟨some ⟨g.gr,0,none⟩,1,1⟩,farms:=⟨some ⟨g.gf,0,none⟩,2,2⟩,rots:=⟨some ⟨g.go,0,none⟩,1,1⟩,rights:=⟨some ⟨g.gg,0,none⟩,1,1⟩,duties:=⟨some ⟨g.gd,0,none⟩,1,1⟩,turns:=[⟨some ⟨g.gt,0,none⟩,2,2⟩]}
theorem Zg{w W:World}{g:Xo}{st tt:Ex}{c a:LV}{N:NP}(f:YM w g a W)(hN:∀b,w.heap.size<=b->b < W.heap.size->N b)(h:Bm N W st c)(d:Bm N W tt a):CQ N W (cD g) (FF g c) (WN st tt):=by
 have e:=d.is6.len
 have hb:∀p,p∈(g.go,Obj.cells (Hi g.g4 g.gt a).toArray 56)::Ia g->N p.1/\W.heap[p.1]?=some p.2:=λp j=>⟨hN _ (f.2 p j).1.1 (f.2 p j).1.2,(f.2 p j).2⟩
 have k:=hb (g.g0,.cells (AB 30 1++AB 2 5).toArray 40) (by simp[Ia])
 have bc:=hb (g.gc,.cells (G9 g.g0).toArray 120) (by simp[Ia])
 have o:=hb (g.g9,.cells (AB 90 1++AB 1 3).toArray 40) (by simp[Ia])
 have br:=hb (g.gr,.cells (JU g.g9).toArray 123) (by simp[Ia])
 have bf:=hb (g.gf,.cells (Ga++Gb).toArray 125) (by simp[Ia])
 have q:=hb (g.g4,.cells (AB 40 1++AB 1 3).toArray 40) (by simp[Ia])
 have t:=hb (g.gt,.cells (Em++En).toArray 65) (by simp[Ia])
 have l:=hb (g.go,.cells (Hi g.g4 g.gt a).toArray 56) (by simp[Ia])
 have n:=hb (g.gg,.cells JV.toArray 127) (by simp[Ia])
 have r:=hb (g.gd,.cells JW.toArray 129) (by simp[Ia])
 have m:∀s:ByteArray,s.size<=1000->s.size<=maxLen:=aA
 refine ⟨m _ (yW rfl),⟨AB 20 3,AB 2 2,c,rfl,Cj _ _,Cj _ _,h⟩,JX,
  PA bc.1 (cs:=G9 g.g0) bc.2 rfl ⟨m _ (yW rfl),_,rfl,Pz k.1 k.2 (Cj _ _) (Cj _ _)⟩,
  PA br.1 (cs:=JU g.g9) br.2 rfl ⟨m _ (yW rfl),m _ (yW rfl),AB 2 3,ES g.g9,AB 300 1,z6,AB 0 1,AB 3 1,AB 0 0,AB 0 0,rfl,Cj _ _,Pz o.1 o.2 (Cj _ _) (Cj _ _),Cj _ _,NR,Cj _ _,Cj _ _,Cj _ _,Cj _ _⟩,
  Xc bf.1 (cs:=Ga) (cs':=Gb) bf.2 rfl rfl ⟨m _ (yW rfl),m _ (yW rfl),m _ (yW rfl),AB 4 5,rfl,Cj _ _⟩ ⟨m _ (yW rfl),m _ (yW rfl),m _ (yW rfl),z6,rfl,NR⟩,
  ⟨rfl,by simp[WN],λi hi=>?_⟩,
  PA n.1 (cs:=JV) n.2 rfl ⟨m _ (yW rfl),m _ (yW rfl),m _ (yW rfl),z6,z6,z6,z6,z6,rfl,NR,NR,NR,NR,NR⟩,
  PA r.1 (cs:=JW) r.2 rfl ⟨m _ (yW rfl),m _ (yW rfl),m _ (yW rfl),AB 0 4,rfl,Cj _ _⟩⟩
 obtain rfl:i=0:=by simpa[WN] using hi
 exact ⟨g.go,0,Hi g.g4 g.gt a,rfl,l.1,by simp[Hi,B6,ES,AB,e],KZ l.2 _ (by simp),m _ (yW rfl),m _ (yW rfl),ES g.g4,AB 2 3,a,rfl,Pz q.1 q.2 (Cj _ _) (Cj _ _),Cj _ _,d,
  Xc t.1 (cs:=Em) (cs':=En) t.2 rfl rfl ⟨m _ (yW rfl),AB 3 3,rfl,Cj _ _⟩ ⟨m _ (yW rfl),AB 1 3,rfl,Cj _ _⟩⟩
mutual
def TQ:Ex->Bool
 |.mk _ _ _ _ _ l=>decide (l.length<=100000)&&PB l
def PB:List Ex->Bool
 |[]=>true
 |e::r=>TQ e&&PB r
end
mutual
theorem RC:∀ {e:Ex},TQ e=true->Mj e
 |.mk _ _ _ _ _ l,h=>by
  rw[TQ,yw,yM] at h
  rw[Mj];exact ⟨h.1,ON h.2⟩
theorem ON:∀ {l:List Ex},PB l=true->L9 l
 |[],_=>by rw[L9];trivial
 |e::r,h=>by
  rw[PB,yw] at h
  rw[L9];exact ⟨RC h.1,ON h.2⟩
end
def Zh(x:AM):Bool:=(Ba x).all (λe=>TQ e.1&&decide (BB e.1<=1000000))&&(decide (x.lets.length<=100000)&&(decide (x.crops.length<=100000)&&(decide (x.reaches.length<=100000)&&(decide (x.farms.length<=100000)&&(decide (x.rots.length<=100000)&&(decide (x.rights.length<=100000)&&(decide (x.duties.length<=100000)&&x.rots.all λr=>decide (r.turns.length<=100000))))))))
theorem YN{w:World}{L:BQ}{cs:LV}{x:AM}(j:CQ (λb=>b < w.heap.size) w L cs x)(hg:GV w)(f:GU w)(h:Zh x=true):G6 w cs x:=by
 unfold Zh at h
 simp only[yw,zj,yM] at h
 obtain ⟨c,h1,h2,h3,g,i,l,k,d⟩:=h
 exact ⟨⟨L,j⟩,⟨h1,h2,h3,g,i,l,k,d,λe a=>RC (c e a).1⟩,hg,f,λe a=>(c e a).2⟩
theorem aB:Zh (WN (DZ 500 1) (DZ 15 3))=true:=by kernel_rfl
theorem aC:Zh (WN (DZ 500 1) (DZ 4 3))=true:=by kernel_rfl
theorem aD:Zh (WN (SA (DZ 5 1) (DZ 2 0)) (DZ 15 3))=true:=by kernel_rfl
theorem aE:Zh Pq=true:=by kernel_rfl
theorem Yk{N:NP}{w:World}:CQ N w {s:=0,lets:=⟨none,0,0⟩,crops:=⟨none,0,0⟩,reaches:=⟨none,0,0⟩,farms:=⟨none,0,0⟩,rots:=⟨none,0,0⟩,rights:=⟨none,0,0⟩,duties:=⟨none,0,0⟩,turns:=[]} Cq Pq:=
 ⟨aA _ (yW rfl),⟨z6,z6,z6,rfl,NR,NR,NR⟩,JX,JX,JX,JX,⟨rfl,yC _,λi hi=>absurd hi (by simp[Pq])⟩,JX,JX⟩
def Gr:List CA->List CA->Bool
 |[],[]=>true
 |a::l,b::m=>NG a b&&Gr l m
 |_,_=>false
theorem Vg(a:CA):NG a a=true:=by simp[NG]
theorem Ng:∀l:List CA,Gr l l=true
 |[]=>rfl
 |a::l=>by rw[Gr,Vg,Ng l];rfl
theorem OO:∀ {l m:List CA},l.length≠m.length->Gr l m=false
 |[],[],h=>absurd rfl h
 |[],_::_,_=>rfl
 |_::_,[],_=>rfl
 |a::l,b::m,h=>by rw[Gr,OO (l:=l) (m:=m) (by simpa using h),Bool.and_false]
theorem T0{l m:List CA}{i:Nat}(h1:i < l.length)(h2:i < m.length):Gr (l.drop i) (m.drop i)=(NG l[i] m[i]&&Gr (l.drop (i+1)) (m.drop (i+1))):=by
 rw[zy h1,zy h2,Gr]
theorem Nh{N:NP}{w:World}{H hb:AA}{la lb:List CA}(F:Bg N w 10 (Nl AZ) H la)(L:Bg N w 10 (Nl AZ) hb lb)(hN:∀b,N b->b < w.heap.size):Calls Tryz.prog 25 #[H.v,hb.v] w λe w'=>e=.returned (.bool (Gr la lb))/\Below w.heap.size w w':=by
 obtain ⟨Y,c,ac⟩:=H
 obtain ⟨ba,I,bc⟩:=hb
 have X:=yb F.2.2;have S:=yb L.2.2;have u:=yb hN
 have p:c=la.length:=F.1
 have n:I=lb.length:=L.1
 have d:=yb p;have j:=yb n
 have R:c<=140737488355328:=by have:=F.2.1;omega
 clear F L hN
 unfold AA.v
 dsimp only at X S |-
 obtain ⟨q,M⟩:∃q,q=Gr la lb:=⟨_,rfl⟩
 rw[<-M]
 have U:=yb M
 clear M
 go_enter Tryz.func25,Tryz.ntmps25
 refine Ai λK a=>?_
 go_wp2
 refine a.o _ _ ?_
 clear a K
 refine Ai λK a=>?_
 by_cases g:c=I
 rotate_left 1
 ·have Q:((c:Int) !=(I:Int))=true:=by simp;omega
  have E:Hid (q=false):=yb (by rw[U.o];exact OO (by rw[<-d.o,<-j.o];exact g))
  clear g p n
  go_wp2
  go_ret
  exact ⟨by rw[E.o];rfl,yg _ _⟩
 have a1:=yb g
 subst g
 clear p n
 go_wp2
 refine a.o _ _ ?_
 clear a K
 refine Ai λK a=>?_
 have A:Hid (Gr (la.drop 0) (lb.drop 0)=q):=yb (by rw[xA,xA,U.o])
 go_wp2
 go_loopw [5] (λP wr=>∃i:Nat,P=iV i/\i<=c/\Hid (Gr (la.drop i) (lb.drop i)=q)/\Hid (Below w.heap.size w wr)) (λP _=>c - (intOf P).toNat)
 case atStart=>exact ⟨0,rfl,yC _,A,yb (yg _ _)⟩
 clear A
 obtain ⟨i,rfl,hi,l,f⟩:=hrel
 by_cases z:i < c
 ·have h1:i < la.length:=by rw[<-d.o];exact z
  have h2:i < lb.length:=by rw[<-j.o];exact z
  have J:(i:Int) < (c:Int):=by omega
  have m:=l.o
  rw[T0 h1 h2] at m
  obtain ⟨b1,o1,c1,Q,n1,l1,r1,p1⟩:=X.o i h1
  obtain ⟨b2,o2,c2,e2,n2,Z,r2,p2⟩:=S.o i h2
  obtain rfl:Y=some (aV b1 o1):=Q
  obtain rfl:ba=some (aV b2 o2):=e2
  obtain rfl:c1=AZ (la[i]'h1):=p1
  obtain rfl:c2=AZ (lb[i]'h2):=p2
  generalize la[i]'h1=x at*
  generalize lb[i]'h2=y at*
  have r:=yb m
  have t:Hid (wr.drew.rangeAt b1 (o1+i*10) (AZ x)):=yb (A8 r1 (f.o.block _ (u.o _ n1)))
  have B:Hid (wr.drew.rangeAt b2 (o2+i*10) (AZ y)):=yb (A8 r2 (f.o.block _ (u.o _ n2)))
  have O:=λW=>Ss x y W
  obtain ⟨b,s⟩:∃b,NG x y=b:=⟨_,rfl⟩
  rw[s] at O r
  clear m s r1 r2 n1 n2 l1 Z h1 h2 l
  go_upto_region 6 with fail
  have C:Hid (Below w.heap.size w wr.drew):=yb f.o.drew
  refine Kq ?_
  refine Dl (by kernel_rfl) (λV=>V.rangeAt b1 (o1+i*10) (AZ x)/\V.rangeAt b2 (o2+i*10) (AZ y)) 8 ?_
  refine GC (by kernel_rfl) (λ_ _ _ _ _ h=>by cases h.1) ⟨t.o,B.o⟩ [(0,17,.slice (some (aV b1 o1)) c ac),(1,18,iV i),(2,19,pV b1 (o1+i*10)),(4,21,.slice (some (aV b2 o2)) c bc),(5,22,iV i),(6,23,pV b2 (o2+i*10))] 3 _ _ (by kernel_rfl) ?_ ?_
  ·simp only[Ct]
   refine ⟨?_,?_,?_,?_,?_,?_,trivial⟩
   all_goals
    intro o D V G
    obtain rfl:=yf D
    go_simp
  simp only[Cs]
  refine BN (T:=λV=>V.rangeAt b1 (o1+i*10) (AZ x)/\V.rangeAt b2 (o2+i*10) (AZ y)) (k:=8) (by kernel_rfl) (λ_ _ _ _ _ h=>by cases h.1) ⟨t.o,B.o⟩ [(3,20,.agg (AZ x).toArray),(7,24,.agg (AZ y).toArray)] 1 _ _ (by kernel_rfl) ?_ ?_
  ·simp only[Ct]
   refine ⟨?_,?_,trivial⟩
   ·intro o D V G
    obtain rfl:=yf D
    exact C1 62 (.tmp 19) rfl b1 (o1+i*10) (by kernel_rfl) (AZ x) _ G.1 jw rfl (by kernel_rfl)
   intro o D V G
   obtain rfl:=yf D
   exact C1 62 (.tmp 23) rfl b2 (o2+i*10) (by kernel_rfl) (AZ y) _ G.2 jw rfl (by kernel_rfl)
  simp only[Cs]
  refine Aq (i:=8) (by kernel_rfl) rfl rfl (λK a=>?_)
  cases b
  ·have E:Hid (q=false):=yb r.o.symm
   go_simp
   refine a.o _ _ (by intro h;cases h) ?_
   clear a K
   refine AP (by kernel_rfl) ?_
   refine ⟨rfl,?_⟩
   go_wp2
   go_ret
   exact ⟨by rw[E.o];rfl,C.o⟩
  have HT:Hid (Gr (la.drop (i+1)) (lb.drop (i+1))=q):=yb r.o
  go_simp
  refine a.o _ _ (by intro h;cases h) ?_
  clear a K
  refine AP (by kernel_rfl) ?_
  refine ⟨rfl,?_⟩
  go_wp2
  exact ⟨⟨i+1,by push_cast;rfl,by omega,HT,C⟩,by simp[intOf];omega⟩
 obtain rfl:i=c:=by omega
 have J:decide ((i:Int) < (i:Int))=false:=by simp
 have E:Hid (q=true):=yb (by have h:=l.o;rw[d.o,xE,<-d.o,j.o,xE] at h;exact h.symm)
 go_wp2
 refine a.o _ _ ?_
 go_wp2
 go_ret
 exact ⟨by rw[E.o];rfl,f.o⟩
end Go.Proofs.YtbdfinegbjdblaaGreatDoor
