/- Parts of the proof, in short words: Zx Zy Wd -/
import Derived.Test.YtghepahgkcigpaaQ0
import Derived.Test.YtghepahgkcigpaaQ33
import Derived.Test.YtghepahgkcigpaaQ28
import Derived.Test.YtghepahgkcigpaaQ12
import Derived.Test.YtghepahgkcigpaaRows
import Derived.ProofKit
import Derived.HandedShaped
set_option maxRecDepth 100000
set_option maxHeartbeats 16000000
set_option linter.unusedSimpArgs false
namespace Go.Proofs.Ytghepahgkcigpaa
open Go.RowKit
theorem C9{α β:Type}{F:Nat->α->α}{h k:α->List β}(a:∀i d,h (F i d)=k d)(l:List α):(l.mapIdx F).flatMap h=l.flatMap k:=by
 have e:(l.mapIdx F).map h=l.map k:=by
  apply zw
  ·simp
  ·intro i h1 h2;simp;exact a i _
 rw[List.flatMap_def,List.flatMap_def,e]
section
variable{t:Tb}
theorem Ww(x:AA):BJ (x.mp (fT t) (gT t))=(BJ x).map (fT t 0):=by
 have a:∀(i:Nat) (d:AS),FT (AS.mp (fT t) (gT t) i d)=(FT d).map (fT t 0):=fun i d=>by
  unfold FT AS.mp
  simp only[ze,zG,xh,zT]
  rw[C9 (h:=fun k:BM=> [k.len]) (k:=fun k=> [fT t 0 k.len]) (fun _ _=>rfl)]
 unfold BJ Jy Jw Ha Jv Ju IY OI AA.mp
 simp only[ze,zG,xh,zT]
 rw[C9 (h:=fun d:E8=> [d.value]) (k:=fun d=> [fT t 0 d.value]) (fun _ _=>rfl),C9 (h:=fun d:Cp=> [d.need]) (k:=fun d=> [fT t 0 d.need]) (fun _ _=>rfl),C9 (h:=DZ) (k:=fun d=>(DZ d).map (fT t 0)) (fun _ _=>rfl),
  C9 (h:=fun d:BN=> [d.area]) (k:=fun d=> [fT t 0 d.area]) (fun _ _=>rfl),C9 (h:=FT) (k:=fun d=>(FT d).map (fT t 0)) a,C9 (h:=E0) (k:=fun d=>(E0 d).map (fT t 0)) (fun _ _=>rfl),C9 (h:=fun d:BV=> [d.due]) (k:=fun d=> [fT t 0 d.due]) (fun _ _=>rfl)]
theorem UY(x:AA):Co (x.mp (fT t) (gT t))=((((((Rx x++x.lets.flatMap J4)++x.crops.flatMap FU)++(x.reaches.mapIdx (AI.mp (fT t) (gT t))).flatMap Dy)++x.farms.flatMap fun d=>FV (BN.mp (fT t) (gT t) 0 d))++x.rots.flatMap fun d=>Gy (AS.mp (fT t) (gT t) 0 d))++x.rights.flatMap fun d=>Ef (AJ.mp (fT t) (gT t) 0 d))++x.duties.flatMap fun d=>FW (BV.mp (fT t) (gT t) 0 d):=by
 unfold Co RF RE RD RC Rz Ry Rx AA.mp
 simp only
 rw[C9 (F:=E8.mp (fT t)) (h:=J4) (k:=J4) (fun _ _=>rfl),C9 (F:=Cp.mp (fT t)) (h:=FU) (k:=FU) (fun _ _=>rfl),Dn (fun _ _=>rfl) x.farms,Dn (fun _ _=>rfl) x.rots,Dn (fun _ _=>rfl) x.rights,Dn (fun _ _=>rfl) x.duties]
mutual
theorem Qw:∀e:Ex,GU e=GU (Ih t e)->Ih t e=e
 |.mk op n u rn ri args,h=>by
  rw[Ih,GU,GU] at h
  injection h with h1 h2
  injection h1 with h3 h4
  rw[Ih,<-h4,Oc args h2]
theorem Oc:∀l:List Ex,Eo l=Eo (GI t l)->GI t l=l
 |[],_=>rfl
 |e::r,h=>by
  rw[GI,Eo,Eo] at h
  obtain ⟨h1,h2⟩:=xM h (KJ e).symm
  rw[GI,Qw e h1,Oc r h2]
end
theorem Sy(x:AA)(p:Ex->Prop):(∀e∈BJ x,p e)↔∀e∈Bb x,p e.1:=by
 classical
 have h:=Ss x (fun e=>decide (p e))
 rw[zu,yM,yM] at h
 simpa using h
theorem Qx{α:Type}{f:α->α}{l:List α}:l.map f=l↔∀e∈l,f e=e:=by
 constructor
 ·intro h e a
  obtain ⟨i,hi,rfl⟩:=List.getElem_of_mem a
  have:=yz (fun m=>m[i]?) h
  simpa[hi] using this
 ·intro h
  exact (List.map_congr_left h).trans (List.map_id' l)
theorem UZ(e:Kp):Dk e=Dk (OG (fT t) e)↔fT t 0 e.1=e.1:=by
 unfold Dk OG fT
 simp only
 by_cases h:Da e.1=true
 ·simp[h]
 ·rw[yq h,yq h,KE,yq h]
  constructor
  ·exact Qw e.1
  ·intro k;rw[k]
theorem Sz(d:AS):Gy (AS.mp (fT t) (gT t) 0 d)=[⟨6,d.name,gT t 4 d.on,He,d.rank,false⟩]++d.turns.flatMap fun k=> [⟨7,⟨#[]⟩,gT t 5 k.farm,He,0,false⟩]:=by
 unfold Gy AS.mp
 simp only
 rw[C9 (F:=BM.mp (fT t) (gT t)) (h:=Gx) (k:=fun k=> [⟨7,⟨#[]⟩,gT t 5 k.farm,He,0,false⟩]) (fun _ _=>rfl)]
theorem RW(d:AS):D9 (AS.mp (fT t) (gT t) 0 d)=gT t 4 d.on::d.turns.flatMap fun k=> [gT t 5 k.farm]:=by
 unfold D9 AS.mp
 simp only
 rw[C9 (F:=BM.mp (fT t) (gT t)) (h:=fun k:BM=> [k.farm]) (k:=fun k=> [gT t 5 k.farm]) (fun _ _=>rfl)]
theorem La(d:AS):(Gy d).length=(Gy (AS.mp (fT t) (gT t) 0 d)).length:=by
 rw[Sz]
 unfold Gy
 rw[yi,yi,Cn (p:=Gx) (q:=fun k=> [⟨7,⟨#[]⟩,gT t 5 k.farm,He,0,false⟩]) (fun _ _=>rfl)]
 rfl
theorem SA(d:AS):Gy d=Gy (AS.mp (fT t) (gT t) 0 d)↔D9 d=D9 (AS.mp (fT t) (gT t) 0 d):=by
 rw[Sz,RW]
 unfold Gy D9
 have hl:∀ {α:Type} {p q:BM->α},d.turns.flatMap (fun k=> [p k])=d.turns.flatMap (fun k=> [q k])↔∀k∈d.turns,p k=q k:=by
  intro α p q
  constructor
  ·intro h k a
   have:=F3 (by intros;rfl) h k a
   simpa using this
  ·intro h
   exact D6 fun k a=>by rw[h k a]
 rw[yL,yE,yL,yE,zq,zq,hl]
 show _∧d.turns.flatMap (fun k=> [(⟨7,⟨#[]⟩,k.farm,He,0,false⟩:Pl)])=_↔_
 rw[hl]
 simp
theorem JV:∀m:List AI,(m.flatMap Dy).length=m.length
 |[]=>rfl
 |d::r=>by rw[yY,yi,JV r,yC];simp[Dy];omega
theorem MM(l:List AI)(F:Nat->AI->AI)(b:∀i d,(F i d).name=d.name):l.flatMap Dy=(l.mapIdx F).flatMap Dy↔l.map (·.frm)=(l.mapIdx F).map (·.frm):=by
 have e:∀m:List AI,m.flatMap Dy=m.map fun d=>(⟨4,d.name,d.frm,He,0,false⟩:Pl):=fun m=>by
  rw[List.map_eq_flatMap];rfl
 rw[e,e]
 constructor
 ·intro h
  have:=yz (List.map (fun p:Pl=>p.a)) h
  simpa only[List.map_map,Function.comp_def] using this
 ·intro h
  refine zw (by simp) fun i h1 h2=>?_
  have h3:i < l.length:=by simpa using h1
  have h4:=yz (fun m=>m[i]?) h
  simp[h3] at h4
  simp[b,h4]
theorem RX(x:AA):IA x (x.mp (fT t) (gT t))=true↔VU t x:=by
 rw[NZ,UY,Ww]
 constructor
 ·rintro ⟨a,c⟩
  have f:=Qx.1 c.symm
  unfold Co RF RE RD RC Rz Ry at a
  obtain ⟨a,g⟩:=qf a (Cn fun _ _=>rfl)
  obtain ⟨a,h6⟩:=qf a (Cn fun _ _=>rfl)
  obtain ⟨a,h5⟩:=qf a (Cn fun d _=>La d)
  obtain ⟨a,h4⟩:=qf a (Cn fun _ _=>rfl)
  obtain ⟨a,h3⟩:=qf a (by rw[JV,JV,qi])
  refine ⟨fun e b=>(UZ e).2 ((Sy x _).1 f e b),?_,?_,?_,?_,?_⟩
  ·refine D6 fun d hd=>?_
   have:=F3 (by intros;rfl) h4 d hd
   simp only[FV,BN.mp,zq,Pl.mk.injEq] at this
   simp only[DS,BN.mp,<-this.1.2.2.1,<-this.1.2.2.2.1]
  ·exact D6 fun d hd=>(SA d).1 (F3 (fun d _=>La d) h5 d hd)
  ·intro d hd
   have:=F3 (by intros;rfl) h6 d hd
   simp only[Ef,AJ.mp,zq,Pl.mk.injEq] at this
   simp only[De,AJ.mp,<-this.1.2.2.1,<-this.1.2.2.2.1]
  ·intro d hd
   have:=F3 (by intros;rfl) g d hd
   simp only[FW,BV.mp,zq,Pl.mk.injEq] at this
   simp only[DT,BV.mp,<-this.1.2.2.1,<-this.1.2.2.2.1]
  ·exact (MM _ _ (by intros;rfl)).1 h3
 ·intro h
  constructor
  ·unfold Co RF RE RD RC Rz Ry
   rw[(MM x.reaches (AI.mp (fT t) (gT t)) (fun _ _=>rfl)).2 h.reaches]
   congr 1
   ·congr 1
    ·congr 1
     ·congr 1
      refine D6 fun d hd=>?_
      have:=F3 (by intros;rfl) h.farms d hd
      simp only[DS,BN.mp,zq] at this
      simp only[FV,BN.mp,<-this.1,<-this.2.1]
     ·exact D6 fun d hd=>(SA d).2 (F3 (fun d _=>L8 d) h.rots d hd)
    ·refine D6 fun d hd=>?_
     have:=h.rights d hd
     simp only[De,AJ.mp,zq] at this
     simp only[Ef,AJ.mp,<-this.1,<-this.2.1]
   ·refine D6 fun d hd=>?_
    have:=h.duties d hd
    simp only[DT,BV.mp,zq] at this
    simp only[FW,BV.mp,<-this.1,<-this.2.1]
  ·exact (Qx.2 ((Sy x _).2 fun e b=>(UZ e).1 (h.exprs e b))).symm
end
def I2(x:AA):Int:=if AK x=0 then (if IA x (Ao x)=true then 0 else 170) else AK x
theorem V1(x:AA):I2 x=EC x:=by
 unfold I2 EC
 have h:(IA x (Ao x)=true)↔CJ x=CJ (Ao x):=(RX x).trans (TB (t:=Tb.of x) x).symm
 by_cases h0:AK x=0
 ·rw[yu h0,yu h0]
  by_cases h1:CJ x=CJ (Ao x)
  ·rw[yu h1,yu (h.2 h1)]
  ·rw[yq h1,yq (fun k=>h1 (h.1 k))]
 ·rw[yq h0,yq h0]
theorem OZ{N:NP}{w:World}{L:BL}{cs:LV}{x:AA}(h:Ba N w L cs x)(hN:∀b,N b->b < w.heap.size)(j:EJ x=true):
  Calls Try.prog 15 #[.agg cs.toArray] w fun e w'=>e=.returned (.int .i64 (I2 x))∧Below w.heap.size w w':=by
 have u:Hid (∀W,Below w.heap.size w W->Ba N W L cs x∧(∀b,N b->b < W.heap.size)):=ya (fun W F=>⟨h.same (fun _ h=>h) (fun b hb=>F.block b (hN b hb)),fun b hb=>yk (hN b hb) F.size⟩)
 have g:=ya (Fl.len ⟨L,h⟩)
 have S:=ya (OO j);have J:=ya j
 clear h hN j
 go_enter Try.func15,Try.ntmps15
 refine AH fun K v=>?_
 go_wp2_with (first|(refine AR rfl 35 _ rfl cs.toArray rfl ?_))
 refine v.o _ _ ?_
 clear v K
 obtain ⟨l,f⟩:∃z:World,z=w.alloc (.cells cs.toArray 35):=⟨_,rfl⟩
 rw[<-f]
 have t:Hid (Below w.heap.size w l):=ya (by rw[f];exact (yc _ _).alloc (ye _) _)
 have O:Hid (∀W,Below l.heap.size l W->W.rangeAt w.heap.size 0 cs∧Below w.heap.size w W):=ya (fun W F=>by
  have hz:l.heap.size=w.heap.size+1:=by rw[f];simp
  have hx:l.heap[w.heap.size]?=some (.cells cs.toArray 35 (0,0)):=by rw[f];exact World.alloc_heap_new _ _
  exact ⟨A6 ((F.block _ (by omega)).trans hx),t.o.trans (F.mono t.o.size)⟩)
 clear f
 have Y:=ya (O.o l (yc _ _))
 have HD:=ya (Qr (u.o l t.o).1 (u.o l t.o).2 J.o)
 have p:Hid (I2 x=if AK x=0 then (if IA x (Ao x)=true then 0 else 170) else AK x):=ya rfl
 generalize I2 x=r at p ⊢
 have D:Hid (AK x=0->KG x=Ao x):=ya (fun h=>by unfold KG;rw[yu h])
 have T:=ya (US S.o)
 generalize AK x=c at HD p D
 generalize KG x=y at HD D T
 refine AH fun K v=>?_
 go_wp2_with (first
  |(refine yf rfl 35 _ rfl w.heap.size 0 rfl cs _ Y.o.1 qO rfl (AX (n:=26) (by kernel_rfl) g.o) ?_)
  |(go_at_call 12;refine HD.o.mono ?_;rintro e U ⟨R,I,rfl,q⟩;have a0:=ya q;have P:=ya R;have m:=ya q.len;have Z:=ya q.one;clear R q)
  |(refine A2 rfl 35 _ _ rfl U.heap.size rfl I rfl (World.alloc_heap_new _ _) (by rw[m.o];rfl) (AX (n:=26) (by kernel_rfl) m.o) Z.o ?_;intro i V;have G:=ya V;clear V))
 refine v.o _ _ ?_
 clear v K
 have d:Hid (Below U.heap.size U i):=ya (G.o.below ((yc _ _).alloc (ye _) _) (ye _))
 have Q:Hid (Below l.heap.size l i):=ya (P.o.trans (d.o.mono P.o.size))
 have a:=ya (O.o i Q.o)
 have X:Hid (Fl (VT i) i I y):=ya (a0.o.wide (fun b hb=>yk hb d.o.size) (fun b hb=>d.o.block b hb))
 have E:=ya (A6 G.o.row)
 obtain h0|rfl:(c !=0)=true∨c=0:=by
  by_cases h:c=0
  ·exact .inr h
  ·exact .inl (by simpa using h)
 ·have H:Hid (c=r):=ya (by
   have hc:c≠0:=by simpa using h0
   rw[p.o,yq hc])
  go_wp2
  go_ret
  exact ⟨GJ H.o,a.o.2⟩
 obtain rfl:=D.o rfl
 have A:Hid (Calls Try.prog 13 #[.agg cs.toArray,.agg I.toArray] i fun e w'=>e=.returned (.bool (IA x (Ao x)))∧Below i.heap.size i w'):=ya (by
  obtain ⟨M,hu⟩:=X.o
  exact Qm ((u.o i a.o.2).1.same (N':=VT i) (fun b hb=>(u.o i a.o.2).2 b hb) (fun _ _=>rfl)) hu (fun _ h=>h) S.o T.o)
 have C:Hid (r=if IA x (Ao x)=true then 0 else 170):=ya (by rw[p.o,yu rfl])
 generalize IA x (Ao x)=s at A C
 refine AH fun K v=>?_
 go_wp2
 refine v.o _ _ ?_
 clear v K
 cases s
 ·have H:Hid ((170:Int)=r):=ya (by rw[C.o];rfl)
  go_wp2_with (first
   |(refine yf rfl 35 _ rfl w.heap.size 0 rfl cs _ a.o.1 qO rfl (AX (n:=26) (by kernel_rfl) g.o) ?_)
   |(refine yf rfl 35 _ rfl U.heap.size 0 rfl I _ E.o qO rfl (AX (n:=26) (by kernel_rfl) m.o) ?_)
   |(go_at_call 13;refine A.o.mono ?_;rintro e w7 ⟨rfl,k⟩;have B:=ya k;clear k))
  go_ret
  exact ⟨GJ H.o,a.o.2.trans (B.o.mono a.o.2.size)⟩
 ·have H:Hid ((0:Int)=r):=ya (by rw[C.o];rfl)
  go_wp2_with (first
   |(refine yf rfl 35 _ rfl w.heap.size 0 rfl cs _ a.o.1 qO rfl (AX (n:=26) (by kernel_rfl) g.o) ?_)
   |(refine yf rfl 35 _ rfl U.heap.size 0 rfl I _ E.o qO rfl (AX (n:=26) (by kernel_rfl) m.o) ?_)
   |(go_at_call 13;refine A.o.mono ?_;rintro e w7 ⟨rfl,k⟩;have B:=ya k;clear k))
  go_ret
  exact ⟨GJ H.o,a.o.2.trans (B.o.mono a.o.2.size)⟩
theorem Na{N:NP}{w:World}{L:BL}{cs:LV}{x:AA}(h:Ba N w L cs x)(hN:∀b,N b->b < w.heap.size)(I:GV w):
  Calls Try.prog 4 #[.agg cs.toArray] w fun e w'=>e=.returned (.bool true)∧Below w.heap.size w w':=by
 have g:Hid (∀W,Below w.heap.size w W->Ba N W L cs x∧(∀b,N b->b < W.heap.size)∧GV W):=ya (fun W j=>⟨h.same (fun _ h=>h) (fun b hb=>j.block b (hN b hb)),fun b hb=>yk (hN b hb) j.size,I.below j I.1⟩)
 have m:=ya (Fl.len ⟨L,h⟩)
 clear h hN I
 go_enter Try.func4,Try.ntmps4
 refine AH fun K d=>?_
 go_wp2_with (first|(refine AR rfl 35 _ rfl cs.toArray rfl ?_))
 refine d.o _ _ ?_
 clear d K
 obtain ⟨y,l⟩:∃z:World,z=w.alloc (.cells cs.toArray 35):=⟨_,rfl⟩
 rw[<-l]
 have t:Hid (Below w.heap.size w y):=ya (by rw[l];exact (yc _ _).alloc (ye _) _)
 have r:Hid (∀W,Below y.heap.size y W->W.rangeAt w.heap.size 0 cs∧Below w.heap.size w W):=ya (fun W j=>by
  have O:y.heap.size=w.heap.size+1:=by rw[l];simp
  have M:y.heap[w.heap.size]?=some (.cells cs.toArray 35 (0,0)):=by rw[l];exact World.alloc_heap_new _ _
  exact ⟨A6 ((j.block _ (by omega)).trans M),t.o.trans (j.mono t.o.size)⟩)
 clear l
 refine AH fun K d=>?_
 go_wp2_with (first|(go_at_call 9;refine (Qq (g.o y t.o).2.2).mono ?_;rintro e w1 ⟨rfl,D⟩;have f:=ya D;clear D))
 refine d.o _ _ ?_
 clear d K
 have k:Hid (∀W,Below w1.heap.size w1 W->W.rangeAt w.heap.size 0 cs∧Below w.heap.size w W):=ya (fun W j=>r.o W (f.o.trans (j.mono f.o.size)))
 go_upto_region 3 with fail
 have q:Hid (Below w1.heap.size w1 w1.drew):=ya (yc _ _).drew
 have G:=ya (k.o w1.drew q.o)
 refine wp_region_noPanic ?_
 refine Bz (by kernel_rfl) (fun V=>Below w1.heap.size w1 V) 10 ?_
 refine Ag (i:=0) (v:=.agg (cs).toArray) rfl (by kernel_rfl) (by kernel_rfl) (by kernel_rfl) (fun _ _ _ h=>h) (by kernel_rfl) (yS (by rfl) 35 _ rfl (w.heap.size) (0) rfl (cs) _ (fun W j=>(r.o W (f.o.trans (j.mono f.o.size))).1) qO rfl (AX (n:=26) (by kernel_rfl) m.o)) q.o ?_
 refine A4 (i:=1) (by kernel_rfl) rfl (fun K d=>?_)
 go_simp
 refine (ON (g.o _ G.o.2).1 (g.o _ G.o.2).2.1).mono ?_
 rintro e w2 ⟨rfl,H⟩
 have a:Hid (Below w1.heap.size w1 w2):=ya (q.o.trans (H.mono q.o.size))
 refine d.o _ _ (fun _=>a.o) ?_
 clear d K H
 cases J:EJ x
 ·refine A0 (i:=2) (v:=.bool true) rfl (by kernel_rfl) (by kernel_rfl) (by kernel_rfl) (fun _ _ _ h=>h) (by kernel_rfl) (Or.inl ⟨by rfl,?_⟩) (fun _=>a.o) ?_
  ·intro w _;go_simp
  refine A0 (i:=3) (v:=.bool true) rfl (by kernel_rfl) (by kernel_rfl) (by kernel_rfl) (fun _ _ _ h=>h) (by kernel_rfl) (Or.inl ⟨by rfl,?_⟩) (fun _=>a.o) ?_
  ·intro w _;go_simp
  refine A0 (i:=4) (v:=undef) rfl (by kernel_rfl) (by kernel_rfl) (by kernel_rfl) (fun _ _ _ h=>h) (by kernel_rfl) (Or.inr ⟨by rfl,rfl⟩) (fun _=>a.o) ?_
  refine A0 (i:=5) (v:=undef) rfl (by kernel_rfl) (by kernel_rfl) (by kernel_rfl) (fun _ _ _ h=>h) (by kernel_rfl) (Or.inr ⟨by rfl,rfl⟩) (fun _=>a.o) ?_
  refine A0 (i:=6) (v:=undef) rfl (by kernel_rfl) (by kernel_rfl) (by kernel_rfl) (fun _ _ _ h=>h) (by kernel_rfl) (Or.inr ⟨by rfl,rfl⟩) (fun _=>a.o) ?_
  refine A0 (i:=7) (v:=undef) rfl (by kernel_rfl) (by kernel_rfl) (by kernel_rfl) (fun _ _ _ h=>h) (by kernel_rfl) (Or.inr ⟨by rfl,rfl⟩) (fun _=>a.o) ?_
  refine A0 (i:=8) (v:=undef) rfl (by kernel_rfl) (by kernel_rfl) (by kernel_rfl) (fun _ _ _ h=>h) (by kernel_rfl) (Or.inr ⟨by rfl,rfl⟩) (fun _=>a.o) ?_
  refine A0 (i:=9) (v:=.bool true) rfl (by kernel_rfl) (by kernel_rfl) (by kernel_rfl) (fun _ _ _ h=>h) (by kernel_rfl) (Or.inl ⟨by rfl,?_⟩) (fun _=>a.o) ?_
  ·intro w _;go_simp
  refine A4 (i:=10) (by kernel_rfl) rfl (fun K d=>?_)
  go_simp
  refine d.o _ _ (by intro h;cases h) ?_
  clear d K
  refine AG (by kernel_rfl) ?_
  refine NoPanic.normal ?_
  go_wp2
  go_ret
  exact ⟨rfl,(k.o w2 a.o).2⟩
 ·have B:=ya J
  have C:=ya (Qd J)
  refine A0 (i:=2) (v:=.bool false) rfl (by kernel_rfl) (by kernel_rfl) (by kernel_rfl) (fun _ _ _ h=>h) (by kernel_rfl) (Or.inl ⟨by rfl,?_⟩) (fun _=>a.o) ?_
  ·intro w _;go_simp
  refine A0 (i:=3) (v:=.bool false) rfl (by kernel_rfl) (by kernel_rfl) (by kernel_rfl) (fun _ _ _ h=>h) (by kernel_rfl) (Or.inl ⟨by rfl,?_⟩) (fun _=>a.o) ?_
  ·intro w _;go_simp
  refine Ag (i:=4) (v:=.agg (cs).toArray) rfl (by kernel_rfl) (by kernel_rfl) (by kernel_rfl) (fun _ _ _ h=>h) (by kernel_rfl) (yS (by rfl) 35 _ rfl (w.heap.size) (0) rfl (cs) _ (fun W j=>(r.o W (f.o.trans (j.mono f.o.size))).1) qO rfl (AX (n:=26) (by kernel_rfl) m.o)) a.o ?_
  refine Ag (i:=6) (v:=.agg (cs).toArray) rfl (by kernel_rfl) (by kernel_rfl) (by kernel_rfl) (fun _ _ _ h=>h) (by kernel_rfl) (yS (by rfl) 35 _ rfl (w.heap.size) (0) rfl (cs) _ (fun W j=>(r.o W (f.o.trans (j.mono f.o.size))).1) qO rfl (AX (n:=26) (by kernel_rfl) m.o)) a.o ?_
  have u:=ya (k.o w2 a.o)
  refine A4 (i:=5) (by kernel_rfl) rfl (fun K d=>?_)
  rw[yu (by rfl)]
  go_simp
  refine (KF (g.o w2 u.o.2).1 (g.o w2 u.o.2).2.1 C.o.1 (g.o w2 u.o.2).2.2 C.o.2).mono ?_
  rintro e w3 ⟨rfl,F⟩
  have p:Hid (Below w1.heap.size w1 w3):=ya (a.o.trans (F.mono a.o.size))
  refine d.o _ _ (fun _=>p.o) ?_
  clear d K F
  have E:=ya (k.o w3 p.o)
  refine A4 (i:=7) (by kernel_rfl) rfl (fun K d=>?_)
  rw[yu (by rfl)]
  go_simp
  refine (OZ (g.o w3 E.o.2).1 (g.o w3 E.o.2).2.1 B.o).mono ?_
  rintro e w4 ⟨rfl,A⟩
  rw[V1]
  have s:Hid (Below w1.heap.size w1 w4):=ya (p.o.trans (A.mono p.o.size))
  refine d.o _ _ (fun _=>s.o) ?_
  clear d K A
  generalize EC x=c
  refine A0 (i:=8) (v:=.bool true) rfl (by kernel_rfl) (by kernel_rfl) (by kernel_rfl) (fun _ _ _ h=>h) (by kernel_rfl) (Or.inl ⟨by rfl,?_⟩) (fun _=>s.o) ?_
  ·intro w _;go_simp
  refine A0 (i:=9) (v:=.bool true) rfl (by kernel_rfl) (by kernel_rfl) (by kernel_rfl) (fun _ _ _ h=>h) (by kernel_rfl) (Or.inl ⟨by rfl,?_⟩) (fun _=>s.o) ?_
  ·intro w _;go_simp
  refine A4 (i:=10) (by kernel_rfl) rfl (fun K d=>?_)
  go_simp
  refine d.o _ _ (by intro h;cases h) ?_
  clear d K
  refine AG (by kernel_rfl) ?_
  refine NoPanic.normal ?_
  go_wp2
  go_ret
  exact ⟨rfl,(k.o w4 s.o).2⟩
end Go.Proofs.Ytghepahgkcigpaa
namespace Go.Proofs.Ytghepahgkcigpaa
open Go.RowKit Go.ChangeShapes Go.WideShapes Go.ChangeAt
theorem own:ownKnob Try.prog.godebug=none:=by kernel_rfl
theorem OY:laidOutB Try.prog=true:=by kernel_rfl
theorem Iu{W:World}(h:W.ShapedOpen Try.prog):GV W:=by
 obtain ⟨m,a⟩:∃m,W.cell? (aV 0 0)=some (iV m):=Try.laysM144.s1_3 W h
 exact ⟨OX a,m,a⟩
theorem II(os:Os)(a:os.Started)(H:Type)(enc:TypeId × Value->H):
  ReturnsInHanded {} Try.checked os 4 .any (Rows.namesCheckSpecSpec.pre6 enc Try.prog Try.f4 Rows.namesCheckSpecRow.domain false) (Rows.namesCheckSpecSpec.post enc Try.prog Try.f4 false true false false):=by
 refine returnsInHanded_of_change_shaped (C:=Try.checked) own a (by kernel_rfl) Try.func4
  (ChangeSpec.witness6 (enc:=enc) (C:=Try.checked) false ⟨#[],#[.agg #[.string ByteArray.empty,iV 0,iV 0,iV 0,.string ByteArray.empty,iV 0,.slice none 0 0,iV 0,iV 0,iV 0,.string ByteArray.empty,iV 0,.slice none 0 0,iV 0,iV 0,iV 0,.string ByteArray.empty,iV 0,.slice none 0 0,.slice none 0 0,.slice none 0 0,.slice none 0 0,.slice none 0 0,.slice none 0 0,.slice none 0 0,.slice none 0 0]],[]⟩ 16 (by kernel_rfl) (by kernel_rfl) (by kernel_rfl) (by kernel_rfl)) ?_
 intro W base args ds K r c w _ g u _
 have l:(DataW.weightsEach Try.prog (Try.f4.params.toList++Rows.namesCheckSpecSpec.plain.varTypes Try.prog) (ds++K)).all (·<=reachBytes)=true:=g
 have i:∀(j:Nat) t v,Try.f4.params[j]?=some t->args[j]?=some v->Value.okWide Try.prog W .any base t v:=c
 have k:=w
 obtain ⟨p,q,o,E,rfl,_,_⟩:=w
 have y:DataW.TrodAll enc Try.prog W 0 (fun _=>true) true Try.f4.params.toList args.toList ds p:=o
 rw[Try.params4] at y i l
 obtain ⟨v0,z,rfl,rfl,h0⟩:=trodAll_one y
 obtain ⟨rfl,rfl⟩:=trodVars_none E
 obtain ⟨cs,rfl,m⟩:=okWide_struct qO (i 0 35 v0 rfl rfl)
 rw[Kn] at m
 have s:=h0
 obtain ⟨fuel,A⟩:=h0
 clear o c g
 simp only[yG] at k
 have B:Wt 35 z:=fun n D=>by simpa using yM.1 l n (yB (j:=0) (t:=35) (d:=z) rfl rfl _ D)
 obtain ⟨L,x,I,M,G⟩:=L7 (H:=H) (enc:=enc) (W:=W) (cs:=cs.toList) A B (by simpa using m)
 have J:=Iu u
 have f:=Na I (fun b hb=>hb) J
 rw[show cs.toList.toArray=cs by simp] at f
 refine f.mono fun e W' ⟨N,hb⟩=>?_
 subst N
 exact ⟨_,rfl,_,_,_,[],_,[],k,trodAll_mk1 (shut_bool qP true),trodAll_mk1 (Below.trod OY (by kernel_rfl) (yt (by kernel_rfl)) s hb (fun x F=>by simpa using k.lt x F)),rfl,hb.frame _,fun h=>by cases h⟩
theorem namesCheckSpec_holds:Rows.NamesCheckSpecSaid:=
 OpenClaim.holds_of_wide 4 Try.f4 rfl rfl rfl rfl rfl rfl rfl ⟨rfl,rfl,rfl,rfl,rfl⟩ rfl rfl rfl rfl rfl (by kernel_rfl) Try.func4 (by kernel_rfl)
  (yt (by kernel_rfl)) (by unfold Func.isWrapper;rw[yq (of_decide_eq_false (by kernel_rfl))];exact ⟨rfl,rfl⟩)
  (fun os a H enc _=>II os a H enc)
#print axioms namesCheckSpec_holds
end Go.Proofs.Ytghepahgkcigpaa
